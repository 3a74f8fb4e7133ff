/- The functions of the layer, walked. -/
import Derived.Test.YtcncggaobhbomaaGreatDoorPartAD
import Derived.Test.YtcncggaobhbomaaGreatDoorPartAC
import Derived.Test.YtcncggaobhbomaaGreatDoorPartAB
open List renaming length_map→ad8,take_of_length_le→ahF,take→aoR,mem_of_getElem?→aoS,getElem?_set_ne→apA,getElem?_append_left→awL,mem_append→ay8,foldl_cons→azV,all_cons→aAO,all_nil→aA5,take_add_one→aD5,getElem?_set_self→aEG,take_length→aEM,take_append_of_le_length→aEX,getElem?_append_right→aG2,map_eq_nil_iff→aHA,mem_cons→aHN,mem_map→aHP,nodup_cons→aHR,getElem?_eq_some_iff→aI5,mem_append_left→aKE,getElem?_map→aKP,mem_of_mem_take→aL7,prefix_append→aNR,foldl_nil→aN3,any_eq_false→aN4
open Nat renaming le_refl→azO,add_sub_cancel_left→aL1
open Bool renaming and_true→aCG,and_false→aJ8,and_eq_true→aKF
open Int renaming lt_irrefl→aCH
set_option linter.unusedSimpArgs false
set_option linter.unusedVariables false
namespace Go.Proofs.YtcncggaobhbomaaGreatDoor
open Go.Ev Go Go.Ev.Net
set_option maxRecDepth 100000
set_option maxHeartbeats 16000000
theorem axO{d:Nat}{h:Aa}{v:AV}{p:AV × List Nat}{l:Aa}(hr:rd (d+1) (hf h) v=some p)(hd:d+1≤9:=by omega):rd (d+1) (hf (h++l)) v=some p:=by
 have:=anI (g':=hf (h++l)) (Fe hr abT) fun j hj z hz=>by
  show((h++l)[j]?).bind Bq=_
  rw[awL (aGG hd (Fe hr abT) j hj)];exact hz
 obtain⟨a,l',R1,R2,e,h1,h2,h3⟩:=Ii this
 cases e
 obtain⟨_,rfl⟩:=ah1 h2
 simp at h3
 rw[h1,←h3]
theorem aBJ:Af .nilm=[.nilm]:=Eq.trans rfl rfl
theorem aAW:AV.flat .nilm=false:=Eq.trans rfl rfl
theorem aBT:AV.isCell .nilm=true:=Eq.trans rfl rfl
theorem aGK:∀{l:List St} {i j:Nat} {x:St},l.Nodup→l[i]?=some x→l[j]?=some x→i=j
 | [],i,j,x,_,h,_=>by simp at h
 |a::l,0,0,x,_,_,_=>rfl
 |a::l,0,j+1,x,hn,h1,h2=>by
  simp at h1 h2;subst h1
  exact absurd (aoS h2) (aHR.1 hn).1
 |a::l,i+1,0,x,hn,h1,h2=>by
  simp at h1 h2;subst h2
  exact absurd (aoS h1) (aHR.1 hn).1
 |a::l,i+1,j+1,x,hn,h1,h2=>congrArg (· +1) (aGK (l:=l) (x:=x) (aHR.1 hn).2 (by simpa using h1) (by simpa using h2))
def knT:St→AV:=Oj fun _=>Di
theorem aWX{h:Aa}{b:Nat}{L:List St}{s:St}(hb:h[b]?=some (Dl (Eu L knT)))(hL:Twl L)(h12:s.1.length=12)(hs:s∉L):ms Tryz.prog h 86 (some (.mapr b)) (some (.agg (Bv s))) (some (.int .i64 1099511627776))=some (.ret (.tup []),[.put b (Dl (Eu (L++[s]) knT))]):=by
 rw[a8S hb hL h12 hs]
 have:(fun y=>if y=s then AV.int .i64 1099511627776 else knT y)=knT:=by
  funext y;split<;>rfl
 rw[this]
theorem a45{g:HF}{v:AV}{l:List Jr}{R:List Nat}(h:rd 6 g v=some (Bt 4 false false (l.map Jr.cells),R)):ln Tryz.prog 91 (some v)=some (.ret (.int .i64 (l.length:Int)),[]):=by
 rcases awP h with⟨rfl,h0⟩|⟨b,rows',rfl,_⟩
 ·obtain rfl:=aHA.1 h0
  simp only[Vc.down,seval,Je.down,List.length_nil,Int.natCast_zero]
 ·simp only[Vc.down,seval,Je.down,ad8]
structure CI(w:Ah)(N:Nat)(H:Aa)(s0:St)(U:St→Prop)(L:List St)(i b:Nat)(av:St→AV)(h:Aa):Prop where
 keep:Hy [] H h
 all:h[H.length+1]?=some (Dl (Eu (L.take i) av))
 lst:∃x,h[b]?=some (.live 25 true x (L.map Bv))
 kn:h[H.length+3]?=some (Dl (Eu L knT))
 bx:∃x,h[H.length+4]?=some (.live 1 false x [[.mapr (H.length+3)]])
 b2:H.length+2≤b
 b3:b≠H.length+3
 b4:b≠H.length+4
 ch:∀s∈L.take i,∃R,rd 6 (hf h) (av s)=some (Bt 4 false false ((Cm w N s).map Jr.cells),R)∧∀j∈R,H.length+5≤j∧j≠b
 nd:L.Nodup
 tw:Twl L
 un:∀s∈L,U s
 hd:L[0]?=some s0
def Cls(w:Ah)(N:Nat)(L:List St)(i:Nat):Prop:=∀s∈L.take i,∀o∈Cm w N s,∀x∈o.to,x∈L
theorem CI.app{w:Ah}{N:Nat}{H:Aa}{s0:St}{U:St→Prop}{L:List St}{i b:Nat}{av:St→AV}{h:Aa}(I:CI w N H s0 U L i b av h)(l:Aa):CI w N H s0 U L i b av (h++l):=by
 obtain⟨xl,hl⟩:=I.lst
 obtain⟨xb,hb⟩:=I.bx
 exact⟨a4P I.keep l,Aj I.all l,⟨xl,Aj hl l⟩,Aj I.kn l,⟨xb,Aj hb l⟩,I.b2,I.b3,I.b4,fun s hs=>by
  obtain⟨R,h1,h2⟩:=I.ch s hs
  exact⟨R,axO h1,h2⟩,I.nd,I.tw,I.un,I.hd⟩
theorem CI.call{w:Ah}{N:Nat}{H:Aa}{s0:St}{U:St→Prop}{L:List St}{i b:Nat}{av:St→AV}{h:Aa}(I:CI w N H s0 U L i b av h){s:St}(hs:L[i]?=some s){v:AV}{R:List Nat}{G M:Aa}{c:CB}
 (e5:(h++[c]).length≤M.length) (e6:∀b,b<(h++[c]).length→M[b]?=(h++[c])[b]?) (e7:∀b,(h++[c]).length≤b→M[b]?=G[b]?) (hv:rd 6 (hf G) v=some (Bt 4 false false ((Cm w N s).map Jr.cells),R)) (hR:∀j∈R,(h++[c]).length≤j):
 CI w N H s0 U L (i+1) b (fun y=>if y=s then v else av y) (M.set (H.length+1) (Dl (Eu (L.take i++[s]) fun y=>if y=s then v else av y))):=by
 obtain⟨xl,hl⟩:=I.lst
 obtain⟨xb,hb⟩:=I.bx
 have lA:=Eh I.all
 have ll:=Eh hl
 have lk:=Eh I.kn
 have lx:=Eh hb
 have b2:=I.b2
 have hlen:(h++[c]).length=h.length+1:=by simp
 have old:∀j,j<h.length→j≠H.length+1→(M.set (H.length+1) (Dl (Eu (L.take i++[s]) fun y=>if y=s then v else av y)))[j]?=h[j]?:=fun j hj hn=>by
  rw[apA (fun e=>hn e.symm),e6 j (by omega),awL hj]
 have htk:L.take (i+1)=L.take i++[s]:=by rw[aD5,hs];rfl
 refine⟨⟨by have:=I.keep.len;simp;omega,fun j hj hn=>by rw[old j (by omega) (by omega)];exact I.keep.same j hj hn⟩,by rw[htk];exact aEG (by omega),⟨xl,by rw[old b ll (by omega)];exact hl⟩,by rw[old _ lk (by omega)];exact I.kn,⟨xb,by rw[old _ lx (by omega)];exact hb⟩,I.b2,I.b3,I.b4,fun y hy=>?_,I.nd,I.tw,I.un,I.hd⟩
 by_cases e:y=s
 ·subst e
  refine⟨R,?_,fun j hj=>by have:=hR j hj;omega⟩
  rw[if_pos rfl]
  have:=anI (g':=hf (M.set (H.length+1) (Dl (Eu (L.take i++[y]) fun z=>if z=y then v else av z)))) (Fe hv abT) fun j hj z hz=>by
   have hj2:j∈R:=by simpa using hj
   have:=hR j hj2
   show((M.set _ _)[j]?).bind Bq=_
   rw[apA (by omega),e7 j this];exact hz
  obtain⟨a,l',R1,R2,e1,h1,h2,h3⟩:=Ii this
  cases e1
  obtain⟨_,rfl⟩:=ah1 h2
  simp at h3
  rw[h1,←h3]
 ·rw[htk]at hy
  have hy2:y∈L.take i:=by
   rcases ay8.1 hy with h|h
   ·exact h
   ·simp at h;exact absurd h e
  obtain⟨R0,h1,h2⟩:=I.ch y hy2
  refine⟨R0,?_,h2⟩
  rw[if_neg e]
  have:=anI (g':=hf (M.set (H.length+1) (Dl (Eu (L.take i++[s]) fun z=>if z=s then v else av z)))) (Fe h1 abT) fun j hj z hz=>by
   have hj2:j∈R0:=by simpa using hj
   have:=h2 j hj2
   show((M.set _ _)[j]?).bind Bq=_
   rw[old j (aGG (by omega) (Fe h1 abT) j hj) (by omega)];exact hz
  obtain⟨a,l',R1,R2,e1,h1',h2',h3⟩:=Ii this
  cases e1
  obtain⟨_,rfl⟩:=ah1 h2'
  simp at h3
  rw[h1',←h3]
theorem aLU{g:HF}{d st b r n:Nat}{x:AV}{R:List Nat}{rows:List (List AV)}(h:rd (d+1) g (.slr st b r n)=some (x,R))(hb:(g b).bind Bq=some (st,true,rows)):b∈R:=by
 simp only[rd,hb,Option.bind_some,cond_true]at h
 split at h
 ·cases h;simp
 ·cases h
theorem aRK{H:Aa}{v:AV}{l:List Jr}{R:List Nat}(h:rd 6 (hf H) v=some (Bt 4 false false (l.map Jr.cells),R)){j:Nat}{o:Jr}(hj:l[j]?=some o)(hne:o.to≠[]):
 ∃b bt,v=.slr 4 b 0 l.length∧Jo (H[b]?) j=some [.int .i64 o.k,.int .i64 (o.i:Int),.int .i64 o.c,.slr 25 bt 0 o.to.length]∧(hf H bt).bind Bq=some (25,true,o.to.map Bv)∧bt∈R:=by
 rcases awP h with⟨_,h0⟩|⟨b,rows',rfl,hb,_,_,hr⟩
 ·obtain rfl:=aHA.1 h0;simp at hj
 ·obtain⟨q,hq,rfl,hx⟩:=aF1 h hb
  have hX:(l.map Jr.cells)[j]?=some o.cells:=by rw[aKP,hj];rfl
  have hq1:q.1=l.map Jr.cells:=by
   have hl:l.map Jr.cells≠[]:=fun e=>by rw[e]at hX;simp at hX
   rw[agF hl]at hx
   injection hx with _ _ h3
   exact h3.symm
  obtain⟨r,R2,k1,k2⟩:=aG0 (i:=j) hq (by rw[hq1];exact hX)
  have hs:=aGM hq k1 k2
  obtain⟨a1,l1,_,_,rfl,m1,n1,rfl⟩:=Ii k2
  obtain⟨a2,l2,_,_,rfl,m2,n2,rfl⟩:=Ii n1
  obtain⟨a3,l3,_,_,rfl,m3,n3,rfl⟩:=Ii n2
  obtain⟨a4,l4,_,_,rfl,m4,n4,rfl⟩:=Ii n3
  obtain⟨rfl,rfl⟩:=ah1 n4
  obtain⟨rfl,rfl⟩:=aOQ m1
  obtain⟨rfl,rfl⟩:=aOQ m2
  obtain⟨rfl,rfl⟩:=aOQ m3
  rcases awP m4 with⟨rfl,h0⟩|⟨bt,rows2,rfl,hb2,_,hfl,_⟩
  ·exact absurd (aHA.1 h0) hne
  ·obtain rfl:=hfl rfl
   refine⟨b,bt,by rw[ad8],by rw[aRQ hb,k1,ad8],hb2,List.mem_cons_of_mem _ (hs bt ?_)⟩
   have:=(aLU m4 hb2)
   simpa using this
theorem aBD(w:Ah)(N:Nat)(s:St)(k:Int):(ai3 w N s k).length≤w.parts.length:=by
 have:=List.length_filterMap_le (ay7 w N s k) (List.range w.parts.length)
 unfold ai3;simpa using this
theorem aFV(w:Ah)(N:Nat)(s:St)(h:w.parts.length≤12):(Cm w N s).length≤48:=by
 have h1:=aBD w N s 1
 have h2:=aBD w N s 2
 have h3:=aBD w N s 3
 have h4:=aBD w N s 4
 simp only[Cm,List.length_append];omega
theorem aQU{α:Type}{l:List α}{i:Nat}{x:α}(h:l[i]?=some x):i<l.length:=(aI5.1 h).1
theorem CI.grow{w:Ah}{N:Nat}{H:Aa}{s0:St}{U:St→Prop}{L:List St}{i b:Nat}{av:St→AV}{h:Aa}(I:CI w N H s0 U L i b av h)(hi:i≤L.length){x:St}(hx:x∉L)(hx2:x.1.length=12)(hU:U x)(c:CB):
 CI w N H s0 U (L++[x]) i (h.length+1) av ((h.set (H.length+3) (Dl (Eu (L++[x]) knT))).set b .dead++[c,.live 25 true false (L.map Bv++[Bv x])]):=by
 obtain⟨xl,hl⟩:=I.lst
 obtain⟨xb,hb⟩:=I.bx
 have lA:=Eh I.all
 have ll:=Eh hl
 have lk:=Eh I.kn
 have lx:=Eh hb
 have b2:=I.b2
 have b3:=I.b3
 have b4:=I.b4
 have old:∀j,j<h.length→j≠H.length+3→j≠b→((h.set (H.length+3) (Dl (Eu (L++[x]) knT))).set b .dead++[c,.live 25 true false (L.map Bv++[Bv x])])[j]?=h[j]?:=fun j hj h1 h2=>by
  rw[awL (by simpa using hj),apA (fun e=>h2 e.symm),apA (fun e=>h1 e.symm)]
 have htk:(L++[x]).take i=L.take i:=aEX hi
 refine⟨⟨by have:=I.keep.len;simp;omega,fun j hj hn=>by rw[old j (by omega) (by omega) (by omega)];exact I.keep.same j hj hn⟩,by rw[htk,old _ lA (by omega) (by omega)];exact I.all,⟨false,?_⟩,?_,⟨xb,by rw[old _ lx (by omega) (by omega)];exact hb⟩,by omega,by omega,by omega,fun y hy=>?_,?_,?_,?_,?_⟩
 ·rw[aG2 (by simp),List.map_append];simp
 ·rw[awL (by simpa using lk),apA b3,aEG lk]
 ·rw[htk]at hy
  obtain⟨R0,h1,h2⟩:=I.ch y hy
  have hlt:=aGG (by omega) (Fe h1 abT)
  refine⟨R0,?_,fun j hj=>⟨(h2 j hj).1,by have:=hlt j (by simpa using hj);omega⟩⟩
  have:=anI (g':=hf ((h.set (H.length+3) (Dl (Eu (L++[x]) knT))).set b .dead++[c,.live 25 true false (L.map Bv++[Bv x])])) (Fe h1 abT) fun j hj z hz=>by
   have hj2:j∈R0:=by simpa using hj
   have h3:=h2 j hj2
   show((_++_:Aa)[j]?).bind Bq=_
   rw[old j (hlt j hj) (by omega) h3.2];exact hz
  obtain⟨a,l',R1,R2,e1,h1',h2',h3⟩:=Ii this
  cases e1
  obtain⟨_,rfl⟩:=ah1 h2'
  simp at h3
  rw[h1',←h3]
 ·refine List.nodup_append.2 ⟨I.nd,by simp,fun a ha b hb=>?_⟩
  simp at hb;subst hb;exact fun e=>hx (e▸ha)
 ·intro y hy
  rcases ay8.1 hy with h|h
  ·exact I.tw y h
  ·simp at h;rw[h];exact hx2
 ·intro y hy
  rcases ay8.1 hy with h|h
  ·exact I.un y h
  ·simp at h;rw[h];exact hU
 ·have h0:=I.hd
  rw[awL (aQU h0)];exact h0
structure CK(w:Ah)(N:Nat)(H:Aa)(s0:St)(U:St→Prop)(L:List St)(b:Nat)(av:St→AV)(f:St→Nat)(h:Aa):Prop where
 keep:Hy [] H h
 all:h[H.length+1]?=some (Dl (Eu L av))
 lst:∃x,h[b]?=some (.live 25 true x (L.map Bv))
 kn:h[H.length+3]?=some (Dl (Eu L (Oj f)))
 bx:∃x,h[H.length+4]?=some (.live 1 false x [[.mapr (H.length+3)]])
 b2:H.length+2≤b
 b3:b≠H.length+3
 b4:b≠H.length+4
 ch:∀s∈L,∃R,rd 6 (hf h) (av s)=some (Bt 4 false false ((Cm w N s).map Jr.cells),R)∧∀j∈R,H.length+5≤j∧j≠b
 nd:L.Nodup
 tw:Twl L
 un:∀s∈L,U s
 hd:L[0]?=some s0
theorem CI.toK{w:Ah}{N:Nat}{H:Aa}{s0:St}{U:St→Prop}{L:List St}{b:Nat}{av:St→AV}{h:Aa}(I:CI w N H s0 U L L.length b av h):CK w N H s0 U L b av (fun _=>Di) h:=
 ⟨I.keep,by have:=I.all;rwa[aEM]at this,I.lst,I.kn,I.bx,I.b2,I.b3,I.b4,fun s hs=>I.ch s (by rwa[aEM]),I.nd,I.tw,I.un,I.hd⟩
theorem CK.app{w:Ah}{N:Nat}{H:Aa}{s0:St}{U:St→Prop}{L:List St}{b:Nat}{av:St→AV}{f:St→Nat}{h:Aa}(I:CK w N H s0 U L b av f h)(l:Aa):CK w N H s0 U L b av f (h++l):=by
 obtain⟨xl,hl⟩:=I.lst
 obtain⟨xb,hb⟩:=I.bx
 exact⟨a4P I.keep l,Aj I.all l,⟨xl,Aj hl l⟩,Aj I.kn l,⟨xb,Aj hb l⟩,I.b2,I.b3,I.b4,fun s hs=>by
  obtain⟨R,h1,h2⟩:=I.ch s hs
  exact⟨R,axO h1,h2⟩,I.nd,I.tw,I.un,I.hd⟩
theorem CK.put{w:Ah}{N:Nat}{H:Aa}{s0:St}{U:St→Prop}{L:List St}{b:Nat}{av:St→AV}{f:St→Nat}{h:Aa}(I:CK w N H s0 U L b av f h)(g:St→Nat):CK w N H s0 U L b av g (h.set (H.length+3) (Dl (Eu L (Oj g)))):=by
 obtain⟨xl,hl⟩:=I.lst
 obtain⟨xb,hb⟩:=I.bx
 have lk:=Eh I.kn
 have b3:=I.b3
 have old:∀j,j≠H.length+3→(h.set (H.length+3) (Dl (Eu L (Oj g))))[j]?=h[j]?:=fun j h1=>apA (fun e=>h1 e.symm)
 refine⟨⟨by have:=I.keep.len;simp;omega,fun j hj hn=>by rw[old j (by omega)];exact I.keep.same j hj hn⟩,by rw[old _ (by omega)];exact I.all,⟨xl,by rw[old b b3];exact hl⟩,aEG lk,⟨xb,by rw[old _ (by omega)];exact hb⟩,I.b2,I.b3,I.b4,fun y hy=>?_,I.nd,I.tw,I.un,I.hd⟩
 obtain⟨R0,h1,h2⟩:=I.ch y hy
 refine⟨R0,?_,h2⟩
 have:=anI (g':=hf (h.set (H.length+3) (Dl (Eu L (Oj g))))) (Fe h1 abT) fun j hj z hz=>by
  have hj2:j∈R0:=by simpa using hj
  have h3:=h2 j hj2
  show((h.set _ _)[j]?).bind Bq=_
  rw[old j (by omega)];exact hz
 obtain⟨a,l',R1,R2,e1,h1',h2',h3⟩:=Ii this
 cases e1
 obtain⟨_,rfl⟩:=ah1 h2'
 simp at h3
 rw[h1',←h3]
def mtS(l:List Ep)(f:St→Nat)(x:St):St→Nat:=if aEA x.1 l then fun y=>if y=x then 0 else f y else f
theorem a68{s:St}(h:s.1.length=12):aoR 24 (Bv s)=Cj s.1:=by
 have:(Cj s.1).length=24:=by rw[Be];omega
 unfold Bv;rw[aEX (by omega),ahF (by omega)]
theorem aI7(f:St→Nat)(x:St)(n:Nat):(fun y=>if y=x then AV.int .i64 (n:Int)else Oj f y)=Oj fun y=>if y=x then n else f y:=by
 funext y;unfold Oj;by_cases e:y=x<;>simp[e]
def rdS(w:Ah)(N:Nat)(p:(St→Nat) × Bool)(x:St):(St→Nat) × Bool:=if Of p.1 (p.1 x) (Cm w N x)<p.1 x then(fun y=>if y=x then Of p.1 (p.1 x) (Cm w N x)else p.1 y,true)else p
theorem aIV(f:St→Nat):∀(l:List Jr) (n:Nat),Of f n l≤n∧(∀o∈l,Of f n l≤wst f o)∧(Of f n l=n∨∃o∈l,Of f n l=wst f o)
 | [],n=>⟨azO _,by simp,.inl rfl⟩
 |o::l,n=>by
  obtain⟨h1,h2,h3⟩:=aIV f l (min n (wst f o))
  have e:Of f n (o::l)=Of f (min n (wst f o)) l:=rfl
  rw[e]
  refine⟨by omega,fun x hx=>?_,?_⟩
  ·rcases aHN.1 hx with rfl|hx
   ·omega
   ·exact h2 x hx
  ·rcases h3 with h|⟨x,hx,h⟩
   ·by_cases c:n≤wst f o
    ·exact .inl (by omega)
    ·exact .inr ⟨o,by simp,by omega⟩
   ·exact .inr ⟨x,by simp[hx],h⟩
theorem aP7{f:St→Nat}{x:St}{n:Nat}:∀{L:List St},(∀y∈L,y∈L)→n≤f x→(L.map fun y=>if y=x then n else f y).sum≤(L.map f).sum
 | [],_,_=>azO _
 |y::L,_,h=>by
  have:=aP7 (L:=L) (fun _ h=>h) h
  simp only[List.map_cons,List.sum_cons]
  split
  ·rename_i e;subst e;omega
  ·omega
theorem aCE{f:St→Nat}{x:St}{n:Nat}(h:n<f x):∀{L:List St},x∈L→(L.map fun y=>if y=x then n else f y).sum<(L.map f).sum
 |y::L,hm=>by
  have h0:=aP7 (f:=f) (L:=L) (fun _ h=>h) (Nat.le_of_lt h)
  simp only[List.map_cons,List.sum_cons]
  by_cases e:y=x
  ·subst e;rw[if_pos rfl];omega
  ·rw[if_neg e]
   rcases aHN.1 hm with e'|hm
   ·exact absurd e'.symm e
   ·have:=aCE h hm;omega
theorem aBC{w:Ah}{N:Nat}{l:List Ep}{L:List St}:∀(r:List St),(∀x∈r,x∈L)→∀p:(St→Nat) × Bool,(Ly w N l).Known Di L p.1→
 (Ly w N l).Known Di L (r.foldl (rdS w N) p).1∧((L.map (r.foldl (rdS w N) p).1).sum≤(L.map p.1).sum)∧((r.foldl (rdS w N) p).2=true→p.2=true∨(L.map (r.foldl (rdS w N) p).1).sum<(L.map p.1).sum)∧
 ((r.foldl (rdS w N) p).2=false→r.foldl (rdS w N) p=p∧∀x∈r,∀o∈Cm w N x,p.1 x≤wst p.1 o)
 | [],_,p,K=>⟨K,azO _,.inl,fun _=>⟨rfl,by simp⟩⟩
 |x::r,hr,p,K=>by
  obtain⟨q1,q2,q3⟩:=aIV p.1 (Cm w N x) (p.1 x)
  simp only[azV]
  by_cases c:Of p.1 (p.1 x) (Cm w N x)<p.1 x
  ·have e:rdS w N p x=(fun y=>if y=x then Of p.1 (p.1 x) (Cm w N x)else p.1 y,true):=by simp only[rdS,if_pos c]
   rw[e]
   rcases q3 with q3|⟨o,ho,q3⟩
   ·omega
   have hs:=aCE c (hr x (by simp))
   have K2:(Ly w N l).Known Di L (fun y=>if y=x then Of p.1 (p.1 x) (Cm w N x)else p.1 y):=K.less (s:=x) (o:=(o.c.toNat,o.to)) (List.mem_map_of_mem ho) (hr x (by simp)) q3 c
   generalize(fun y=>if y=x then Of p.1 (p.1 x) (Cm w N x)else p.1 y)=g at hs K2 ⊢
   obtain⟨a1,a2,a3,a4⟩:=aBC r (fun y h=>hr y (by simp[h])) (g,true) K2
   refine⟨a1,by simp only at a2;omega,fun _=>.inr (by simp only at a2;omega),fun h=>?_⟩
   have:=(a4 h).1
   rw[this]at h
   cases h
  ·have e:rdS w N p x=p:=by simp only[rdS,if_neg c]
   rw[e]
   obtain⟨a1,a2,a3,a4⟩:=aBC r (fun y h=>hr y (by simp[h])) p K
   refine⟨a1,a2,a3,fun h=>⟨(a4 h).1,fun y hy o ho=>?_⟩⟩
   rcases aHN.1 hy with rfl|hy
   ·have:=q2 o ho;omega
   ·exact(a4 h).2 y hy o ho
theorem aBX(l:List Ep)(y:St):∀(L:List St) (f:St→Nat),L.foldl (mtS l) f y=if y∈L∧aEA y.1 l=true then 0 else f y
 | [],f=>by simp
 |x::L,f=>by
  rw[azV,aBX l y L]
  by_cases c:aEA x.1 l=true
  ·by_cases e:y=x
   ·subst e;simp[mtS,c]
   ·simp[mtS,c,e]
  ·by_cases e:y=x
   ·subst e;simp[mtS,c]
   ·simp[mtS,c,e]
theorem a7J{w:Ah}{N:Nat}{l:List Ep}{L:List St}(ho:∀s∈L,∀o∈Cm w N s,1≤o.c∧o.c≤1000∧o.to≠[]∧∀x∈o.to,x∈L):(Ly w N l).Known Di L (L.foldl (mtS l) fun _=>Di):=by
 refine⟨fun s hs o h=>?_,fun s hs=>?_,fun s hs hg=>?_,fun s hs hlt=>?_,fun s hs hlt=>?_⟩
 ·obtain⟨c,hc,rfl⟩:=aHP.1 h
  obtain⟨a1,a2,a3,a4⟩:=ho s hs c hc
  exact⟨by show 1≤c.c.toNat;omega,by show c.c.toNat≤1000;omega,a3,a4⟩
 ·rw[aBX];split<;>simp
 ·rw[aBX];exact if_pos ⟨hs,hg⟩
 ·rw[aBX]at hlt ⊢
  split at hlt
  ·rename_i h;rw[if_pos h];exact .met h.2
  ·simp at hlt
 ·rw[aBX]at hlt
  split at hlt
  ·rename_i h;exact .inl h.2
  ·simp at hlt
theorem a30{w:Ah}{N:Nat}(hw:WOk w N)(h12:w.parts.length≤12)(d:Int){H:Aa}{lb:Nat}{wf:Bool}(hlb:H[lb]?=some (aFY w d wf)){s0:St}(hs:s0.1.length=12)(hf3:s0.2≤3)(l:List Ep)(nn:Bool)(hl:l.length≤maxLen)(hlp:∀x∈l,0≤x.part∧x.part<12)
 {U:St→Prop} {B:Nat} (hB39:B≤400000000000) (hU:∀L:List St,L.Nodup→(∀s∈L,U s)→L.length≤B) (hU0:U s0) (hUs:∀s,U s→s.1.length=12∧s.2≤3) (hUc:∀s,U s→∀o∈Cm w N s,1≤o.c∧o.c≤1000∧o.to≠[]∧o.to.length≤2∧∀x∈o.to,U x):
 ShQ Ef 41 [.ptr lb 0 0,.agg (Bv s0),Bt 3 true nn (l.map Ep.cells)] H fun o G=>∃(L:List St) (f:St→Nat) (av:St→AV) (b:Nat),o=.ret (.tup [.mapr (H.length+3),.mapr (H.length+1)])∧CK w N H s0 U L b av f G∧(Ly w N l).Known Di L f∧∀x∈L,∀o∈Cm w N x,f x≤wst f o:=by
 have hlen:=hw.len
 have hsl:=Il hs
 have hsf:=Gi s0
 have hsc:=Gu s0
 have htk:aoR 25 (Bv s0)=Bv s0:=ahF (by omega)
 refine aPP rfl Tryz.func41 rfl rfl ?_
 simp only[Tryz.f41]
 obtain⟨qC,hqC⟩:∃q,Fn.func 65=q:=⟨_,rfl⟩
 have hins:=aWX (h:=H++[CB.live 25 true false [Bv s0],CB.lp [] Code.skip Code.skip [] Ik.map,CB.live 25 true false [Bv s0],CB.lp [] Code.skip Code.skip [] Ik.map]) (b:=H.length+3) (L:=[]) (s:=s0) (by rw[aG2 (by omega),aL1];rfl) (by intro s hs;cases hs) hs (by simp)
 (have hb:=trivial;with_reducible repeat' (first|simp only[hb,Vc.down,seval,Je.down,hsl,hsf,hsc,htk,hins,Na.down,aBJ,aAW,aBT,aAO,aA5,aCG,aJ8,ad8]|refine Au ?_ ?_<;>intro hb|refine fd ?_|fail))
 refine Ie (cnt 117 (fun n (_:Unit) t h=>t 0=.ptr lb 0 0∧t 2=Bt 3 true nn (l.map Ep.cells)∧t 8=.mapr (H.length+1)∧t 10=.ptr (H.length+4) 0 0∧∃(L:List St) (i b:Nat) (av:St→AV),t 9=.slr 25 b 0 L.length∧t 11=.int .i64 (i:Int)∧i+n=B∧i≤L.length∧CI w N H s0 U L i b av h∧Cls w N L i) (fun _ _=>())
  (fun _ e t h=>e=.exit 0∧t 0=.ptr lb 0 0∧t 2=Bt 3 true nn (l.map Ep.cells)∧t 8=.mapr (H.length+1)∧t 10=.ptr (H.length+4) 0 0∧∃(L:List St) (b:Nat) (av:St→AV),t 9=.slr 25 b 0 L.length∧CI w N H s0 U L L.length b av h∧Cls w N L L.length) ?_ ?_ B () _ _ ?_) (fun e t h hk=>?_)
 ·rintro _ t h Q' kQ ⟨g0,g2,g8,g10,L,i,b,av,g9,g11,hi,hiL,I,hcl⟩
  have hLB:=hU L I.nd I.un
  obtain rfl:i=L.length:=by omega
  (have hb:=trivial;with_reducible repeat' (first|simp only[hb,Vc.down,seval,Je.down,g9,g11,aCH,decide_false]|refine Au ?_ ?_<;>intro hb|refine fd ?_|fail))
  exact kQ _ _ _ ⟨rfl,by simp[up,g0],by simp[up,g2],by simp[up,g8],by simp[up,g10],L,b,av,by simp[up,g9],I,hcl⟩
 ·rintro n _ t h J Q' kJ kQ ⟨g0,g2,g8,g10,L,i,b,av,g9,g11,hi,hiL,I,hcl⟩
  have hLB:=hU L I.nd I.un
  by_cases hlt:i<L.length
  ·obtain⟨s,hs'⟩:∃s,L[i]?=some s:=⟨_,List.getElem?_eq_getElem hlt⟩
   have hsm:=aoS hs'
   obtain⟨hs12,hsf3⟩:=hUs s (I.un s hsm)
   obtain⟨xl,hlst⟩:=I.lst
   have hdd:decide ((i:Int)<(L.length:Int))=true:=decide_eq_true (by omega)
   have hip:((i:Int)<(L.length:Int))=True:=eq_true (by omega)
   have z1:=Il hs12
   have z2:=Gi s
   have z3:=Gu s
   have z4:aoR 25 (Bv s)=Bv s:=ahF (by omega)
   (have hb:=trivial;with_reducible repeat' (first|simp only[hb,Vc.down,seval,Je.down,g0,g8,g9,g11,hdd,hip,hlst,hs',z1,z2,z3,z4,hqC,Na.down,ad8]|refine Au ?_ ?_<;>intro hb|refine fd ?_|fail))
   generalize hE:cl Ef (h++[CB.live 25 true true [Bv s]]) (some (.func qC [] [])) (some [.ptr lb 0 0,.agg (Bv s)])=E
   rw[←hqC]at hE
   have hlb2:(Gy (h++[CB.live 25 true true [Bv s]]))[lb]?=some (aFY w d false):=by
    have h1:(h++[CB.live 25 true true [Bv s]])[lb]?=some (aFY w d wf):=Aj ((I.keep.same lb (Eh hlb) (by simp)).trans hlb) _
    rw[Em h1];rfl
   obtain⟨o,G,es,M,e1,e2,⟨v,R,rfl,hv,hR⟩,e4,e5,e6,e7,e8⟩:=aX1 (O:=Ef) (f:=65) (H:=h++[CB.live 25 true true [Bv s]]) (args:=[.ptr lb 0 0,.agg (Bv s)]) rfl rfl (aTU hw h12 d hlb2 hs12 hsf3)
   have e9:=hE.symm.trans e1
   subst e9
   rw[Bz]at hR
   have hft:ftC Ef (h++[CB.live 25 true true [Bv s]]) (some (.func qC [] [])) (some [.ptr lb 0 0,.agg (Bv s)])=some [.all]:=by
    rw[←hqC,aOW];rfl
   obtain⟨p1,p2⟩:=a0E hv
   have hMall:M[H.length+1]?=some (Dl (Eu (L.take i) av)):=(e6 _ (by have:=Eh I.all;simp;omega)).trans (Aj I.all _)
   have hnt:s∉L.take i:=fun hm=>by
    obtain⟨j,hj⟩:=List.getElem?_of_mem hm
    have hji:j<i:=by
     have:=(aI5.1 hj).1
     simp at this;omega
    rw[List.getElem?_take_of_lt hji]at hj
    have:=aGK I.nd hj hs'
    omega
   have hms:=a82 hMall (fun x hx=>I.tw x (aL7 hx)) hs12 hnt v
   have hMbx:M[h.length]?=some (.live 25 true true [Bv s]):=(e6 _ (by simp)).trans (by rw[aG2 (azO _),Nat.sub_self];rfl)
   obtain⟨av2,hav2⟩:∃av2:St→AV,(fun y=>if y=s then v else av y)=av2:=⟨_,rfl⟩
   rw[hav2]at hms
   have hav2s:av2 s=v:=by rw[←hav2];simp
   have hAM:=Eh hMall
   have hAh:H.length+1≠h.length:=by have:=Eh I.all;omega
   have hM2:(M.set (H.length+1) (Dl (Eu (L.take i++[s]) av2)))[H.length+1]?=some (Dl (Eu (L.take i++[s]) av2)):=aEG hAM
   have hMb2:(M.set (H.length+1) (Dl (Eu (L.take i++[s]) av2)))[h.length]?=some (.live 25 true true [Bv s]):=by rw[apA hAh];exact hMbx
   have hlk:=aO5 hM2 (fun x hx=>by
    rcases ay8.1 hx with hx|hx
    ·exact I.tw x (aL7 hx)
    ·simp at hx;rw[hx];exact hs12) (s:=s) (by simp)
   rw[hav2s]at hlk
   have hln:=a45 hv
   have hic:v.isCell=true:=p1
   (have hb:=trivial;with_reducible repeat' (first|simp only[hb,Vc.down,seval,Je.down,g8,e2,hft,hms,hM2,hMb2,hlk,hln,hic,p2,z1,z2,z3,z4,Na.down,aCG,aJ8,aAO,aA5]|refine Au ?_ ?_<;>intro hb|refine fdq ?_|fail))
   refine aJV (fun b=>if b=h.length then 0 else 1) [([],[]),([],[.cells 0 0 25]),([],[]),([],[.cells 0 0 25]),([.blk 1],[.all]),([.blk 1],[.blk 1])] (by kernel_rfl) ?_ (fun _=>?_)
   ·have hes:∀e∈es,Py (fun b=>if b=h.length then 0 else 1) e.foot=.blk 1:=fun e he=>by
     obtain⟨b',k1,k2⟩:=e8 e he
     have hne:b'≠h.length:=by
      rcases k2 with k2|⟨c,k3,k4⟩
      ·simp at k2;omega
      ·intro e';subst e'
       rw[aG2 (azO _),Nat.sub_self]at k3
       simp at k3;subst k3;cases k4
     rw[k1];simp[Py,hne]
    simp only[awV,aBO]
    refine⟨by simp,by simp,by simp,by simp[Py],by simp,by simp,by simp,by simp[Py],fun e he=>.inr (by rw[hes e he];simp),by simp,by simp[Ad.foot,Py,hAh],by simp[Py,hAh],trivial⟩
   have I1:=I.call hs' e5 e6 e7 hv hR
   rw[hav2]at I1
   have hCl:(Cm w N s).length≤48:=aFV w N s h12
   have hUo:=hUc s (I.un s hsm)
   refine Ie (lst 117 (Cm w N s) (fun j (_:Unit) t h=>t 0=.ptr lb 0 0∧t 2=Bt 3 true nn (l.map Ep.cells)∧t 8=.mapr (H.length+1)∧t 10=.ptr (H.length+4) 0 0∧t 11=.int .i64 (i:Int)∧t 48=v∧t 49=.int .i64 ((Cm w N s).length:Int)∧t 50=.int .i64 (j:Int)∧∃(L':List St) (b':Nat),t 9=.slr 25 b' 0 L'.length∧L <+:L'∧CI w N H s0 U L' (i+1) b' av2 h∧∀o∈(Cm w N s).take j,∀x∈o.to,x∈L') (fun _ _=>())
    (fun _ e t h=>e=.exit 2∧t 0=.ptr lb 0 0∧t 2=Bt 3 true nn (l.map Ep.cells)∧t 8=.mapr (H.length+1)∧t 10=.ptr (H.length+4) 0 0∧t 11=.int .i64 (i:Int)∧∃(L':List St) (b':Nat),t 9=.slr 25 b' 0 L'.length∧L <+:L'∧CI w N H s0 U L' (i+1) b' av2 h∧∀o∈Cm w N s,∀x∈o.to,x∈L') ?_ ?_ () _ _ ?_) (fun e t h hk=>?_)
   ·rintro _ t h Q'' kQ ⟨g0,g2,g8,g10,g11,g48,g49,g50,L',b',g9,hp,I',ho⟩
    rw[aEM]at ho
    (have hb:=trivial;with_reducible repeat' (first|simp only[hb,Vc.down,seval,Je.down,g49,g50,aCH,decide_false]|refine Au ?_ ?_<;>intro hb|refine fd ?_|fail))
    exact kQ _ _ _ ⟨rfl,by simp[up,g0],by simp[up,g2],by simp[up,g8],by simp[up,g10],by simp[up,g11],L',b',by simp[up,g9],hp,I',ho⟩
   ·rintro o rest j _ t h J' Q'' kJ' kQ' hx hj ⟨g0,g2,g8,g10,g11,g48,g49,g50,L',b',g9,hp,I',ho⟩
    have hdj:decide ((j:Int)<((Cm w N s).length:Int))=true:=decide_eq_true (by omega)
    have hij:((j:Int)<((Cm w N s).length:Int))=True:=eq_true (by omega)
    have hwj:=Dj hj (by unfold maxLen;omega)
    obtain⟨u0,u1,u2,u3,u4⟩:=hUo o (aoS hx)
    obtain⟨X,rfl⟩:=hp
    have hst:s∈(L++X).take (i+1):=by
     rw[aEX (by omega),aD5,hs'];simp
    obtain⟨R',hv',hR'⟩:=I'.ch s hst
    rw[hav2s]at hv'
    obtain⟨bv,bt,hvv,y1,y2,y3⟩:=aRK hv' hx u2
    rw[hvv]at g48
    have hbt:=hR' bt y3
    (have hb:=trivial;with_reducible repeat' (first|simp only[hb,Vc.down,seval,Je.down,g48,g49,g50,hdj,hij,y1,aCG,aJ8,aAO,aA5,ad8]|refine Au ?_ ?_<;>intro hb|refine fd ?_|fail))
    refine Ie (lst 117 o.to (fun m (_:Unit) t h=>t 0=.ptr lb 0 0∧t 2=Bt 3 true nn (l.map Ep.cells)∧t 8=.mapr (H.length+1)∧t 10=.ptr (H.length+4) 0 0∧t 11=.int .i64 (i:Int)∧t 48=v∧t 49=.int .i64 ((Cm w N s).length:Int)∧t 50=.int .i64 (j:Int)∧t 55=.slr 25 bt 0 o.to.length∧t 56=.int .i64 (o.to.length:Int)∧t 57=.int .i64 (m:Int)∧(hf h bt).bind Bq=some (25,true,o.to.map Bv)∧∃(L':List St) (b':Nat),t 9=.slr 25 b' 0 L'.length∧bt≠b'∧L <+:L'∧CI w N H s0 U L' (i+1) b' av2 h∧(∀o∈(Cm w N s).take j,∀x∈o.to,x∈L')∧∀x∈o.to.take m,x∈L') (fun _ _=>())
     (fun _ e t h=>e=.exit 4∧t 0=.ptr lb 0 0∧t 2=Bt 3 true nn (l.map Ep.cells)∧t 8=.mapr (H.length+1)∧t 10=.ptr (H.length+4) 0 0∧t 11=.int .i64 (i:Int)∧t 48=v∧t 49=.int .i64 ((Cm w N s).length:Int)∧t 50=.int .i64 (j:Int)∧∃(L':List St) (b':Nat),t 9=.slr 25 b' 0 L'.length∧L <+:L'∧CI w N H s0 U L' (i+1) b' av2 h∧(∀o∈(Cm w N s).take j,∀x∈o.to,x∈L')∧∀x∈o.to,x∈L') ?_ ?_ () _ _ ?_) (fun e t h hk=>?_)
    ·rintro _ t h Q3 kQ3 ⟨g0,g2,g8,g10,g11,g48,g49,g50,g55,g56,g57,z5,L',b',g9,hnb,hp,I',ho,hm⟩
     rw[aEM]at hm
     (have hb:=trivial;with_reducible repeat' (first|simp only[hb,Vc.down,seval,Je.down,g56,g57,aCH,decide_false]|refine Au ?_ ?_<;>intro hb|refine fd ?_|fail))
     exact kQ3 _ _ _ ⟨rfl,by simp[up,g0],by simp[up,g2],by simp[up,g8],by simp[up,g10],by simp[up,g11],by simp[up,g48],by simp[up,g49],by simp[up,g50],L',b',by simp[up,g9],hp,I',ho,hm⟩
    ·rintro x rest m _ t h J3 Q3 kJ3 kQ3 hx3 hm3 ⟨g0,g2,g8,g10,g11,g48,g49,g50,g55,g56,g57,z5,L',b',g9,hnb,hp,I',ho,hm⟩
     have hdm:decide ((m:Int)<(o.to.length:Int))=true:=decide_eq_true (by omega)
     have him:((m:Int)<(o.to.length:Int))=True:=eq_true (by omega)
     have hwm:=Dj hm3 (by unfold maxLen;omega)
     have hxU:=u4 x (aoS hx3)
     obtain⟨hx12,_⟩:=hUs x hxU
     have w1:=Il hx12
     have w2:=Gi x
     have w3:=Gu x
     have w4:aoR 25 (Bv x)=Bv x:=ahF (by omega)
     have yx:Jo (h[bt]?) m=some (Bv x):=by rw[aRQ z5,aKP,hx3];rfl
     obtain⟨xb,hbx⟩:=I'.bx
     obtain⟨xl',hlst'⟩:=I'.lst
     have hbx2:=Aj hbx
     have hkn2:=Aj I'.kn
     by_cases hin:x∈L'
     ·have hlk2:=fun q=>a9C (v:=knT) (hkn2 q) I'.tw hin
      (have hb:=trivial;with_reducible repeat' (first|simp only[hb,Vc.down,seval,Je.down,g10,g55,g56,g57,hdm,him,hwm,yx,w1,w2,w3,w4,hbx2,hkn2,hlk2,Na.down,ad8]|refine Au ?_ ?_<;>intro hb|refine fd ?_|fail))
      exact Bn (kJ3 _ _ () ⟨by simp[up,g0],by simp[up,g2],by simp[up,g8],by simp[up,g10],by simp[up,g11],by simp[up,g48],by simp[up,g49],by simp[up,g50],by simp[up,g55],by simp[up,g56],by simp[up],by
       show((_++_:Aa)[bt]?).bind Bq=_
       rw[awL (awX z5)];exact z5,L',b',by simp[up,g9],hnb,hp,I'.app _,ho,fun y hy=>by
       rw[aD5,hx3]at hy
       rcases ay8.1 hy with h|h
       ·exact hm y h
       ·simp at h;rw[h];exact hin⟩ rfl)
     ·have hlk2:=fun q=>bbB (hkn2 q) I'.tw hx12 hin
      have hms2:=fun q=>aWX (hkn2 q) I'.tw hx12 hin
      have hLB':=hU L' I'.nd I'.un
      have hkl:=Eh I'.kn
      have hbl:=Eh hlst'
      have hSk:=Kr hkl
      have b3':=I'.b3
      have b4':=I'.b4
      have hbx3:∀q,(h.set (H.length+3) (Dl (Eu (L'++[x]) knT))++q)[H.length+4]?=some (.live 1 false xb [[.mapr (H.length+3)]]):=fun q=>aQ1 _ (by omega) hbx q
      have hlst3:∀q,(h.set (H.length+3) (Dl (Eu (L'++[x]) knT))++q)[b']?=some (.live 25 true xl' (L'.map Bv)):=fun q=>aQ1 _ (fun e=>b3' e.symm) hlst' q
      have hSb:∀q c,(h.set (H.length+3) (Dl (Eu (L'++[x]) knT))++q).set b' c=(h.set (H.length+3) (Dl (Eu (L'++[x]) knT))).set b' c++q:=fun q c=>List.set_append_left _ _ (by simpa using hbl)
      have hi39:(L'.length+1≤549755813888)=True:=eq_true (by omega)
      (have hb:=trivial;with_reducible repeat' (first|simp only[hb,Vc.down,seval,Je.down,g9,g10,g55,g56,g57,hdm,him,hwm,yx,w1,w2,w3,w4,hbx2,hkn2,hlk2,hms2,hSk,hbx3,hlst3,hSb,hi39,ac4,abL,List.length_set,Na.down,ad8]|refine Au ?_ ?_<;>intro hb|refine fd ?_|fail))
      have hIL:i+1≤L'.length:=by have:=hp.length_le;omega
      have hg:=(I'.app [.live 25 true true [Bv x]]).grow hIL hin hx12 hxU (.live 25 true false [Bv x])
      have he:((h++[CB.live 25 true true [Bv x]]).set (H.length+3) (Dl (Eu (L'++[x]) knT))).set b' .dead++[CB.live 25 true false [Bv x],CB.live 25 true false (L'.map Bv++[Bv x])]=(h.set (H.length+3) (Dl (Eu (L'++[x]) knT))).set b' .dead++[CB.live 25 true true [Bv x],CB.live 25 true false [Bv x],CB.live 25 true false (L'.map Bv++[Bv x])]:=by
       rw[hSk,hSb,List.append_assoc];rfl
      rw[he]at hg
      have hbl2:=awX z5
      refine Bn (kJ3 _ _ () ⟨by simp[up,g0],by simp[up,g2],by simp[up,g8],by simp[up,g10],by simp[up,g11],by simp[up,g48],by simp[up,g49],by simp[up,g50],by simp[up,g55],by simp[up,g56],by simp[up],?_,L'++[x],(h++[CB.live 25 true true [Bv x]]).length+1,by simp[up],by simp;omega,hp.trans (aNR _ _),hg,fun o' ho' x' hx'=>aKE _ (ho o' ho' x' hx'),fun y hy=>?_⟩ rfl)
      ·show((_++_:Aa)[bt]?).bind Bq=_
       rw[awL (by simpa using hbl2),apA (fun e=>hnb e.symm),apA (by have:=hbt.1;omega)]
       exact z5
      ·rw[aD5,hx3]at hy
       rcases ay8.1 hy with h|h
       ·exact aKE _ (hm y h)
       ·simp at h;rw[h];simp
    ·exact⟨by simp[up,g0],by simp[up,g2],by simp[up,g8],by simp[up,g10],by simp[up,g11],by simp[up,g48,hvv],by simp[up,g49],by simp[up,g50],by simp[up],by simp[up],by simp[up],by
      show((_++_:Aa)[bt]?).bind Bq=_
      rw[awL (awX y2)];exact y2,L++X,b',by simp[up,g9],hbt.2,aNR _ _,I'.app _,ho,by simp⟩
    obtain⟨rfl,g0,g2,g8,g10,g11,g48,g49,g50,L',b',g9,hp,I',ho,hm⟩:=hk
    (have hb:=trivial;with_reducible repeat' (first|simp only[hb,Vc.down,seval,Je.down,g50,hwj]|refine Au ?_ ?_<;>intro hb|refine fd ?_|fail))
    exact Bn (kJ' _ _ () ⟨by simp[up,g0],by simp[up,g2],by simp[up,g8],by simp[up,g10],by simp[up,g11],by simp[up,g48],by simp[up,g49],by simp[up],L',b',by simp[up,g9],hp,I',fun o' ho'=>by
     rw[aD5,hx]at ho'
     rcases ay8.1 ho' with h|h
     ·exact ho o' h
     ·simp at h;subst h;exact hm⟩ rfl)
   ·exact⟨by simp[up,g0],by simp[up,g2],by simp[up,g8],by simp[up,g10],by simp[up,g11],by simp[up],by simp[up],by simp[up],L,b,by simp[up,g9],List.prefix_refl _,I1,by simp⟩
   obtain⟨rfl,g0,g2,g8,g10,g11,L',b',g9,⟨X,rfl⟩,I',ho⟩:=hk
   have hwi:IntKind.i64.wrap ((i:Int)+1)=((i+1:Nat):Int):=by rw[Ez (by omega) (by omega)];omega
   (have hb:=trivial;with_reducible repeat' (first|simp only[hb,Vc.down,seval,Je.down,g11,hwi]|refine Au ?_ ?_<;>intro hb|refine fd ?_|fail))
   refine Bn (kJ _ _ () ⟨by simp[up,g0],by simp[up,g2],by simp[up,g8],by simp[up,g10],L++X,i+1,b',av2,by simp[up,g9],by simp[up],by omega,by simp;omega,I',fun y hy o' ho' x' hx'=>?_⟩ rfl)
   rw[aEX (by omega),aD5,hs']at hy
   rcases ay8.1 hy with hy|hy
   ·exact aKE _ (hcl y hy o' ho' x' hx')
   ·simp at hy;subst hy;exact ho o' ho' x' hx'
  ·obtain rfl:i=L.length:=by omega
   (have hb:=trivial;with_reducible repeat' (first|simp only[hb,Vc.down,seval,Je.down,g9,g11,aCH,decide_false]|refine Au ?_ ?_<;>intro hb|refine fd ?_|fail))
   exact kQ _ _ _ ⟨rfl,by simp[up,g0],by simp[up,g2],by simp[up,g8],by simp[up,g10],L,b,av,by simp[up,g9],I,hcl⟩
 ·refine⟨by simp[up,ent],by simp[up,ent],by simp[up],by simp[up],[s0],0,H.length+2,fun _=>.nils,by simp[up],by simp[up],by omega,by simp,?_,by intro s hs;simp at hs⟩
  have at':∀(j:Nat) (c:CB) (X:Aa),X[j]?=some c→(H++X)[H.length+j]?=some c:=fun j c X h=>by rw[aG2 (by omega),aL1];exact h
  exact⟨Hy.app _ _,at' 1 _ _ rfl,⟨_,at' 2 _ _ rfl⟩,at' 3 _ _ rfl,⟨_,at' 4 _ _ rfl⟩,by omega,by omega,by omega,by intro s hs;simp at hs,by simp,by intro s hs';simp at hs';rw[hs'];exact hs,by intro s hs';simp at hs';rw[hs'];exact hU0,rfl⟩
 obtain⟨rfl,g0,g2,g8,g10,L,b,av,g9,I,hcl⟩:=hk
 have hLB:=hU L I.nd I.un
 have K:=I.toK
 have hL9:L.length≤maxLen:=by unfold maxLen;omega
 (have hb:=trivial;with_reducible repeat' (first|simp only[hb,Vc.down,seval,Je.down,g9]|refine Au ?_ ?_<;>intro hb|refine fd ?_|fail))
 refine Ie (lst 117 L (fun i (f:St→Nat) t h=>t 0=.ptr lb 0 0∧t 2=Bt 3 true nn (l.map Ep.cells)∧t 8=.mapr (H.length+1)∧t 9=.slr 25 b 0 L.length∧t 10=.ptr (H.length+4) 0 0∧t 77=.slr 25 b 0 L.length∧t 78=.int .i64 (L.length:Int)∧t 79=.int .i64 (i:Int)∧CK w N H s0 U L b av f h) (fun rest f=>rest.foldl (mtS l) f)
  (fun f e t h=>e=.exit 6∧t 0=.ptr lb 0 0∧t 2=Bt 3 true nn (l.map Ep.cells)∧t 8=.mapr (H.length+1)∧t 9=.slr 25 b 0 L.length∧t 10=.ptr (H.length+4) 0 0∧CK w N H s0 U L b av f h) ?_ ?_ (fun _=>Di) _ _ ?_) (fun e t h hk=>?_)
 ·rintro f t h Q' kQ ⟨g0,g2,g8,g9,g10,g77,g78,g79,K⟩
  (have hb:=trivial;with_reducible repeat' (first|simp only[hb,Vc.down,seval,Je.down,g78,g79,aCH,decide_false]|refine Au ?_ ?_<;>intro hb|refine fd ?_|fail))
  exact kQ _ _ _ ⟨rfl,by simp[up,g0],by simp[up,g2],by simp[up,g8],by simp[up,g9],by simp[up,g10],K⟩
 ·rintro x rest i f t h J Q' kJ kQ hx hi ⟨g0,g2,g8,g9,g10,g77,g78,g79,K⟩
  have hdd:decide ((i:Int)<(L.length:Int))=true:=decide_eq_true (by omega)
  have hii:((i:Int)<(L.length:Int))=True:=eq_true (by omega)
  have hww:=Dj hi hL9
  obtain⟨xl,hlst⟩:=K.lst
  obtain⟨xb,hbx⟩:=K.bx
  have hxm:=aoS hx
  have hx12:=K.tw x hxm
  have w1:=Il hx12
  have w2:=Gi x
  have w3:=Gu x
  have w4:aoR 25 (Bv x)=Bv x:=ahF (by omega)
  have hbx2:=Aj hbx
  have hkn2:=Aj K.kn
  have hM:=bcY hx12 l nn hl hlp
  have hms2:=fun q=>aOK (hkn2 q) K.tw K.nd hxm (.int .i64 0)
  have hSk:=Kr (Eh K.kn)
  generalize hmb:aEA x.1 l=mb at *
  have w5:=a68 hx12
  have w6:=agI x.1 6
  cases mb with
  |false=>
   (have hb:=trivial;with_reducible repeat' (first|simp only[hb,Vc.down,seval,Je.down,g2,g8,g9,g10,g77,g78,g79,hdd,hii,hww,hlst,hx,w1,w2,w3,w4,w5,w6,hbx2,hkn2,hM,hms2,hSk,Na.down,ad8]|refine Au ?_ ?_<;>intro hb|refine fd ?_|fail))
   have hf:mtS l f x=f:=by simp[mtS,hmb]
   exact Bn (kJ _ _ f ⟨by simp[up,g0],by simp[up,g2],by simp[up,g8],by simp[up,g9],by simp[up,g10],by simp[up,g77],by simp[up,g78],by simp[up],K.app _⟩ (by rw[azV,hf]))
  |true=>
   (have hb:=trivial;with_reducible repeat' (first|simp only[hb,Vc.down,seval,Je.down,g2,g8,g9,g10,g77,g78,g79,hdd,hii,hww,hlst,hx,w1,w2,w3,w4,w5,w6,hbx2,hkn2,hM,hms2,hSk,Na.down,ad8]|refine Au ?_ ?_<;>intro hb|refine fd ?_|fail))
   have hf:mtS l f x=fun y=>if y=x then 0 else f y:=by simp[mtS,hmb]
   have hkp:(fun y=>if y=x then AV.int .i64 0 else Oj f y)=Oj (mtS l f x):=by rw[hf];exact aI7 f x 0
   rw[hkp]
   exact Bn (kJ _ _ (mtS l f x) ⟨by simp[up,g0],by simp[up,g2],by simp[up,g8],by simp[up,g9],by simp[up,g10],by simp[up,g77],by simp[up,g78],by simp[up],(K.put (mtS l f x)).app _⟩ rfl)
 ·exact⟨by simp[up,g0],by simp[up,g2],by simp[up,g8],by simp[up,g9],by simp[up,g10],by simp[up],by simp[up],by simp[up],K⟩
 obtain⟨rfl,g0,g2,g8,g9,g10,K⟩:=hk
 have hK0:=a7J (w:=w) (N:=N) (l:=l) (L:=L) fun s hs o ho=>by
  obtain⟨u0,u1,u2,u3,u4⟩:=hUc s (I.un s hs) o ho
  exact⟨u0,u1,u2,fun x hx=>hcl s (by rwa[aEM]) o ho x hx⟩
 (have hb:=trivial;with_reducible repeat' (first|simp only[hb,Vc.down,seval,Je.down]|refine Au ?_ ?_<;>intro hb|refine fd ?_|fail))
 refine Ie (cnt 117 (fun n (_:Unit) t h=>t 0=.ptr lb 0 0∧t 8=.mapr (H.length+1)∧t 9=.slr 25 b 0 L.length∧t 10=.ptr (H.length+4) 0 0∧∃f,CK w N H s0 U L b av f h∧(Ly w N l).Known Di L f∧(L.map f).sum<n) (fun _ _=>())
  (fun _ e t h=>e=.exit 8∧t 8=.mapr (H.length+1)∧t 10=.ptr (H.length+4) 0 0∧∃f,CK w N H s0 U L b av f h∧(Ly w N l).Known Di L f∧∀x∈L,∀o∈Cm w N x,f x≤wst f o) ?_ ?_ ((L.map (L.foldl (mtS l) fun _=>Di)).sum+1) () _ _ ?_) (fun e t h hk=>?_)
 ·rintro _ t h Q' kQ ⟨_,_,_,_,f,_,_,hn⟩
  omega
 ·rintro n _ t h J Q' kJ kQ ⟨g0,g8,g9,g10,f,K,hKn,hn⟩
  (have hb:=trivial;with_reducible repeat' (first|simp only[hb,Vc.down,seval,Je.down,g9]|refine Au ?_ ?_<;>intro hb|refine fd ?_|fail))
  refine Ie (lst 117 L (fun i (p:(St→Nat) × Bool) t h=>t 0=.ptr lb 0 0∧t 8=.mapr (H.length+1)∧t 9=.slr 25 b 0 L.length∧t 10=.ptr (H.length+4) 0 0∧t 21=.bool p.2∧t 90=.slr 25 b 0 L.length∧t 91=.int .i64 (L.length:Int)∧t 92=.int .i64 (i:Int)∧CK w N H s0 U L b av p.1 h∧(Ly w N l).Known Di L p.1) (fun rest p=>rest.foldl (rdS w N) p)
   (fun p e t h=>e=.exit 10∧t 0=.ptr lb 0 0∧t 8=.mapr (H.length+1)∧t 9=.slr 25 b 0 L.length∧t 10=.ptr (H.length+4) 0 0∧t 21=.bool p.2∧CK w N H s0 U L b av p.1 h) ?_ ?_ (f,false) _ _ ?_) (fun e t h hk=>?_)
  ·rintro p t h Q' kQ ⟨g0,g8,g9,g10,g21,g90,g91,g92,K,_⟩
   (have hb:=trivial;with_reducible repeat' (first|simp only[hb,Vc.down,seval,Je.down,g91,g92,aCH,decide_false]|refine Au ?_ ?_<;>intro hb|refine fd ?_|fail))
   exact kQ _ _ _ ⟨rfl,by simp[up,g0],by simp[up,g8],by simp[up,g9],by simp[up,g10],by simp[up,g21],K⟩
  ·rintro x rest i p t h J Q' kJ kQ hx hi ⟨g0,g8,g9,g10,g21,g90,g91,g92,K,hKn⟩
   have hdd:decide ((i:Int)<(L.length:Int))=true:=decide_eq_true (by omega)
   have hii:((i:Int)<(L.length:Int))=True:=eq_true (by omega)
   have hww:=Dj hi hL9
   obtain⟨xl,hlst⟩:=K.lst
   obtain⟨xb,hbx⟩:=K.bx
   have hxm:=aoS hx
   have hx12:=K.tw x hxm
   have w1:=Il hx12
   have w2:=Gi x
   have w3:=Gu x
   have w4:aoR 25 (Bv x)=Bv x:=ahF (by omega)
   have hbx2:=Aj hbx
   have hkn2:=Aj K.kn
   have hall2:=Aj K.all
   have hlkA:=fun q=>aO5 (hall2 q) K.tw hxm
   have hlkK:=fun q=>aJL (hkn2 q) K.tw hxm
   obtain⟨R,hrd,hR⟩:=K.ch x hxm
   obtain⟨p1,p2⟩:=a0E hrd
   have hic:(av x).isCell=true:=p1
   have hkx:Oj p.1 x=.int .i64 (p.1 x:Int):=rfl
   have hCl:(Cm w N x).length≤48:=aFV w N x h12
   have hL1:=a4F (f:=p.1) K.tw hKn.le (l:=Cm w N x) (fun o ho=>by
    obtain⟨u0,u1,u2,u3,u4⟩:=hUc x (K.un x hxm) o ho
    exact⟨by omega,u1,fun z hz=>hcl x (by rwa[aEM]) o ho z hz,u2,u3⟩) (by unfold maxLen;omega) false (p.1 x) false
   have hrv:=fun q=>aEE (e:=12) (by omega) (axO (l:=q) hrd)
   obtain⟨v,hav⟩:∃v,av x=v:=⟨_,rfl⟩
   rw[hav]at hlkA hrd hic p2 hrv
   change ∀q,rdV (h++q) v=_ at hrv
   rcases awP hrd with⟨rfl,h0⟩|⟨vb,vr,rfl,hvb,_,_,hvr⟩
   ·rw[h0]at hL1
    rw[show Bt 4 false false []=AV.nils from rfl]at hL1
    have hne1:(H.length+1=H.length)=False:=eq_false (by omega)
    (have hb:=trivial;with_reducible repeat' (first|simp only[hb,Vc.down,seval,Je.down,g8,g10,g90,g91,g92,hdd,hii,hlst,hx,w1,w2,w3,w4,hbx2,hkn2,hall2,hlkA,hlkK,hic,p2,hkx,hne1,hL1,Ls,Pv,Pg,avM,Na.down,ad8]|refine Au ?_ ?_<;>intro hb|refine fdq ?_|fail))
    refine aJV (fun _=>0) [([],[]),([],[.cells 0 0 25]),([],[.blk 0]),([],[]),([],[.cells 0 0 1]),([],[.cells 0 0 25]),([],[.blk 0]),([],[.blk 0]),([],[])] (by kernel_rfl) ?_ (fun _=>?_)
    ·simp only[awV,aBO]
     exact⟨by simp,by simp,by simp,by simp[Py],by simp,by simp[Py],by simp,by simp,by simp,by simp[Py],by simp,by simp[Py],by simp,by simp[Py],by simp,by simp[Py],by simp,by simp,trivial⟩
    ·cases c:decide (((Of p.1 (p.1 x) (Cm w N x):Nat):Int)<((p.1 x:Nat):Int))with
     |false=>
      have hst:rdS w N p x=p:=by
       unfold rdS;rw[if_neg]
       have:=of_decide_eq_false c
       omega
      (have hb:=trivial;with_reducible repeat' (first|simp only[hb,Vc.down,seval,Je.down,g92,hww,c]|refine Au ?_ ?_<;>intro hb|refine fd ?_|fail))
      exact Bn (kJ _ _ p ⟨by simp[up,g0],by simp[up,g8],by simp[up,g9],by simp[up,g10],by simp[up,g21],by simp[up,g90],by simp[up,g91],by simp[up],K.app _,hKn⟩ (by rw[azV,hst]))
     |true=>
      have hst:rdS w N p x=(fun y=>if y=x then Of p.1 (p.1 x) (Cm w N x)else p.1 y,true):=by
       unfold rdS;rw[if_pos]
       have:=of_decide_eq_true c
       omega
      have hK1:=(aBC (w:=w) (N:=N) (l:=l) (L:=L) [x] (fun y hy=>by simp at hy;rw[hy];exact hxm) p hKn).1
      simp only[azV,aN3]at hK1
      have hms2:=fun q=>aOK (hkn2 q) K.tw K.nd hxm (.int .i64 (Of p.1 (p.1 x) (Cm w N x):Nat))
      have hSk:=Kr (Eh K.kn)
      have hkp:(fun y=>if y=x then AV.int .i64 (Of p.1 (p.1 x) (Cm w N x):Nat)else Oj p.1 y)=Oj (rdS w N p x).1:=by rw[hst];exact aI7 p.1 x _
      rw[hkp]at hms2
      (have hb:=trivial;with_reducible repeat' (first|simp only[hb,Vc.down,seval,Je.down,g8,g10,g92,hww,c,hbx2,hkn2,hms2,hSk,w1,w2,w3,w4,Na.down]|refine Au ?_ ?_<;>intro hb|refine fd ?_|fail))
      exact Bn (kJ _ _ (rdS w N p x) ⟨by simp[up,g0],by simp[up,g8],by simp[up,g9],by simp[up,g10],by simp[up,hst],by simp[up,g90],by simp[up,g91],by simp[up],(K.put _).app _,hK1⟩ rfl)
   ·simp only[aN8,ad8]at hrv
    obtain⟨lv,hlv⟩:∃lv,Ao 12 (hf (h++[CB.live 25 true true [Bv x]])) (.slr 4 vb 0 (Cm w N x).length)=lv:=⟨_,rfl⟩
    have hlv2:=hlv
    rw[aO8]at hlv2
    have hlvR:∀j∈lv,H.length+5≤j∧j≠b:=fun j hj=>hR j (aBA (e:=12) (axO (l:=[CB.live 25 true true [Bv x]]) hrd) j (by rw[ad8,hlv];exact hj))
    have hany:(lv.any fun y=>y==H.length+4||y==H.length+3)=false:=by
     rw[aN4]
     intro j hj
     have:=(hlvR j hj).1
     simp
     omega
    have hne1:(H.length+1=H.length)=False:=eq_false (by omega)
    (have hb:=trivial;with_reducible repeat' (first|simp only[hb,Vc.down,seval,Je.down,g8,g10,g90,g91,g92,hdd,hii,hlst,hx,w1,w2,w3,w4,hbx2,hkn2,hall2,hlkA,hlkK,hic,p2,hkx,hrv,hlv2,hne1,hL1,hany,Ls,Pv,Pg,avM,Na.down,ad8]|refine Au ?_ ?_<;>intro hb|refine fdq ?_|fail))
    refine aJV (fun _=>0) [([],[]),([],[.cells 0 0 25]),([],[.blk 0]),([],[]),([],[.cells 0 0 1]),([],[.cells 0 0 25]),([],[.blk 0]),([],[.blk 0]),([],[])] (by kernel_rfl) ?_ (fun _=>?_)
    ·simp only[awV,aBO]
     exact⟨by simp,by simp,by simp,by simp[Py],by simp,by simp[Py],by simp,by simp,by simp,by simp[Py],by simp,by simp[Py],by simp,by simp[Py],by simp,fun y hy=>.inr (by obtain⟨j,_,rfl⟩:=aHP.1 hy;simp[Py]),by simp,by simp,trivial⟩
    ·cases c:decide (((Of p.1 (p.1 x) (Cm w N x):Nat):Int)<((p.1 x:Nat):Int))with
     |false=>
      have hst:rdS w N p x=p:=by
       unfold rdS;rw[if_neg]
       have:=of_decide_eq_false c
       omega
      (have hb:=trivial;with_reducible repeat' (first|simp only[hb,Vc.down,seval,Je.down,g92,hww,c]|refine Au ?_ ?_<;>intro hb|refine fd ?_|fail))
      exact Bn (kJ _ _ p ⟨by simp[up,g0],by simp[up,g8],by simp[up,g9],by simp[up,g10],by simp[up,g21],by simp[up,g90],by simp[up,g91],by simp[up],K.app _,hKn⟩ (by rw[azV,hst]))
     |true=>
      have hst:rdS w N p x=(fun y=>if y=x then Of p.1 (p.1 x) (Cm w N x)else p.1 y,true):=by
       unfold rdS;rw[if_pos]
       have:=of_decide_eq_true c
       omega
      have hK1:=(aBC (w:=w) (N:=N) (l:=l) (L:=L) [x] (fun y hy=>by simp at hy;rw[hy];exact hxm) p hKn).1
      simp only[azV,aN3]at hK1
      have hms2:=fun q=>aOK (hkn2 q) K.tw K.nd hxm (.int .i64 (Of p.1 (p.1 x) (Cm w N x):Nat))
      have hSk:=Kr (Eh K.kn)
      have hkp:(fun y=>if y=x then AV.int .i64 (Of p.1 (p.1 x) (Cm w N x):Nat)else Oj p.1 y)=Oj (rdS w N p x).1:=by rw[hst];exact aI7 p.1 x _
      rw[hkp]at hms2
      (have hb:=trivial;with_reducible repeat' (first|simp only[hb,Vc.down,seval,Je.down,g8,g10,g92,hww,c,hbx2,hkn2,hms2,hSk,w1,w2,w3,w4,Na.down]|refine Au ?_ ?_<;>intro hb|refine fd ?_|fail))
      exact Bn (kJ _ _ (rdS w N p x) ⟨by simp[up,g0],by simp[up,g8],by simp[up,g9],by simp[up,g10],by simp[up,hst],by simp[up,g90],by simp[up,g91],by simp[up],(K.put _).app _,hK1⟩ rfl)
  ·exact⟨by simp[up,g0],by simp[up,g8],by simp[up,g9],by simp[up,g10],by simp[up],by simp[up],by simp[up],by simp[up],K,hKn⟩
  obtain⟨rfl,g0,g8,g9,g10,g21,K⟩:=hk
  obtain⟨a1,a2,a3,a4⟩:=aBC (w:=w) (N:=N) (l:=l) L (fun _ h=>h) (f,false) hKn
  generalize hp:List.foldl (rdS w N) (f,false) L=p at *
  obtain⟨g,c⟩:=p
  cases c with
  |false=>
   (have hb:=trivial;with_reducible repeat' (first|simp only[hb,Vc.down,seval,Je.down,g21]|refine Au ?_ ?_<;>intro hb|refine fd ?_|fail))
   obtain⟨a5,a6⟩:=a4 rfl
   cases a5
   exact kQ _ _ _ ⟨rfl,by simp[up,g8],by simp[up,g10],f,K,a1,a6⟩
  |true=>
   (have hb:=trivial;with_reducible repeat' (first|simp only[hb,Vc.down,seval,Je.down,g21]|refine Au ?_ ?_<;>intro hb|refine fd ?_|fail))
   have hlt:=(a3 rfl).resolve_left (by simp)
   simp only at hlt
   exact Bn (kJ _ _ () ⟨by simp[up,g0],by simp[up,g8],by simp[up,g9],by simp[up,g10],g,K,a1,by omega⟩ rfl)
 ·exact⟨by simp[up,g0],by simp[up,g8],by simp[up,g9],by simp[up,g10],_,K,hK0,by omega⟩
 obtain⟨rfl,g8,g10,f,K,hKn,hst⟩:=hk
 obtain⟨xb,hbx⟩:=K.bx
 (have hb:=trivial;with_reducible repeat' (first|simp only[hb,Vc.down,seval,Je.down,g8,g10,hbx,Na.down]|refine Au ?_ ?_<;>intro hb|refine fd ?_|fail))
 exact⟨L,f,av,b,K,hKn,hst⟩
def aP6(p q:Ac):Prop:=q.one=p.one∧q.other=p.other∧q.valve=p.valve∧q.test=p.test∧q.change=p.change
theorem aW4{w:Ah}{N:Nat}{i:Nat}{p q:Ac}(hp:w.parts[i]?=some p)(h:aP6 p q)(s:St):Cm (Jp w i q) N s=Cm w N s:=by
 obtain⟨h1,h2,h3,h4,h5⟩:=h
 have hn:=fun L=>aLD (N:=N) hp h1 h2 L
 have hl:∀L,Iu (Jp w i q) N L=Iu w N L:=fun L=>by unfold Iu;rw[hn];rfl
 have hs:∀L k j x,Ll (Jp w i q) N L k j true x=Ll w N L k j true x:=fun L k j x=>by unfold Ll;rw[hn,hn,hl]
 have hF:∀k,ay7 (Jp w i q) N s k=ay7 w N s k:=fun k=>by
  funext j
  unfold ay7
  by_cases e:i=j
  ·subst e
   have e1:(Jp w i q).parts[i]?=some q:=aEG (aI5.1 hp).1
   rw[e1,hp]
   cases s.1[i]? with
   |none=>rfl
   |some x=>
    have c1:am5 q x k=am5 p x k:=by unfold am5;rw[h3]
    have c2:aAY q k=aAY p k:=by unfold aAY;rw[h4,h5]
    simp only[c1,c2,hs]
  ·have e1:(Jp w i q).parts[j]?=w.parts[j]?:=apA e
   rw[e1]
   simp only[hs]
 have hK:∀k,ai3 (Jp w i q) N s k=ai3 w N s k:=fun k=>by
  unfold ai3;rw[Jl,hF]
 unfold Cm
 rw[hK,hK,hK,hK]
theorem aWR{w:Ah}{N:Nat}{i:Nat}{p q:Ac}(hp:w.parts[i]?=some p)(h:aP6 p q)(l:List Ep):Ly (Jp w i q) N l=Ly w N l:=by
 unfold Ly
 congr 1
 funext s
 rw[aW4 hp h]
theorem aN9(p:Ac)(d k:Int)(b:Bool):aP6 p (Pe p d k b):=by
 unfold Pe
 split
 ·exact⟨rfl,rfl,rfl,rfl,rfl⟩
 ·split
  ·exact⟨rfl,rfl,rfl,rfl,rfl⟩
  ·split
   ·split<;>exact⟨rfl,rfl,rfl,rfl,rfl⟩
   ·exact⟨rfl,rfl,rfl,rfl,rfl⟩
theorem ay5{w:Ah}{N:Nat}{l:List Ep}{s:St}{o:Nat × List St}:o∈(Ly w N l).ops s↔∃c∈Cm w N s,o=(c.c.toNat,c.to):=by
 show o∈(Cm w N s).map _↔_
 rw[aHP]
 exact⟨fun⟨c,h1,h2⟩=>⟨c,h1,h2.symm⟩,fun⟨c,h1,h2⟩=>⟨c,h1,h2.symm⟩⟩
noncomputable def bs(w:Ah)(N:Nat)(l:List Ep)(s:St):Nat:=(Ly w N l).bst Di s
theorem aLG{v v':St→AV}:∀{L:List St},(∀s∈L,v s=v' s)→Eu L v=Eu L v'
 | [],_=>rfl
 |a::L,h=>by
  show AV.agg (Bv a)::v a::Eu L v=.agg (Bv a)::v' a::Eu L v'
  rw[h a (by simp),aLG fun s hs=>h s (by simp[hs])]
theorem CK.congr{w:Ah}{N:Nat}{H:Aa}{s0:St}{U:St→Prop}{L:List St}{b:Nat}{av:St→AV}{f g:St→Nat}{h:Aa}(K:CK w N H s0 U L b av f h)(e:∀s∈L,f s=g s):CK w N H s0 U L b av g h:=
 ⟨K.keep,K.all,K.lst,by rw[←aLG (v:=Oj f) (v':=Oj g) fun s hs=>by unfold Oj;rw[e s hs]];exact K.kn,K.bx,K.b2,K.b3,K.b4,K.ch,K.nd,K.tw,K.un,K.hd⟩
theorem a5V(w:Ah)(N:Nat)(l:List Ep)(s:St)(hs:(Ly w N l).Fine Di s):bs w N l s≤Di:=by
 by_cases e:∃k,Go.Ev.Can (Ly w N l) s k
 ·exact Nat.le_of_lt (hs.lt e)
 ·unfold bs;rw[Sys.bst_none e];exact azO _
theorem aL6{w:Ah}{N:Nat}(hw:WOk w N)(hwb:Gl w=true)(h6:w.parts.length≤6)(d:Int){H:Aa}{lb:Nat}{wf:Bool}(hlb:H[lb]?=some (aFY w d wf)){s0:St}(hu:InU w.parts.length s0 s0)(hf3:s0.2≤3)(l:List Ep)(nn:Bool)(hl:l.length≤maxLen)(hlp:∀x∈l,0≤x.part∧x.part<12):
 ShQ Ef 41 [.ptr lb 0 0,.agg (Bv s0),Bt 3 true nn (l.map Ep.cells)] H fun o G=>(∃(L:List St) (av:St→AV) (b:Nat),o=.ret (.tup [.mapr (H.length+3),.mapr (H.length+1)])∧CK w N H s0 (InU w.parts.length s0) L b av (bs w N l) G∧s0∈L∧(∀s∈L,(Ly w N l).Fine Di s)∧∀s∈L,∀o∈Cm w N s,∀x∈o.to,x∈L)∧Hy [] H G:=by
 obtain⟨o,G,hc,L,f,av,b,ho,K,hKn,hst⟩:=a30 hw (by omega) d hlb hu.l12 hf3 l nn hl hlp (U:=InU w.parts.length s0) (B:=186624) (by omega) (fun L hL h=>aH4 h6 hf3 L hL h) hu (fun s h=>⟨h.l12,Nat.le_trans h.fl hf3⟩) (fun s h o ho=>aPY hwb h ho)
 have hLB:=aH4 h6 hf3 L K.nd K.un
 have hst2:∀s∈L,∀o∈(Ly w N l).ops s,f s≤min Di (o.1+Sys.mx f o.2):=fun s hs o ho=>by
  obtain⟨c,hc,rfl⟩:=ay5.1 ho
  exact hst s hs c hc
 have hbt:=fun s (hs:s∈L)=>hKn.bst hst2 (by unfold Di;omega) hs
 have hfb:∀s∈L,f s=bs w N l s:=fun s hs=>(hbt s hs).1
 refine⟨o,G,hc,⟨L,av,b,ho,K.congr hfb,aoS K.hd,fun s hs=>⟨fun h=>?_⟩,fun s hs o ho x hx=>?_⟩,K.keep⟩
 ·have h1:=(hbt s hs).2 h
  rw[hfb s hs]at h1
  exact h1
 ·exact(hKn.ops s hs _ (ay5.2 ⟨o,ho,rfl⟩)).2.2.2 x hx
theorem aVR{w:Ah}{N:Nat}(hw:WOk w N)(hwb:Gl w=true)(h6:w.parts.length≤6){s:St}(h12:s.1.length=12)(hd:∀x∈s.1,0≤x.1∧x.1≤2)(hf3:s.2≤3)(l:List Ep)(hl:l.length≤maxLen)(hlp:∀x∈l,0≤x.part∧x.part<12):(Ly w N l).Fine Di s:=by
 obtain⟨o,G,hc,⟨L,av,b,_,K,hm,hF,_⟩,_⟩:=aL6 hw hwb h6 0 (H:=[aFY w 0 false]) (lb:=0) rfl (s0:=s) ⟨h12,hd,rfl,azO _⟩ hf3 l true hl hlp
 exact hF s hm
theorem a3M(p:Ac)(d:Int):0≤Av p d∧Av p d≤2:=by
 unfold Av;split
 ·decide
 ·split<;>decide
theorem aLM(w:Ah)(d:Int):∀x∈Ab w d,0≤x.1∧x.1≤2:=by
 intro x hx
 unfold Ab at hx
 rcases ay8.1 hx with hx|hx
 ·obtain⟨p,_,rfl⟩:=aHP.1 hx
  exact a3M p d
 ·obtain⟨_,rfl⟩:=List.mem_replicate.1 hx
  decide
theorem Kq{w:Ah}{d:Int}{l:List Ep}{f:Int}(h:Kx w d l f=0):w.parts.length≤6∧Gl w=true∧Nl d=true∧aoP w l=true∧0≤f∧f≤3:=by
 unfold Kx at h
 split at h
 ·cases h
 ·rename_i h1
  split at h
  ·cases h
  ·rename_i h2
   simp only[Bool.or_eq_true,Bool.not_eq_true',not_or,Bool.not_eq_false,decide_eq_true_eq]at h1 h2
   exact⟨by omega,h2.1.1.1.1,h2.1.1.1.2,h2.1.1.2,by omega,by omega⟩
theorem aM4{n:Int}:∀{l:List Ep} {y:Option Ep},Fp n y l=true→∀x∈l,Ht x.part 0 n=true
 | [],_,_,x,hx=>by cases hx
 |a::l,y,h,x,hx=>by
  have h1:Ht a.part 0 n=true∧Fp n (some a) l=true:=by
   cases y with
   |none=>simp only[Fp,aKF]at h;exact h
   |some z=>simp only[Fp,aKF]at h;exact⟨h.1.1,h.2⟩
  rcases aHN.1 hx with rfl|hx
  ·exact h1.1
  ·exact aM4 h1.2 x hx
theorem aCJ{w:Ah}(hl:w.parts.length≤1000){l:List Ep}(h:aoP w l=true):∀x∈l,0≤x.part∧x.part<(w.parts.length:Int):=fun x hx=>by
 have:=aM4 h x hx
 rw[Ez (by omega) (by omega)]at this
 simp only[Ht,aKF,decide_eq_true_eq]at this
 omega
def aEC(L:List St)(f:St→Nat)(s:St):Aa:=[.live 1 false false [[.mapr 2]],.live 25 true false [Bv s],Dl (Eu L (Oj f))]
theorem a7S{L:List St}{f:St→Nat}(hL:Twl L)(hf:∀s∈L,f s≤Di){o:Jr}(ho:COk L o){s:St}(hs:s∈L):
 Ef.call (.fn 43) [.agg o.cells,.ptr 0 0 0,.ptr 1 0 0] (aEC L f s)=some (.ret (.bool (wst f o==f s)),aEC L f s):=by
 have h:=aMK hL hf ho
 have hne:o.to.map Bv≠[]:=by simpa using ho.ne
 have hlk:=fun(q:Aa) (b:Nat) (hb:q[b]?=some (Dl (Eu L (Oj f))))=>aJL hb hL hs
 have hkv:Oj f s=.int .i64 (f s:Int):=rfl
 have w1:=Il (hL s hs)
 have w2:=Gi s
 have w3:=Gu s
 have w4:aoR 25 (Bv s)=Bv s:=ahF (by omega)
 have heq:((wst f o:Int)==(f s:Int))=(wst f o==f s):=by rw[Bool.eq_iff_iff];simp;omega
 simp only[Jr.cells,agF hne]at h ⊢
 unfold aEC
 refine ce Tryz.func43 ?_
 simp only[Tryz.f43]
 (have hb:=trivial;with_reducible repeat' (first|simp only[hb,Vc.down,seval,bfQ.down,h,hlk,hkv,heq,w1,w2,w3,w4,Ls,Pv,Pg,avM,Na.down]|refine Au ?_ ?_<;>intro hb|refine fd ?_|fail))
theorem aU4{L:List St}{f:St→Nat}(hL:Twl L)(hf:∀s∈L,f s≤Di){l:List Jr}(hl:∀o∈l,COk L o)(hlen:l.length≤maxLen)(nn:Bool){s:St}(hs:s∈L):
 Ef.call (.fn 42) [Bt 4 false nn (l.map Jr.cells),.func (.func 43) [] [.ptr 0 0 0,.ptr 1 0 0]] (aEC L f s)=some (.ret (.int .i64 (idx (fun o=>wst f o==f s) l 0)),aEC L f s):=by
 unfold aEC
 have w1:=Il (hL s hs)
 have w2:=Gi s
 have w3:=Gu s
 have w4:aoR 25 (Bv s)=Bv s:=ahF (by omega)
 refine ce Tryz.func42 ?_
 simp only[Tryz.f42]
 (have hb:=trivial;with_reducible repeat' (first|simp only[hb,Vc.down,seval,aTT.down,ad8]|refine Au ?_ ?_<;>intro hb|refine fd ?_|fail))
 refine Ie (lst 19 l (fun j (m:Int) t h=>m=j∧t 0=Bt 4 false nn (l.map Jr.cells)∧t 1=.func (.func 43) [] [.ptr 0 0 0,.ptr 1 0 0]∧t 7=.int .i64 (l.length:Nat)∧t 8=.int .i64 (j:Int)∧h=aEC L f s) (fun rest m=>idx (fun o=>wst f o==f s) rest m)
  (fun r e t h=>h=aEC L f s∧((e=.exit 0∧r= -1)∨(e=.ret∧t 4=.int .i64 r))) ?_ ?_ 0 _ _ ?_) (fun e t h hk=>?_)
 ·rintro m t h Q' kQ ⟨rfl,g0,g1,g7,g8,rfl⟩
  (have hb:=trivial;with_reducible repeat' (first|simp only[hb,Vc.down,seval,aTT.down,g7,g8,aCH,decide_false]|refine Au ?_ ?_<;>intro hb|refine fd ?_|fail))
  exact kQ _ _ _ ⟨rfl,.inl ⟨rfl,rfl⟩⟩
 ·rintro o rest j m t h J Q' kJ kQ hx hj ⟨rfl,g0,g1,g7,g8,rfl⟩
  have hdd:decide ((j:Int)<(l.length:Int))=true:=decide_eq_true (by omega)
  have hww:=Dj hj (by unfold maxLen at hlen;unfold maxLen;omega)
  have ho:=hl o (aoS hx)
  have hc:=a7S hL hf ho hs
  have hne:o.to.map Bv≠[]:=by simpa using ho.ne
  simp only[Jr.cells,agF hne]at hc
  have hcs:o.cells=[.int .i64 o.k,.int .i64 (o.i:Int),.int .i64 o.c,.imm 25 true (o.to.map Bv)]:=by simp only[Jr.cells,agF hne]
  unfold aEC at hc ⊢
  cases hb:(wst f o==f s)with
  |true=>
   rw[hb]at hc
   have hi1:idx (fun o=>wst f o==f s) (o::rest) (j:Int)=j:=if_pos hb
   (have hb:=trivial;with_reducible repeat' (first|simp only[hb,Vc.down,seval,aTT.down,g0,g1,g7,g8,hdd,hww,hx,hcs,hc,w1,w2,w3,w4,Ls,Pv,Pg,avM,Na.down,ad8]|refine Au ?_ ?_<;>intro hb|refine fd ?_|fail))
   exact kQ _ _ _ ⟨rfl,.inr ⟨rfl,by rw[hi1];simp[up]⟩⟩
  |false=>
   rw[hb]at hc
   have hi2:idx (fun o=>wst f o==f s) rest ((j:Int)+1)=idx (fun o=>wst f o==f s) (o::rest) (j:Int):=by
    have h2:¬((fun o=>wst f o==f s) o=true):=by show ¬((wst f o==f s)=true);rw[hb];simp
    exact(if_neg h2).symm
   (have hb:=trivial;with_reducible repeat' (first|simp only[hb,Vc.down,seval,aTT.down,g0,g1,g7,g8,hdd,hww,hx,hcs,hc,w1,w2,w3,w4,Ls,Pv,Pg,avM,Na.down,ad8]|refine Au ?_ ?_<;>intro hb|refine fd ?_|fail))
   exact Bn (kJ _ _ (j+1) ⟨by simp,by simp[up,g0],by simp[up,g1],by simp[up,g7],by simp[up],rfl⟩ hi2)
 ·exact⟨rfl,by simp[up,ent],by simp[up,ent],by simp[up],by simp[up],rfl⟩
 obtain⟨rfl,⟨rfl,hi⟩|⟨rfl,hi⟩⟩:=hk
 ·unfold aEC
  (have hb:=trivial;with_reducible repeat' (first|simp only[hb,Vc.down,seval,aTT.down,Ls,Pv,Pg,avM,w1,w2,w3,w4,Na.down]|refine Au ?_ ?_<;>intro hb|refine fd ?_|fail))
  rw[hi]
 ·unfold aEC
  (have hb:=trivial;with_reducible repeat' (first|simp only[hb,Vc.down,seval,aTT.down,hi,Ls,Pv,Pg,avM,w1,w2,w3,w4,Na.down]|refine Au ?_ ?_<;>intro hb|refine fd ?_|fail))
theorem aKS{α:Type}{p:α→Bool}:∀{l:List α} {o:α} (i:Nat),l.find? p=some o→∃j,idx p l i=((i+j:Nat):Int)∧l[j]?=some o
 | [],o,i,h=>by cases h
 |a::l,o,i,h=>by
  cases hp:p a with
  |true=>
   rw[List.find?_cons_of_pos hp]at h
   cases h
   exact⟨0,by simp[idx,hp],rfl⟩
  |false=>
   rw[List.find?_cons_of_neg (by simp[hp])]at h
   obtain⟨j,h1,h2⟩:=aKS (i+1) h
   refine⟨j+1,?_,h2⟩
   simp only[idx,hp,Bool.false_eq_true,if_false]
   rw[show((i:Nat):Int)+1=((i+1:Nat):Int) by omega,h1]
   omega
theorem aXX{w:Ah}{N:Nat}(hw:WOk w N)(hs:w.small)(d:Int)(l:List Ep)(nn:Bool)(hl:l.length≤maxLen)(f:Nat)(h:Kx w d l f=0)(out:List AV)(c0:bs w N l (Ab w d,f)=0→out=[.agg [.int .i64 0,.int .i64 0],.int .i64 0,.int .i64 0])(c1:bs w N l (Ab w d,f)=Di→out=[.agg [.int .i64 0,.int .i64 0],.int .i64 0,.int .i64 5])
 (c2:bs w N l (Ab w d,f)≠0→bs w N l (Ab w d,f)≠Di→∃o,(Cm w N (Ab w d,f)).find? (fun o=>wst (bs w N l) o==bs w N l (Ab w d,f))=some o∧out=[.agg [.int .i64 o.k,.int .i64 (o.i:Int)],.int .i64 (bs w N l (Ab w d,f):Nat),.int .i64 0]):
 Ef.call (.fn 15) [.agg [.int .i64 w.rooms,.int .i64 w.need,Bt 9 true w.nn (w.parts.map Ac.cells)],.int .i64 d,Bt 3 true nn (l.map Ep.cells),.int .i64 (f:Int)] []=some (.ret (.tup out),[]):=by
 obtain⟨h6,hwb,hdb,hgb,hf0,hf3'⟩:=Kq h
 have h1:=aQ3 w hs d
 have h2:=a9R w l nn hl
 have h3:=aC1 (f:Int) 0 3
 rw[hwb,hdb,Bool.and_self]at h1
 rw[hgb]at h2
 rw[show Ht (f:Int) 0 3=true by simp[Ht];omega]at h3
 have d0:decide ((w.parts.length:Int)>6)=false:=decide_eq_false (by omega)
 have hlp:=aCJ (by omega) hgb
 have hlp':∀x∈l,0≤x.part∧x.part<12:=fun x hx=>by have:=hlp x hx;omega
 have hpc:=aKN w d false (by omega)
 have hL:=azW (w:=w) (d:=d) (by omega)
 have hdg:=aLM w d
 obtain⟨s0,hs0⟩:∃s0:St,(Ab w d,f)=s0:=⟨_,rfl⟩
 have hst1:Cj (Ab w d)++[AV.int .i64 (f:Int)]=Bv s0:=by rw[←hs0];rfl
 have hu:InU w.parts.length s0 s0:=by rw[←hs0];exact⟨hL,hdg,rfl,azO _⟩
 have hf3:s0.2≤3:=by rw[←hs0];show f≤3;omega
 rw[hs0]at c0 c1 c2
 have f0:=Gh (Ab w d)
 have k0:=Gj (Ab w d)
 have v0:=aAF (Ab w d)
 have l0:=az8 (Ab w d)
 have r0:=Pl (Ab w d)
 have p0:=agI (Ab w d)
 have n0:=aCI (Ab w d)
 have i0:=aCL (Ab w d)
 have hpl:(Cj (Ab w d)).length=24:=by rw[Be];omega
 have htk24:=ahF (l:=Cj (Ab w d)) (i:=24) (by omega)
 have b1:aoR 25 (Cj (Ab w d))=Cj (Ab w d):=ahF (by omega)
 have b2:∀z,aoR 24 (Cj (Ab w d)++[z])=Cj (Ab w d):=fun z=>by rw[aEX (by omega),ahF (by omega)]
 have b3:∀z,List.drop 25 (Cj (Ab w d)++[z])=[]:=fun z=>List.drop_eq_nil_of_le (by simp;omega)
 have w1:=Il hu.l12
 have w2:=Gi s0
 have w3:=Gu s0
 have w4:aoR 25 (Bv s0)=Bv s0:=ahF (by omega)
 obtain⟨qC,hqC⟩:∃q,Fn.func 41=q:=⟨_,rfl⟩
 refine ce Tryz.func15 ?_
 simp only[Tryz.f15]
 (have hb:=trivial;with_reducible repeat' (first|simp only[hb,Vc.down,seval,aYQ.down,d0,h1,h2,h3,hpc,f0,k0,v0,l0,r0,p0,n0,i0,hpl,htk24,b1,b2,b3,hst1,w1,w2,w3,w4,hqC,aBJ,aAW,aBT,aAO,aA5,aCG,ad8]|refine Au ?_ ?_<;>intro hb|refine fd ?_|fail))
 obtain⟨Hc,hHc⟩:∃Hc:Aa,[CB.live 3 false false [[AV.int IntKind.i64 w.rooms,AV.int IntKind.i64 w.need,Bt 9 true w.nn (List.map Ac.cells w.parts)]],CB.live 2 true false [[AV.int IntKind.i64 0,AV.int IntKind.i64 0]],CB.live 4 false false [[AV.int IntKind.i64 w.rooms,AV.int IntKind.i64 w.need,Bt 9 true w.nn (List.map Ac.cells w.parts),AV.int IntKind.i64 d]],CB.live 25 true true [Bv s0]]=Hc:=⟨_,rfl⟩
 rw[hHc]
 generalize hE:cl Ef Hc (some (.func qC [] [])) (some [.ptr 2 0 0,.agg (Bv s0),Bt 3 true nn (l.map Ep.cells)])=E
 rw[←hqC]at hE
 have hl4:Hc.length=4:=by rw[←hHc];rfl
 have hcl2:(Gy Hc).length=4:=by rw[Bz,hl4]
 have hlb2:(Gy Hc)[2]?=some (aFY w d false):=by rw[←hHc];rfl
 obtain⟨o,G,es,M,e1,e2,⟨L,av,b,rfl,K,hm,hF,hcl⟩,e4,e5,e6,e7,e8⟩:=aX1 (O:=Ef) (f:=41) (H:=Hc) (args:=[.ptr 2 0 0,.agg (Bv s0),Bt 3 true nn (l.map Ep.cells)]) rfl rfl (aL6 hw hwb h6 d hlb2 hu hf3 l nn hl hlp')
 have e9:=hE.symm.trans e1
 subst e9
 have hkn:M[7]?=some (Dl (Eu L (Oj (bs w N l)))):=(e7 7 (by omega)).trans (by have:=K.kn;rwa[hcl2]at this)
 have hall:M[5]?=some (Dl (Eu L av)):=(e7 5 (by omega)).trans (by have:=K.all;rwa[hcl2]at this)
 have hb3:M[3]?=some (.live 25 true true [Bv s0]):=(e6 3 (by omega)).trans (by rw[←hHc];rfl)
 have hb1:M[1]?=some (.live 2 true false [[AV.int IntKind.i64 0,AV.int IntKind.i64 0]]):=(e6 1 (by omega)).trans (by rw[←hHc];rfl)
 have hkn2:=Aj hkn
 have hall2:=Aj hall
 have hb32:=Aj hb3
 have hb12:=Aj hb1
 have hlk:=fun q=>aJL (hkn2 q) K.tw hm
 have hlkA:=fun q=>aO5 (hall2 q) K.tw hm
 have hset1:∀(q:Aa) (c:CB),((M++q).set 1 c)[1]?=some c:=fun q c=>aEG (by have:=Eh hb1;simp;omega)
 have hkv:Oj (bs w N l) s0=.int .i64 (bs w N l s0:Int):=rfl
 cases q0:((bs w N l s0:Int)==0)with
 |true=>
  rw[c0 (by simp at q0;omega)]
  (have hb:=trivial;with_reducible repeat' (first|simp only[hb,Vc.down,seval,aYQ.down,e2,hl4,hkn2,hb32,hb12,hb1,hset1,hlk,hkv,q0,w1,w2,w3,w4,Na.down,aBJ,aAW,aBT,aAO,aA5,aCG]|refine Au ?_ ?_<;>intro hb|refine fd ?_|fail))
 |false=>
 cases q1:((bs w N l s0:Int)==1099511627776)with
 |true=>
  rw[c1 (by simp at q1;unfold Di;omega)]
  (have hb:=trivial;with_reducible repeat' (first|simp only[hb,Vc.down,seval,aYQ.down,e2,hl4,hkn2,hb32,hb12,hb1,hset1,hlk,hkv,q0,q1,w1,w2,w3,w4,Na.down,aBJ,aAW,aBT,aAO,aA5,aCG]|refine Au ?_ ?_<;>intro hb|refine fd ?_|fail))
 |false=>
 obtain⟨o,ho,rfl⟩:=c2 (fun e=>by rw[e]at q0;simp at q0) (fun e=>by rw[e]at q1;simp[Di]at q1)
 obtain⟨R,hrd0,hR⟩:=K.ch s0 hm
 rw[hcl2]at hR
 have hrd:rd 6 (hf M) (av s0)=some (Bt 4 false false ((Cm w N s0).map Jr.cells),R):=by
  have:=anI (g':=hf M) (Fe hrd0 abT) fun j hj z hz=>by
   have hj2:j∈R:=by simpa using hj
   show(M[j]?).bind Bq=_
   rw[e7 j (by have:=(hR j hj2).1;omega)];exact hz
  obtain⟨a,l',R1,R2,e1,h1,h2,h3⟩:=Ii this
  cases e1
  obtain⟨_,rfl⟩:=ah1 h2
  simp at h3
  rw[h1,←h3]
 have hrv:=fun q=>aEE (e:=12) (by omega) (axO (l:=q) hrd)
 obtain⟨v,hav⟩:∃v,av s0=v:=⟨_,rfl⟩
 rw[hav]at hlkA hrd hrv
 change ∀q,rdV (M++q) v=_ at hrv
 rcases awP hrd with⟨rfl,h0⟩|⟨vb,vr,rfl,hvb,_,_,hvr⟩
 ·rw[aHA.1 h0]at ho
  cases ho
 ·simp only[aN8,ad8]at hrv
  have hM8:=Eh hkn
  have hM3:(M.length=3)=False:=eq_false (by omega)
  have hM7:(7=M.length)=False:=eq_false (by omega)
  have hM7':(M.length=7)=False:=eq_false (by omega)
  obtain⟨lv,hlv⟩:∃lv,Ao 12 (hf (M++[CB.live 1 false true [[AV.mapr 7]]])) (.slr 4 vb 0 (Cm w N s0).length)=lv:=⟨_,rfl⟩
  have hlv2:=hlv
  rw[aO8]at hlv2
  obtain⟨j,hj,hjo⟩:=aKS 0 ho
  have hjl0:=aQU hjo
  have hjl:((j:Int)<((Cm w N s0).length:Int))=True:=eq_true (by omega)
  obtain⟨vb',bt,ev,hrow0,_,_⟩:=aRK hrd hjo (aPY hwb hu (aoS hjo)).2.2.1
  injection ev with _ ev1 _ _
  subst ev1
  have hrow:∀q,Jo ((M++q)[vb]?) j=some [.int .i64 o.k,.int .i64 (o.i:Int),.int .i64 o.c,.slr 25 bt 0 o.to.length]:=fun q=>by
   rw[awL (awX hvb)];exact hrow0
  have hI:=aU4 (f:=bs w N l) (l:=Cm w N s0) K.tw (fun s hs=>a5V w N l s (hF s hs)) (fun o ho=>by
   obtain⟨u0,u1,u2,u3,u4⟩:=aPY hwb hu ho
   exact⟨by omega,u1,fun z hz=>hcl s0 hm o ho z hz,u2,u3⟩) (by have:=aFV w N s0 (by omega);unfold maxLen;omega) false hm
  unfold aEC at hI
  rw[Nat.zero_add]at hj
  rw[show((0:Nat):Int)=0 from rfl]at hj
  rw[hj]at hI
  have hlvR:∀j∈lv,9≤j∧j<M.length:=fun j hj=>by
   have hj2:=aBA (e:=12) (axO (l:=[CB.live 1 false true [[AV.mapr 7]]]) hrd) j (by rw[ad8,hlv];exact hj)
   exact⟨(hR j hj2).1,aGG (by omega) (Fe hrd abT) j (by simpa using hj2)⟩
  have hany:(lv.any fun x=>x==M.length||(x==3||x==7))=false:=by
   rw[aN4]
   intro z hz
   have:=hlvR z hz
   simp
   omega
  (have hb:=trivial;with_reducible repeat' (first|simp only[hb,Vc.down,seval,aYQ.down,e2,hl4,hkn2,hb32,hb12,hb1,hset1,hlk,hkv,q0,q1,hlkA,hrv,hlv2,hI,hany,hjl,hrow,hM3,hM7,hM7',Ls,Pv,Pg,avM,w1,w2,w3,w4,Na.down,aBJ,aAW,aBT,aAO,aA5,aCG]|refine Au ?_ ?_<;>intro hb|refine fdq ?_|fail))
  have hvb9:9≤vb:=by
   obtain⟨q,_,rfl,_⟩:=aF1 hrd hvb
   exact(hR vb (by simp)).1
  have n1:vb≠1:=by omega
  have n2:M.length≠1:=by omega
  refine aJV (fun b=>if b=1 then 1 else 0) [([],[]),([],[.cells 0 0 25]),([],[.blk 0]),([],[]),([],[]),([],[]),([],[.cells 0 0 2]),([],[.cells 0 0 1]),([],[.cells 0 0 25]),([],[.blk 0]),([.cells 1 0 2],[.cells 1 0 2]),([],[]),([],[])] (by kernel_rfl) ?_ (fun _=>?_)
  ·simp only[awV,aBO]
   simp[Py,Ad.foot,n1,n2]
  ·(have hb:=trivial;with_reducible repeat' (first|simp only[hb,Vc.down,seval,aYQ.down,hset1,hkv,Na.down,hb1,hb12]|refine Au ?_ ?_<;>intro hb|refine fd ?_|fail))
noncomputable def aPN(b:Nat):Int:=if b<Di then(b:Int)else 0
noncomputable def aHE(b:Nat):Int:=if b<Di then 0 else 5
theorem aJX{w:Ah}{N:Nat}(hw:WOk w N){d:Int}{l:List Ep}(hl:l.length≤maxLen){f:Nat}(h:Kx w d l f=0):(Ly w N l).Fine Di (Ab w d,f):=by
 obtain⟨h6,hwb,_,hgb,_,hf3⟩:=Kq h
 exact aVR hw hwb h6 (azW (by omega)) (aLM w d) (by show f≤3;omega) l hl (fun x hx=>by have:=aCJ (by omega) hgb x hx;omega)
theorem aQA{w:Ah}{N:Nat}(hb:Gl w=true){l:List Ep}{s:St}:∀o∈(Ly w N l).ops s,1≤o.1:=by
 intro o ho
 obtain⟨c,hc,rfl⟩:=ay5.1 ho
 obtain⟨p,x,I⟩:=awJ.1 hc
 have:=abJ hb I.hp c.k
 rw[←I.c]at this
 show 1≤c.c.toNat
 omega
theorem a5Z{w:Ah}{N:Nat}(hw:WOk w N)(hs:w.small)(d:Int)(l:List Ep)(nn:Bool)(hl:l.length≤maxLen)(f:Nat)(h:Kx w d l f=0):
 ∃k i:Int,Ef.call (.fn 15) [.agg [.int .i64 w.rooms,.int .i64 w.need,Bt 9 true w.nn (w.parts.map Ac.cells)],.int .i64 d,Bt 3 true nn (l.map Ep.cells),.int .i64 (f:Int)] []=some (.ret (.tup [.agg [.int .i64 k,.int .i64 i],.int .i64 (aPN (bs w N l (Ab w d,f))),.int .i64 (aHE (bs w N l (Ab w d,f)))]),[])∧
  (bs w N l (Ab w d,f)≠0→bs w N l (Ab w d,f)<Di→∃o,(Cm w N (Ab w d,f)).find? (fun o=>wst (bs w N l) o==bs w N l (Ab w d,f))=some o∧k=o.k∧i=o.i)∧(bs w N l (Ab w d,f)=0∨Di≤bs w N l (Ab w d,f)→k=0∧i=0):=by
 have hF:=aJX hw hl h
 have hle:=a5V w N l _ hF
 obtain⟨_,hwb,_,hgb,_,_⟩:=Kq h
 have hA:=fun out=>aXX hw hs d l nn hl f h out
 have hop:=Sys.bst_op hF
 change bs w N l (Ab w d,f)<Di→_ at hop
 have hgo:bs w N l (Ab w d,f)≠0→(Ly w N l).goal (Ab w d,f)=false:=fun hn=>by
  cases hg:(Ly w N l).goal (Ab w d,f)with
  |false=>rfl
  |true=>exact absurd (Sys.bst_goal hg) hn
 have hfind:bs w N l (Ab w d,f)≠0→bs w N l (Ab w d,f)<Di→∃o,(Cm w N (Ab w d,f)).find? (fun o=>wst (bs w N l) o==bs w N l (Ab w d,f))=some o:=fun h0 h1=>by
  obtain⟨o,ho,e,_⟩:=hop h1 (hgo h0) (aQA hwb)
  obtain⟨c,hc,rfl⟩:=ay5.1 ho
  refine Option.isSome_iff_exists.1 (List.find?_isSome.2 ⟨c,hc,?_⟩)
  rw[beq_iff_eq]
  exact e.symm
 by_cases h0:bs w N l (Ab w d,f)=0
 ·refine⟨0,0,?_,fun h=>absurd h0 h,fun _=>⟨rfl,rfl⟩⟩
  have:=hA [.agg [.int .i64 0,.int .i64 0],.int .i64 0,.int .i64 0] (fun _=>rfl) (fun e=>by rw[h0]at e;cases e) (fun h=>absurd h0 h)
  rw[h0]
  exact this
 ·by_cases h1:bs w N l (Ab w d,f)<Di
  ·obtain⟨o,ho⟩:=hfind h0 h1
   refine⟨o.k,o.i,?_,fun _ _=>⟨o,ho,rfl,rfl⟩,fun h=>by omega⟩
   have:=hA [.agg [.int .i64 o.k,.int .i64 (o.i:Int)],.int .i64 (bs w N l (Ab w d,f):Nat),.int .i64 0] (fun h=>absurd h h0) (fun h=>by omega) (fun _ _=>⟨o,ho,rfl⟩)
   unfold aPN aHE
   rw[if_pos h1,if_pos h1]
   exact this
  ·refine⟨0,0,?_,fun _ h=>absurd h h1,fun _=>⟨rfl,rfl⟩⟩
   have:=hA [.agg [.int .i64 0,.int .i64 0],.int .i64 0,.int .i64 5] (fun h=>absurd h h0) (fun _=>rfl) (fun _ h=>absurd (by omega) h)
   unfold aPN aHE
   rw[if_neg h1,if_neg h1]
   exact this
theorem a6F{n:Nat}{r:List AV}(h:Ty Tryz.prog (n+4) 75 r):∃x:Ep,r=x.cells:=by
 unfold Ty at h
 simp only[Tryz.underlying75,aOC]at h
 obtain⟨a1,b1,rfl,h1,a2,b2,rfl,h2,a3,b3,rfl,h3,rfl⟩:=h
 obtain⟨i,rfl,_⟩:=Np h1
 obtain⟨b,rfl⟩:=aCA h2
 obtain⟨c,rfl⟩:=aCA h3
 exact⟨⟨i,b,c⟩,rfl⟩
theorem a1E{av:AV}(h:TyV Tryz.prog 7 25 av):∃(nn:Bool) (l:List Ep),av=Bt 3 true nn (l.map Ep.cells)∧l.length≤maxLen:=by
 unfold TyV at h
 simp only[Tryz.underlying25]at h
 unfold Ty at h
 simp only[Tryz.underlying25]at h
 obtain⟨nn,rows,hx,hl,hrows⟩:=h
 obtain⟨l,rfl,hm⟩:=aKA (q:=fun _=>True) (fun r hr=>by obtain⟨x,hx⟩:=a6F (n:=2) hr;exact⟨x,hx,trivial⟩) hrows
 have e1:Tryz.prog.cellsOf 75=3:=by kernel_rfl
 have e2:flT Tryz.prog 6 75=true:=by kernel_rfl
 rw[e1,e2]at hx
 simp only[List.cons.injEq,and_true]at hx
 exact⟨nn,l,hx,by simpa using hl⟩
end Go.Proofs.YtcncggaobhbomaaGreatDoor
