/- The functions of the layer, walked. -/
import Derived.Test.YtcncggaobhbomaaGreatDoorPartAD
import Derived.Test.YtcncggaobhbomaaGreatDoorPartAC
open List renaming length_map→abK,mem_of_getElem?→abL,getElem?_set_ne→abX,mem_append→adC,take_of_length_le→adD,getElem?_append_left→af5,take→agI,all_cons→ai5,all_nil→aoS,foldl_cons→aoW,take_add_one→awN,take_length→azY,getElem?_append_right→az0,mem_map→aA3,getElem?_set_self→aBU,take_append_of_le_length→aBV,mem_cons→aDD,nodup_cons→aDG,map_eq_nil_iff→aD2,getElem?_map→aEQ,getElem?_eq_getElem→aHX,mem_append_left→aHY,getElem?_eq_some_iff→aJN,mem_of_mem_take→aJ4,prefix_append→aKO,foldl_nil→aLA
open Nat renaming le_refl→ah1,add_sub_cancel_left→aJQ
open Bool renaming and_true→aoT,and_false→aFV,and_eq_true→aIE
open Int renaming lt_irrefl→aoV
set_option linter.unusedSimpArgs false
set_option linter.unusedVariables false
namespace Go.Proofs.YtcncggaobhbomaaGreatDoor
open Go.Ev Go Go.Ev.Net
set_option maxRecDepth 100000
set_option maxHeartbeats 16000000
theorem aBA{d:Nat}{h:Aa}{v:AV}{p:AV × List Nat}{l:Aa}(hr:rd (d+1) (hf h) v=some p)(hd:d+1≤9:=by omega):rd (d+1) (hf (h++l)) v=some p:=by
 have:=av6 (g':=hf (h++l)) (Gl hr aoP) fun j hj z hz=>by
  show((h++l)[j]?).bind Ax=_
  rw[af5 (aLQ hd (Gl hr aoP) j hj)];exact hz
 obtain⟨a,l',R1,R2,e,h1,h2,h3⟩:=Jd this
 cases e
 obtain⟨_,rfl⟩:=akZ h2
 simp at h3
 rw[h1,←h3]
theorem ba8:Ag .nilm=[.nilm]:=Eq.trans rfl rfl
theorem a7G:AV.flat .nilm=false:=Eq.trans rfl rfl
theorem a6J:AV.isCell .nilm=true:=Eq.trans rfl rfl
theorem aGL:∀{l:List St} {i j:Nat} {x:St},l.Nodup→l[i]?=some x→l[j]?=some x→i=j
 | [],i,j,x,_,h,_=>by simp at h
 |a::l,0,0,x,_,_,_=>rfl
 |a::l,0,j+1,x,hn,h1,h2=>by
  simp at h1 h2;subst h1
  exact absurd (abL h2) (aDG.1 hn).1
 |a::l,i+1,0,x,hn,h1,h2=>by
  simp at h1 h2;subst h2
  exact absurd (abL h1) (aDG.1 hn).1
 |a::l,i+1,j+1,x,hn,h1,h2=>congrArg (· +1) (aGL (l:=l) (x:=x) (aDG.1 hn).2 (by simpa using h1) (by simpa using h2))
def knT:St→AV:=knV fun _=>Az
theorem a0W{h:Aa}{b:Nat}{L:List St}{s:St}(hb:h[b]?=some (Dz (Fp L knT)))(hL:Twl L)(h12:s.1.length=12)(hs:s∉L):ms Tryz.prog h 86 (some (.mapr b)) (some (.agg (Db s))) (some (.int .i64 1099511627776))=some (.ret (.tup []),[.put b (Dz (Fp (L++[s]) knT))]):=by
 rw[bh5 hb hL h12 hs]
 have:(fun y=>if y=s then AV.int .i64 1099511627776 else knT y)=knT:=by
  funext y;split<;>rfl
 rw[this]
theorem a6N{g:HF}{v:AV}{l:List Oc}{R:List Nat}(h:rd 6 g v=some (Be 4 false false (l.map Oc.cells),R)):ln Tryz.prog 91 (some v)=some (.ret (.int .i64 (l.length:Int)),[]):=by
 rcases ai0 h with⟨rfl,h0⟩|⟨b,rows',rfl,_⟩
 ·obtain rfl:=aD2.1 h0
  simp only[Vc.down,seval,Jw.down,List.length_nil,Int.natCast_zero]
 ·simp only[Vc.down,seval,Jw.down,abK]
structure CI(w:Af)(N:Nat)(H:Aa)(s0:St)(U:St→Prop)(L:List St)(i b:Nat)(av:St→AV)(h:Aa):Prop where
 keep:Iw [] H h
 all:h[H.length+1]?=some (Dz (Fp (L.take i) av))
 lst:∃x,h[b]?=some (.live 25 true x (L.map Db))
 kn:h[H.length+3]?=some (Dz (Fp L knT))
 bx:∃x,h[H.length+4]?=some (.live 1 false x [[.mapr (H.length+3)]])
 b2:H.length+2≤b
 b3:b≠H.length+3
 b4:b≠H.length+4
 ch:∀s∈L.take i,∃R,rd 6 (hf h) (av s)=some (Be 4 false false ((Ec w N s).map Oc.cells),R)∧∀j∈R,H.length+5≤j∧j≠b
 nd:L.Nodup
 tw:Twl L
 un:∀s∈L,U s
 hd:L[0]?=some s0
def Cls(w:Af)(N:Nat)(L:List St)(i:Nat):Prop:=∀s∈L.take i,∀o∈Ec w N s,∀x∈o.to,x∈L
theorem CI.app{w:Af}{N:Nat}{H:Aa}{s0:St}{U:St→Prop}{L:List St}{i b:Nat}{av:St→AV}{h:Aa}(I:CI w N H s0 U L i b av h)(l:Aa):CI w N H s0 U L i b av (h++l):=by
 obtain⟨xl,hl⟩:=I.lst
 obtain⟨xb,hb⟩:=I.bx
 exact⟨a5Y I.keep l,Ai I.all l,⟨xl,Ai hl l⟩,Ai I.kn l,⟨xb,Ai hb l⟩,I.b2,I.b3,I.b4,fun s hs=>by
  obtain⟨R,h1,h2⟩:=I.ch s hs
  exact⟨R,aBA h1,h2⟩,I.nd,I.tw,I.un,I.hd⟩
theorem CI.call{w:Af}{N:Nat}{H:Aa}{s0:St}{U:St→Prop}{L:List St}{i b:Nat}{av:St→AV}{h:Aa}(I:CI w N H s0 U L i b av h){s:St}(hs:L[i]?=some s){v:AV}{R:List Nat}{G M:Aa}{c:CB}
 (e5:(h++[c]).length≤M.length) (e6:∀b,b<(h++[c]).length→M[b]?=(h++[c])[b]?) (e7:∀b,(h++[c]).length≤b→M[b]?=G[b]?) (hv:rd 6 (hf G) v=some (Be 4 false false ((Ec w N s).map Oc.cells),R)) (hR:∀j∈R,(h++[c]).length≤j):
 CI w N H s0 U L (i+1) b (fun y=>if y=s then v else av y) (M.set (H.length+1) (Dz (Fp (L.take i++[s]) fun y=>if y=s then v else av y))):=by
 obtain⟨xl,hl⟩:=I.lst
 obtain⟨xb,hb⟩:=I.bx
 have lA:=Ce I.all
 have ll:=Ce hl
 have lk:=Ce I.kn
 have lx:=Ce hb
 have b2:=I.b2
 have hlen:(h++[c]).length=h.length+1:=by simp
 have old:∀j,j<h.length→j≠H.length+1→(M.set (H.length+1) (Dz (Fp (L.take i++[s]) fun y=>if y=s then v else av y)))[j]?=h[j]?:=fun j hj hn=>by
  rw[abX (fun e=>hn e.symm),e6 j (by omega),af5 hj]
 have htk:L.take (i+1)=L.take i++[s]:=by rw[awN,hs];rfl
 refine⟨⟨by have:=I.keep.len;simp;omega,fun j hj hn=>by rw[old j (by omega) (by omega)];exact I.keep.same j hj hn⟩,by rw[htk];exact aBU (by omega),⟨xl,by rw[old b ll (by omega)];exact hl⟩,by rw[old _ lk (by omega)];exact I.kn,⟨xb,by rw[old _ lx (by omega)];exact hb⟩,I.b2,I.b3,I.b4,fun y hy=>?_,I.nd,I.tw,I.un,I.hd⟩
 by_cases e:y=s
 ·subst e
  refine⟨R,?_,fun j hj=>by have:=hR j hj;omega⟩
  rw[if_pos rfl]
  have:=av6 (g':=hf (M.set (H.length+1) (Dz (Fp (L.take i++[y]) fun z=>if z=y then v else av z)))) (Gl hv aoP) fun j hj z hz=>by
   have hj2:j∈R:=by simpa using hj
   have:=hR j hj2
   show((M.set _ _)[j]?).bind Ax=_
   rw[abX (by omega),e7 j this];exact hz
  obtain⟨a,l',R1,R2,e1,h1,h2,h3⟩:=Jd this
  cases e1
  obtain⟨_,rfl⟩:=akZ h2
  simp at h3
  rw[h1,←h3]
 ·rw[htk]at hy
  have hy2:y∈L.take i:=by
   rcases adC.1 hy with h|h
   ·exact h
   ·simp at h;exact absurd h e
  obtain⟨R0,h1,h2⟩:=I.ch y hy2
  refine⟨R0,?_,h2⟩
  rw[if_neg e]
  have:=av6 (g':=hf (M.set (H.length+1) (Dz (Fp (L.take i++[s]) fun z=>if z=s then v else av z)))) (Gl h1 aoP) fun j hj z hz=>by
   have hj2:j∈R0:=by simpa using hj
   have:=h2 j hj2
   show((M.set _ _)[j]?).bind Ax=_
   rw[old j (aLQ (by omega) (Gl h1 aoP) j hj) (by omega)];exact hz
  obtain⟨a,l',R1,R2,e1,h1',h2',h3⟩:=Jd this
  cases e1
  obtain⟨_,rfl⟩:=akZ h2'
  simp at h3
  rw[h1',←h3]
theorem aNM{g:HF}{d st b r n:Nat}{x:AV}{R:List Nat}{rows:List (List AV)}(h:rd (d+1) g (.slr st b r n)=some (x,R))(hb:(g b).bind Ax=some (st,true,rows)):b∈R:=by
 simp only[rd,hb,Option.bind_some,cond_true]at h
 split at h
 ·cases h;simp
 ·cases h
theorem bbI{H:Aa}{v:AV}{l:List Oc}{R:List Nat}(h:rd 6 (hf H) v=some (Be 4 false false (l.map Oc.cells),R)){j:Nat}{o:Oc}(hj:l[j]?=some o)(hne:o.to≠[]):
 ∃b bt,v=.slr 4 b 0 l.length∧Jk (H[b]?) j=some [.int .i64 o.k,.int .i64 (o.i:Int),.int .i64 o.c,.slr 25 bt 0 o.to.length]∧(hf H bt).bind Ax=some (25,true,o.to.map Db)∧bt∈R:=by
 rcases ai0 h with⟨_,h0⟩|⟨b,rows',rfl,hb,_,_,hr⟩
 ·obtain rfl:=aD2.1 h0;simp at hj
 ·obtain⟨q,hq,rfl,hx⟩:=aHJ h hb
  have hX:(l.map Oc.cells)[j]?=some o.cells:=by rw[aEQ,hj];rfl
  have hq1:q.1=l.map Oc.cells:=by
   have hl:l.map Oc.cells≠[]:=fun e=>by rw[e]at hX;simp at hX
   rw[Ko hl]at hx
   injection hx with _ _ h3
   exact h3.symm
  obtain⟨r,R2,k1,k2⟩:=azJ (i:=j) hq (by rw[hq1];exact hX)
  have hs:=aG3 hq k1 k2
  obtain⟨a1,l1,_,_,rfl,m1,n1,rfl⟩:=Jd k2
  obtain⟨a2,l2,_,_,rfl,m2,n2,rfl⟩:=Jd n1
  obtain⟨a3,l3,_,_,rfl,m3,n3,rfl⟩:=Jd n2
  obtain⟨a4,l4,_,_,rfl,m4,n4,rfl⟩:=Jd n3
  obtain⟨rfl,rfl⟩:=akZ n4
  obtain⟨rfl,rfl⟩:=aQG m1
  obtain⟨rfl,rfl⟩:=aQG m2
  obtain⟨rfl,rfl⟩:=aQG m3
  rcases ai0 m4 with⟨rfl,h0⟩|⟨bt,rows2,rfl,hb2,_,hfl,_⟩
  ·exact absurd (aD2.1 h0) hne
  ·obtain rfl:=hfl rfl
   refine⟨b,bt,by rw[abK],by rw[aED hb,k1,abK],hb2,List.mem_cons_of_mem _ (hs bt ?_)⟩
   have:=(aNM m4 hb2)
   simpa using this
theorem aBI(w:Af)(N:Nat)(s:St)(k:Int):(awP w N s k).length≤w.parts.length:=by
 have:=List.length_filterMap_le (choF w N s k) (List.range w.parts.length)
 unfold awP;simpa using this
theorem aP0(w:Af)(N:Nat)(s:St)(h:w.parts.length≤12):(Ec w N s).length≤48:=by
 have h1:=aBI w N s 1
 have h2:=aBI w N s 2
 have h3:=aBI w N s 3
 have h4:=aBI w N s 4
 simp only[Ec,List.length_append];omega
theorem aUA{α:Type}{l:List α}{i:Nat}{x:α}(h:l[i]?=some x):i<l.length:=(aJN.1 h).1
theorem CI.grow{w:Af}{N:Nat}{H:Aa}{s0:St}{U:St→Prop}{L:List St}{i b:Nat}{av:St→AV}{h:Aa}(I:CI w N H s0 U L i b av h)(hi:i≤L.length){x:St}(hx:x∉L)(hx2:x.1.length=12)(hU:U x)(c:CB):
 CI w N H s0 U (L++[x]) i (h.length+1) av ((h.set (H.length+3) (Dz (Fp (L++[x]) knT))).set b .dead++[c,.live 25 true false (L.map Db++[Db x])]):=by
 obtain⟨xl,hl⟩:=I.lst
 obtain⟨xb,hb⟩:=I.bx
 have lA:=Ce I.all
 have ll:=Ce hl
 have lk:=Ce I.kn
 have lx:=Ce hb
 have b2:=I.b2
 have b3:=I.b3
 have b4:=I.b4
 have old:∀j,j<h.length→j≠H.length+3→j≠b→((h.set (H.length+3) (Dz (Fp (L++[x]) knT))).set b .dead++[c,.live 25 true false (L.map Db++[Db x])])[j]?=h[j]?:=fun j hj h1 h2=>by
  rw[af5 (by simpa using hj),abX (fun e=>h2 e.symm),abX (fun e=>h1 e.symm)]
 have htk:(L++[x]).take i=L.take i:=aBV hi
 refine⟨⟨by have:=I.keep.len;simp;omega,fun j hj hn=>by rw[old j (by omega) (by omega) (by omega)];exact I.keep.same j hj hn⟩,by rw[htk,old _ lA (by omega) (by omega)];exact I.all,⟨false,?_⟩,?_,⟨xb,by rw[old _ lx (by omega) (by omega)];exact hb⟩,by omega,by omega,by omega,fun y hy=>?_,?_,?_,?_,?_⟩
 ·rw[az0 (by simp),List.map_append];simp
 ·rw[af5 (by simpa using lk),abX b3,aBU lk]
 ·rw[htk]at hy
  obtain⟨R0,h1,h2⟩:=I.ch y hy
  have hlt:=aLQ (by omega) (Gl h1 aoP)
  refine⟨R0,?_,fun j hj=>⟨(h2 j hj).1,by have:=hlt j (by simpa using hj);omega⟩⟩
  have:=av6 (g':=hf ((h.set (H.length+3) (Dz (Fp (L++[x]) knT))).set b .dead++[c,.live 25 true false (L.map Db++[Db x])])) (Gl h1 aoP) fun j hj z hz=>by
   have hj2:j∈R0:=by simpa using hj
   have h3:=h2 j hj2
   show((_++_:Aa)[j]?).bind Ax=_
   rw[old j (hlt j hj) (by omega) h3.2];exact hz
  obtain⟨a,l',R1,R2,e1,h1',h2',h3⟩:=Jd this
  cases e1
  obtain⟨_,rfl⟩:=akZ h2'
  simp at h3
  rw[h1',←h3]
 ·refine List.nodup_append.2 ⟨I.nd,by simp,fun a ha b hb=>?_⟩
  simp at hb;subst hb;exact fun e=>hx (e▸ha)
 ·intro y hy
  rcases adC.1 hy with h|h
  ·exact I.tw y h
  ·simp at h;rw[h];exact hx2
 ·intro y hy
  rcases adC.1 hy with h|h
  ·exact I.un y h
  ·simp at h;rw[h];exact hU
 ·have h0:=I.hd
  rw[af5 (aUA h0)];exact h0
structure CK(w:Af)(N:Nat)(H:Aa)(s0:St)(U:St→Prop)(L:List St)(b:Nat)(av:St→AV)(f:St→Nat)(h:Aa):Prop where
 keep:Iw [] H h
 all:h[H.length+1]?=some (Dz (Fp L av))
 lst:∃x,h[b]?=some (.live 25 true x (L.map Db))
 kn:h[H.length+3]?=some (Dz (Fp L (knV f)))
 bx:∃x,h[H.length+4]?=some (.live 1 false x [[.mapr (H.length+3)]])
 b2:H.length+2≤b
 b3:b≠H.length+3
 b4:b≠H.length+4
 ch:∀s∈L,∃R,rd 6 (hf h) (av s)=some (Be 4 false false ((Ec w N s).map Oc.cells),R)∧∀j∈R,H.length+5≤j∧j≠b
 nd:L.Nodup
 tw:Twl L
 un:∀s∈L,U s
 hd:L[0]?=some s0
theorem CI.toK{w:Af}{N:Nat}{H:Aa}{s0:St}{U:St→Prop}{L:List St}{b:Nat}{av:St→AV}{h:Aa}(I:CI w N H s0 U L L.length b av h):CK w N H s0 U L b av (fun _=>Az) h:=
 ⟨I.keep,by have:=I.all;rwa[azY]at this,I.lst,I.kn,I.bx,I.b2,I.b3,I.b4,fun s hs=>I.ch s (by rwa[azY]),I.nd,I.tw,I.un,I.hd⟩
theorem CK.app{w:Af}{N:Nat}{H:Aa}{s0:St}{U:St→Prop}{L:List St}{b:Nat}{av:St→AV}{f:St→Nat}{h:Aa}(I:CK w N H s0 U L b av f h)(l:Aa):CK w N H s0 U L b av f (h++l):=by
 obtain⟨xl,hl⟩:=I.lst
 obtain⟨xb,hb⟩:=I.bx
 exact⟨a5Y I.keep l,Ai I.all l,⟨xl,Ai hl l⟩,Ai I.kn l,⟨xb,Ai hb l⟩,I.b2,I.b3,I.b4,fun s hs=>by
  obtain⟨R,h1,h2⟩:=I.ch s hs
  exact⟨R,aBA h1,h2⟩,I.nd,I.tw,I.un,I.hd⟩
theorem CK.put{w:Af}{N:Nat}{H:Aa}{s0:St}{U:St→Prop}{L:List St}{b:Nat}{av:St→AV}{f:St→Nat}{h:Aa}(I:CK w N H s0 U L b av f h)(g:St→Nat):CK w N H s0 U L b av g (h.set (H.length+3) (Dz (Fp L (knV g)))):=by
 obtain⟨xl,hl⟩:=I.lst
 obtain⟨xb,hb⟩:=I.bx
 have lk:=Ce I.kn
 have b3:=I.b3
 have old:∀j,j≠H.length+3→(h.set (H.length+3) (Dz (Fp L (knV g))))[j]?=h[j]?:=fun j h1=>abX (fun e=>h1 e.symm)
 refine⟨⟨by have:=I.keep.len;simp;omega,fun j hj hn=>by rw[old j (by omega)];exact I.keep.same j hj hn⟩,by rw[old _ (by omega)];exact I.all,⟨xl,by rw[old b b3];exact hl⟩,aBU lk,⟨xb,by rw[old _ (by omega)];exact hb⟩,I.b2,I.b3,I.b4,fun y hy=>?_,I.nd,I.tw,I.un,I.hd⟩
 obtain⟨R0,h1,h2⟩:=I.ch y hy
 refine⟨R0,?_,h2⟩
 have:=av6 (g':=hf (h.set (H.length+3) (Dz (Fp L (knV g))))) (Gl h1 aoP) fun j hj z hz=>by
  have hj2:j∈R0:=by simpa using hj
  have h3:=h2 j hj2
  show((h.set _ _)[j]?).bind Ax=_
  rw[old j (by omega)];exact hz
 obtain⟨a,l',R1,R2,e1,h1',h2',h3⟩:=Jd this
 cases e1
 obtain⟨_,rfl⟩:=akZ h2'
 simp at h3
 rw[h1',←h3]
def mtS(l:List Ci)(f:St→Nat)(x:St):St→Nat:=if awW x.1 l then fun y=>if y=x then 0 else f y else f
theorem bgV{s:St}(h:s.1.length=12):agI 24 (Db s)=Do s.1:=by
 have:(Do s.1).length=24:=by rw[Cb];omega
 unfold Db;rw[aBV (by omega),adD (by omega)]
theorem aK6(f:St→Nat)(x:St)(n:Nat):(fun y=>if y=x then AV.int .i64 (n:Int)else knV f y)=knV fun y=>if y=x then n else f y:=by
 funext y;unfold knV;by_cases e:y=x<;>simp[e]
def rdS(w:Af)(N:Nat)(p:(St→Nat) × Bool)(x:St):(St→Nat) × Bool:=if acA p.1 (p.1 x) (Ec w N x)<p.1 x then(fun y=>if y=x then acA p.1 (p.1 x) (Ec w N x)else p.1 y,true)else p
theorem aJ3(f:St→Nat):∀(l:List Oc) (n:Nat),acA f n l≤n∧(∀o∈l,acA f n l≤wst f o)∧(acA f n l=n∨∃o∈l,acA f n l=wst f o)
 | [],n=>⟨ah1 _,by simp,.inl rfl⟩
 |o::l,n=>by
  obtain⟨h1,h2,h3⟩:=aJ3 f l (min n (wst f o))
  have e:acA f n (o::l)=acA f (min n (wst f o)) l:=rfl
  rw[e]
  refine⟨by omega,fun x hx=>?_,?_⟩
  ·rcases aDD.1 hx with rfl|hx
   ·omega
   ·exact h2 x hx
  ·rcases h3 with h|⟨x,hx,h⟩
   ·by_cases c:n≤wst f o
    ·exact .inl (by omega)
    ·exact .inr ⟨o,by simp,by omega⟩
   ·exact .inr ⟨x,by simp[hx],h⟩
theorem aTV{f:St→Nat}{x:St}{n:Nat}:∀{L:List St},(∀y∈L,y∈L)→n≤f x→(L.map fun y=>if y=x then n else f y).sum≤(L.map f).sum
 | [],_,_=>ah1 _
 |y::L,_,h=>by
  have:=aTV (L:=L) (fun _ h=>h) h
  simp only[List.map_cons,List.sum_cons]
  split
  ·rename_i e;subst e;omega
  ·omega
theorem aAK{f:St→Nat}{x:St}{n:Nat}(h:n<f x):∀{L:List St},x∈L→(L.map fun y=>if y=x then n else f y).sum<(L.map f).sum
 |y::L,hm=>by
  have h0:=aTV (f:=f) (L:=L) (fun _ h=>h) (Nat.le_of_lt h)
  simp only[List.map_cons,List.sum_cons]
  by_cases e:y=x
  ·subst e;rw[if_pos rfl];omega
  ·rw[if_neg e]
   rcases aDD.1 hm with e'|hm
   ·exact absurd e'.symm e
   ·have:=aAK h hm;omega
theorem aBN{w:Af}{N:Nat}{l:List Ci}{L:List St}:∀(r:List St),(∀x∈r,x∈L)→∀p:(St→Nat) × Bool,(akP w N l).Known Az L p.1→
 (akP w N l).Known Az L (r.foldl (rdS w N) p).1∧((L.map (r.foldl (rdS w N) p).1).sum≤(L.map p.1).sum)∧((r.foldl (rdS w N) p).2=true→p.2=true∨(L.map (r.foldl (rdS w N) p).1).sum<(L.map p.1).sum)∧
 ((r.foldl (rdS w N) p).2=false→r.foldl (rdS w N) p=p∧∀x∈r,∀o∈Ec w N x,p.1 x≤wst p.1 o)
 | [],_,p,K=>⟨K,ah1 _,.inl,fun _=>⟨rfl,by simp⟩⟩
 |x::r,hr,p,K=>by
  obtain⟨q1,q2,q3⟩:=aJ3 p.1 (Ec w N x) (p.1 x)
  simp only[aoW]
  by_cases c:acA p.1 (p.1 x) (Ec w N x)<p.1 x
  ·have e:rdS w N p x=(fun y=>if y=x then acA p.1 (p.1 x) (Ec w N x)else p.1 y,true):=by simp only[rdS,if_pos c]
   rw[e]
   rcases q3 with q3|⟨o,ho,q3⟩
   ·omega
   have hs:=aAK c (hr x (by simp))
   have K2:(akP w N l).Known Az L (fun y=>if y=x then acA p.1 (p.1 x) (Ec w N x)else p.1 y):=K.less (s:=x) (o:=(o.c.toNat,o.to)) (List.mem_map_of_mem ho) (hr x (by simp)) q3 c
   generalize(fun y=>if y=x then acA p.1 (p.1 x) (Ec w N x)else p.1 y)=g at hs K2 ⊢
   obtain⟨a1,a2,a3,a4⟩:=aBN r (fun y h=>hr y (by simp[h])) (g,true) K2
   refine⟨a1,by simp only at a2;omega,fun _=>.inr (by simp only at a2;omega),fun h=>?_⟩
   have:=(a4 h).1
   rw[this]at h
   cases h
  ·have e:rdS w N p x=p:=by simp only[rdS,if_neg c]
   rw[e]
   obtain⟨a1,a2,a3,a4⟩:=aBN r (fun y h=>hr y (by simp[h])) p K
   refine⟨a1,a2,a3,fun h=>⟨(a4 h).1,fun y hy o ho=>?_⟩⟩
   rcases aDD.1 hy with rfl|hy
   ·have:=q2 o ho;omega
   ·exact(a4 h).2 y hy o ho
theorem aAG(l:List Ci)(y:St):∀(L:List St) (f:St→Nat),L.foldl (mtS l) f y=if y∈L∧awW y.1 l=true then 0 else f y
 | [],f=>by simp
 |x::L,f=>by
  rw[aoW,aAG l y L]
  by_cases c:awW x.1 l=true
  ·by_cases e:y=x
   ·subst e;simp[mtS,c]
   ·simp[mtS,c,e]
  ·by_cases e:y=x
   ·subst e;simp[mtS,c]
   ·simp[mtS,c,e]
theorem bd6{w:Af}{N:Nat}{l:List Ci}{L:List St}(ho:∀s∈L,∀o∈Ec w N s,1≤o.c∧o.c≤1000∧o.to≠[]∧∀x∈o.to,x∈L):(akP w N l).Known Az L (L.foldl (mtS l) fun _=>Az):=by
 refine⟨fun s hs o h=>?_,fun s hs=>?_,fun s hs hg=>?_,fun s hs hlt=>?_,fun s hs hlt=>?_⟩
 ·obtain⟨c,hc,rfl⟩:=aA3.1 h
  obtain⟨a1,a2,a3,a4⟩:=ho s hs c hc
  exact⟨by show 1≤c.c.toNat;omega,by show c.c.toNat≤1000;omega,a3,a4⟩
 ·rw[aAG];split<;>simp
 ·rw[aAG];exact if_pos ⟨hs,hg⟩
 ·rw[aAG]at hlt ⊢
  split at hlt
  ·rename_i h;rw[if_pos h];exact .met h.2
  ·simp at hlt
 ·rw[aAG]at hlt
  split at hlt
  ·rename_i h;exact .inl h.2
  ·simp at hlt
theorem a91{w:Af}{N:Nat}(hw:WOk w N)(h12:w.parts.length≤12)(d:Int){H:Aa}{lb:Nat}{wf:Bool}(hlb:H[lb]?=some (arY w d wf)){s0:St}(hs:s0.1.length=12)(hf3:s0.2≤3)(l:List Ci)(nn:Bool)(hl:l.length≤maxLen)(hlp:∀x∈l,0≤x.part∧x.part<12)
 {U:St→Prop} {B:Nat} (hB39:B≤400000000000) (hU:∀L:List St,L.Nodup→(∀s∈L,U s)→L.length≤B) (hU0:U s0) (hUs:∀s,U s→s.1.length=12∧s.2≤3) (hUc:∀s,U s→∀o∈Ec w N s,1≤o.c∧o.c≤1000∧o.to≠[]∧o.to.length≤2∧∀x∈o.to,U x):
 ShQ Dp 41 [.ptr lb 0 0,.agg (Db s0),Be 3 true nn (l.map Ci.cells)] H fun o G=>∃(L:List St) (f:St→Nat) (av:St→AV) (b:Nat),o=.ret (.tup [.mapr (H.length+3),.mapr (H.length+1)])∧CK w N H s0 U L b av f G∧(akP w N l).Known Az L f∧∀x∈L,∀o∈Ec w N x,f x≤wst f o:=by
 have hlen:=hw.len
 have hsl:=Mc hs
 have hsf:=Hu s0
 have hsc:=Ix s0
 have htk:agI 25 (Db s0)=Db s0:=adD (by omega)
 refine aRM rfl Tryz.func41 rfl rfl ?_
 simp only[Tryz.f41]
 obtain⟨qC,hqC⟩:∃q,Fn.func 65=q:=⟨_,rfl⟩
 have hins:=a0W (h:=H++[CB.live 25 true false [Db s0],CB.lp [] Code.skip Code.skip [] Iz.map,CB.live 25 true false [Db s0],CB.lp [] Code.skip Code.skip [] Iz.map]) (b:=H.length+3) (L:=[]) (s:=s0) (by rw[az0 (by omega),aJQ];rfl) (by intro s hs;cases hs) hs (by simp)
 (have hb:=trivial;with_reducible repeat' (first|simp only[hb,Vc.down,seval,Jw.down,hsl,hsf,hsc,htk,hins,awQ.down,ba8,a7G,a6J,ai5,aoS,aoT,aFV,abK]|refine An ?_ ?_<;>intro hb|refine fd ?_|fail))
 refine Dy (cnt 117 (fun n (_:Unit) t h=>t 0=.ptr lb 0 0∧t 2=Be 3 true nn (l.map Ci.cells)∧t 8=.mapr (H.length+1)∧t 10=.ptr (H.length+4) 0 0∧∃(L:List St) (i b:Nat) (av:St→AV),t 9=.slr 25 b 0 L.length∧t 11=.int .i64 (i:Int)∧i+n=B∧i≤L.length∧CI w N H s0 U L i b av h∧Cls w N L i) (fun _ _=>())
  (fun _ e t h=>e=.exit 0∧t 0=.ptr lb 0 0∧t 2=Be 3 true nn (l.map Ci.cells)∧t 8=.mapr (H.length+1)∧t 10=.ptr (H.length+4) 0 0∧∃(L:List St) (b:Nat) (av:St→AV),t 9=.slr 25 b 0 L.length∧CI w N H s0 U L L.length b av h∧Cls w N L L.length) ?_ ?_ B () _ _ ?_) (fun e t h hk=>?_)
 ·rintro _ t h Q' kQ ⟨g0,g2,g8,g10,L,i,b,av,g9,g11,hi,hiL,I,hcl⟩
  have hLB:=hU L I.nd I.un
  obtain rfl:i=L.length:=by omega
  (have hb:=trivial;with_reducible repeat' (first|simp only[hb,Vc.down,seval,Jw.down,g9,g11,aoV,decide_false]|refine An ?_ ?_<;>intro hb|refine fd ?_|fail))
  exact kQ _ _ _ ⟨rfl,by simp[up,g0],by simp[up,g2],by simp[up,g8],by simp[up,g10],L,b,av,by simp[up,g9],I,hcl⟩
 ·rintro n _ t h J Q' kJ kQ ⟨g0,g2,g8,g10,L,i,b,av,g9,g11,hi,hiL,I,hcl⟩
  have hLB:=hU L I.nd I.un
  by_cases hlt:i<L.length
  ·obtain⟨s,hs'⟩:∃s,L[i]?=some s:=⟨_,aHX hlt⟩
   have hsm:=abL hs'
   obtain⟨hs12,hsf3⟩:=hUs s (I.un s hsm)
   obtain⟨xl,hlst⟩:=I.lst
   have hdd:decide ((i:Int)<(L.length:Int))=true:=decide_eq_true (by omega)
   have hip:((i:Int)<(L.length:Int))=True:=eq_true (by omega)
   have z1:=Mc hs12
   have z2:=Hu s
   have z3:=Ix s
   have z4:agI 25 (Db s)=Db s:=adD (by omega)
   (have hb:=trivial;with_reducible repeat' (first|simp only[hb,Vc.down,seval,Jw.down,g0,g8,g9,g11,hdd,hip,hlst,hs',z1,z2,z3,z4,hqC,awQ.down,abK]|refine An ?_ ?_<;>intro hb|refine fd ?_|fail))
   generalize hE:cl Dp (h++[CB.live 25 true true [Db s]]) (some (.func qC [] [])) (some [.ptr lb 0 0,.agg (Db s)])=E
   rw[←hqC]at hE
   have hlb2:(Hn (h++[CB.live 25 true true [Db s]]))[lb]?=some (arY w d false):=by
    have h1:(h++[CB.live 25 true true [Db s]])[lb]?=some (arY w d wf):=Ai ((I.keep.same lb (Ce hlb) (by simp)).trans hlb) _
    rw[Es h1];rfl
   obtain⟨o,G,es,M,e1,e2,⟨v,R,rfl,hv,hR⟩,e4,e5,e6,e7,e8⟩:=a1U (O:=Dp) (f:=65) (H:=h++[CB.live 25 true true [Db s]]) (args:=[.ptr lb 0 0,.agg (Db s)]) rfl rfl (aVA hw h12 d hlb2 hs12 hsf3)
   have e9:=hE.symm.trans e1
   subst e9
   rw[Cj]at hR
   have hft:ftC Dp (h++[CB.live 25 true true [Db s]]) (some (.func qC [] [])) (some [.ptr lb 0 0,.agg (Db s)])=some [.all]:=by
    rw[←hqC,aRA];rfl
   obtain⟨p1,p2⟩:=a4V hv
   have hMall:M[H.length+1]?=some (Dz (Fp (L.take i) av)):=(e6 _ (by have:=Ce I.all;simp;omega)).trans (Ai I.all _)
   have hnt:s∉L.take i:=fun hm=>by
    obtain⟨j,hj⟩:=List.getElem?_of_mem hm
    have hji:j<i:=by
     have:=(aJN.1 hj).1
     simp at this;omega
    rw[List.getElem?_take_of_lt hji]at hj
    have:=aGL I.nd hj hs'
    omega
   have hms:=bgJ hMall (fun x hx=>I.tw x (aJ4 hx)) hs12 hnt v
   have hMbx:M[h.length]?=some (.live 25 true true [Db s]):=(e6 _ (by simp)).trans (by rw[az0 (ah1 _),Nat.sub_self];rfl)
   obtain⟨av2,hav2⟩:∃av2:St→AV,(fun y=>if y=s then v else av y)=av2:=⟨_,rfl⟩
   rw[hav2]at hms
   have hav2s:av2 s=v:=by rw[←hav2];simp
   have hAM:=Ce hMall
   have hAh:H.length+1≠h.length:=by have:=Ce I.all;omega
   have hM2:(M.set (H.length+1) (Dz (Fp (L.take i++[s]) av2)))[H.length+1]?=some (Dz (Fp (L.take i++[s]) av2)):=aBU hAM
   have hMb2:(M.set (H.length+1) (Dz (Fp (L.take i++[s]) av2)))[h.length]?=some (.live 25 true true [Db s]):=by rw[abX hAh];exact hMbx
   have hlk:=a2N hM2 (fun x hx=>by
    rcases adC.1 hx with hx|hx
    ·exact I.tw x (aJ4 hx)
    ·simp at hx;rw[hx];exact hs12) (s:=s) (by simp)
   rw[hav2s]at hlk
   have hln:=a6N hv
   have hic:v.isCell=true:=p1
   (have hb:=trivial;with_reducible repeat' (first|simp only[hb,Vc.down,seval,Jw.down,g8,e2,hft,hms,hM2,hMb2,hlk,hln,hic,p2,z1,z2,z3,z4,awQ.down,aoT,aFV,ai5,aoS]|refine An ?_ ?_<;>intro hb|refine fdq ?_|fail))
   refine aQX (fun b=>if b=h.length then 0 else 1) [([],[]),([],[.cells 0 0 25]),([],[]),([],[.cells 0 0 25]),([.blk 1],[.all]),([.blk 1],[.blk 1])] (by kernel_rfl) ?_ (fun _=>?_)
   ·have hes:∀e∈es,mfF (fun b=>if b=h.length then 0 else 1) e.foot=.blk 1:=fun e he=>by
     obtain⟨b',k1,k2⟩:=e8 e he
     have hne:b'≠h.length:=by
      rcases k2 with k2|⟨c,k3,k4⟩
      ·simp at k2;omega
      ·intro e';subst e'
       rw[az0 (ah1 _),Nat.sub_self]at k3
       simp at k3;subst k3;cases k4
     rw[k1];simp[mfF,hne]
    simp only[aB2,aES]
    refine⟨by simp,by simp,by simp,by simp[mfF],by simp,by simp,by simp,by simp[mfF],fun e he=>.inr (by rw[hes e he];simp),by simp,by simp[Ad.foot,mfF,hAh],by simp[mfF,hAh],trivial⟩
   have I1:=I.call hs' e5 e6 e7 hv hR
   rw[hav2]at I1
   have hCl:(Ec w N s).length≤48:=aP0 w N s h12
   have hUo:=hUc s (I.un s hsm)
   refine Dy (lst 117 (Ec w N s) (fun j (_:Unit) t h=>t 0=.ptr lb 0 0∧t 2=Be 3 true nn (l.map Ci.cells)∧t 8=.mapr (H.length+1)∧t 10=.ptr (H.length+4) 0 0∧t 11=.int .i64 (i:Int)∧t 48=v∧t 49=.int .i64 ((Ec w N s).length:Int)∧t 50=.int .i64 (j:Int)∧∃(L':List St) (b':Nat),t 9=.slr 25 b' 0 L'.length∧L <+:L'∧CI w N H s0 U L' (i+1) b' av2 h∧∀o∈(Ec w N s).take j,∀x∈o.to,x∈L') (fun _ _=>())
    (fun _ e t h=>e=.exit 2∧t 0=.ptr lb 0 0∧t 2=Be 3 true nn (l.map Ci.cells)∧t 8=.mapr (H.length+1)∧t 10=.ptr (H.length+4) 0 0∧t 11=.int .i64 (i:Int)∧∃(L':List St) (b':Nat),t 9=.slr 25 b' 0 L'.length∧L <+:L'∧CI w N H s0 U L' (i+1) b' av2 h∧∀o∈Ec w N s,∀x∈o.to,x∈L') ?_ ?_ () _ _ ?_) (fun e t h hk=>?_)
   ·rintro _ t h Q'' kQ ⟨g0,g2,g8,g10,g11,g48,g49,g50,L',b',g9,hp,I',ho⟩
    rw[azY]at ho
    (have hb:=trivial;with_reducible repeat' (first|simp only[hb,Vc.down,seval,Jw.down,g49,g50,aoV,decide_false]|refine An ?_ ?_<;>intro hb|refine fd ?_|fail))
    exact kQ _ _ _ ⟨rfl,by simp[up,g0],by simp[up,g2],by simp[up,g8],by simp[up,g10],by simp[up,g11],L',b',by simp[up,g9],hp,I',ho⟩
   ·rintro o rest j _ t h J' Q'' kJ' kQ' hx hj ⟨g0,g2,g8,g10,g11,g48,g49,g50,L',b',g9,hp,I',ho⟩
    have hdj:decide ((j:Int)<((Ec w N s).length:Int))=true:=decide_eq_true (by omega)
    have hij:((j:Int)<((Ec w N s).length:Int))=True:=eq_true (by omega)
    have hwj:=Bv hj (by unfold maxLen;omega)
    obtain⟨u0,u1,u2,u3,u4⟩:=hUo o (abL hx)
    obtain⟨X,rfl⟩:=hp
    have hst:s∈(L++X).take (i+1):=by
     rw[aBV (by omega),awN,hs'];simp
    obtain⟨R',hv',hR'⟩:=I'.ch s hst
    rw[hav2s]at hv'
    obtain⟨bv,bt,hvv,y1,y2,y3⟩:=bbI hv' hx u2
    rw[hvv]at g48
    have hbt:=hR' bt y3
    (have hb:=trivial;with_reducible repeat' (first|simp only[hb,Vc.down,seval,Jw.down,g48,g49,g50,hdj,hij,y1,aoT,aFV,ai5,aoS,abK]|refine An ?_ ?_<;>intro hb|refine fd ?_|fail))
    refine Dy (lst 117 o.to (fun m (_:Unit) t h=>t 0=.ptr lb 0 0∧t 2=Be 3 true nn (l.map Ci.cells)∧t 8=.mapr (H.length+1)∧t 10=.ptr (H.length+4) 0 0∧t 11=.int .i64 (i:Int)∧t 48=v∧t 49=.int .i64 ((Ec w N s).length:Int)∧t 50=.int .i64 (j:Int)∧t 55=.slr 25 bt 0 o.to.length∧t 56=.int .i64 (o.to.length:Int)∧t 57=.int .i64 (m:Int)∧(hf h bt).bind Ax=some (25,true,o.to.map Db)∧∃(L':List St) (b':Nat),t 9=.slr 25 b' 0 L'.length∧bt≠b'∧L <+:L'∧CI w N H s0 U L' (i+1) b' av2 h∧(∀o∈(Ec w N s).take j,∀x∈o.to,x∈L')∧∀x∈o.to.take m,x∈L') (fun _ _=>())
     (fun _ e t h=>e=.exit 4∧t 0=.ptr lb 0 0∧t 2=Be 3 true nn (l.map Ci.cells)∧t 8=.mapr (H.length+1)∧t 10=.ptr (H.length+4) 0 0∧t 11=.int .i64 (i:Int)∧t 48=v∧t 49=.int .i64 ((Ec w N s).length:Int)∧t 50=.int .i64 (j:Int)∧∃(L':List St) (b':Nat),t 9=.slr 25 b' 0 L'.length∧L <+:L'∧CI w N H s0 U L' (i+1) b' av2 h∧(∀o∈(Ec w N s).take j,∀x∈o.to,x∈L')∧∀x∈o.to,x∈L') ?_ ?_ () _ _ ?_) (fun e t h hk=>?_)
    ·rintro _ t h Q3 kQ3 ⟨g0,g2,g8,g10,g11,g48,g49,g50,g55,g56,g57,z5,L',b',g9,hnb,hp,I',ho,hm⟩
     rw[azY]at hm
     (have hb:=trivial;with_reducible repeat' (first|simp only[hb,Vc.down,seval,Jw.down,g56,g57,aoV,decide_false]|refine An ?_ ?_<;>intro hb|refine fd ?_|fail))
     exact kQ3 _ _ _ ⟨rfl,by simp[up,g0],by simp[up,g2],by simp[up,g8],by simp[up,g10],by simp[up,g11],by simp[up,g48],by simp[up,g49],by simp[up,g50],L',b',by simp[up,g9],hp,I',ho,hm⟩
    ·rintro x rest m _ t h J3 Q3 kJ3 kQ3 hx3 hm3 ⟨g0,g2,g8,g10,g11,g48,g49,g50,g55,g56,g57,z5,L',b',g9,hnb,hp,I',ho,hm⟩
     have hdm:decide ((m:Int)<(o.to.length:Int))=true:=decide_eq_true (by omega)
     have him:((m:Int)<(o.to.length:Int))=True:=eq_true (by omega)
     have hwm:=Bv hm3 (by unfold maxLen;omega)
     have hxU:=u4 x (abL hx3)
     obtain⟨hx12,_⟩:=hUs x hxU
     have w1:=Mc hx12
     have w2:=Hu x
     have w3:=Ix x
     have w4:agI 25 (Db x)=Db x:=adD (by omega)
     have yx:Jk (h[bt]?) m=some (Db x):=by rw[aED z5,aEQ,hx3];rfl
     obtain⟨xb,hbx⟩:=I'.bx
     obtain⟨xl',hlst'⟩:=I'.lst
     have hbx2:=Ai hbx
     have hkn2:=Ai I'.kn
     by_cases hin:x∈L'
     ·have hlk2:=fun q=>bgY (v:=knT) (hkn2 q) I'.tw hin
      (have hb:=trivial;with_reducible repeat' (first|simp only[hb,Vc.down,seval,Jw.down,g10,g55,g56,g57,hdm,him,hwm,yx,w1,w2,w3,w4,hbx2,hkn2,hlk2,awQ.down,abK]|refine An ?_ ?_<;>intro hb|refine fd ?_|fail))
      exact Aq (kJ3 _ _ () ⟨by simp[up,g0],by simp[up,g2],by simp[up,g8],by simp[up,g10],by simp[up,g11],by simp[up,g48],by simp[up,g49],by simp[up,g50],by simp[up,g55],by simp[up,g56],by simp[up],by
       show((_++_:Aa)[bt]?).bind Ax=_
       rw[af5 (aAD z5)];exact z5,L',b',by simp[up,g9],hnb,hp,I'.app _,ho,fun y hy=>by
       rw[awN,hx3]at hy
       rcases adC.1 hy with h|h
       ·exact hm y h
       ·simp at h;rw[h];exact hin⟩ rfl)
     ·have hlk2:=fun q=>bjQ (hkn2 q) I'.tw hx12 hin
      have hms2:=fun q=>a0W (hkn2 q) I'.tw hx12 hin
      have hLB':=hU L' I'.nd I'.un
      have hkl:=Ce I'.kn
      have hbl:=Ce hlst'
      have hSk:=Io hkl
      have b3':=I'.b3
      have b4':=I'.b4
      have hbx3:∀q,(h.set (H.length+3) (Dz (Fp (L'++[x]) knT))++q)[H.length+4]?=some (.live 1 false xb [[.mapr (H.length+3)]]):=fun q=>aEH _ (by omega) hbx q
      have hlst3:∀q,(h.set (H.length+3) (Dz (Fp (L'++[x]) knT))++q)[b']?=some (.live 25 true xl' (L'.map Db)):=fun q=>aEH _ (fun e=>b3' e.symm) hlst' q
      have hSb:∀q c,(h.set (H.length+3) (Dz (Fp (L'++[x]) knT))++q).set b' c=(h.set (H.length+3) (Dz (Fp (L'++[x]) knT))).set b' c++q:=fun q c=>List.set_append_left _ _ (by simpa using hbl)
      have hi39:(L'.length+1≤549755813888)=True:=eq_true (by omega)
      (have hb:=trivial;with_reducible repeat' (first|simp only[hb,Vc.down,seval,Jw.down,g9,g10,g55,g56,g57,hdm,him,hwm,yx,w1,w2,w3,w4,hbx2,hkn2,hlk2,hms2,hSk,hbx3,hlst3,hSb,hi39,Ht,Gg,List.length_set,awQ.down,abK]|refine An ?_ ?_<;>intro hb|refine fd ?_|fail))
      have hIL:i+1≤L'.length:=by have:=hp.length_le;omega
      have hg:=(I'.app [.live 25 true true [Db x]]).grow hIL hin hx12 hxU (.live 25 true false [Db x])
      have he:((h++[CB.live 25 true true [Db x]]).set (H.length+3) (Dz (Fp (L'++[x]) knT))).set b' .dead++[CB.live 25 true false [Db x],CB.live 25 true false (L'.map Db++[Db x])]=(h.set (H.length+3) (Dz (Fp (L'++[x]) knT))).set b' .dead++[CB.live 25 true true [Db x],CB.live 25 true false [Db x],CB.live 25 true false (L'.map Db++[Db x])]:=by
       rw[hSk,hSb,List.append_assoc];rfl
      rw[he]at hg
      have hbl2:=aAD z5
      refine Aq (kJ3 _ _ () ⟨by simp[up,g0],by simp[up,g2],by simp[up,g8],by simp[up,g10],by simp[up,g11],by simp[up,g48],by simp[up,g49],by simp[up,g50],by simp[up,g55],by simp[up,g56],by simp[up],?_,L'++[x],(h++[CB.live 25 true true [Db x]]).length+1,by simp[up],by simp;omega,hp.trans (aKO _ _),hg,fun o' ho' x' hx'=>aHY _ (ho o' ho' x' hx'),fun y hy=>?_⟩ rfl)
      ·show((_++_:Aa)[bt]?).bind Ax=_
       rw[af5 (by simpa using hbl2),abX (fun e=>hnb e.symm),abX (by have:=hbt.1;omega)]
       exact z5
      ·rw[awN,hx3]at hy
       rcases adC.1 hy with h|h
       ·exact aHY _ (hm y h)
       ·simp at h;rw[h];simp
    ·exact⟨by simp[up,g0],by simp[up,g2],by simp[up,g8],by simp[up,g10],by simp[up,g11],by simp[up,g48,hvv],by simp[up,g49],by simp[up,g50],by simp[up],by simp[up],by simp[up],by
      show((_++_:Aa)[bt]?).bind Ax=_
      rw[af5 (aAD y2)];exact y2,L++X,b',by simp[up,g9],hbt.2,aKO _ _,I'.app _,ho,by simp⟩
    obtain⟨rfl,g0,g2,g8,g10,g11,g48,g49,g50,L',b',g9,hp,I',ho,hm⟩:=hk
    (have hb:=trivial;with_reducible repeat' (first|simp only[hb,Vc.down,seval,Jw.down,g50,hwj]|refine An ?_ ?_<;>intro hb|refine fd ?_|fail))
    exact Aq (kJ' _ _ () ⟨by simp[up,g0],by simp[up,g2],by simp[up,g8],by simp[up,g10],by simp[up,g11],by simp[up,g48],by simp[up,g49],by simp[up],L',b',by simp[up,g9],hp,I',fun o' ho'=>by
     rw[awN,hx]at ho'
     rcases adC.1 ho' with h|h
     ·exact ho o' h
     ·simp at h;subst h;exact hm⟩ rfl)
   ·exact⟨by simp[up,g0],by simp[up,g2],by simp[up,g8],by simp[up,g10],by simp[up,g11],by simp[up],by simp[up],by simp[up],L,b,by simp[up,g9],List.prefix_refl _,I1,by simp⟩
   obtain⟨rfl,g0,g2,g8,g10,g11,L',b',g9,⟨X,rfl⟩,I',ho⟩:=hk
   have hwi:IntKind.i64.wrap ((i:Int)+1)=((i+1:Nat):Int):=by rw[Bf (by omega) (by omega)];omega
   (have hb:=trivial;with_reducible repeat' (first|simp only[hb,Vc.down,seval,Jw.down,g11,hwi]|refine An ?_ ?_<;>intro hb|refine fd ?_|fail))
   refine Aq (kJ _ _ () ⟨by simp[up,g0],by simp[up,g2],by simp[up,g8],by simp[up,g10],L++X,i+1,b',av2,by simp[up,g9],by simp[up],by omega,by simp;omega,I',fun y hy o' ho' x' hx'=>?_⟩ rfl)
   rw[aBV (by omega),awN,hs']at hy
   rcases adC.1 hy with hy|hy
   ·exact aHY _ (hcl y hy o' ho' x' hx')
   ·simp at hy;subst hy;exact ho o' ho' x' hx'
  ·obtain rfl:i=L.length:=by omega
   (have hb:=trivial;with_reducible repeat' (first|simp only[hb,Vc.down,seval,Jw.down,g9,g11,aoV,decide_false]|refine An ?_ ?_<;>intro hb|refine fd ?_|fail))
   exact kQ _ _ _ ⟨rfl,by simp[up,g0],by simp[up,g2],by simp[up,g8],by simp[up,g10],L,b,av,by simp[up,g9],I,hcl⟩
 ·refine⟨by simp[up,Lx],by simp[up,Lx],by simp[up],by simp[up],[s0],0,H.length+2,fun _=>.nils,by simp[up],by simp[up],by omega,by simp,?_,by intro s hs;simp at hs⟩
  have at':∀(j:Nat) (c:CB) (X:Aa),X[j]?=some c→(H++X)[H.length+j]?=some c:=fun j c X h=>by rw[az0 (by omega),aJQ];exact h
  exact⟨Iw.app _ _,at' 1 _ _ rfl,⟨_,at' 2 _ _ rfl⟩,at' 3 _ _ rfl,⟨_,at' 4 _ _ rfl⟩,by omega,by omega,by omega,by intro s hs;simp at hs,by simp,by intro s hs';simp at hs';rw[hs'];exact hs,by intro s hs';simp at hs';rw[hs'];exact hU0,rfl⟩
 obtain⟨rfl,g0,g2,g8,g10,L,b,av,g9,I,hcl⟩:=hk
 have hLB:=hU L I.nd I.un
 have K:=I.toK
 have hL9:L.length≤maxLen:=by unfold maxLen;omega
 (have hb:=trivial;with_reducible repeat' (first|simp only[hb,Vc.down,seval,Jw.down,g9]|refine An ?_ ?_<;>intro hb|refine fd ?_|fail))
 refine Dy (lst 117 L (fun i (f:St→Nat) t h=>t 0=.ptr lb 0 0∧t 2=Be 3 true nn (l.map Ci.cells)∧t 8=.mapr (H.length+1)∧t 9=.slr 25 b 0 L.length∧t 10=.ptr (H.length+4) 0 0∧t 77=.slr 25 b 0 L.length∧t 78=.int .i64 (L.length:Int)∧t 79=.int .i64 (i:Int)∧CK w N H s0 U L b av f h) (fun rest f=>rest.foldl (mtS l) f)
  (fun f e t h=>e=.exit 6∧t 0=.ptr lb 0 0∧t 2=Be 3 true nn (l.map Ci.cells)∧t 8=.mapr (H.length+1)∧t 9=.slr 25 b 0 L.length∧t 10=.ptr (H.length+4) 0 0∧CK w N H s0 U L b av f h) ?_ ?_ (fun _=>Az) _ _ ?_) (fun e t h hk=>?_)
 ·rintro f t h Q' kQ ⟨g0,g2,g8,g9,g10,g77,g78,g79,K⟩
  (have hb:=trivial;with_reducible repeat' (first|simp only[hb,Vc.down,seval,Jw.down,g78,g79,aoV,decide_false]|refine An ?_ ?_<;>intro hb|refine fd ?_|fail))
  exact kQ _ _ _ ⟨rfl,by simp[up,g0],by simp[up,g2],by simp[up,g8],by simp[up,g9],by simp[up,g10],K⟩
 ·rintro x rest i f t h J Q' kJ kQ hx hi ⟨g0,g2,g8,g9,g10,g77,g78,g79,K⟩
  have hdd:decide ((i:Int)<(L.length:Int))=true:=decide_eq_true (by omega)
  have hii:((i:Int)<(L.length:Int))=True:=eq_true (by omega)
  have hww:=Bv hi hL9
  obtain⟨xl,hlst⟩:=K.lst
  obtain⟨xb,hbx⟩:=K.bx
  have hxm:=abL hx
  have hx12:=K.tw x hxm
  have w1:=Mc hx12
  have w2:=Hu x
  have w3:=Ix x
  have w4:agI 25 (Db x)=Db x:=adD (by omega)
  have hbx2:=Ai hbx
  have hkn2:=Ai K.kn
  have hM:=bnY hx12 l nn hl hlp
  have hms2:=fun q=>aRF (hkn2 q) K.tw K.nd hxm (.int .i64 0)
  have hSk:=Io (Ce K.kn)
  generalize hmb:awW x.1 l=mb at *
  have w5:=bgV hx12
  have w6:=ao2 x.1 6
  cases mb with
  |false=>
   (have hb:=trivial;with_reducible repeat' (first|simp only[hb,Vc.down,seval,Jw.down,g2,g8,g9,g10,g77,g78,g79,hdd,hii,hww,hlst,hx,w1,w2,w3,w4,w5,w6,hbx2,hkn2,hM,hms2,hSk,awQ.down,abK]|refine An ?_ ?_<;>intro hb|refine fd ?_|fail))
   have hf:mtS l f x=f:=by simp[mtS,hmb]
   exact Aq (kJ _ _ f ⟨by simp[up,g0],by simp[up,g2],by simp[up,g8],by simp[up,g9],by simp[up,g10],by simp[up,g77],by simp[up,g78],by simp[up],K.app _⟩ (by rw[aoW,hf]))
  |true=>
   (have hb:=trivial;with_reducible repeat' (first|simp only[hb,Vc.down,seval,Jw.down,g2,g8,g9,g10,g77,g78,g79,hdd,hii,hww,hlst,hx,w1,w2,w3,w4,w5,w6,hbx2,hkn2,hM,hms2,hSk,awQ.down,abK]|refine An ?_ ?_<;>intro hb|refine fd ?_|fail))
   have hf:mtS l f x=fun y=>if y=x then 0 else f y:=by simp[mtS,hmb]
   have hkp:(fun y=>if y=x then AV.int .i64 0 else knV f y)=knV (mtS l f x):=by rw[hf];exact aK6 f x 0
   rw[hkp]
   exact Aq (kJ _ _ (mtS l f x) ⟨by simp[up,g0],by simp[up,g2],by simp[up,g8],by simp[up,g9],by simp[up,g10],by simp[up,g77],by simp[up,g78],by simp[up],(K.put (mtS l f x)).app _⟩ rfl)
 ·exact⟨by simp[up,g0],by simp[up,g2],by simp[up,g8],by simp[up,g9],by simp[up,g10],by simp[up],by simp[up],by simp[up],K⟩
 obtain⟨rfl,g0,g2,g8,g9,g10,K⟩:=hk
 have hK0:=bd6 (w:=w) (N:=N) (l:=l) (L:=L) fun s hs o ho=>by
  obtain⟨u0,u1,u2,u3,u4⟩:=hUc s (I.un s hs) o ho
  exact⟨u0,u1,u2,fun x hx=>hcl s (by rwa[azY]) o ho x hx⟩
 (have hb:=trivial;with_reducible repeat' (first|simp only[hb,Vc.down,seval,Jw.down]|refine An ?_ ?_<;>intro hb|refine fd ?_|fail))
 refine Dy (cnt 117 (fun n (_:Unit) t h=>t 0=.ptr lb 0 0∧t 8=.mapr (H.length+1)∧t 9=.slr 25 b 0 L.length∧t 10=.ptr (H.length+4) 0 0∧∃f,CK w N H s0 U L b av f h∧(akP w N l).Known Az L f∧(L.map f).sum<n) (fun _ _=>())
  (fun _ e t h=>e=.exit 8∧t 8=.mapr (H.length+1)∧t 10=.ptr (H.length+4) 0 0∧∃f,CK w N H s0 U L b av f h∧(akP w N l).Known Az L f∧∀x∈L,∀o∈Ec w N x,f x≤wst f o) ?_ ?_ ((L.map (L.foldl (mtS l) fun _=>Az)).sum+1) () _ _ ?_) (fun e t h hk=>?_)
 ·rintro _ t h Q' kQ ⟨_,_,_,_,f,_,_,hn⟩
  omega
 ·rintro n _ t h J Q' kJ kQ ⟨g0,g8,g9,g10,f,K,hKn,hn⟩
  (have hb:=trivial;with_reducible repeat' (first|simp only[hb,Vc.down,seval,Jw.down,g9]|refine An ?_ ?_<;>intro hb|refine fd ?_|fail))
  refine Dy (lst 117 L (fun i (p:(St→Nat) × Bool) t h=>t 0=.ptr lb 0 0∧t 8=.mapr (H.length+1)∧t 9=.slr 25 b 0 L.length∧t 10=.ptr (H.length+4) 0 0∧t 21=.bool p.2∧t 90=.slr 25 b 0 L.length∧t 91=.int .i64 (L.length:Int)∧t 92=.int .i64 (i:Int)∧CK w N H s0 U L b av p.1 h∧(akP w N l).Known Az L p.1) (fun rest p=>rest.foldl (rdS w N) p)
   (fun p e t h=>e=.exit 10∧t 0=.ptr lb 0 0∧t 8=.mapr (H.length+1)∧t 9=.slr 25 b 0 L.length∧t 10=.ptr (H.length+4) 0 0∧t 21=.bool p.2∧CK w N H s0 U L b av p.1 h) ?_ ?_ (f,false) _ _ ?_) (fun e t h hk=>?_)
  ·rintro p t h Q' kQ ⟨g0,g8,g9,g10,g21,g90,g91,g92,K,_⟩
   (have hb:=trivial;with_reducible repeat' (first|simp only[hb,Vc.down,seval,Jw.down,g91,g92,aoV,decide_false]|refine An ?_ ?_<;>intro hb|refine fd ?_|fail))
   exact kQ _ _ _ ⟨rfl,by simp[up,g0],by simp[up,g8],by simp[up,g9],by simp[up,g10],by simp[up,g21],K⟩
  ·rintro x rest i p t h J Q' kJ kQ hx hi ⟨g0,g8,g9,g10,g21,g90,g91,g92,K,hKn⟩
   have hdd:decide ((i:Int)<(L.length:Int))=true:=decide_eq_true (by omega)
   have hii:((i:Int)<(L.length:Int))=True:=eq_true (by omega)
   have hww:=Bv hi hL9
   obtain⟨xl,hlst⟩:=K.lst
   obtain⟨xb,hbx⟩:=K.bx
   have hxm:=abL hx
   have hx12:=K.tw x hxm
   have w1:=Mc hx12
   have w2:=Hu x
   have w3:=Ix x
   have w4:agI 25 (Db x)=Db x:=adD (by omega)
   have hbx2:=Ai hbx
   have hkn2:=Ai K.kn
   have hall2:=Ai K.all
   have hlkA:=fun q=>a2N (hall2 q) K.tw hxm
   have hlkK:=fun q=>aR7 (hkn2 q) K.tw hxm
   obtain⟨R,hrd,hR⟩:=K.ch x hxm
   obtain⟨p1,p2⟩:=a4V hrd
   have hic:(av x).isCell=true:=p1
   have hkx:knV p.1 x=.int .i64 (p.1 x:Int):=rfl
   have hCl:(Ec w N x).length≤48:=aP0 w N x h12
   have hL1:=a7P (f:=p.1) K.tw hKn.le (l:=Ec w N x) (fun o ho=>by
    obtain⟨u0,u1,u2,u3,u4⟩:=hUc x (K.un x hxm) o ho
    exact⟨by omega,u1,fun z hz=>hcl x (by rwa[azY]) o ho z hz,u2,u3⟩) (by unfold maxLen;omega) false (p.1 x) false
   have hrv:=fun q=>aAW (e:=12) (by omega) (aBA (l:=q) hrd)
   obtain⟨v,hav⟩:∃v,av x=v:=⟨_,rfl⟩
   rw[hav]at hlkA hrd hic p2 hrv
   change ∀q,rdV (h++q) v=_ at hrv
   rcases ai0 hrd with⟨rfl,h0⟩|⟨vb,vr,rfl,hvb,_,_,hvr⟩
   ·rw[h0]at hL1
    rw[show Be 4 false false []=AV.nils from rfl]at hL1
    have hne1:(H.length+1=H.length)=False:=eq_false (by omega)
    (have hb:=trivial;with_reducible repeat' (first|simp only[hb,Vc.down,seval,Jw.down,g8,g10,g90,g91,g92,hdd,hii,hlst,hx,w1,w2,w3,w4,hbx2,hkn2,hall2,hlkA,hlkK,hic,p2,hkx,hne1,hL1,aCA,aLL,aLD,a1Z,awQ.down,abK]|refine An ?_ ?_<;>intro hb|refine fdq ?_|fail))
    refine aQX (fun _=>0) [([],[]),([],[.cells 0 0 25]),([],[.blk 0]),([],[]),([],[.cells 0 0 1]),([],[.cells 0 0 25]),([],[.blk 0]),([],[.blk 0]),([],[])] (by kernel_rfl) ?_ (fun _=>?_)
    ·simp only[aB2,aES]
     exact⟨by simp,by simp,by simp,by simp[mfF],by simp,by simp[mfF],by simp,by simp,by simp,by simp[mfF],by simp,by simp[mfF],by simp,by simp[mfF],by simp,by simp[mfF],by simp,by simp,trivial⟩
    ·cases c:decide (((acA p.1 (p.1 x) (Ec w N x):Nat):Int)<((p.1 x:Nat):Int))with
     |false=>
      have hst:rdS w N p x=p:=by
       unfold rdS;rw[if_neg]
       have:=of_decide_eq_false c
       omega
      (have hb:=trivial;with_reducible repeat' (first|simp only[hb,Vc.down,seval,Jw.down,g92,hww,c]|refine An ?_ ?_<;>intro hb|refine fd ?_|fail))
      exact Aq (kJ _ _ p ⟨by simp[up,g0],by simp[up,g8],by simp[up,g9],by simp[up,g10],by simp[up,g21],by simp[up,g90],by simp[up,g91],by simp[up],K.app _,hKn⟩ (by rw[aoW,hst]))
     |true=>
      have hst:rdS w N p x=(fun y=>if y=x then acA p.1 (p.1 x) (Ec w N x)else p.1 y,true):=by
       unfold rdS;rw[if_pos]
       have:=of_decide_eq_true c
       omega
      have hK1:=(aBN (w:=w) (N:=N) (l:=l) (L:=L) [x] (fun y hy=>by simp at hy;rw[hy];exact hxm) p hKn).1
      simp only[aoW,aLA]at hK1
      have hms2:=fun q=>aRF (hkn2 q) K.tw K.nd hxm (.int .i64 (acA p.1 (p.1 x) (Ec w N x):Nat))
      have hSk:=Io (Ce K.kn)
      have hkp:(fun y=>if y=x then AV.int .i64 (acA p.1 (p.1 x) (Ec w N x):Nat)else knV p.1 y)=knV (rdS w N p x).1:=by rw[hst];exact aK6 p.1 x _
      rw[hkp]at hms2
      (have hb:=trivial;with_reducible repeat' (first|simp only[hb,Vc.down,seval,Jw.down,g8,g10,g92,hww,c,hbx2,hkn2,hms2,hSk,w1,w2,w3,w4,awQ.down]|refine An ?_ ?_<;>intro hb|refine fd ?_|fail))
      exact Aq (kJ _ _ (rdS w N p x) ⟨by simp[up,g0],by simp[up,g8],by simp[up,g9],by simp[up,g10],by simp[up,hst],by simp[up,g90],by simp[up,g91],by simp[up],(K.put _).app _,hK1⟩ rfl)
   ·simp only[aKA,abK]at hrv
    obtain⟨lv,hlv⟩:∃lv,Ar 12 (hf (h++[CB.live 25 true true [Db x]])) (.slr 4 vb 0 (Ec w N x).length)=lv:=⟨_,rfl⟩
    have hlv2:=hlv
    rw[aKM]at hlv2
    have hlvR:∀j∈lv,H.length+5≤j∧j≠b:=fun j hj=>hR j (aEK (e:=12) (aBA (l:=[CB.live 25 true true [Db x]]) hrd) j (by rw[abK,hlv];exact hj))
    have hany:(lv.any fun y=>y==H.length+4||y==H.length+3)=false:=by
     rw[List.any_eq_false]
     intro j hj
     have:=(hlvR j hj).1
     simp
     omega
    have hne1:(H.length+1=H.length)=False:=eq_false (by omega)
    (have hb:=trivial;with_reducible repeat' (first|simp only[hb,Vc.down,seval,Jw.down,g8,g10,g90,g91,g92,hdd,hii,hlst,hx,w1,w2,w3,w4,hbx2,hkn2,hall2,hlkA,hlkK,hic,p2,hkx,hrv,hlv2,hne1,hL1,hany,aCA,aLL,aLD,a1Z,awQ.down,abK]|refine An ?_ ?_<;>intro hb|refine fdq ?_|fail))
    refine aQX (fun _=>0) [([],[]),([],[.cells 0 0 25]),([],[.blk 0]),([],[]),([],[.cells 0 0 1]),([],[.cells 0 0 25]),([],[.blk 0]),([],[.blk 0]),([],[])] (by kernel_rfl) ?_ (fun _=>?_)
    ·simp only[aB2,aES]
     exact⟨by simp,by simp,by simp,by simp[mfF],by simp,by simp[mfF],by simp,by simp,by simp,by simp[mfF],by simp,by simp[mfF],by simp,by simp[mfF],by simp,fun y hy=>.inr (by obtain⟨j,_,rfl⟩:=aA3.1 hy;simp[mfF]),by simp,by simp,trivial⟩
    ·cases c:decide (((acA p.1 (p.1 x) (Ec w N x):Nat):Int)<((p.1 x:Nat):Int))with
     |false=>
      have hst:rdS w N p x=p:=by
       unfold rdS;rw[if_neg]
       have:=of_decide_eq_false c
       omega
      (have hb:=trivial;with_reducible repeat' (first|simp only[hb,Vc.down,seval,Jw.down,g92,hww,c]|refine An ?_ ?_<;>intro hb|refine fd ?_|fail))
      exact Aq (kJ _ _ p ⟨by simp[up,g0],by simp[up,g8],by simp[up,g9],by simp[up,g10],by simp[up,g21],by simp[up,g90],by simp[up,g91],by simp[up],K.app _,hKn⟩ (by rw[aoW,hst]))
     |true=>
      have hst:rdS w N p x=(fun y=>if y=x then acA p.1 (p.1 x) (Ec w N x)else p.1 y,true):=by
       unfold rdS;rw[if_pos]
       have:=of_decide_eq_true c
       omega
      have hK1:=(aBN (w:=w) (N:=N) (l:=l) (L:=L) [x] (fun y hy=>by simp at hy;rw[hy];exact hxm) p hKn).1
      simp only[aoW,aLA]at hK1
      have hms2:=fun q=>aRF (hkn2 q) K.tw K.nd hxm (.int .i64 (acA p.1 (p.1 x) (Ec w N x):Nat))
      have hSk:=Io (Ce K.kn)
      have hkp:(fun y=>if y=x then AV.int .i64 (acA p.1 (p.1 x) (Ec w N x):Nat)else knV p.1 y)=knV (rdS w N p x).1:=by rw[hst];exact aK6 p.1 x _
      rw[hkp]at hms2
      (have hb:=trivial;with_reducible repeat' (first|simp only[hb,Vc.down,seval,Jw.down,g8,g10,g92,hww,c,hbx2,hkn2,hms2,hSk,w1,w2,w3,w4,awQ.down]|refine An ?_ ?_<;>intro hb|refine fd ?_|fail))
      exact Aq (kJ _ _ (rdS w N p x) ⟨by simp[up,g0],by simp[up,g8],by simp[up,g9],by simp[up,g10],by simp[up,hst],by simp[up,g90],by simp[up,g91],by simp[up],(K.put _).app _,hK1⟩ rfl)
  ·exact⟨by simp[up,g0],by simp[up,g8],by simp[up,g9],by simp[up,g10],by simp[up],by simp[up],by simp[up],by simp[up],K,hKn⟩
  obtain⟨rfl,g0,g8,g9,g10,g21,K⟩:=hk
  obtain⟨a1,a2,a3,a4⟩:=aBN (w:=w) (N:=N) (l:=l) L (fun _ h=>h) (f,false) hKn
  generalize hp:List.foldl (rdS w N) (f,false) L=p at *
  obtain⟨g,c⟩:=p
  cases c with
  |false=>
   (have hb:=trivial;with_reducible repeat' (first|simp only[hb,Vc.down,seval,Jw.down,g21]|refine An ?_ ?_<;>intro hb|refine fd ?_|fail))
   obtain⟨a5,a6⟩:=a4 rfl
   cases a5
   exact kQ _ _ _ ⟨rfl,by simp[up,g8],by simp[up,g10],f,K,a1,a6⟩
  |true=>
   (have hb:=trivial;with_reducible repeat' (first|simp only[hb,Vc.down,seval,Jw.down,g21]|refine An ?_ ?_<;>intro hb|refine fd ?_|fail))
   have hlt:=(a3 rfl).resolve_left (by simp)
   simp only at hlt
   exact Aq (kJ _ _ () ⟨by simp[up,g0],by simp[up,g8],by simp[up,g9],by simp[up,g10],g,K,a1,by omega⟩ rfl)
 ·exact⟨by simp[up,g0],by simp[up,g8],by simp[up,g9],by simp[up,g10],_,K,hK0,by omega⟩
 obtain⟨rfl,g8,g10,f,K,hKn,hst⟩:=hk
 obtain⟨xb,hbx⟩:=K.bx
 (have hb:=trivial;with_reducible repeat' (first|simp only[hb,Vc.down,seval,Jw.down,g8,g10,hbx,awQ.down]|refine An ?_ ?_<;>intro hb|refine fd ?_|fail))
 exact⟨L,f,av,b,K,hKn,hst⟩
theorem adL{w:Af}{N:Nat}{l:List Ci}{s:St}{o:Nat × List St}:o∈(akP w N l).ops s↔∃c∈Ec w N s,o=(c.c.toNat,c.to):=by
 show o∈(Ec w N s).map _↔_
 rw[aA3]
 exact⟨fun⟨c,h1,h2⟩=>⟨c,h1,h2.symm⟩,fun⟨c,h1,h2⟩=>⟨c,h1,h2.symm⟩⟩
noncomputable def bs(w:Af)(N:Nat)(l:List Ci)(s:St):Nat:=(akP w N l).bst Az s
theorem aN2{v v':St→AV}:∀{L:List St},(∀s∈L,v s=v' s)→Fp L v=Fp L v'
 | [],_=>rfl
 |a::L,h=>by
  show AV.agg (Db a)::v a::Fp L v=.agg (Db a)::v' a::Fp L v'
  rw[h a (by simp),aN2 fun s hs=>h s (by simp[hs])]
theorem CK.congr{w:Af}{N:Nat}{H:Aa}{s0:St}{U:St→Prop}{L:List St}{b:Nat}{av:St→AV}{f g:St→Nat}{h:Aa}(K:CK w N H s0 U L b av f h)(e:∀s∈L,f s=g s):CK w N H s0 U L b av g h:=
 ⟨K.keep,K.all,K.lst,by rw[←aN2 (v:=knV f) (v':=knV g) fun s hs=>by unfold knV;rw[e s hs]];exact K.kn,K.bx,K.b2,K.b3,K.b4,K.ch,K.nd,K.tw,K.un,K.hd⟩
theorem aPQ{w:Af}{N:Nat}(hw:WOk w N)(hwb:Fe w=true)(h6:w.parts.length≤6)(d:Int){H:Aa}{lb:Nat}{wf:Bool}(hlb:H[lb]?=some (arY w d wf)){s0:St}(hu:InU w.parts.length s0 s0)(hf3:s0.2≤3)(l:List Ci)(nn:Bool)(hl:l.length≤maxLen)(hlp:∀x∈l,0≤x.part∧x.part<12):
 ShQ Dp 41 [.ptr lb 0 0,.agg (Db s0),Be 3 true nn (l.map Ci.cells)] H fun o G=>(∃(L:List St) (av:St→AV) (b:Nat),o=.ret (.tup [.mapr (H.length+3),.mapr (H.length+1)])∧CK w N H s0 (InU w.parts.length s0) L b av (bs w N l) G∧s0∈L∧(∀s∈L,(akP w N l).Fine Az s)∧∀s∈L,∀o∈Ec w N s,∀x∈o.to,x∈L)∧Iw [] H G:=by
 obtain⟨o,G,hc,L,f,av,b,ho,K,hKn,hst⟩:=a91 hw (by omega) d hlb hu.l12 hf3 l nn hl hlp (U:=InU w.parts.length s0) (B:=186624) (by omega) (fun L hL h=>aJO h6 hf3 L hL h) hu (fun s h=>⟨h.l12,Nat.le_trans h.fl hf3⟩) (fun s h o ho=>bhA hwb h ho)
 have hLB:=aJO h6 hf3 L K.nd K.un
 have hst2:∀s∈L,∀o∈(akP w N l).ops s,f s≤min Az (o.1+Fj.mx f o.2):=fun s hs o ho=>by
  obtain⟨c,hc,rfl⟩:=adL.1 ho
  exact hst s hs c hc
 have hbt:=fun s (hs:s∈L)=>hKn.bst hst2 (by unfold Az;omega) hs
 have hfb:∀s∈L,f s=bs w N l s:=fun s hs=>(hbt s hs).1
 refine⟨o,G,hc,⟨L,av,b,ho,K.congr hfb,abL K.hd,fun s hs=>⟨fun h=>?_⟩,fun s hs o ho x hx=>?_⟩,K.keep⟩
 ·have h1:=(hbt s hs).2 h
  rw[hfb s hs]at h1
  exact h1
 ·exact(hKn.ops s hs _ (adL.2 ⟨o,ho,rfl⟩)).2.2.2 x hx
theorem a15{w:Af}{N:Nat}(hw:WOk w N)(hwb:Fe w=true)(h6:w.parts.length≤6){s:St}(h12:s.1.length=12)(hd:∀x∈s.1,0≤x.1∧x.1≤2)(hf3:s.2≤3)(l:List Ci)(hl:l.length≤maxLen)(hlp:∀x∈l,0≤x.part∧x.part<12):(akP w N l).Fine Az s:=by
 obtain⟨o,G,hc,⟨L,av,b,_,K,hm,hF,_⟩,_⟩:=aPQ hw hwb h6 0 (H:=[arY w 0 false]) (lb:=0) rfl (s0:=s) ⟨h12,hd,rfl,ah1 _⟩ hf3 l true hl hlp
 exact hF s hm
theorem aKD(p:Ab)(d:Int):0≤Au p d∧Au p d≤2:=by
 unfold Au;split
 ·decide
 ·split<;>decide
theorem aPA(w:Af)(d:Int):∀x∈Ac w d,0≤x.1∧x.1≤2:=by
 intro x hx
 unfold Ac at hx
 rcases adC.1 hx with hx|hx
 ·obtain⟨p,_,rfl⟩:=aA3.1 hx
  exact aKD p d
 ·obtain⟨_,rfl⟩:=List.mem_replicate.1 hx
  decide
theorem aUH{w:Af}{N:Nat}(hw:WOk w N)(hwb:Fe w=true)(h6:w.parts.length≤6)(d:Int)(l:List Ci)(nn:Bool)(hl:l.length≤maxLen)(hlp:∀x∈l,0≤x.part∧x.part<12):
 Dp.call (.fn 36) [.ptr 0 0 0,Be 3 true nn (l.map Ci.cells)] [arY w d false]=some (.ret (.bool (decide (bs w N l (Ac w d,0)<Az))),[arY w d false]):=by
 have hpc:=a05 w d false (by omega)
 have hL:=aGX (w:=w) (d:=d) (by omega)
 have hdg:=aPA w d
 obtain⟨s0,hs0⟩:∃s0:St,(Ac w d,0)=s0:=⟨_,rfl⟩
 have hst1:Do (Ac w d)++[AV.int .i64 0]=Db s0:=by rw[←hs0];rfl
 have hu:InU w.parts.length s0 s0:=by rw[←hs0];exact⟨hL,hdg,rfl,ah1 _⟩
 have hf3:s0.2≤3:=by rw[←hs0];exact Nat.zero_le _
 rw[hs0]
 have f0:=Hf (Ac w d)
 have k0:=Hg (Ac w d)
 have v0:=aCL (Ac w d)
 have l0:=aCC (Ac w d)
 have r0:=am5 (Ac w d)
 have p0:=ao2 (Ac w d)
 have n0:=aGP (Ac w d)
 have i0:=aE5 (Ac w d)
 have hpl:(Do (Ac w d)).length=24:=by rw[Cb];omega
 have htk24:=adD (l:=Do (Ac w d)) (i:=24) (by omega)
 have w1:=Mc hu.l12
 have w2:=Hu s0
 have w3:=Ix s0
 have w4:agI 25 (Db s0)=Db s0:=adD (by omega)
 have b1:agI 25 (Do (Ac w d))=Do (Ac w d):=adD (by omega)
 unfold arY at hpc
 unfold arY
 obtain⟨qC,hqC⟩:∃q,Fn.func 41=q:=⟨_,rfl⟩
 refine ce Tryz.func36 ?_
 simp only[Tryz.f36]
 (have hb:=trivial;with_reducible repeat' (first|simp only[hb,Vc.down,seval,bjO.down,hpc,f0,k0,v0,l0,r0,p0,n0,i0,hpl,htk24,hst1,b1,w1,w2,w3,w4,hqC,abK]|refine An ?_ ?_<;>intro hb|refine fd ?_|fail))
 obtain⟨Hc,hHc⟩:∃Hc:Aa,[CB.live 4 false false [[AV.int IntKind.i64 w.rooms,AV.int IntKind.i64 w.need,Be 9 true w.nn (List.map Ab.cells w.parts),AV.int IntKind.i64 d]],CB.live 25 true true [Db s0]]=Hc:=⟨_,rfl⟩
 rw[hHc]
 generalize hE:cl Dp Hc (some (.func qC [] [])) (some [.ptr 0 0 0,.agg (Db s0),Be 3 true nn (l.map Ci.cells)])=E
 rw[←hqC]at hE
 have hcl2:(Hn Hc).length=2:=by rw[Cj,←hHc];rfl
 have hlb2:(Hn Hc)[0]?=some (arY w d false):=by rw[←hHc];rfl
 obtain⟨o,G,es,M,e1,e2,⟨L,av,b,rfl,K,hm,hF,hcl⟩,e4,e5,e6,e7,e8⟩:=a1U (O:=Dp) (f:=41) (H:=Hc) (args:=[.ptr 0 0 0,.agg (Db s0),Be 3 true nn (l.map Ci.cells)]) rfl rfl (aPQ hw hwb h6 d hlb2 hu hf3 l nn hl hlp)
 have e9:=hE.symm.trans e1
 subst e9
 have hl2:Hc.length=2:=by rw[←hHc];rfl
 have hkn:M[5]?=some (Dz (Fp L (knV (bs w N l)))):=(e7 5 (by omega)).trans (by have:=K.kn;rwa[hcl2]at this)
 have hb1:M[1]?=some (.live 25 true true [Db s0]):=(e6 1 (by omega)).trans (by rw[←hHc];rfl)
 have hb0:M[0]?=some (.live 4 false false [[AV.int IntKind.i64 w.rooms,AV.int IntKind.i64 w.need,Be 9 true w.nn (List.map Ab.cells w.parts),AV.int IntKind.i64 d]]):=(e6 0 (by omega)).trans (by rw[←hHc];rfl)
 have hlk:=aR7 hkn K.tw hm
 have hkv:knV (bs w N l) s0=.int .i64 (bs w N l s0:Int):=rfl
 (have hb:=trivial;with_reducible repeat' (first|simp only[hb,Vc.down,seval,bjO.down,e2,hl2,hkn,hb1,hb0,hlk,hkv,w1,w2,w3,w4,awQ.down]|refine An ?_ ?_<;>intro hb|refine fd ?_|fail))
 have hdd:decide ((bs w N l s0:Int)<1099511627776)=decide (bs w N l s0<Az):=by rw[decide_eq_decide];unfold Az;omega
 rw[hdd]
theorem Ou{w:Af}{d:Int}{l:List Ci}{f:Int}(h:Js w d l f=0):w.parts.length≤6∧Fe w=true∧awX d=true∧aaD w l=true∧0≤f∧f≤3:=by
 unfold Js at h
 split at h
 ·cases h
 ·rename_i h1
  split at h
  ·cases h
  ·rename_i h2
   simp only[Bool.or_eq_true,Bool.not_eq_true',not_or,Bool.not_eq_false,decide_eq_true_eq]at h1 h2
   exact⟨by omega,h2.1.1.1.1,h2.1.1.1.2,h2.1.1.2,by omega,by omega⟩
theorem aG0{n:Int}:∀{l:List Ci} {y:Option Ci},Ft n y l=true→∀x∈l,La x.part 0 n=true
 | [],_,_,x,hx=>by cases hx
 |a::l,y,h,x,hx=>by
  have h1:La a.part 0 n=true∧Ft n (some a) l=true:=by
   cases y with
   |none=>simp only[Ft,aIE]at h;exact h
   |some z=>simp only[Ft,aIE]at h;exact⟨h.1.1,h.2⟩
  rcases aDD.1 hx with rfl|hx
  ·exact h1.1
  ·exact aG0 h1.2 x hx
theorem aCQ{w:Af}(hl:w.parts.length≤1000){l:List Ci}(h:aaD w l=true):∀x∈l,0≤x.part∧x.part<(w.parts.length:Int):=fun x hx=>by
 have:=aG0 h x hx
 rw[Bf (by omega) (by omega)]at this
 simp only[La,aIE,decide_eq_true_eq]at this
 omega
theorem bdM{w:Af}{N:Nat}(hw:WOk w N)(hwb:Fe w=true)(h6:w.parts.length≤6)(d:Int)(x:Ci)(hx:0≤x.part∧x.part<12):
 Dp.call (.fn 38) [.agg [.int .i64 x.part,.bool x.opn,.bool x.good],.ptr 0 0 0] [.live 1 false false [[.ptr 1 0 0]],.live 4 false false [[.int .i64 w.rooms,.int .i64 w.need,Be 9 true w.nn (w.parts.map Ab.cells),.int .i64 d]]]=some (.ret (.bool (!decide (bs w N [x] (Ac w d,0)<Az))),[.live 1 false false [[.ptr 1 0 0]],.live 4 false false [[.int .i64 w.rooms,.int .i64 w.need,Be 9 true w.nn (w.parts.map Ab.cells),.int .i64 d]]]):=by
 have hL:=aUH hw hwb h6 d [x] true (by unfold maxLen;simp) (fun y hy=>by simp at hy;rw[hy];exact hx)
 have e1:Be 3 true true ([x].map Ci.cells)=.imm 3 true [x.cells]:=rfl
 rw[e1]at hL
 unfold arY at hL
 simp only[Ci.cells]at hL
 generalize decide (bs w N [x] (Ac w d,0)<Az)=c at *
 (refine ce Tryz.func38 ?_;simp only[Tryz.f38];(have hb:=trivial;with_reducible repeat' (first|simp only[hb,Vc.down,seval,boZ.down,hL,abK]|refine An ?_ ?_<;>intro hb|refine fd ?_|fail)))
theorem aWW{l:List Ci}{nn:Bool}{g:Nat}{wq:Af}{dq:Int}{p:Ci→Bool}(hp:∀x∈l,Dp.call (.fn g) (.agg [.int .i64 x.part,.bool x.opn,.bool x.good]::[.ptr 0 0 0]) [.live 1 false false [[.ptr 1 0 0]],.live 4 false false [[.int .i64 wq.rooms,.int .i64 wq.need,Be 9 true wq.nn (wq.parts.map Ab.cells),.int .i64 dq]]]=some (.ret (.bool (p x)),[.live 1 false false [[.ptr 1 0 0]],.live 4 false false [[.int .i64 wq.rooms,.int .i64 wq.need,Be 9 true wq.nn (wq.parts.map Ab.cells),.int .i64 dq]]]))(hl:l.length≤maxLen):
 Dp.call (.fn 37) [Be 3 true nn (l.map Ci.cells),.func (.func g) [] [.ptr 0 0 0]] [.live 1 false false [[.ptr 1 0 0]],.live 4 false false [[.int .i64 wq.rooms,.int .i64 wq.need,Be 9 true wq.nn (wq.parts.map Ab.cells),.int .i64 dq]]]=some (.ret (.int .i64 (idx p l 0)),[.live 1 false false [[.ptr 1 0 0]],.live 4 false false [[.int .i64 wq.rooms,.int .i64 wq.need,Be 9 true wq.nn (wq.parts.map Ab.cells),.int .i64 dq]]]):=by
 (refine ce Tryz.func37 ?_;simp only[Tryz.f37];(have hb:=trivial;with_reducible repeat' (first|simp only[hb,Vc.down,seval,aII.down,abK]|refine An ?_ ?_<;>intro hb|refine fd ?_|fail)))
 refine Dy (lst 19 l (fun i (s:Int) t h=>s=i∧h=[.live 1 false false [[.ptr 1 0 0]],.live 4 false false [[.int .i64 wq.rooms,.int .i64 wq.need,Be 9 true wq.nn (wq.parts.map Ab.cells),.int .i64 dq]]]∧t 0=Be 3 true nn (l.map Ci.cells)∧t 1=.func (.func g) [] [.ptr 0 0 0]∧t 7=.int .i64 l.length∧t 8=.int .i64 i)
  (fun rest s=>idx p rest s) (fun r e t h=>h=[.live 1 false false [[.ptr 1 0 0]],.live 4 false false [[.int .i64 wq.rooms,.int .i64 wq.need,Be 9 true wq.nn (wq.parts.map Ab.cells),.int .i64 dq]]]∧((e=.exit 0∧r= -1)∨(e=.ret∧t 4=.int .i64 r))) ?_ ?_ 0 _ _ ?_) (fun e t h hk=>?_)
 ·rintro s t h Q' kQ ⟨rfl,rfl,h0,h1,h7,h8⟩
  (have hb:=trivial;with_reducible repeat' (first|simp only[hb,Vc.down,seval,aII.down,h0,h1,h7,h8,aoV,decide_false]|refine An ?_ ?_<;>intro hb|refine fd ?_|fail))
  exact kQ _ _ _ ⟨rfl,.inl ⟨rfl,rfl⟩⟩
 ·rintro x rest i s t h J Q' kJ kQ hx hi ⟨rfl,rfl,h0,h1,h7,h8⟩
  have hpx:=hp x (abL hx)
  have hd:decide ((i:Int)<(l.length:Int))=true:=by simpa using hi
  (have hb:=trivial;with_reducible repeat' (first|simp only[hb,Vc.down,seval,aII.down,h0,h1,h7,h8,hd,hx,Ci.cells,hpx,Bv hi hl]|refine An ?_ ?_<;>intro hb|refine fd ?_|fail))
  ·exact kQ _ _ _ ⟨rfl,.inr ⟨rfl,by simp[up,idx,hb]⟩⟩
  ·exact Aq (kJ _ _ (i+1) ⟨by simp,rfl,by simp[up,h0],by simp[up,h1],by simp[up,h7],by simp[up]⟩ (by simp[idx,hb]))
 ·exact⟨rfl,rfl,by simp[up,Lx],by simp[up,Lx],by simp[up],by simp[up]⟩
 ·obtain⟨rfl,⟨rfl,hi⟩|⟨rfl,hi⟩⟩:=hk
  ·(have hb:=trivial;with_reducible repeat' (first|simp only[hb,Vc.down,seval,aII.down]|refine An ?_ ?_<;>intro hb|refine fd ?_|fail))
   rw[hi]
  ·(have hb:=trivial;with_reducible repeat' (first|simp only[hb,Vc.down,seval,aII.down,hi]|refine An ?_ ?_<;>intro hb|refine fd ?_|fail))
theorem bfT(w:Af)(hs:w.small)(d:Int)(l:List Ci)(nn:Bool)(hl:l.length≤maxLen)(h:Js w d l 0≠0):Dp.call (.fn 12) [.agg [.int .i64 w.rooms,.int .i64 w.need,Be 9 true w.nn (w.parts.map Ab.cells)],.int .i64 d,Be 3 true nn (l.map Ci.cells)] []=some (.ret (.tup [.int .i64 0,.int .i64 (Js w d l 0)]),[]):=by
 have h1:=aT3 w hs d
 have h2:=a1V w l nn hl
 unfold Js at h ⊢
 cases c0:decide ((w.parts.length:Int)>6)with
 |true=>
  rw[if_pos rfl]
  (refine ce Tryz.func12 ?_;simp only[Tryz.f12];(have hb:=trivial;with_reducible repeat' (first|simp only[hb,Vc.down,seval,aV9.down,c0,abK]|refine An ?_ ?_<;>intro hb|refine fd ?_|fail)))
 |false=>
  rw[c0]at h
  rw[if_neg (by simp)]at h ⊢
  generalize Fe w=b1 at *
  generalize awX d=b2 at *
  generalize aaD w l=b3 at *
  have f0:decide ((0:Int)<0)=false:=rfl
  have f1:decide ((0:Int)>3)=false:=rfl
  rw[f0,f1]at h ⊢
  cases b1 with
  |false=>
   rw[if_pos (by simp)]
   rw[Bool.false_and]at h1
   (refine ce Tryz.func12 ?_;simp only[Tryz.f12];(have hb:=trivial;with_reducible repeat' (first|simp only[hb,Vc.down,seval,aV9.down,c0,h1,awF,ai5,aoS,aoT,abK]|refine An ?_ ?_<;>intro hb|refine fd ?_|fail)))
  |true=>
   cases b2 with
   |false=>
    rw[if_pos (by simp)]
    rw[Bool.true_and]at h1
    (refine ce Tryz.func12 ?_;simp only[Tryz.f12];(have hb:=trivial;with_reducible repeat' (first|simp only[hb,Vc.down,seval,aV9.down,c0,h1,awF,ai5,aoS,aoT,abK]|refine An ?_ ?_<;>intro hb|refine fd ?_|fail)))
   |true=>
    cases b3 with
    |false=>
     rw[if_pos (by simp)]
     rw[Bool.true_and]at h1
     (refine ce Tryz.func12 ?_;simp only[Tryz.f12];(have hb:=trivial;with_reducible repeat' (first|simp only[hb,Vc.down,seval,aV9.down,c0,h1,h2,awF,ai5,aoS,aoT,abK]|refine An ?_ ?_<;>intro hb|refine fd ?_|fail)))
    |true=>simp at h
noncomputable def aQ0(w:Af)(N:Nat)(d:Int)(l:List Ci):Int:=idx (fun x=> !decide (bs w N [x] (Ac w d,0)<Az)) l 0
theorem bjA{w:Af}{N:Nat}(hw:WOk w N)(hs:w.small)(d:Int)(l:List Ci)(nn:Bool)(hl:l.length≤maxLen)(h:Js w d l 0=0):Dp.call (.fn 12) [.agg [.int .i64 w.rooms,.int .i64 w.need,Be 9 true w.nn (w.parts.map Ab.cells)],.int .i64 d,Be 3 true nn (l.map Ci.cells)] []=some (.ret (.tup (if bs w N l (Ac w d,0)<Az then [.int .i64 0,.int .i64 6]else [.int .i64 (aQ0 w N d l),.int .i64 0])),[]):=by
 obtain⟨h6,hwb,hdb,hgb,_,_⟩:=Ou h
 have h1:=aT3 w hs d
 have h2:=a1V w l nn hl
 rw[hwb,hdb,Bool.and_self]at h1
 rw[hgb]at h2
 have c0:decide ((w.parts.length:Int)>6)=false:=decide_eq_false (by omega)
 have hlp:=aCQ (by omega) hgb
 have hL:=aUH hw hwb h6 d l nn hl (fun x hx=>by have:=hlp x hx;omega)
 unfold arY at hL
 have hI:=aWW (g:=38) (l:=l) (nn:=nn) (wq:=w) (dq:=d) (fun x hx=>bdM hw hwb h6 d x (by have:=hlp x hx;omega)) hl
 change Dp.call _ _ _=some (Dt.ret (.int .i64 (aQ0 w N d l)),_)at hI
 generalize aQ0 w N d l=z at *
 cases c1:decide (bs w N l (Ac w d,0)<Az)with
 |true=>
  rw[if_pos (of_decide_eq_true c1)]
  rw[c1]at hL
  (refine ce Tryz.func12 ?_;simp only[Tryz.f12];(have hb:=trivial;with_reducible repeat' (first|simp only[hb,Vc.down,seval,aV9.down,c0,h1,h2,hL,awF,ai5,aoS,aoT,abK]|refine An ?_ ?_<;>intro hb|refine fd ?_|fail)))
 |false=>
  rw[if_neg (of_decide_eq_false c1)]
  rw[c1]at hL
  (refine ce Tryz.func12 ?_;simp only[Tryz.f12];(have hb:=trivial;with_reducible repeat' (first|simp only[hb,Vc.down,seval,aV9.down,c0,h1,h2,hL,hI,awF,ai5,aoS,aoT,abK]|refine An ?_ ?_<;>intro hb|refine fd ?_|fail)))
theorem aLU{w:Af}{N:Nat}(hw:WOk w N){d:Int}{l:List Ci}(hl:l.length≤maxLen){f:Nat}(h:Js w d l f=0):(akP w N l).Fine Az (Ac w d,f):=by
 obtain⟨h6,hwb,_,hgb,_,hf3⟩:=Ou h
 exact a15 hw hwb h6 (aGX (by omega)) (aPA w d) (by show f≤3;omega) l hl (fun x hx=>by have:=aCQ (by omega) hgb x hx;omega)
theorem aUI{w:Af}{N:Nat}(hb:Fe w=true){l:List Ci}{s:St}:∀o∈(akP w N l).ops s,1≤o.1:=by
 intro o ho
 obtain⟨c,hc,rfl⟩:=adL.1 ho
 obtain⟨p,x,I⟩:=Kx.1 hc
 have:=Lp hb I.hp c.k
 rw[←I.c]at this
 show 1≤c.c.toNat
 omega
theorem aYW{w:Af}{d:Int}{l:List Ci}{f:Int}(h:Js w d l f=0){l':List Ci}(hg:aaD w l'=true){g:Int}(hg0:0≤g)(hg3:g≤3):Js w d l' g=0:=by
 obtain⟨h6,hwb,hdb,_,_,_⟩:=Ou h
 unfold Js
 rw[if_neg (by simp;omega),if_neg (by simp[hwb,hdb,hg];omega)]
theorem a2I{w:Af}{l:List Ci}(h:aaD w l=true){x:Ci}(hx:x∈l):aaD w [x]=true:=by
 have:=aG0 h x hx
 unfold aaD
 simp[Ft,this]
def aAT(l:List Ab):Bool:=l.all fun p=> !(p.opn&& !p.valve)
theorem a2A(w:Af)(hl:w.parts.length≤1000):Dp.call (.fn 69) [.agg [.int .i64 w.rooms,.int .i64 w.need,Be 9 true w.nn (w.parts.map Ab.cells)]] []=some (.ret (.bool (aAT w.parts)),[]):=by
 obtain⟨ans,hans⟩:∃a,aAT w.parts=a:=⟨_,rfl⟩
 rw[hans]
 unfold aAT at hans
 refine ce Tryz.func69 ?_
 simp only[Tryz.f69]
 (have hb:=trivial;with_reducible repeat' (first|simp only[hb,Vc.down,seval,aRJ.down,abK]|refine An ?_ ?_<;>intro hb|refine fd ?_|fail))
 refine Dy (lst 26 w.parts (fun i (_:Unit) t h=>t 1=.ptr 0 0 0∧t 3=.int .i64 (i:Int)∧(∃fl x,h[0]?=some (.live 3 fl x [[.int .i64 w.rooms,.int .i64 w.need,Be 9 true w.nn (w.parts.map Ab.cells)]]))) (fun rest _=>rest.all fun p=> !(p.opn&& !p.valve))
  (fun r e t h=>(e=.exit 0∧r=true)∨(e=.ret∧r=false∧t 2=.bool false)) ?_ ?_ () _ _ ?_) (fun e t h hk=>?_)
 ·rintro _ t h Q' kQ ⟨g1,g3,fl,xx,hB⟩
  (have hb:=trivial;with_reducible repeat' (first|simp only[hb,Vc.down,seval,aRJ.down,g1,g3,hB,aoV,decide_false,abK]|refine An ?_ ?_<;>intro hb|refine fd ?_|fail))
  exact kQ _ _ _ (.inl ⟨rfl,rfl⟩)
 ·rintro x rest i _ t h J Q' kJ kQ hx hi ⟨g1,g3,fl,xx,hB⟩
  have hdd:decide ((i:Int)<(w.parts.length:Int))=true:=decide_eq_true (by omega)
  have hii:((i:Int)<(w.parts.length:Int))=True:=eq_true (by omega)
  have hww:=Bv hi (by unfold maxLen;omega)
  obtain⟨p1,p2,p3,p4,p5,p6,p7,p8,p9⟩:=x
  cases p4 with
  |false=>
   (have hb:=trivial;with_reducible repeat' (first|simp only[hb,Vc.down,seval,aRJ.down,g1,g3,hdd,hii,hww,hx,hB,Ab.cells,abK]|refine An ?_ ?_<;>intro hb|refine fd ?_|fail))
   exact Aq (kJ _ _ () ⟨by simp[up,g1],by simp[up],⟨fl,xx,hB⟩⟩ rfl)
  |true=>
   cases p3 with
   |false=>
    (have hb:=trivial;with_reducible repeat' (first|simp only[hb,Vc.down,seval,aRJ.down,g1,g3,hdd,hii,hww,hx,hB,Ab.cells,abK]|refine An ?_ ?_<;>intro hb|refine fd ?_|fail))
    exact kQ _ _ _ (.inr ⟨rfl,rfl,by simp[up]⟩)
   |true=>
    (have hb:=trivial;with_reducible repeat' (first|simp only[hb,Vc.down,seval,aRJ.down,g1,g3,hdd,hii,hww,hx,hB,Ab.cells,abK]|refine An ?_ ?_<;>intro hb|refine fd ?_|fail))
    exact Aq (kJ _ _ () ⟨by simp[up,g1],by simp[up],⟨fl,xx,hB⟩⟩ rfl)
 ·exact⟨by simp[up],by simp[up],⟨_,_,rfl⟩⟩
 rw[hans]at hk
 rcases hk with⟨rfl,rfl⟩|⟨rfl,rfl,g4⟩
 ·(have hb:=trivial;with_reducible repeat' (first|simp only[hb,Vc.down,seval,aRJ.down]|refine An ?_ ?_<;>intro hb|refine fd ?_|fail))
 ·(have hb:=trivial;with_reducible repeat' (first|simp only[hb,Vc.down,seval,aRJ.down,g4]|refine An ?_ ?_<;>intro hb|refine fd ?_|fail))
def Oi(l:List Ab)(d:Int):List (Int × Bool):=l.map fun p=>(Au p d,p.opn)
theorem aKJ(l:List Ab)(d:Int):∀x∈Oi l d,0≤x.1∧x.1≤2:=by
 intro x hx
 obtain⟨p,_,rfl⟩:=aA3.1 hx
 exact aKD p d
theorem a06(w:Af)(h12:w.parts.length≤12)(d:Int):Dp.call (.fn 47) [.agg [.int .i64 w.rooms,.int .i64 w.need,Be 9 true w.nn (w.parts.map Ab.cells)],.int .i64 d] []=some (.ret (.int .i64 (cod (Oi w.parts d):Nat)),[]):=by
 have hw0:IntKind.i64.wrap ((w.parts.length:Int)-1)=(w.parts.length:Int)-1:=Bf (by omega) (by omega)
 refine ce Tryz.func47 ?_
 simp only[Tryz.f47]
 (have hb:=trivial;with_reducible repeat' (first|simp only[hb,Vc.down,seval,a1L.down,hw0,abK]|refine An ?_ ?_<;>intro hb|refine fd ?_|fail))
 refine Dy (cnt 35 (fun n (_:Unit) t h=>n≤w.parts.length∧t 1=.int .i64 d∧t 2=.ptr 0 0 0∧t 6=.int .i64 ((n:Int)-1)∧t 5=.int .i64 (cod ((Oi w.parts d).drop n):Nat)∧(∃fl x,h[0]?=some (.live 3 fl x [[.int .i64 w.rooms,.int .i64 w.need,Be 9 true w.nn (w.parts.map Ab.cells)]]))) (fun _ _=>())
  (fun _ e t h=>e=.exit 0∧t 5=.int .i64 (cod (Oi w.parts d):Nat)) ?_ ?_ w.parts.length () _ _ ?_) (fun e t h hk=>?_)
 ·rintro _ t h Q' kQ ⟨_,g1,g2,g6,g5,hB⟩
  have h5:decide (((0:Nat):Int)-1≥0)=false:=rfl
  (have hb:=trivial;with_reducible repeat' (first|simp only[hb,Vc.down,seval,a1L.down,g6,h5]|refine An ?_ ?_<;>intro hb|refine fd ?_|fail))
  exact kQ _ _ _ ⟨rfl,by simpa [up]using g5⟩
 ·rintro n _ t h J Q' kJ kQ ⟨hn,g1,g2,g6,g5,fl,xx,hB⟩
  obtain⟨p,hp⟩:∃p,w.parts[n]?=some p:=⟨_,aHX (by omega)⟩
  have e6:((n+1:Nat):Int)-1=(n:Int):=by omega
  rw[e6]at g6
  have h5:decide ((n:Int)≥0)=true:=decide_eq_true (by omega)
  have hnl:((n:Int)<(w.parts.length:Int))=True:=eq_true (by omega)
  have hC:=acP p d
  have hcd:=aKD p d
  have hcp:(Oi w.parts d)[n]?=some (Au p d,p.opn):=by unfold Oi;rw[aEQ,hp];rfl
  have hcl:(Oi w.parts d).length=w.parts.length:=by unfold Oi;simp
  have hdr:(Oi w.parts d).drop n=(Au p d,p.opn)::(Oi w.parts d).drop (n+1):=by
   rw[List.drop_eq_getElem_cons (by omega)]
   congr 1
   rw[aHX (by omega)]at hcp
   exact Option.some.inj hcp
  have hlt:=aB5 (L:=(Oi w.parts d).drop (n+1)) fun x hx=>aKJ _ _ x (List.mem_of_mem_drop hx)
  have hpw:6 ^ ((Oi w.parts d).drop (n+1)).length≤2176782336:=Nat.le_trans (Nat.pow_le_pow_right (by decide) (show _≤12 by rw[List.length_drop];omega)) (by decide)
  have hcd1:cod ((Oi w.parts d).drop n)=2*(Au p d).toNat+p.opn.toNat+6*cod ((Oi w.parts d).drop (n+1)):=by rw[hdr];rfl
  generalize cod ((Oi w.parts d).drop (n+1))=a at *
  generalize cod ((Oi w.parts d).drop n)=b at *
  obtain⟨c,hc⟩:∃c:Nat,Au p d=(c:Int):=⟨(Au p d).toNat,by omega⟩
  rw[hc]at hC hcd hcd1
  have w1:IntKind.i64.wrap (6*(a:Int))=6*(a:Int):=Bf (by omega) (by omega)
  have w2:IntKind.i64.wrap (2*(c:Int))=2*(c:Int):=Bf (by omega) (by omega)
  have w3:IntKind.i64.wrap (6*(a:Int)+2*(c:Int))=6*(a:Int)+2*(c:Int):=Bf (by omega) (by omega)
  have w4:IntKind.i64.wrap (6*(a:Int)+2*(c:Int)+1)=6*(a:Int)+2*(c:Int)+1:=Bf (by omega) (by omega)
  have w5:IntKind.i64.wrap ((n:Int)-1)=(n:Int)-1:=Bf (by omega) (by omega)
  obtain⟨p1,p2,p3,p4,p5,p6,p7,p8,p9⟩:=p
  simp only[Ab.cells]at hC
  simp only at hcd1
  have e7:(c:Int).toNat=c:=rfl
  rw[e7]at hcd1
  cases p4 with
  |false=>
   have hb:6*(a:Int)+2*(c:Int)=(b:Int):=by rw[hcd1];simp;omega
   rw[hb]at w3
   (with_reducible repeat' (first|simp only[hb,Vc.down,seval,a1L.down,g1,g2,g5,g6,h5,hnl,hp,hB,hC,w1,w2,w3,w5,hb,Ab.cells,abK]|refine An ?_ ?_<;>intro hb|refine fd ?_|fail))
   exact Aq (kJ _ _ () ⟨by omega,by simp[up,g1],by simp[up,g2],by simp[up],by simp[up],⟨fl,xx,hB⟩⟩ rfl)
  |true=>
   have hb:6*(a:Int)+2*(c:Int)+1=(b:Int):=by rw[hcd1];simp;omega
   rw[hb]at w4
   (with_reducible repeat' (first|simp only[hb,Vc.down,seval,a1L.down,g1,g2,g5,g6,h5,hnl,hp,hB,hC,w1,w2,w3,w4,w5,hb,Ab.cells,abK]|refine An ?_ ?_<;>intro hb|refine fd ?_|fail))
   exact Aq (kJ _ _ () ⟨by omega,by simp[up,g1],by simp[up,g2],by simp[up],by simp[up],⟨fl,xx,hB⟩⟩ rfl)
 ·refine⟨ah1 _,by simp[up,Lx],by simp[up],by simp[up],?_,⟨_,_,rfl⟩⟩
  rw[List.drop_eq_nil_of_le (by unfold Oi;simp)]
  simp[up,cod]
 obtain⟨rfl,g5⟩:=hk
 (have hb:=trivial;with_reducible repeat' (first|simp only[hb,Vc.down,seval,a1L.down,g5]|refine An ?_ ?_<;>intro hb|refine fd ?_|fail))
end Go.Proofs.YtcncggaobhbomaaGreatDoor
