/- The functions of the layer, walked. -/
import Derived.Test.YtcncggaobhbomaaGreatDoorPartAD
open List renaming length_map→aaN,take_of_length_le→adC,mem_of_getElem?→adQ,take→ae2,getElem?_append_left→afJ,getElem?_set_ne→af8,mem_append→ag1,foldl_cons→ajM,all_cons→ajV,all_nil→ajY,take_add_one→akX,take_length→akY,getElem?_set_self→akZ,take_append_of_le_length→ak0,getElem?_append_right→ak2,map_eq_nil_iff→alC,mem_cons→aoR,nodup_cons→aq3,mem_map→aq4,mem_append_left→aq6,getElem?_map→aq8,getElem?_eq_some_iff→arA,mem_of_mem_take→arF,prefix_append→as4,foldl_nil→atH,any_eq_false→auE
open Nat renaming le_refl→ai0,add_sub_cancel_left→arB
open Bool renaming and_true→aj6,and_false→aq5,and_eq_true→aq7
open Int renaming lt_irrefl→aj8
set_option linter.unusedSimpArgs false
set_option linter.unusedVariables false
namespace Go.Proofs.YtcncggaobhbomaaGreatDoor
open Go.Ev Go Go.Ev.Net
set_option maxRecDepth 100000
set_option maxHeartbeats 16000000
theorem iR{d:Nat}{h:Qa}{v:AV}{p:AV × List Nat}{l:Qa}(hr:rd (d+1) (hf h) v=some p)(hd:d+1≤9:=by omega):rd (d+1) (hf (h++l)) v=some p:=by
 have:=eH (g':=hf (h++l)) (Vq hr dG) fun j hj z hz=>by
  show((h++l)[j]?).bind Si=_
  rw[afJ (uI hd (Vq hr dG) j hj)];exact hz
 obtain⟨a,l',R1,R2,e,h1,h2,h3⟩:=Yd this
 cases e
 obtain⟨_,rfl⟩:=eR h2
 simp at h3
 rw[h1,←h3]
theorem lS:Qf .nilm=[.nilm]:=Eq.trans rfl rfl
theorem lP:AV.flat .nilm=false:=Eq.trans rfl rfl
theorem mL:AV.isCell .nilm=true:=Eq.trans rfl rfl
theorem tH:∀{l:List St} {i j:Nat} {x:St},l.Nodup→l[i]?=some x→l[j]?=some x→i=j
 | [],i,j,x,_,h,_=>by simp at h
 |a::l,0,0,x,_,_,_=>rfl
 |a::l,0,j+1,x,hn,h1,h2=>by
  simp at h1 h2;subst h1
  exact absurd (adQ h2) (aq3.1 hn).1
 |a::l,i+1,0,x,hn,h1,h2=>by
  simp at h1 h2;subst h2
  exact absurd (adQ h1) (aq3.1 hn).1
 |a::l,i+1,j+1,x,hn,h1,h2=>congrArg (· +1) (tH (l:=l) (x:=x) (aq3.1 hn).2 (by simpa using h1) (by simpa using h2))
def knT:St→AV:=cK fun _=>Ud
theorem ap4{h:Qa}{b:Nat}{L:List St}{s:St}(hb:h[b]?=some (Ua (Vk L knT)))(hL:zQ L)(h12:s.1.length=12)(hs:s∉L):ms Tryz.prog h 86 (some (.mapr b)) (some (.agg (Sl s))) (some (.int .i64 1099511627776))=some (.ret (.tup []),[.put b (Ua (Vk (L++[s]) knT))]):=by
 rw[aL7 hb hL h12 hs]
 have:(fun y=>if y=s then AV.int .i64 1099511627776 else knT y)=knT:=by
  funext y;split<;>rfl
 rw[this]
theorem atG{g:HF}{v:AV}{l:List Zh}{R:List Nat}(h:rd 6 g v=some (Rn 4 false false (l.map Zh.cells),R)):ln Tryz.prog 91 (some v)=some (.ret (.int .i64 (l.length:Int)),[]):=by
 rcases fL h with⟨rfl,h0⟩|⟨b,rows',rfl,_⟩
 ·obtain rfl:=alC.1 h0
  simp only[Vc.down,seval,Yu.down,List.length_nil,Int.natCast_zero]
 ·simp only[Vc.down,seval,Yu.down,aaN]
structure CI(w:Qh)(N:Nat)(H:Qa)(s0:St)(U:St→Prop)(L:List St)(i b:Nat)(av:St→AV)(h:Qa):Prop where
 keep:Xr [] H h
 all:h[H.length+1]?=some (Ua (Vk (L.take i) av))
 lst:∃x,h[b]?=some (.live 25 true x (L.map Sl))
 kn:h[H.length+3]?=some (Ua (Vk L knT))
 bx:∃x,h[H.length+4]?=some (.live 1 false x [[.mapr (H.length+3)]])
 b2:H.length+2≤b
 b3:b≠H.length+3
 b4:b≠H.length+4
 ch:∀s∈L.take i,∃R,rd 6 (hf h) (av s)=some (Rn 4 false false ((Tj w N s).map Zh.cells),R)∧∀j∈R,H.length+5≤j∧j≠b
 nd:L.Nodup
 tw:zQ L
 un:∀s∈L,U s
 hd:L[0]?=some s0
def Cls(w:Qh)(N:Nat)(L:List St)(i:Nat):Prop:=∀s∈L.take i,∀o∈Tj w N s,∀x∈o.to,x∈L
theorem CI.app{w:Qh}{N:Nat}{H:Qa}{s0:St}{U:St→Prop}{L:List St}{i b:Nat}{av:St→AV}{h:Qa}(I:CI w N H s0 U L i b av h)(l:Qa):CI w N H s0 U L i b av (h++l):=by
 obtain⟨xl,hl⟩:=I.lst
 obtain⟨xb,hb⟩:=I.bx
 exact⟨avB I.keep l,Qg I.all l,⟨xl,Qg hl l⟩,Qg I.kn l,⟨xb,Qg hb l⟩,I.b2,I.b3,I.b4,fun s hs=>by
  obtain⟨R,h1,h2⟩:=I.ch s hs
  exact⟨R,iR h1,h2⟩,I.nd,I.tw,I.un,I.hd⟩
theorem CI.call{w:Qh}{N:Nat}{H:Qa}{s0:St}{U:St→Prop}{L:List St}{i b:Nat}{av:St→AV}{h:Qa}(I:CI w N H s0 U L i b av h){s:St}(hs:L[i]?=some s){v:AV}{R:List Nat}{G M:Qa}{c:CB}
 (e5:(h++[c]).length≤M.length) (e6:∀b,b<(h++[c]).length→M[b]?=(h++[c])[b]?) (e7:∀b,(h++[c]).length≤b→M[b]?=G[b]?) (hv:rd 6 (hf G) v=some (Rn 4 false false ((Tj w N s).map Zh.cells),R)) (hR:∀j∈R,(h++[c]).length≤j):
 CI w N H s0 U L (i+1) b (fun y=>if y=s then v else av y) (M.set (H.length+1) (Ua (Vk (L.take i++[s]) fun y=>if y=s then v else av y))):=by
 obtain⟨xl,hl⟩:=I.lst
 obtain⟨xb,hb⟩:=I.bx
 have lA:=Ux I.all
 have ll:=Ux hl
 have lk:=Ux I.kn
 have lx:=Ux hb
 have b2:=I.b2
 have hlen:(h++[c]).length=h.length+1:=by simp
 have old:∀j,j<h.length→j≠H.length+1→(M.set (H.length+1) (Ua (Vk (L.take i++[s]) fun y=>if y=s then v else av y)))[j]?=h[j]?:=fun j hj hn=>by
  rw[af8 (fun e=>hn e.symm),e6 j (by omega),afJ hj]
 have htk:L.take (i+1)=L.take i++[s]:=by rw[akX,hs];rfl
 refine⟨⟨by have:=I.keep.len;simp;omega,fun j hj hn=>by rw[old j (by omega) (by omega)];exact I.keep.same j hj hn⟩,by rw[htk];exact akZ (by omega),⟨xl,by rw[old b ll (by omega)];exact hl⟩,by rw[old _ lk (by omega)];exact I.kn,⟨xb,by rw[old _ lx (by omega)];exact hb⟩,I.b2,I.b3,I.b4,fun y hy=>?_,I.nd,I.tw,I.un,I.hd⟩
 by_cases e:y=s
 ·subst e
  refine⟨R,?_,fun j hj=>by have:=hR j hj;omega⟩
  rw[if_pos rfl]
  have:=eH (g':=hf (M.set (H.length+1) (Ua (Vk (L.take i++[y]) fun z=>if z=y then v else av z)))) (Vq hv dG) fun j hj z hz=>by
   have hj2:j∈R:=by simpa using hj
   have:=hR j hj2
   show((M.set _ _)[j]?).bind Si=_
   rw[af8 (by omega),e7 j this];exact hz
  obtain⟨a,l',R1,R2,e1,h1,h2,h3⟩:=Yd this
  cases e1
  obtain⟨_,rfl⟩:=eR h2
  simp at h3
  rw[h1,←h3]
 ·rw[htk]at hy
  have hy2:y∈L.take i:=by
   rcases ag1.1 hy with h|h
   ·exact h
   ·simp at h;exact absurd h e
  obtain⟨R0,h1,h2⟩:=I.ch y hy2
  refine⟨R0,?_,h2⟩
  rw[if_neg e]
  have:=eH (g':=hf (M.set (H.length+1) (Ua (Vk (L.take i++[s]) fun z=>if z=s then v else av z)))) (Vq h1 dG) fun j hj z hz=>by
   have hj2:j∈R0:=by simpa using hj
   have:=h2 j hj2
   show((M.set _ _)[j]?).bind Si=_
   rw[old j (uI (by omega) (Vq h1 dG) j hj) (by omega)];exact hz
  obtain⟨a,l',R1,R2,e1,h1',h2',h3⟩:=Yd this
  cases e1
  obtain⟨_,rfl⟩:=eR h2'
  simp at h3
  rw[h1',←h3]
theorem zX{g:HF}{d st b r n:Nat}{x:AV}{R:List Nat}{rows:List (List AV)}(h:rd (d+1) g (.slr st b r n)=some (x,R))(hb:(g b).bind Si=some (st,true,rows)):b∈R:=by
 simp only[rd,hb,Option.bind_some,cond_true]at h
 split at h
 ·cases h;simp
 ·cases h
theorem afU{H:Qa}{v:AV}{l:List Zh}{R:List Nat}(h:rd 6 (hf H) v=some (Rn 4 false false (l.map Zh.cells),R)){j:Nat}{o:Zh}(hj:l[j]?=some o)(hne:o.to≠[]):
 ∃b bt,v=.slr 4 b 0 l.length∧Zf (H[b]?) j=some [.int .i64 o.k,.int .i64 (o.i:Int),.int .i64 o.c,.slr 25 bt 0 o.to.length]∧(hf H bt).bind Si=some (25,true,o.to.map Sl)∧bt∈R:=by
 rcases fL h with⟨_,h0⟩|⟨b,rows',rfl,hb,_,_,hr⟩
 ·obtain rfl:=alC.1 h0;simp at hj
 ·obtain⟨q,hq,rfl,hx⟩:=tP h hb
  have hX:(l.map Zh.cells)[j]?=some o.cells:=by rw[aq8,hj];rfl
  have hq1:q.1=l.map Zh.cells:=by
   have hl:l.map Zh.cells≠[]:=fun e=>by rw[e]at hX;simp at hX
   rw[bS hl]at hx
   injection hx with _ _ h3
   exact h3.symm
  obtain⟨r,R2,k1,k2⟩:=rY (i:=j) hq (by rw[hq1];exact hX)
  have hs:=qW hq k1 k2
  obtain⟨a1,l1,_,_,rfl,m1,n1,rfl⟩:=Yd k2
  obtain⟨a2,l2,_,_,rfl,m2,n2,rfl⟩:=Yd n1
  obtain⟨a3,l3,_,_,rfl,m3,n3,rfl⟩:=Yd n2
  obtain⟨a4,l4,_,_,rfl,m4,n4,rfl⟩:=Yd n3
  obtain⟨rfl,rfl⟩:=eR n4
  obtain⟨rfl,rfl⟩:=afI m1
  obtain⟨rfl,rfl⟩:=afI m2
  obtain⟨rfl,rfl⟩:=afI m3
  rcases fL m4 with⟨rfl,h0⟩|⟨bt,rows2,rfl,hb2,_,hfl,_⟩
  ·exact absurd (alC.1 h0) hne
  ·obtain rfl:=hfl rfl
   refine⟨b,bt,by rw[aaN],by rw[agB hb,k1,aaN],hb2,List.mem_cons_of_mem _ (hs bt ?_)⟩
   have:=(zX m4 hb2)
   simpa using this
theorem nC(w:Qh)(N:Nat)(s:St)(k:Int):(oI w N s k).length≤w.parts.length:=by
 have:=List.length_filterMap_le (qA w N s k) (List.range w.parts.length)
 unfold oI;simpa using this
theorem tD(w:Qh)(N:Nat)(s:St)(h:w.parts.length≤12):(Tj w N s).length≤48:=by
 have h1:=nC w N s 1
 have h2:=nC w N s 2
 have h3:=nC w N s 3
 have h4:=nC w N s 4
 simp only[Tj,List.length_append];omega
theorem afR{α:Type}{l:List α}{i:Nat}{x:α}(h:l[i]?=some x):i<l.length:=(arA.1 h).1
theorem CI.grow{w:Qh}{N:Nat}{H:Qa}{s0:St}{U:St→Prop}{L:List St}{i b:Nat}{av:St→AV}{h:Qa}(I:CI w N H s0 U L i b av h)(hi:i≤L.length){x:St}(hx:x∉L)(hx2:x.1.length=12)(hU:U x)(c:CB):
 CI w N H s0 U (L++[x]) i (h.length+1) av ((h.set (H.length+3) (Ua (Vk (L++[x]) knT))).set b .dead++[c,.live 25 true false (L.map Sl++[Sl x])]):=by
 obtain⟨xl,hl⟩:=I.lst
 obtain⟨xb,hb⟩:=I.bx
 have lA:=Ux I.all
 have ll:=Ux hl
 have lk:=Ux I.kn
 have lx:=Ux hb
 have b2:=I.b2
 have b3:=I.b3
 have b4:=I.b4
 have old:∀j,j<h.length→j≠H.length+3→j≠b→((h.set (H.length+3) (Ua (Vk (L++[x]) knT))).set b .dead++[c,.live 25 true false (L.map Sl++[Sl x])])[j]?=h[j]?:=fun j hj h1 h2=>by
  rw[afJ (by simpa using hj),af8 (fun e=>h2 e.symm),af8 (fun e=>h1 e.symm)]
 have htk:(L++[x]).take i=L.take i:=ak0 hi
 refine⟨⟨by have:=I.keep.len;simp;omega,fun j hj hn=>by rw[old j (by omega) (by omega) (by omega)];exact I.keep.same j hj hn⟩,by rw[htk,old _ lA (by omega) (by omega)];exact I.all,⟨false,?_⟩,?_,⟨xb,by rw[old _ lx (by omega) (by omega)];exact hb⟩,by omega,by omega,by omega,fun y hy=>?_,?_,?_,?_,?_⟩
 ·rw[ak2 (by simp),List.map_append];simp
 ·rw[afJ (by simpa using lk),af8 b3,akZ lk]
 ·rw[htk]at hy
  obtain⟨R0,h1,h2⟩:=I.ch y hy
  have hlt:=uI (by omega) (Vq h1 dG)
  refine⟨R0,?_,fun j hj=>⟨(h2 j hj).1,by have:=hlt j (by simpa using hj);omega⟩⟩
  have:=eH (g':=hf ((h.set (H.length+3) (Ua (Vk (L++[x]) knT))).set b .dead++[c,.live 25 true false (L.map Sl++[Sl x])])) (Vq h1 dG) fun j hj z hz=>by
   have hj2:j∈R0:=by simpa using hj
   have h3:=h2 j hj2
   show((_++_:Qa)[j]?).bind Si=_
   rw[old j (hlt j hj) (by omega) h3.2];exact hz
  obtain⟨a,l',R1,R2,e1,h1',h2',h3⟩:=Yd this
  cases e1
  obtain⟨_,rfl⟩:=eR h2'
  simp at h3
  rw[h1',←h3]
 ·refine List.nodup_append.2 ⟨I.nd,by simp,fun a ha b hb=>?_⟩
  simp at hb;subst hb;exact fun e=>hx (e▸ha)
 ·intro y hy
  rcases ag1.1 hy with h|h
  ·exact I.tw y h
  ·simp at h;rw[h];exact hx2
 ·intro y hy
  rcases ag1.1 hy with h|h
  ·exact I.un y h
  ·simp at h;rw[h];exact hU
 ·have h0:=I.hd
  rw[afJ (afR h0)];exact h0
structure CK(w:Qh)(N:Nat)(H:Qa)(s0:St)(U:St→Prop)(L:List St)(b:Nat)(av:St→AV)(f:St→Nat)(h:Qa):Prop where
 keep:Xr [] H h
 all:h[H.length+1]?=some (Ua (Vk L av))
 lst:∃x,h[b]?=some (.live 25 true x (L.map Sl))
 kn:h[H.length+3]?=some (Ua (Vk L (cK f)))
 bx:∃x,h[H.length+4]?=some (.live 1 false x [[.mapr (H.length+3)]])
 b2:H.length+2≤b
 b3:b≠H.length+3
 b4:b≠H.length+4
 ch:∀s∈L,∃R,rd 6 (hf h) (av s)=some (Rn 4 false false ((Tj w N s).map Zh.cells),R)∧∀j∈R,H.length+5≤j∧j≠b
 nd:L.Nodup
 tw:zQ L
 un:∀s∈L,U s
 hd:L[0]?=some s0
theorem CI.toK{w:Qh}{N:Nat}{H:Qa}{s0:St}{U:St→Prop}{L:List St}{b:Nat}{av:St→AV}{h:Qa}(I:CI w N H s0 U L L.length b av h):CK w N H s0 U L b av (fun _=>Ud) h:=
 ⟨I.keep,by have:=I.all;rwa[akY]at this,I.lst,I.kn,I.bx,I.b2,I.b3,I.b4,fun s hs=>I.ch s (by rwa[akY]),I.nd,I.tw,I.un,I.hd⟩
theorem CK.app{w:Qh}{N:Nat}{H:Qa}{s0:St}{U:St→Prop}{L:List St}{b:Nat}{av:St→AV}{f:St→Nat}{h:Qa}(I:CK w N H s0 U L b av f h)(l:Qa):CK w N H s0 U L b av f (h++l):=by
 obtain⟨xl,hl⟩:=I.lst
 obtain⟨xb,hb⟩:=I.bx
 exact⟨avB I.keep l,Qg I.all l,⟨xl,Qg hl l⟩,Qg I.kn l,⟨xb,Qg hb l⟩,I.b2,I.b3,I.b4,fun s hs=>by
  obtain⟨R,h1,h2⟩:=I.ch s hs
  exact⟨R,iR h1,h2⟩,I.nd,I.tw,I.un,I.hd⟩
theorem CK.put{w:Qh}{N:Nat}{H:Qa}{s0:St}{U:St→Prop}{L:List St}{b:Nat}{av:St→AV}{f:St→Nat}{h:Qa}(I:CK w N H s0 U L b av f h)(g:St→Nat):CK w N H s0 U L b av g (h.set (H.length+3) (Ua (Vk L (cK g)))):=by
 obtain⟨xl,hl⟩:=I.lst
 obtain⟨xb,hb⟩:=I.bx
 have lk:=Ux I.kn
 have b3:=I.b3
 have old:∀j,j≠H.length+3→(h.set (H.length+3) (Ua (Vk L (cK g))))[j]?=h[j]?:=fun j h1=>af8 (fun e=>h1 e.symm)
 refine⟨⟨by have:=I.keep.len;simp;omega,fun j hj hn=>by rw[old j (by omega)];exact I.keep.same j hj hn⟩,by rw[old _ (by omega)];exact I.all,⟨xl,by rw[old b b3];exact hl⟩,akZ lk,⟨xb,by rw[old _ (by omega)];exact hb⟩,I.b2,I.b3,I.b4,fun y hy=>?_,I.nd,I.tw,I.un,I.hd⟩
 obtain⟨R0,h1,h2⟩:=I.ch y hy
 refine⟨R0,?_,h2⟩
 have:=eH (g':=hf (h.set (H.length+3) (Ua (Vk L (cK g))))) (Vq h1 dG) fun j hj z hz=>by
  have hj2:j∈R0:=by simpa using hj
  have h3:=h2 j hj2
  show((h.set _ _)[j]?).bind Si=_
  rw[old j (by omega)];exact hz
 obtain⟨a,l',R1,R2,e1,h1',h2',h3⟩:=Yd this
 cases e1
 obtain⟨_,rfl⟩:=eR h2'
 simp at h3
 rw[h1',←h3]
def mtS(l:List Vg)(f:St→Nat)(x:St):St→Nat:=if kS x.1 l then fun y=>if y=x then 0 else f y else f
theorem aJ1{s:St}(h:s.1.length=12):ae2 24 (Sl s)=Sv s.1:=by
 have:(Sv s.1).length=24:=by rw[Rh];omega
 unfold Sl;rw[ak0 (by omega),adC (by omega)]
theorem xJ(f:St→Nat)(x:St)(n:Nat):(fun y=>if y=x then AV.int .i64 (n:Int)else cK f y)=cK fun y=>if y=x then n else f y:=by
 funext y;unfold cK;by_cases e:y=x<;>simp[e]
def lE(w:Qh)(N:Nat)(p:(St→Nat) × Bool)(x:St):(St→Nat) × Bool:=if bZ p.1 (p.1 x) (Tj w N x)<p.1 x then(fun y=>if y=x then bZ p.1 (p.1 x) (Tj w N x)else p.1 y,true)else p
theorem wV(f:St→Nat):∀(l:List Zh) (n:Nat),bZ f n l≤n∧(∀o∈l,bZ f n l≤kZ f o)∧(bZ f n l=n∨∃o∈l,bZ f n l=kZ f o)
 | [],n=>⟨ai0 _,by simp,.inl rfl⟩
 |o::l,n=>by
  obtain⟨h1,h2,h3⟩:=wV f l (min n (kZ f o))
  have e:bZ f n (o::l)=bZ f (min n (kZ f o)) l:=rfl
  rw[e]
  refine⟨by omega,fun x hx=>?_,?_⟩
  ·rcases aoR.1 hx with rfl|hx
   ·omega
   ·exact h2 x hx
  ·rcases h3 with h|⟨x,hx,h⟩
   ·by_cases c:n≤kZ f o
    ·exact .inl (by omega)
    ·exact .inr ⟨o,by simp,by omega⟩
   ·exact .inr ⟨x,by simp[hx],h⟩
theorem afZ{f:St→Nat}{x:St}{n:Nat}:∀{L:List St},(∀y∈L,y∈L)→n≤f x→(L.map fun y=>if y=x then n else f y).sum≤(L.map f).sum
 | [],_,_=>ai0 _
 |y::L,_,h=>by
  have:=afZ (L:=L) (fun _ h=>h) h
  simp only[List.map_cons,List.sum_cons]
  split
  ·rename_i e;subst e;omega
  ·omega
theorem lT{f:St→Nat}{x:St}{n:Nat}(h:n<f x):∀{L:List St},x∈L→(L.map fun y=>if y=x then n else f y).sum<(L.map f).sum
 |y::L,hm=>by
  have h0:=afZ (f:=f) (L:=L) (fun _ h=>h) (Nat.le_of_lt h)
  simp only[List.map_cons,List.sum_cons]
  by_cases e:y=x
  ·subst e;rw[if_pos rfl];omega
  ·rw[if_neg e]
   rcases aoR.1 hm with e'|hm
   ·exact absurd e'.symm e
   ·have:=lT h hm;omega
theorem mE{w:Qh}{N:Nat}{l:List Vg}{L:List St}:∀(r:List St),(∀x∈r,x∈L)→∀p:(St→Nat) × Bool,(Zx w N l).Known Ud L p.1→
 (Zx w N l).Known Ud L (r.foldl (lE w N) p).1∧((L.map (r.foldl (lE w N) p).1).sum≤(L.map p.1).sum)∧((r.foldl (lE w N) p).2=true→p.2=true∨(L.map (r.foldl (lE w N) p).1).sum<(L.map p.1).sum)∧
 ((r.foldl (lE w N) p).2=false→r.foldl (lE w N) p=p∧∀x∈r,∀o∈Tj w N x,p.1 x≤kZ p.1 o)
 | [],_,p,K=>⟨K,ai0 _,.inl,fun _=>⟨rfl,by simp⟩⟩
 |x::r,hr,p,K=>by
  obtain⟨q1,q2,q3⟩:=wV p.1 (Tj w N x) (p.1 x)
  simp only[ajM]
  by_cases c:bZ p.1 (p.1 x) (Tj w N x)<p.1 x
  ·have e:lE w N p x=(fun y=>if y=x then bZ p.1 (p.1 x) (Tj w N x)else p.1 y,true):=by simp only[lE,if_pos c]
   rw[e]
   rcases q3 with q3|⟨o,ho,q3⟩
   ·omega
   have hs:=lT c (hr x (by simp))
   have K2:(Zx w N l).Known Ud L (fun y=>if y=x then bZ p.1 (p.1 x) (Tj w N x)else p.1 y):=K.less (s:=x) (o:=(o.c.toNat,o.to)) (List.mem_map_of_mem ho) (hr x (by simp)) q3 c
   generalize(fun y=>if y=x then bZ p.1 (p.1 x) (Tj w N x)else p.1 y)=g at hs K2 ⊢
   obtain⟨a1,a2,a3,a4⟩:=mE r (fun y h=>hr y (by simp[h])) (g,true) K2
   refine⟨a1,by simp only at a2;omega,fun _=>.inr (by simp only at a2;omega),fun h=>?_⟩
   have:=(a4 h).1
   rw[this]at h
   cases h
  ·have e:lE w N p x=p:=by simp only[lE,if_neg c]
   rw[e]
   obtain⟨a1,a2,a3,a4⟩:=mE r (fun y h=>hr y (by simp[h])) p K
   refine⟨a1,a2,a3,fun h=>⟨(a4 h).1,fun y hy o ho=>?_⟩⟩
   rcases aoR.1 hy with rfl|hy
   ·have:=q2 o ho;omega
   ·exact(a4 h).2 y hy o ho
theorem mV(l:List Vg)(y:St):∀(L:List St) (f:St→Nat),L.foldl (mtS l) f y=if y∈L∧kS y.1 l=true then 0 else f y
 | [],f=>by simp
 |x::L,f=>by
  rw[ajM,mV l y L]
  by_cases c:kS x.1 l=true
  ·by_cases e:y=x
   ·subst e;simp[mtS,c]
   ·simp[mtS,c,e]
  ·by_cases e:y=x
   ·subst e;simp[mtS,c]
   ·simp[mtS,c,e]
theorem ax8{w:Qh}{N:Nat}{l:List Vg}{L:List St}(ho:∀s∈L,∀o∈Tj w N s,1≤o.c∧o.c≤1000∧o.to≠[]∧∀x∈o.to,x∈L):(Zx w N l).Known Ud L (L.foldl (mtS l) fun _=>Ud):=by
 refine⟨fun s hs o h=>?_,fun s hs=>?_,fun s hs hg=>?_,fun s hs hlt=>?_,fun s hs hlt=>?_⟩
 ·obtain⟨c,hc,rfl⟩:=aq4.1 h
  obtain⟨a1,a2,a3,a4⟩:=ho s hs c hc
  exact⟨by show 1≤c.c.toNat;omega,by show c.c.toNat≤1000;omega,a3,a4⟩
 ·rw[mV];split<;>simp
 ·rw[mV];exact if_pos ⟨hs,hg⟩
 ·rw[mV]at hlt ⊢
  split at hlt
  ·rename_i h;rw[if_pos h];exact .met h.2
  ·simp at hlt
 ·rw[mV]at hlt
  split at hlt
  ·rename_i h;exact .inl h.2
  ·simp at hlt
theorem asM{w:Qh}{N:Nat}(hw:qK w N)(h12:w.parts.length≤12)(d:Int){H:Qa}{lb:Nat}{wf:Bool}(hlb:H[lb]?=some (rO w d wf)){s0:St}(hs:s0.1.length=12)(hf3:s0.2≤3)(l:List Vg)(nn:Bool)(hl:l.length≤maxLen)(hlp:∀x∈l,0≤x.part∧x.part<12)
 {U:St→Prop} {B:Nat} (hB39:B≤400000000000) (hU:∀L:List St,L.Nodup→(∀s∈L,U s)→L.length≤B) (hU0:U s0) (hUs:∀s,U s→s.1.length=12∧s.2≤3) (hUc:∀s,U s→∀o∈Tj w N s,1≤o.c∧o.c≤1000∧o.to≠[]∧o.to.length≤2∧∀x∈o.to,U x):
 ShQ Up 41 [.ptr lb 0 0,.agg (Sl s0),Rn 3 true nn (l.map Vg.cells)] H fun o G=>∃(L:List St) (f:St→Nat) (av:St→AV) (b:Nat),o=.ret (.tup [.mapr (H.length+3),.mapr (H.length+1)])∧CK w N H s0 U L b av f G∧(Zx w N l).Known Ud L f∧∀x∈L,∀o∈Tj w N x,f x≤kZ f o:=by
 have hlen:=hw.len
 have hsl:=Yf hs
 have hsf:=Wj s0
 have hsc:=Ww s0
 have htk:ae2 25 (Sl s0)=Sl s0:=adC (by omega)
 refine ae0 rfl Tryz.func41 rfl rfl ?_
 simp only[Tryz.f41]
 obtain⟨qC,hqC⟩:∃q,Fn.func 65=q:=⟨_,rfl⟩
 have hins:=ap4 (h:=H++[CB.live 25 true false [Sl s0],CB.lp [] Code.skip Code.skip [] Yc.map,CB.live 25 true false [Sl s0],CB.lp [] Code.skip Code.skip [] Yc.map]) (b:=H.length+3) (L:=[]) (s:=s0) (by rw[ak2 (by omega),arB];rfl) (by intro s hs;cases hs) hs (by simp)
 (have hb:=trivial;with_reducible repeat' (first|simp only[hb,Vc.down,seval,Yu.down,hsl,hsf,hsc,htk,hins,aT.down,lS,lP,mL,ajV,ajY,aj6,aq5,aaN]|refine Qp ?_ ?_<;>intro hb|refine fd ?_|fail))
 refine Wz (cnt 117 (fun n (_:Unit) t h=>t 0=.ptr lb 0 0∧t 2=Rn 3 true nn (l.map Vg.cells)∧t 8=.mapr (H.length+1)∧t 10=.ptr (H.length+4) 0 0∧∃(L:List St) (i b:Nat) (av:St→AV),t 9=.slr 25 b 0 L.length∧t 11=.int .i64 (i:Int)∧i+n=B∧i≤L.length∧CI w N H s0 U L i b av h∧Cls w N L i) (fun _ _=>())
  (fun _ e t h=>e=.exit 0∧t 0=.ptr lb 0 0∧t 2=Rn 3 true nn (l.map Vg.cells)∧t 8=.mapr (H.length+1)∧t 10=.ptr (H.length+4) 0 0∧∃(L:List St) (b:Nat) (av:St→AV),t 9=.slr 25 b 0 L.length∧CI w N H s0 U L L.length b av h∧Cls w N L L.length) ?_ ?_ B () _ _ ?_) (fun e t h hk=>?_)
 ·rintro _ t h Q' kQ ⟨g0,g2,g8,g10,L,i,b,av,g9,g11,hi,hiL,I,hcl⟩
  have hLB:=hU L I.nd I.un
  obtain rfl:i=L.length:=by omega
  (have hb:=trivial;with_reducible repeat' (first|simp only[hb,Vc.down,seval,Yu.down,g9,g11,aj8,decide_false]|refine Qp ?_ ?_<;>intro hb|refine fd ?_|fail))
  exact kQ _ _ _ ⟨rfl,by simp[up,g0],by simp[up,g2],by simp[up,g8],by simp[up,g10],L,b,av,by simp[up,g9],I,hcl⟩
 ·rintro n _ t h J Q' kJ kQ ⟨g0,g2,g8,g10,L,i,b,av,g9,g11,hi,hiL,I,hcl⟩
  have hLB:=hU L I.nd I.un
  by_cases hlt:i<L.length
  ·obtain⟨s,hs'⟩:∃s,L[i]?=some s:=⟨_,List.getElem?_eq_getElem hlt⟩
   have hsm:=adQ hs'
   obtain⟨hs12,hsf3⟩:=hUs s (I.un s hsm)
   obtain⟨xl,hlst⟩:=I.lst
   have hdd:decide ((i:Int)<(L.length:Int))=true:=decide_eq_true (by omega)
   have hip:((i:Int)<(L.length:Int))=True:=eq_true (by omega)
   have z1:=Yf hs12
   have z2:=Wj s
   have z3:=Ww s
   have z4:ae2 25 (Sl s)=Sl s:=adC (by omega)
   (have hb:=trivial;with_reducible repeat' (first|simp only[hb,Vc.down,seval,Yu.down,g0,g8,g9,g11,hdd,hip,hlst,hs',z1,z2,z3,z4,hqC,aT.down,aaN]|refine Qp ?_ ?_<;>intro hb|refine fd ?_|fail))
   generalize hE:cl Up (h++[CB.live 25 true true [Sl s]]) (some (.func qC [] [])) (some [.ptr lb 0 0,.agg (Sl s)])=E
   rw[←hqC]at hE
   have hlb2:(Xb (h++[CB.live 25 true true [Sl s]]))[lb]?=some (rO w d false):=by
    have h1:(h++[CB.live 25 true true [Sl s]])[lb]?=some (rO w d wf):=Qg ((I.keep.same lb (Ux hlb) (by simp)).trans hlb) _
    rw[Vf h1];rfl
   obtain⟨o,G,es,M,e1,e2,⟨v,R,rfl,hv,hR⟩,e4,e5,e6,e7,e8⟩:=aqS (O:=Up) (f:=65) (H:=h++[CB.live 25 true true [Sl s]]) (args:=[.ptr lb 0 0,.agg (Sl s)]) rfl rfl (aiM hw h12 d hlb2 hs12 hsf3)
   have e9:=hE.symm.trans e1
   subst e9
   rw[Sm]at hR
   have hft:ftC Up (h++[CB.live 25 true true [Sl s]]) (some (.func qC [] [])) (some [.ptr lb 0 0,.agg (Sl s)])=some [.all]:=by
    rw[←hqC,ae4];rfl
   obtain⟨p1,p2⟩:=an6 hv
   have hMall:M[H.length+1]?=some (Ua (Vk (L.take i) av)):=(e6 _ (by have:=Ux I.all;simp;omega)).trans (Qg I.all _)
   have hnt:s∉L.take i:=fun hm=>by
    obtain⟨j,hj⟩:=List.getElem?_of_mem hm
    have hji:j<i:=by
     have:=(arA.1 hj).1
     simp at this;omega
    rw[List.getElem?_take_of_lt hji]at hj
    have:=tH I.nd hj hs'
    omega
   have hms:=aQ4 hMall (fun x hx=>I.tw x (arF hx)) hs12 hnt v
   have hMbx:M[h.length]?=some (.live 25 true true [Sl s]):=(e6 _ (by simp)).trans (by rw[ak2 (ai0 _),Nat.sub_self];rfl)
   obtain⟨av2,hav2⟩:∃av2:St→AV,(fun y=>if y=s then v else av y)=av2:=⟨_,rfl⟩
   rw[hav2]at hms
   have hav2s:av2 s=v:=by rw[←hav2];simp
   have hAM:=Ux hMall
   have hAh:H.length+1≠h.length:=by have:=Ux I.all;omega
   have hM2:(M.set (H.length+1) (Ua (Vk (L.take i++[s]) av2)))[H.length+1]?=some (Ua (Vk (L.take i++[s]) av2)):=akZ hAM
   have hMb2:(M.set (H.length+1) (Ua (Vk (L.take i++[s]) av2)))[h.length]?=some (.live 25 true true [Sl s]):=by rw[af8 hAh];exact hMbx
   have hlk:=ae8 hM2 (fun x hx=>by
    rcases ag1.1 hx with hx|hx
    ·exact I.tw x (arF hx)
    ·simp at hx;rw[hx];exact hs12) (s:=s) (by simp)
   rw[hav2s]at hlk
   have hln:=atG hv
   have hic:v.isCell=true:=p1
   (have hb:=trivial;with_reducible repeat' (first|simp only[hb,Vc.down,seval,Yu.down,g8,e2,hft,hms,hM2,hMb2,hlk,hln,hic,p2,z1,z2,z3,z4,aT.down,aj6,aq5,ajV,ajY]|refine Qp ?_ ?_<;>intro hb|refine fdq ?_|fail))
   refine yR (fun b=>if b=h.length then 0 else 1) [([],[]),([],[.cells 0 0 25]),([],[]),([],[.cells 0 0 25]),([.blk 1],[.all]),([.blk 1],[.blk 1])] (by kernel_rfl) ?_ (fun _=>?_)
   ·have hes:∀e∈es,dD (fun b=>if b=h.length then 0 else 1) e.foot=.blk 1:=fun e he=>by
     obtain⟨b',k1,k2⟩:=e8 e he
     have hne:b'≠h.length:=by
      rcases k2 with k2|⟨c,k3,k4⟩
      ·simp at k2;omega
      ·intro e';subst e'
       rw[ak2 (ai0 _),Nat.sub_self]at k3
       simp at k3;subst k3;cases k4
     rw[k1];simp[dD,hne]
    simp only[iW,lU]
    refine⟨by simp,by simp,by simp,by simp[dD],by simp,by simp,by simp,by simp[dD],fun e he=>.inr (by rw[hes e he];simp),by simp,by simp[Qd.foot,dD,hAh],by simp[dD,hAh],trivial⟩
   have I1:=I.call hs' e5 e6 e7 hv hR
   rw[hav2]at I1
   have hCl:(Tj w N s).length≤48:=tD w N s h12
   have hUo:=hUc s (I.un s hsm)
   refine Wz (lst 117 (Tj w N s) (fun j (_:Unit) t h=>t 0=.ptr lb 0 0∧t 2=Rn 3 true nn (l.map Vg.cells)∧t 8=.mapr (H.length+1)∧t 10=.ptr (H.length+4) 0 0∧t 11=.int .i64 (i:Int)∧t 48=v∧t 49=.int .i64 ((Tj w N s).length:Int)∧t 50=.int .i64 (j:Int)∧∃(L':List St) (b':Nat),t 9=.slr 25 b' 0 L'.length∧L <+:L'∧CI w N H s0 U L' (i+1) b' av2 h∧∀o∈(Tj w N s).take j,∀x∈o.to,x∈L') (fun _ _=>())
    (fun _ e t h=>e=.exit 2∧t 0=.ptr lb 0 0∧t 2=Rn 3 true nn (l.map Vg.cells)∧t 8=.mapr (H.length+1)∧t 10=.ptr (H.length+4) 0 0∧t 11=.int .i64 (i:Int)∧∃(L':List St) (b':Nat),t 9=.slr 25 b' 0 L'.length∧L <+:L'∧CI w N H s0 U L' (i+1) b' av2 h∧∀o∈Tj w N s,∀x∈o.to,x∈L') ?_ ?_ () _ _ ?_) (fun e t h hk=>?_)
   ·rintro _ t h Q'' kQ ⟨g0,g2,g8,g10,g11,g48,g49,g50,L',b',g9,hp,I',ho⟩
    rw[akY]at ho
    (have hb:=trivial;with_reducible repeat' (first|simp only[hb,Vc.down,seval,Yu.down,g49,g50,aj8,decide_false]|refine Qp ?_ ?_<;>intro hb|refine fd ?_|fail))
    exact kQ _ _ _ ⟨rfl,by simp[up,g0],by simp[up,g2],by simp[up,g8],by simp[up,g10],by simp[up,g11],L',b',by simp[up,g9],hp,I',ho⟩
   ·rintro o rest j _ t h J' Q'' kJ' kQ' hx hj ⟨g0,g2,g8,g10,g11,g48,g49,g50,L',b',g9,hp,I',ho⟩
    have hdj:decide ((j:Int)<((Tj w N s).length:Int))=true:=decide_eq_true (by omega)
    have hij:((j:Int)<((Tj w N s).length:Int))=True:=eq_true (by omega)
    have hwj:=Tc hj (by unfold maxLen;omega)
    obtain⟨u0,u1,u2,u3,u4⟩:=hUo o (adQ hx)
    obtain⟨X,rfl⟩:=hp
    have hst:s∈(L++X).take (i+1):=by
     rw[ak0 (by omega),akX,hs'];simp
    obtain⟨R',hv',hR'⟩:=I'.ch s hst
    rw[hav2s]at hv'
    obtain⟨bv,bt,hvv,y1,y2,y3⟩:=afU hv' hx u2
    rw[hvv]at g48
    have hbt:=hR' bt y3
    (have hb:=trivial;with_reducible repeat' (first|simp only[hb,Vc.down,seval,Yu.down,g48,g49,g50,hdj,hij,y1,aj6,aq5,ajV,ajY,aaN]|refine Qp ?_ ?_<;>intro hb|refine fd ?_|fail))
    refine Wz (lst 117 o.to (fun m (_:Unit) t h=>t 0=.ptr lb 0 0∧t 2=Rn 3 true nn (l.map Vg.cells)∧t 8=.mapr (H.length+1)∧t 10=.ptr (H.length+4) 0 0∧t 11=.int .i64 (i:Int)∧t 48=v∧t 49=.int .i64 ((Tj w N s).length:Int)∧t 50=.int .i64 (j:Int)∧t 55=.slr 25 bt 0 o.to.length∧t 56=.int .i64 (o.to.length:Int)∧t 57=.int .i64 (m:Int)∧(hf h bt).bind Si=some (25,true,o.to.map Sl)∧∃(L':List St) (b':Nat),t 9=.slr 25 b' 0 L'.length∧bt≠b'∧L <+:L'∧CI w N H s0 U L' (i+1) b' av2 h∧(∀o∈(Tj w N s).take j,∀x∈o.to,x∈L')∧∀x∈o.to.take m,x∈L') (fun _ _=>())
     (fun _ e t h=>e=.exit 4∧t 0=.ptr lb 0 0∧t 2=Rn 3 true nn (l.map Vg.cells)∧t 8=.mapr (H.length+1)∧t 10=.ptr (H.length+4) 0 0∧t 11=.int .i64 (i:Int)∧t 48=v∧t 49=.int .i64 ((Tj w N s).length:Int)∧t 50=.int .i64 (j:Int)∧∃(L':List St) (b':Nat),t 9=.slr 25 b' 0 L'.length∧L <+:L'∧CI w N H s0 U L' (i+1) b' av2 h∧(∀o∈(Tj w N s).take j,∀x∈o.to,x∈L')∧∀x∈o.to,x∈L') ?_ ?_ () _ _ ?_) (fun e t h hk=>?_)
    ·rintro _ t h Q3 kQ3 ⟨g0,g2,g8,g10,g11,g48,g49,g50,g55,g56,g57,z5,L',b',g9,hnb,hp,I',ho,hm⟩
     rw[akY]at hm
     (have hb:=trivial;with_reducible repeat' (first|simp only[hb,Vc.down,seval,Yu.down,g56,g57,aj8,decide_false]|refine Qp ?_ ?_<;>intro hb|refine fd ?_|fail))
     exact kQ3 _ _ _ ⟨rfl,by simp[up,g0],by simp[up,g2],by simp[up,g8],by simp[up,g10],by simp[up,g11],by simp[up,g48],by simp[up,g49],by simp[up,g50],L',b',by simp[up,g9],hp,I',ho,hm⟩
    ·rintro x rest m _ t h J3 Q3 kJ3 kQ3 hx3 hm3 ⟨g0,g2,g8,g10,g11,g48,g49,g50,g55,g56,g57,z5,L',b',g9,hnb,hp,I',ho,hm⟩
     have hdm:decide ((m:Int)<(o.to.length:Int))=true:=decide_eq_true (by omega)
     have him:((m:Int)<(o.to.length:Int))=True:=eq_true (by omega)
     have hwm:=Tc hm3 (by unfold maxLen;omega)
     have hxU:=u4 x (adQ hx3)
     obtain⟨hx12,_⟩:=hUs x hxU
     have w1:=Yf hx12
     have w2:=Wj x
     have w3:=Ww x
     have w4:ae2 25 (Sl x)=Sl x:=adC (by omega)
     have yx:Zf (h[bt]?) m=some (Sl x):=by rw[agB z5,aq8,hx3];rfl
     obtain⟨xb,hbx⟩:=I'.bx
     obtain⟨xl',hlst'⟩:=I'.lst
     have hbx2:=Qg hbx
     have hkn2:=Qg I'.kn
     by_cases hin:x∈L'
     ·have hlk2:=fun q=>aEG (v:=knT) (hkn2 q) I'.tw hin
      (have hb:=trivial;with_reducible repeat' (first|simp only[hb,Vc.down,seval,Yu.down,g10,g55,g56,g57,hdm,him,hwm,yx,w1,w2,w3,w4,hbx2,hkn2,hlk2,aT.down,aaN]|refine Qp ?_ ?_<;>intro hb|refine fd ?_|fail))
      exact Qj (kJ3 _ _ () ⟨by simp[up,g0],by simp[up,g2],by simp[up,g8],by simp[up,g10],by simp[up,g11],by simp[up,g48],by simp[up,g49],by simp[up,g50],by simp[up,g55],by simp[up,g56],by simp[up],by
       show((_++_:Qa)[bt]?).bind Si=_
       rw[afJ (jE z5)];exact z5,L',b',by simp[up,g9],hnb,hp,I'.app _,ho,fun y hy=>by
       rw[akX,hx3]at hy
       rcases ag1.1 hy with h|h
       ·exact hm y h
       ·simp at h;rw[h];exact hin⟩ rfl)
     ·have hlk2:=fun q=>bcX (hkn2 q) I'.tw hx12 hin
      have hms2:=fun q=>ap4 (hkn2 q) I'.tw hx12 hin
      have hLB':=hU L' I'.nd I'.un
      have hkl:=Ux I'.kn
      have hbl:=Ux hlst'
      have hSk:=Yg hkl
      have b3':=I'.b3
      have b4':=I'.b4
      have hbx3:∀q,(h.set (H.length+3) (Ua (Vk (L'++[x]) knT))++q)[H.length+4]?=some (.live 1 false xb [[.mapr (H.length+3)]]):=fun q=>qJ _ (by omega) hbx q
      have hlst3:∀q,(h.set (H.length+3) (Ua (Vk (L'++[x]) knT))++q)[b']?=some (.live 25 true xl' (L'.map Sl)):=fun q=>qJ _ (fun e=>b3' e.symm) hlst' q
      have hSb:∀q c,(h.set (H.length+3) (Ua (Vk (L'++[x]) knT))++q).set b' c=(h.set (H.length+3) (Ua (Vk (L'++[x]) knT))).set b' c++q:=fun q c=>List.set_append_left _ _ (by simpa using hbl)
      have hi39:(L'.length+1≤549755813888)=True:=eq_true (by omega)
      (have hb:=trivial;with_reducible repeat' (first|simp only[hb,Vc.down,seval,Yu.down,g9,g10,g55,g56,g57,hdm,him,hwm,yx,w1,w2,w3,w4,hbx2,hkn2,hlk2,hms2,hSk,hbx3,hlst3,hSb,hi39,bP,Zy,List.length_set,aT.down,aaN]|refine Qp ?_ ?_<;>intro hb|refine fd ?_|fail))
      have hIL:i+1≤L'.length:=by have:=hp.length_le;omega
      have hg:=(I'.app [.live 25 true true [Sl x]]).grow hIL hin hx12 hxU (.live 25 true false [Sl x])
      have he:((h++[CB.live 25 true true [Sl x]]).set (H.length+3) (Ua (Vk (L'++[x]) knT))).set b' .dead++[CB.live 25 true false [Sl x],CB.live 25 true false (L'.map Sl++[Sl x])]=(h.set (H.length+3) (Ua (Vk (L'++[x]) knT))).set b' .dead++[CB.live 25 true true [Sl x],CB.live 25 true false [Sl x],CB.live 25 true false (L'.map Sl++[Sl x])]:=by
       rw[hSk,hSb,List.append_assoc];rfl
      rw[he]at hg
      have hbl2:=jE z5
      refine Qj (kJ3 _ _ () ⟨by simp[up,g0],by simp[up,g2],by simp[up,g8],by simp[up,g10],by simp[up,g11],by simp[up,g48],by simp[up,g49],by simp[up,g50],by simp[up,g55],by simp[up,g56],by simp[up],?_,L'++[x],(h++[CB.live 25 true true [Sl x]]).length+1,by simp[up],by simp;omega,hp.trans (as4 _ _),hg,fun o' ho' x' hx'=>aq6 _ (ho o' ho' x' hx'),fun y hy=>?_⟩ rfl)
      ·show((_++_:Qa)[bt]?).bind Si=_
       rw[afJ (by simpa using hbl2),af8 (fun e=>hnb e.symm),af8 (by have:=hbt.1;omega)]
       exact z5
      ·rw[akX,hx3]at hy
       rcases ag1.1 hy with h|h
       ·exact aq6 _ (hm y h)
       ·simp at h;rw[h];simp
    ·exact⟨by simp[up,g0],by simp[up,g2],by simp[up,g8],by simp[up,g10],by simp[up,g11],by simp[up,g48,hvv],by simp[up,g49],by simp[up,g50],by simp[up],by simp[up],by simp[up],by
      show((_++_:Qa)[bt]?).bind Si=_
      rw[afJ (jE y2)];exact y2,L++X,b',by simp[up,g9],hbt.2,as4 _ _,I'.app _,ho,by simp⟩
    obtain⟨rfl,g0,g2,g8,g10,g11,g48,g49,g50,L',b',g9,hp,I',ho,hm⟩:=hk
    (have hb:=trivial;with_reducible repeat' (first|simp only[hb,Vc.down,seval,Yu.down,g50,hwj]|refine Qp ?_ ?_<;>intro hb|refine fd ?_|fail))
    exact Qj (kJ' _ _ () ⟨by simp[up,g0],by simp[up,g2],by simp[up,g8],by simp[up,g10],by simp[up,g11],by simp[up,g48],by simp[up,g49],by simp[up],L',b',by simp[up,g9],hp,I',fun o' ho'=>by
     rw[akX,hx]at ho'
     rcases ag1.1 ho' with h|h
     ·exact ho o' h
     ·simp at h;subst h;exact hm⟩ rfl)
   ·exact⟨by simp[up,g0],by simp[up,g2],by simp[up,g8],by simp[up,g10],by simp[up,g11],by simp[up],by simp[up],by simp[up],L,b,by simp[up,g9],List.prefix_refl _,I1,by simp⟩
   obtain⟨rfl,g0,g2,g8,g10,g11,L',b',g9,⟨X,rfl⟩,I',ho⟩:=hk
   have hwi:IntKind.i64.wrap ((i:Int)+1)=((i+1:Nat):Int):=by rw[Us (by omega) (by omega)];omega
   (have hb:=trivial;with_reducible repeat' (first|simp only[hb,Vc.down,seval,Yu.down,g11,hwi]|refine Qp ?_ ?_<;>intro hb|refine fd ?_|fail))
   refine Qj (kJ _ _ () ⟨by simp[up,g0],by simp[up,g2],by simp[up,g8],by simp[up,g10],L++X,i+1,b',av2,by simp[up,g9],by simp[up],by omega,by simp;omega,I',fun y hy o' ho' x' hx'=>?_⟩ rfl)
   rw[ak0 (by omega),akX,hs']at hy
   rcases ag1.1 hy with hy|hy
   ·exact aq6 _ (hcl y hy o' ho' x' hx')
   ·simp at hy;subst hy;exact ho o' ho' x' hx'
  ·obtain rfl:i=L.length:=by omega
   (have hb:=trivial;with_reducible repeat' (first|simp only[hb,Vc.down,seval,Yu.down,g9,g11,aj8,decide_false]|refine Qp ?_ ?_<;>intro hb|refine fd ?_|fail))
   exact kQ _ _ _ ⟨rfl,by simp[up,g0],by simp[up,g2],by simp[up,g8],by simp[up,g10],L,b,av,by simp[up,g9],I,hcl⟩
 ·refine⟨by simp[up,aU],by simp[up,aU],by simp[up],by simp[up],[s0],0,H.length+2,fun _=>.nils,by simp[up],by simp[up],by omega,by simp,?_,by intro s hs;simp at hs⟩
  have at':∀(j:Nat) (c:CB) (X:Qa),X[j]?=some c→(H++X)[H.length+j]?=some c:=fun j c X h=>by rw[ak2 (by omega),arB];exact h
  exact⟨Xr.app _ _,at' 1 _ _ rfl,⟨_,at' 2 _ _ rfl⟩,at' 3 _ _ rfl,⟨_,at' 4 _ _ rfl⟩,by omega,by omega,by omega,by intro s hs;simp at hs,by simp,by intro s hs';simp at hs';rw[hs'];exact hs,by intro s hs';simp at hs';rw[hs'];exact hU0,rfl⟩
 obtain⟨rfl,g0,g2,g8,g10,L,b,av,g9,I,hcl⟩:=hk
 have hLB:=hU L I.nd I.un
 have K:=I.toK
 have hL9:L.length≤maxLen:=by unfold maxLen;omega
 (have hb:=trivial;with_reducible repeat' (first|simp only[hb,Vc.down,seval,Yu.down,g9]|refine Qp ?_ ?_<;>intro hb|refine fd ?_|fail))
 refine Wz (lst 117 L (fun i (f:St→Nat) t h=>t 0=.ptr lb 0 0∧t 2=Rn 3 true nn (l.map Vg.cells)∧t 8=.mapr (H.length+1)∧t 9=.slr 25 b 0 L.length∧t 10=.ptr (H.length+4) 0 0∧t 77=.slr 25 b 0 L.length∧t 78=.int .i64 (L.length:Int)∧t 79=.int .i64 (i:Int)∧CK w N H s0 U L b av f h) (fun rest f=>rest.foldl (mtS l) f)
  (fun f e t h=>e=.exit 6∧t 0=.ptr lb 0 0∧t 2=Rn 3 true nn (l.map Vg.cells)∧t 8=.mapr (H.length+1)∧t 9=.slr 25 b 0 L.length∧t 10=.ptr (H.length+4) 0 0∧CK w N H s0 U L b av f h) ?_ ?_ (fun _=>Ud) _ _ ?_) (fun e t h hk=>?_)
 ·rintro f t h Q' kQ ⟨g0,g2,g8,g9,g10,g77,g78,g79,K⟩
  (have hb:=trivial;with_reducible repeat' (first|simp only[hb,Vc.down,seval,Yu.down,g78,g79,aj8,decide_false]|refine Qp ?_ ?_<;>intro hb|refine fd ?_|fail))
  exact kQ _ _ _ ⟨rfl,by simp[up,g0],by simp[up,g2],by simp[up,g8],by simp[up,g9],by simp[up,g10],K⟩
 ·rintro x rest i f t h J Q' kJ kQ hx hi ⟨g0,g2,g8,g9,g10,g77,g78,g79,K⟩
  have hdd:decide ((i:Int)<(L.length:Int))=true:=decide_eq_true (by omega)
  have hii:((i:Int)<(L.length:Int))=True:=eq_true (by omega)
  have hww:=Tc hi hL9
  obtain⟨xl,hlst⟩:=K.lst
  obtain⟨xb,hbx⟩:=K.bx
  have hxm:=adQ hx
  have hx12:=K.tw x hxm
  have w1:=Yf hx12
  have w2:=Wj x
  have w3:=Ww x
  have w4:ae2 25 (Sl x)=Sl x:=adC (by omega)
  have hbx2:=Qg hbx
  have hkn2:=Qg K.kn
  have hM:=bcJ hx12 l nn hl hlp
  have hms2:=fun q=>adZ (hkn2 q) K.tw K.nd hxm (.int .i64 0)
  have hSk:=Yg (Ux K.kn)
  generalize hmb:kS x.1 l=mb at *
  have w5:=aJ1 hx12
  have w6:=cZ x.1 6
  cases mb with
  |false=>
   (have hb:=trivial;with_reducible repeat' (first|simp only[hb,Vc.down,seval,Yu.down,g2,g8,g9,g10,g77,g78,g79,hdd,hii,hww,hlst,hx,w1,w2,w3,w4,w5,w6,hbx2,hkn2,hM,hms2,hSk,aT.down,aaN]|refine Qp ?_ ?_<;>intro hb|refine fd ?_|fail))
   have hf:mtS l f x=f:=by simp[mtS,hmb]
   exact Qj (kJ _ _ f ⟨by simp[up,g0],by simp[up,g2],by simp[up,g8],by simp[up,g9],by simp[up,g10],by simp[up,g77],by simp[up,g78],by simp[up],K.app _⟩ (by rw[ajM,hf]))
  |true=>
   (have hb:=trivial;with_reducible repeat' (first|simp only[hb,Vc.down,seval,Yu.down,g2,g8,g9,g10,g77,g78,g79,hdd,hii,hww,hlst,hx,w1,w2,w3,w4,w5,w6,hbx2,hkn2,hM,hms2,hSk,aT.down,aaN]|refine Qp ?_ ?_<;>intro hb|refine fd ?_|fail))
   have hf:mtS l f x=fun y=>if y=x then 0 else f y:=by simp[mtS,hmb]
   have hkp:(fun y=>if y=x then AV.int .i64 0 else cK f y)=cK (mtS l f x):=by rw[hf];exact xJ f x 0
   rw[hkp]
   exact Qj (kJ _ _ (mtS l f x) ⟨by simp[up,g0],by simp[up,g2],by simp[up,g8],by simp[up,g9],by simp[up,g10],by simp[up,g77],by simp[up,g78],by simp[up],(K.put (mtS l f x)).app _⟩ rfl)
 ·exact⟨by simp[up,g0],by simp[up,g2],by simp[up,g8],by simp[up,g9],by simp[up,g10],by simp[up],by simp[up],by simp[up],K⟩
 obtain⟨rfl,g0,g2,g8,g9,g10,K⟩:=hk
 have hK0:=ax8 (w:=w) (N:=N) (l:=l) (L:=L) fun s hs o ho=>by
  obtain⟨u0,u1,u2,u3,u4⟩:=hUc s (I.un s hs) o ho
  exact⟨u0,u1,u2,fun x hx=>hcl s (by rwa[akY]) o ho x hx⟩
 (have hb:=trivial;with_reducible repeat' (first|simp only[hb,Vc.down,seval,Yu.down]|refine Qp ?_ ?_<;>intro hb|refine fd ?_|fail))
 refine Wz (cnt 117 (fun n (_:Unit) t h=>t 0=.ptr lb 0 0∧t 8=.mapr (H.length+1)∧t 9=.slr 25 b 0 L.length∧t 10=.ptr (H.length+4) 0 0∧∃f,CK w N H s0 U L b av f h∧(Zx w N l).Known Ud L f∧(L.map f).sum<n) (fun _ _=>())
  (fun _ e t h=>e=.exit 8∧t 8=.mapr (H.length+1)∧t 10=.ptr (H.length+4) 0 0∧∃f,CK w N H s0 U L b av f h∧(Zx w N l).Known Ud L f∧∀x∈L,∀o∈Tj w N x,f x≤kZ f o) ?_ ?_ ((L.map (L.foldl (mtS l) fun _=>Ud)).sum+1) () _ _ ?_) (fun e t h hk=>?_)
 ·rintro _ t h Q' kQ ⟨_,_,_,_,f,_,_,hn⟩
  omega
 ·rintro n _ t h J Q' kJ kQ ⟨g0,g8,g9,g10,f,K,hKn,hn⟩
  (have hb:=trivial;with_reducible repeat' (first|simp only[hb,Vc.down,seval,Yu.down,g9]|refine Qp ?_ ?_<;>intro hb|refine fd ?_|fail))
  refine Wz (lst 117 L (fun i (p:(St→Nat) × Bool) t h=>t 0=.ptr lb 0 0∧t 8=.mapr (H.length+1)∧t 9=.slr 25 b 0 L.length∧t 10=.ptr (H.length+4) 0 0∧t 21=.bool p.2∧t 90=.slr 25 b 0 L.length∧t 91=.int .i64 (L.length:Int)∧t 92=.int .i64 (i:Int)∧CK w N H s0 U L b av p.1 h∧(Zx w N l).Known Ud L p.1) (fun rest p=>rest.foldl (lE w N) p)
   (fun p e t h=>e=.exit 10∧t 0=.ptr lb 0 0∧t 8=.mapr (H.length+1)∧t 9=.slr 25 b 0 L.length∧t 10=.ptr (H.length+4) 0 0∧t 21=.bool p.2∧CK w N H s0 U L b av p.1 h) ?_ ?_ (f,false) _ _ ?_) (fun e t h hk=>?_)
  ·rintro p t h Q' kQ ⟨g0,g8,g9,g10,g21,g90,g91,g92,K,_⟩
   (have hb:=trivial;with_reducible repeat' (first|simp only[hb,Vc.down,seval,Yu.down,g91,g92,aj8,decide_false]|refine Qp ?_ ?_<;>intro hb|refine fd ?_|fail))
   exact kQ _ _ _ ⟨rfl,by simp[up,g0],by simp[up,g8],by simp[up,g9],by simp[up,g10],by simp[up,g21],K⟩
  ·rintro x rest i p t h J Q' kJ kQ hx hi ⟨g0,g8,g9,g10,g21,g90,g91,g92,K,hKn⟩
   have hdd:decide ((i:Int)<(L.length:Int))=true:=decide_eq_true (by omega)
   have hii:((i:Int)<(L.length:Int))=True:=eq_true (by omega)
   have hww:=Tc hi hL9
   obtain⟨xl,hlst⟩:=K.lst
   obtain⟨xb,hbx⟩:=K.bx
   have hxm:=adQ hx
   have hx12:=K.tw x hxm
   have w1:=Yf hx12
   have w2:=Wj x
   have w3:=Ww x
   have w4:ae2 25 (Sl x)=Sl x:=adC (by omega)
   have hbx2:=Qg hbx
   have hkn2:=Qg K.kn
   have hall2:=Qg K.all
   have hlkA:=fun q=>ae8 (hall2 q) K.tw hxm
   have hlkK:=fun q=>xK (hkn2 q) K.tw hxm
   obtain⟨R,hrd,hR⟩:=K.ch x hxm
   obtain⟨p1,p2⟩:=an6 hrd
   have hic:(av x).isCell=true:=p1
   have hkx:cK p.1 x=.int .i64 (p.1 x:Int):=rfl
   have hCl:(Tj w N x).length≤48:=tD w N x h12
   have hL1:=arI (f:=p.1) K.tw hKn.le (l:=Tj w N x) (fun o ho=>by
    obtain⟨u0,u1,u2,u3,u4⟩:=hUc x (K.un x hxm) o ho
    exact⟨by omega,u1,fun z hz=>hcl x (by rwa[akY]) o ho z hz,u2,u3⟩) (by unfold maxLen;omega) false (p.1 x) false
   have hrv:=fun q=>qO (e:=12) (by omega) (iR (l:=q) hrd)
   obtain⟨v,hav⟩:∃v,av x=v:=⟨_,rfl⟩
   rw[hav]at hlkA hrd hic p2 hrv
   change ∀q,wJ (h++q) v=_ at hrv
   rcases fL hrd with⟨rfl,h0⟩|⟨vb,vr,rfl,hvb,_,_,hvr⟩
   ·rw[h0]at hL1
    rw[show Rn 4 false false []=AV.nils from rfl]at hL1
    have hne1:(H.length+1=H.length)=False:=eq_false (by omega)
    (have hb:=trivial;with_reducible repeat' (first|simp only[hb,Vc.down,seval,Yu.down,g8,g10,g90,g91,g92,hdd,hii,hlst,hx,w1,w2,w3,w4,hbx2,hkn2,hall2,hlkA,hlkK,hic,p2,hkx,hne1,hL1,aL,cP,cV,fH,aT.down,aaN]|refine Qp ?_ ?_<;>intro hb|refine fdq ?_|fail))
    refine yR (fun _=>0) [([],[]),([],[.cells 0 0 25]),([],[.blk 0]),([],[]),([],[.cells 0 0 1]),([],[.cells 0 0 25]),([],[.blk 0]),([],[.blk 0]),([],[])] (by kernel_rfl) ?_ (fun _=>?_)
    ·simp only[iW,lU]
     exact⟨by simp,by simp,by simp,by simp[dD],by simp,by simp[dD],by simp,by simp,by simp,by simp[dD],by simp,by simp[dD],by simp,by simp[dD],by simp,by simp[dD],by simp,by simp,trivial⟩
    ·cases c:decide (((bZ p.1 (p.1 x) (Tj w N x):Nat):Int)<((p.1 x:Nat):Int))with
     |false=>
      have hst:lE w N p x=p:=by
       unfold lE;rw[if_neg]
       have:=of_decide_eq_false c
       omega
      (have hb:=trivial;with_reducible repeat' (first|simp only[hb,Vc.down,seval,Yu.down,g92,hww,c]|refine Qp ?_ ?_<;>intro hb|refine fd ?_|fail))
      exact Qj (kJ _ _ p ⟨by simp[up,g0],by simp[up,g8],by simp[up,g9],by simp[up,g10],by simp[up,g21],by simp[up,g90],by simp[up,g91],by simp[up],K.app _,hKn⟩ (by rw[ajM,hst]))
     |true=>
      have hst:lE w N p x=(fun y=>if y=x then bZ p.1 (p.1 x) (Tj w N x)else p.1 y,true):=by
       unfold lE;rw[if_pos]
       have:=of_decide_eq_true c
       omega
      have hK1:=(mE (w:=w) (N:=N) (l:=l) (L:=L) [x] (fun y hy=>by simp at hy;rw[hy];exact hxm) p hKn).1
      simp only[ajM,atH]at hK1
      have hms2:=fun q=>adZ (hkn2 q) K.tw K.nd hxm (.int .i64 (bZ p.1 (p.1 x) (Tj w N x):Nat))
      have hSk:=Yg (Ux K.kn)
      have hkp:(fun y=>if y=x then AV.int .i64 (bZ p.1 (p.1 x) (Tj w N x):Nat)else cK p.1 y)=cK (lE w N p x).1:=by rw[hst];exact xJ p.1 x _
      rw[hkp]at hms2
      (have hb:=trivial;with_reducible repeat' (first|simp only[hb,Vc.down,seval,Yu.down,g8,g10,g92,hww,c,hbx2,hkn2,hms2,hSk,w1,w2,w3,w4,aT.down]|refine Qp ?_ ?_<;>intro hb|refine fd ?_|fail))
      exact Qj (kJ _ _ (lE w N p x) ⟨by simp[up,g0],by simp[up,g8],by simp[up,g9],by simp[up,g10],by simp[up,hst],by simp[up,g90],by simp[up,g91],by simp[up],(K.put _).app _,hK1⟩ rfl)
   ·simp only[ad8,aaN]at hrv
    obtain⟨lv,hlv⟩:∃lv,Qu 12 (hf (h++[CB.live 25 true true [Sl x]])) (.slr 4 vb 0 (Tj w N x).length)=lv:=⟨_,rfl⟩
    have hlv2:=hlv
    rw[aeF]at hlv2
    have hlvR:∀j∈lv,H.length+5≤j∧j≠b:=fun j hj=>hR j (mU (e:=12) (iR (l:=[CB.live 25 true true [Sl x]]) hrd) j (by rw[aaN,hlv];exact hj))
    have hany:(lv.any fun y=>y==H.length+4||y==H.length+3)=false:=by
     rw[auE]
     intro j hj
     have:=(hlvR j hj).1
     simp
     omega
    have hne1:(H.length+1=H.length)=False:=eq_false (by omega)
    (have hb:=trivial;with_reducible repeat' (first|simp only[hb,Vc.down,seval,Yu.down,g8,g10,g90,g91,g92,hdd,hii,hlst,hx,w1,w2,w3,w4,hbx2,hkn2,hall2,hlkA,hlkK,hic,p2,hkx,hrv,hlv2,hne1,hL1,hany,aL,cP,cV,fH,aT.down,aaN]|refine Qp ?_ ?_<;>intro hb|refine fdq ?_|fail))
    refine yR (fun _=>0) [([],[]),([],[.cells 0 0 25]),([],[.blk 0]),([],[]),([],[.cells 0 0 1]),([],[.cells 0 0 25]),([],[.blk 0]),([],[.blk 0]),([],[])] (by kernel_rfl) ?_ (fun _=>?_)
    ·simp only[iW,lU]
     exact⟨by simp,by simp,by simp,by simp[dD],by simp,by simp[dD],by simp,by simp,by simp,by simp[dD],by simp,by simp[dD],by simp,by simp[dD],by simp,fun y hy=>.inr (by obtain⟨j,_,rfl⟩:=aq4.1 hy;simp[dD]),by simp,by simp,trivial⟩
    ·cases c:decide (((bZ p.1 (p.1 x) (Tj w N x):Nat):Int)<((p.1 x:Nat):Int))with
     |false=>
      have hst:lE w N p x=p:=by
       unfold lE;rw[if_neg]
       have:=of_decide_eq_false c
       omega
      (have hb:=trivial;with_reducible repeat' (first|simp only[hb,Vc.down,seval,Yu.down,g92,hww,c]|refine Qp ?_ ?_<;>intro hb|refine fd ?_|fail))
      exact Qj (kJ _ _ p ⟨by simp[up,g0],by simp[up,g8],by simp[up,g9],by simp[up,g10],by simp[up,g21],by simp[up,g90],by simp[up,g91],by simp[up],K.app _,hKn⟩ (by rw[ajM,hst]))
     |true=>
      have hst:lE w N p x=(fun y=>if y=x then bZ p.1 (p.1 x) (Tj w N x)else p.1 y,true):=by
       unfold lE;rw[if_pos]
       have:=of_decide_eq_true c
       omega
      have hK1:=(mE (w:=w) (N:=N) (l:=l) (L:=L) [x] (fun y hy=>by simp at hy;rw[hy];exact hxm) p hKn).1
      simp only[ajM,atH]at hK1
      have hms2:=fun q=>adZ (hkn2 q) K.tw K.nd hxm (.int .i64 (bZ p.1 (p.1 x) (Tj w N x):Nat))
      have hSk:=Yg (Ux K.kn)
      have hkp:(fun y=>if y=x then AV.int .i64 (bZ p.1 (p.1 x) (Tj w N x):Nat)else cK p.1 y)=cK (lE w N p x).1:=by rw[hst];exact xJ p.1 x _
      rw[hkp]at hms2
      (have hb:=trivial;with_reducible repeat' (first|simp only[hb,Vc.down,seval,Yu.down,g8,g10,g92,hww,c,hbx2,hkn2,hms2,hSk,w1,w2,w3,w4,aT.down]|refine Qp ?_ ?_<;>intro hb|refine fd ?_|fail))
      exact Qj (kJ _ _ (lE w N p x) ⟨by simp[up,g0],by simp[up,g8],by simp[up,g9],by simp[up,g10],by simp[up,hst],by simp[up,g90],by simp[up,g91],by simp[up],(K.put _).app _,hK1⟩ rfl)
  ·exact⟨by simp[up,g0],by simp[up,g8],by simp[up,g9],by simp[up,g10],by simp[up],by simp[up],by simp[up],by simp[up],K,hKn⟩
  obtain⟨rfl,g0,g8,g9,g10,g21,K⟩:=hk
  obtain⟨a1,a2,a3,a4⟩:=mE (w:=w) (N:=N) (l:=l) L (fun _ h=>h) (f,false) hKn
  generalize hp:List.foldl (lE w N) (f,false) L=p at *
  obtain⟨g,c⟩:=p
  cases c with
  |false=>
   (have hb:=trivial;with_reducible repeat' (first|simp only[hb,Vc.down,seval,Yu.down,g21]|refine Qp ?_ ?_<;>intro hb|refine fd ?_|fail))
   obtain⟨a5,a6⟩:=a4 rfl
   cases a5
   exact kQ _ _ _ ⟨rfl,by simp[up,g8],by simp[up,g10],f,K,a1,a6⟩
  |true=>
   (have hb:=trivial;with_reducible repeat' (first|simp only[hb,Vc.down,seval,Yu.down,g21]|refine Qp ?_ ?_<;>intro hb|refine fd ?_|fail))
   have hlt:=(a3 rfl).resolve_left (by simp)
   simp only at hlt
   exact Qj (kJ _ _ () ⟨by simp[up,g0],by simp[up,g8],by simp[up,g9],by simp[up,g10],g,K,a1,by omega⟩ rfl)
 ·exact⟨by simp[up,g0],by simp[up,g8],by simp[up,g9],by simp[up,g10],_,K,hK0,by omega⟩
 obtain⟨rfl,g8,g10,f,K,hKn,hst⟩:=hk
 obtain⟨xb,hbx⟩:=K.bx
 (have hb:=trivial;with_reducible repeat' (first|simp only[hb,Vc.down,seval,Yu.down,g8,g10,hbx,aT.down]|refine Qp ?_ ?_<;>intro hb|refine fd ?_|fail))
 exact⟨L,f,av,b,K,hKn,hst⟩
theorem acA{v v':St→AV}:∀{L:List St},(∀s∈L,v s=v' s)→Vk L v=Vk L v'
 | [],_=>rfl
 |a::L,h=>by
  show AV.agg (Sl a)::v a::Vk L v=.agg (Sl a)::v' a::Vk L v'
  rw[h a (by simp),acA fun s hs=>h s (by simp[hs])]
theorem CK.congr{w:Qh}{N:Nat}{H:Qa}{s0:St}{U:St→Prop}{L:List St}{b:Nat}{av:St→AV}{f g:St→Nat}{h:Qa}(K:CK w N H s0 U L b av f h)(e:∀s∈L,f s=g s):CK w N H s0 U L b av g h:=
 ⟨K.keep,K.all,K.lst,by rw[←acA (v:=cK f) (v':=cK g) fun s hs=>by unfold cK;rw[e s hs]];exact K.kn,K.bx,K.b2,K.b3,K.b4,K.ch,K.nd,K.tw,K.un,K.hd⟩
theorem awL(w:Qh)(N:Nat)(l:List Vg)(s:St)(hs:(Zx w N l).Fine Ud s):bs w N l s≤Ud:=by
 by_cases e:∃k,Go.Ev.nI (Zx w N l) s k
 ·exact Nat.le_of_lt (hs.lt e)
 ·unfold bs;rw[qE.bst_none e];exact ai0 _
theorem abC{w:Qh}{N:Nat}(hw:qK w N)(hwb:Vw w=true)(h6:w.parts.length≤6)(d:Int){H:Qa}{lb:Nat}{wf:Bool}(hlb:H[lb]?=some (rO w d wf)){s0:St}(hu:InU w.parts.length s0 s0)(hf3:s0.2≤3)(l:List Vg)(nn:Bool)(hl:l.length≤maxLen)(hlp:∀x∈l,0≤x.part∧x.part<12):
 ShQ Up 41 [.ptr lb 0 0,.agg (Sl s0),Rn 3 true nn (l.map Vg.cells)] H fun o G=>(∃(L:List St) (av:St→AV) (b:Nat),o=.ret (.tup [.mapr (H.length+3),.mapr (H.length+1)])∧CK w N H s0 (InU w.parts.length s0) L b av (bs w N l) G∧s0∈L∧(∀s∈L,(Zx w N l).Fine Ud s)∧∀s∈L,∀o∈Tj w N s,∀x∈o.to,x∈L)∧Xr [] H G:=by
 obtain⟨o,G,hc,L,f,av,b,ho,K,hKn,hst⟩:=asM hw (by omega) d hlb hu.l12 hf3 l nn hl hlp (U:=InU w.parts.length s0) (B:=186624) (by omega) (fun L hL h=>vW h6 hf3 L hL h) hu (fun s h=>⟨h.l12,Nat.le_trans h.fl hf3⟩) (fun s h o ho=>rA hwb h ho)
 have hLB:=vW h6 hf3 L K.nd K.un
 have hst2:∀s∈L,∀o∈(Zx w N l).ops s,f s≤min Ud (o.1+qE.mx f o.2):=fun s hs o ho=>by
  obtain⟨c,hc,rfl⟩:=lQ.1 ho
  exact hst s hs c hc
 have hbt:=fun s (hs:s∈L)=>hKn.bst hst2 (by unfold Ud;omega) hs
 have hfb:∀s∈L,f s=bs w N l s:=fun s hs=>(hbt s hs).1
 refine⟨o,G,hc,⟨L,av,b,ho,K.congr hfb,adQ K.hd,fun s hs=>⟨fun h=>?_⟩,fun s hs o ho x hx=>?_⟩,K.keep⟩
 ·have h1:=(hbt s hs).2 h
  rw[hfb s hs]at h1
  exact h1
 ·exact(hKn.ops s hs _ (lQ.2 ⟨o,ho,rfl⟩)).2.2.2 x hx
theorem zT{w:Qh}{N:Nat}(hw:qK w N)(hwb:Vw w=true)(h6:w.parts.length≤6){s:St}(h12:s.1.length=12)(hd:∀x∈s.1,0≤x.1∧x.1≤2)(hf3:s.2≤3)(l:List Vg)(hl:l.length≤maxLen)(hlp:∀x∈l,0≤x.part∧x.part<12):(Zx w N l).Fine Ud s:=by
 obtain⟨o,G,hc,⟨L,av,b,_,K,hm,hF,_⟩,_⟩:=abC hw hwb h6 0 (H:=[rO w 0 false]) (lb:=0) rfl (s0:=s) ⟨h12,hd,rfl,ai0 _⟩ hf3 l true hl hlp
 exact hF s hm
theorem asO(p:Qc)(d:Int):0≤Re p d∧Re p d≤2:=by
 unfold Re;split
 ·decide
 ·split<;>decide
theorem rH(w:Qh)(d:Int):∀x∈Qb w d,0≤x.1∧x.1≤2:=by
 intro x hx
 unfold Qb at hx
 rcases ag1.1 hx with hx|hx
 ·obtain⟨p,_,rfl⟩:=aq4.1 hx
  exact asO p d
 ·obtain⟨_,rfl⟩:=List.mem_replicate.1 hx
  decide
theorem aQ{w:Qh}{d:Int}{l:List Vg}{f:Int}(h:bF w d l f=0):w.parts.length≤6∧Vw w=true∧aS d=true∧fC w l=true∧0≤f∧f≤3:=by
 unfold bF at h
 split at h
 ·cases h
 ·rename_i h1
  split at h
  ·cases h
  ·rename_i h2
   simp only[Bool.or_eq_true,Bool.not_eq_true',not_or,Bool.not_eq_false,decide_eq_true_eq]at h1 h2
   exact⟨by omega,h2.1.1.1.1,h2.1.1.1.2,h2.1.1.2,by omega,by omega⟩
theorem aaX{n:Int}:∀{l:List Vg} {y:Option Vg},Vy n y l=true→∀x∈l,Ye x.part 0 n=true
 | [],_,_,x,hx=>by cases hx
 |a::l,y,h,x,hx=>by
  have h1:Ye a.part 0 n=true∧Vy n (some a) l=true:=by
   cases y with
   |none=>simp only[Vy,aq7]at h;exact h
   |some z=>simp only[Vy,aq7]at h;exact⟨h.1.1,h.2⟩
  rcases aoR.1 hx with rfl|hx
  ·exact h1.1
  ·exact aaX h1.2 x hx
theorem dR{w:Qh}(hl:w.parts.length≤1000){l:List Vg}(h:fC w l=true):∀x∈l,0≤x.part∧x.part<(w.parts.length:Int):=fun x hx=>by
 have:=aaX h x hx
 rw[Us (by omega) (by omega)]at this
 simp only[Ye,aq7,decide_eq_true_eq]at this
 omega
def qB(L:List St)(f:St→Nat)(s:St):Qa:=[.live 1 false false [[.mapr 2]],.live 25 true false [Sl s],Ua (Vk L (cK f))]
theorem aWL{L:List St}{f:St→Nat}(hL:zQ L)(hf:∀s∈L,f s≤Ud){o:Zh}(ho:COk L o){s:St}(hs:s∈L):
 Up.call (.fn 43) [.agg o.cells,.ptr 0 0 0,.ptr 1 0 0] (qB L f s)=some (.ret (.bool (kZ f o==f s)),qB L f s):=by
 have h:=aaE hL hf ho
 have hne:o.to.map Sl≠[]:=by simpa using ho.ne
 have hlk:=fun(q:Qa) (b:Nat) (hb:q[b]?=some (Ua (Vk L (cK f))))=>xK hb hL hs
 have hkv:cK f s=.int .i64 (f s:Int):=rfl
 have w1:=Yf (hL s hs)
 have w2:=Wj s
 have w3:=Ww s
 have w4:ae2 25 (Sl s)=Sl s:=adC (by omega)
 have heq:((kZ f o:Int)==(f s:Int))=(kZ f o==f s):=by rw[Bool.eq_iff_iff];simp;omega
 simp only[Zh.cells,bS hne]at h ⊢
 unfold qB
 refine ce Tryz.func43 ?_
 simp only[Tryz.f43]
 (have hb:=trivial;with_reducible repeat' (first|simp only[hb,Vc.down,seval,bgM.down,h,hlk,hkv,heq,w1,w2,w3,w4,aL,cP,cV,fH,aT.down]|refine Qp ?_ ?_<;>intro hb|refine fd ?_|fail))
theorem aqN{L:List St}{f:St→Nat}(hL:zQ L)(hf:∀s∈L,f s≤Ud){l:List Zh}(hl:∀o∈l,COk L o)(hlen:l.length≤maxLen)(nn:Bool){s:St}(hs:s∈L):
 Up.call (.fn 42) [Rn 4 false nn (l.map Zh.cells),.func (.func 43) [] [.ptr 0 0 0,.ptr 1 0 0]] (qB L f s)=some (.ret (.int .i64 (xZ (fun o=>kZ f o==f s) l 0)),qB L f s):=by
 unfold qB
 have w1:=Yf (hL s hs)
 have w2:=Wj s
 have w3:=Ww s
 have w4:ae2 25 (Sl s)=Sl s:=adC (by omega)
 refine ce Tryz.func42 ?_
 simp only[Tryz.f42]
 (have hb:=trivial;with_reducible repeat' (first|simp only[hb,Vc.down,seval,aiW.down,aaN]|refine Qp ?_ ?_<;>intro hb|refine fd ?_|fail))
 refine Wz (lst 19 l (fun j (m:Int) t h=>m=j∧t 0=Rn 4 false nn (l.map Zh.cells)∧t 1=.func (.func 43) [] [.ptr 0 0 0,.ptr 1 0 0]∧t 7=.int .i64 (l.length:Nat)∧t 8=.int .i64 (j:Int)∧h=qB L f s) (fun rest m=>xZ (fun o=>kZ f o==f s) rest m)
  (fun r e t h=>h=qB L f s∧((e=.exit 0∧r= -1)∨(e=.ret∧t 4=.int .i64 r))) ?_ ?_ 0 _ _ ?_) (fun e t h hk=>?_)
 ·rintro m t h Q' kQ ⟨rfl,g0,g1,g7,g8,rfl⟩
  (have hb:=trivial;with_reducible repeat' (first|simp only[hb,Vc.down,seval,aiW.down,g7,g8,aj8,decide_false]|refine Qp ?_ ?_<;>intro hb|refine fd ?_|fail))
  exact kQ _ _ _ ⟨rfl,.inl ⟨rfl,rfl⟩⟩
 ·rintro o rest j m t h J Q' kJ kQ hx hj ⟨rfl,g0,g1,g7,g8,rfl⟩
  have hdd:decide ((j:Int)<(l.length:Int))=true:=decide_eq_true (by omega)
  have hww:=Tc hj (by unfold maxLen at hlen;unfold maxLen;omega)
  have ho:=hl o (adQ hx)
  have hc:=aWL hL hf ho hs
  have hne:o.to.map Sl≠[]:=by simpa using ho.ne
  simp only[Zh.cells,bS hne]at hc
  have hcs:o.cells=[.int .i64 o.k,.int .i64 (o.i:Int),.int .i64 o.c,.imm 25 true (o.to.map Sl)]:=by simp only[Zh.cells,bS hne]
  unfold qB at hc ⊢
  cases hb:(kZ f o==f s)with
  |true=>
   rw[hb]at hc
   have hi1:xZ (fun o=>kZ f o==f s) (o::rest) (j:Int)=j:=if_pos hb
   (have hb:=trivial;with_reducible repeat' (first|simp only[hb,Vc.down,seval,aiW.down,g0,g1,g7,g8,hdd,hww,hx,hcs,hc,w1,w2,w3,w4,aL,cP,cV,fH,aT.down,aaN]|refine Qp ?_ ?_<;>intro hb|refine fd ?_|fail))
   exact kQ _ _ _ ⟨rfl,.inr ⟨rfl,by rw[hi1];simp[up]⟩⟩
  |false=>
   rw[hb]at hc
   have hi2:xZ (fun o=>kZ f o==f s) rest ((j:Int)+1)=xZ (fun o=>kZ f o==f s) (o::rest) (j:Int):=by
    have h2:¬((fun o=>kZ f o==f s) o=true):=by show ¬((kZ f o==f s)=true);rw[hb];simp
    exact(if_neg h2).symm
   (have hb:=trivial;with_reducible repeat' (first|simp only[hb,Vc.down,seval,aiW.down,g0,g1,g7,g8,hdd,hww,hx,hcs,hc,w1,w2,w3,w4,aL,cP,cV,fH,aT.down,aaN]|refine Qp ?_ ?_<;>intro hb|refine fd ?_|fail))
   exact Qj (kJ _ _ (j+1) ⟨by simp,by simp[up,g0],by simp[up,g1],by simp[up,g7],by simp[up],rfl⟩ hi2)
 ·exact⟨rfl,by simp[up,aU],by simp[up,aU],by simp[up],by simp[up],rfl⟩
 obtain⟨rfl,⟨rfl,hi⟩|⟨rfl,hi⟩⟩:=hk
 ·unfold qB
  (have hb:=trivial;with_reducible repeat' (first|simp only[hb,Vc.down,seval,aiW.down,aL,cP,cV,fH,w1,w2,w3,w4,aT.down]|refine Qp ?_ ?_<;>intro hb|refine fd ?_|fail))
  rw[hi]
 ·unfold qB
  (have hb:=trivial;with_reducible repeat' (first|simp only[hb,Vc.down,seval,aiW.down,hi,aL,cP,cV,fH,w1,w2,w3,w4,aT.down]|refine Qp ?_ ?_<;>intro hb|refine fd ?_|fail))
theorem aaB{α:Type}{p:α→Bool}:∀{l:List α} {o:α} (i:Nat),l.find? p=some o→∃j,xZ p l i=((i+j:Nat):Int)∧l[j]?=some o
 | [],o,i,h=>by cases h
 |a::l,o,i,h=>by
  cases hp:p a with
  |true=>
   rw[List.find?_cons_of_pos hp]at h
   cases h
   exact⟨0,by simp[xZ,hp],rfl⟩
  |false=>
   rw[List.find?_cons_of_neg (by simp[hp])]at h
   obtain⟨j,h1,h2⟩:=aaB (i+1) h
   refine⟨j+1,?_,h2⟩
   simp only[xZ,hp,Bool.false_eq_true,if_false]
   rw[show((i:Nat):Int)+1=((i+1:Nat):Int) by omega,h1]
   omega
theorem amX{w:Qh}{N:Nat}(hw:qK w N)(hs:w.small)(d:Int)(l:List Vg)(nn:Bool)(hl:l.length≤maxLen)(f:Nat)(h:bF w d l f=0)(out:List AV)(c0:bs w N l (Qb w d,f)=0→out=[.agg [.int .i64 0,.int .i64 0],.int .i64 0,.int .i64 0])(c1:bs w N l (Qb w d,f)=Ud→out=[.agg [.int .i64 0,.int .i64 0],.int .i64 0,.int .i64 5])
 (c2:bs w N l (Qb w d,f)≠0→bs w N l (Qb w d,f)≠Ud→∃o,(Tj w N (Qb w d,f)).find? (fun o=>kZ (bs w N l) o==bs w N l (Qb w d,f))=some o∧out=[.agg [.int .i64 o.k,.int .i64 (o.i:Int)],.int .i64 (bs w N l (Qb w d,f):Nat),.int .i64 0]):
 Up.call (.fn 15) [.agg [.int .i64 w.rooms,.int .i64 w.need,Rn 9 true w.nn (w.parts.map Qc.cells)],.int .i64 d,Rn 3 true nn (l.map Vg.cells),.int .i64 (f:Int)] []=some (.ret (.tup out),[]):=by
 obtain⟨h6,hwb,hdb,hgb,hf0,hf3'⟩:=aQ h
 have h1:=yW w hs d
 have h2:=ayC w l nn hl
 have h3:=nX (f:Int) 0 3
 rw[hwb,hdb,Bool.and_self]at h1
 rw[hgb]at h2
 rw[show Ye (f:Int) 0 3=true by simp[Ye];omega]at h3
 have d0:decide ((w.parts.length:Int)>6)=false:=decide_eq_false (by omega)
 have hlp:=dR (by omega) hgb
 have hlp':∀x∈l,0≤x.part∧x.part<12:=fun x hx=>by have:=hlp x hx;omega
 have hpc:=tQ w d false (by omega)
 have hL:=bJ (w:=w) (d:=d) (by omega)
 have hdg:=rH w d
 obtain⟨s0,hs0⟩:∃s0:St,(Qb w d,f)=s0:=⟨_,rfl⟩
 have hst1:Sv (Qb w d)++[AV.int .i64 (f:Int)]=Sl s0:=by rw[←hs0];rfl
 have hu:InU w.parts.length s0 s0:=by rw[←hs0];exact⟨hL,hdg,rfl,ai0 _⟩
 have hf3:s0.2≤3:=by rw[←hs0];show f≤3;omega
 rw[hs0]at c0 c1 c2
 have f0:=Vo (Qb w d)
 have k0:=Vn (Qb w d)
 have v0:=eV (Qb w d)
 have l0:=eD (Qb w d)
 have r0:=aK (Qb w d)
 have p0:=cZ (Qb w d)
 have n0:=kP (Qb w d)
 have i0:=kT (Qb w d)
 have hpl:(Sv (Qb w d)).length=24:=by rw[Rh];omega
 have htk24:=adC (l:=Sv (Qb w d)) (i:=24) (by omega)
 have b1:ae2 25 (Sv (Qb w d))=Sv (Qb w d):=adC (by omega)
 have b2:∀z,ae2 24 (Sv (Qb w d)++[z])=Sv (Qb w d):=fun z=>by rw[ak0 (by omega),adC (by omega)]
 have b3:∀z,List.drop 25 (Sv (Qb w d)++[z])=[]:=fun z=>List.drop_eq_nil_of_le (by simp;omega)
 have w1:=Yf hu.l12
 have w2:=Wj s0
 have w3:=Ww s0
 have w4:ae2 25 (Sl s0)=Sl s0:=adC (by omega)
 obtain⟨qC,hqC⟩:∃q,Fn.func 41=q:=⟨_,rfl⟩
 refine ce Tryz.func15 ?_
 simp only[Tryz.f15]
 (have hb:=trivial;with_reducible repeat' (first|simp only[hb,Vc.down,seval,al9.down,d0,h1,h2,h3,hpc,f0,k0,v0,l0,r0,p0,n0,i0,hpl,htk24,b1,b2,b3,hst1,w1,w2,w3,w4,hqC,lS,lP,mL,ajV,ajY,aj6,aaN]|refine Qp ?_ ?_<;>intro hb|refine fd ?_|fail))
 obtain⟨Hc,hHc⟩:∃Hc:Qa,[CB.live 3 false false [[AV.int IntKind.i64 w.rooms,AV.int IntKind.i64 w.need,Rn 9 true w.nn (List.map Qc.cells w.parts)]],CB.live 2 true false [[AV.int IntKind.i64 0,AV.int IntKind.i64 0]],CB.live 4 false false [[AV.int IntKind.i64 w.rooms,AV.int IntKind.i64 w.need,Rn 9 true w.nn (List.map Qc.cells w.parts),AV.int IntKind.i64 d]],CB.live 25 true true [Sl s0]]=Hc:=⟨_,rfl⟩
 rw[hHc]
 generalize hE:cl Up Hc (some (.func qC [] [])) (some [.ptr 2 0 0,.agg (Sl s0),Rn 3 true nn (l.map Vg.cells)])=E
 rw[←hqC]at hE
 have hl4:Hc.length=4:=by rw[←hHc];rfl
 have hcl2:(Xb Hc).length=4:=by rw[Sm,hl4]
 have hlb2:(Xb Hc)[2]?=some (rO w d false):=by rw[←hHc];rfl
 obtain⟨o,G,es,M,e1,e2,⟨L,av,b,rfl,K,hm,hF,hcl⟩,e4,e5,e6,e7,e8⟩:=aqS (O:=Up) (f:=41) (H:=Hc) (args:=[.ptr 2 0 0,.agg (Sl s0),Rn 3 true nn (l.map Vg.cells)]) rfl rfl (abC hw hwb h6 d hlb2 hu hf3 l nn hl hlp')
 have e9:=hE.symm.trans e1
 subst e9
 have hkn:M[7]?=some (Ua (Vk L (cK (bs w N l)))):=(e7 7 (by omega)).trans (by have:=K.kn;rwa[hcl2]at this)
 have hall:M[5]?=some (Ua (Vk L av)):=(e7 5 (by omega)).trans (by have:=K.all;rwa[hcl2]at this)
 have hb3:M[3]?=some (.live 25 true true [Sl s0]):=(e6 3 (by omega)).trans (by rw[←hHc];rfl)
 have hb1:M[1]?=some (.live 2 true false [[AV.int IntKind.i64 0,AV.int IntKind.i64 0]]):=(e6 1 (by omega)).trans (by rw[←hHc];rfl)
 have hkn2:=Qg hkn
 have hall2:=Qg hall
 have hb32:=Qg hb3
 have hb12:=Qg hb1
 have hlk:=fun q=>xK (hkn2 q) K.tw hm
 have hlkA:=fun q=>ae8 (hall2 q) K.tw hm
 have hset1:∀(q:Qa) (c:CB),((M++q).set 1 c)[1]?=some c:=fun q c=>akZ (by have:=Ux hb1;simp;omega)
 have hkv:cK (bs w N l) s0=.int .i64 (bs w N l s0:Int):=rfl
 cases q0:((bs w N l s0:Int)==0)with
 |true=>
  rw[c0 (by simp at q0;omega)]
  (have hb:=trivial;with_reducible repeat' (first|simp only[hb,Vc.down,seval,al9.down,e2,hl4,hkn2,hb32,hb12,hb1,hset1,hlk,hkv,q0,w1,w2,w3,w4,aT.down,lS,lP,mL,ajV,ajY,aj6]|refine Qp ?_ ?_<;>intro hb|refine fd ?_|fail))
 |false=>
 cases q1:((bs w N l s0:Int)==1099511627776)with
 |true=>
  rw[c1 (by simp at q1;unfold Ud;omega)]
  (have hb:=trivial;with_reducible repeat' (first|simp only[hb,Vc.down,seval,al9.down,e2,hl4,hkn2,hb32,hb12,hb1,hset1,hlk,hkv,q0,q1,w1,w2,w3,w4,aT.down,lS,lP,mL,ajV,ajY,aj6]|refine Qp ?_ ?_<;>intro hb|refine fd ?_|fail))
 |false=>
 obtain⟨o,ho,rfl⟩:=c2 (fun e=>by rw[e]at q0;simp at q0) (fun e=>by rw[e]at q1;simp[Ud]at q1)
 obtain⟨R,hrd0,hR⟩:=K.ch s0 hm
 rw[hcl2]at hR
 have hrd:rd 6 (hf M) (av s0)=some (Rn 4 false false ((Tj w N s0).map Zh.cells),R):=by
  have:=eH (g':=hf M) (Vq hrd0 dG) fun j hj z hz=>by
   have hj2:j∈R:=by simpa using hj
   show(M[j]?).bind Si=_
   rw[e7 j (by have:=(hR j hj2).1;omega)];exact hz
  obtain⟨a,l',R1,R2,e1,h1,h2,h3⟩:=Yd this
  cases e1
  obtain⟨_,rfl⟩:=eR h2
  simp at h3
  rw[h1,←h3]
 have hrv:=fun q=>qO (e:=12) (by omega) (iR (l:=q) hrd)
 obtain⟨v,hav⟩:∃v,av s0=v:=⟨_,rfl⟩
 rw[hav]at hlkA hrd hrv
 change ∀q,wJ (M++q) v=_ at hrv
 rcases fL hrd with⟨rfl,h0⟩|⟨vb,vr,rfl,hvb,_,_,hvr⟩
 ·rw[alC.1 h0]at ho
  cases ho
 ·simp only[ad8,aaN]at hrv
  have hM8:=Ux hkn
  have hM3:(M.length=3)=False:=eq_false (by omega)
  have hM7:(7=M.length)=False:=eq_false (by omega)
  have hM7':(M.length=7)=False:=eq_false (by omega)
  obtain⟨lv,hlv⟩:∃lv,Qu 12 (hf (M++[CB.live 1 false true [[AV.mapr 7]]])) (.slr 4 vb 0 (Tj w N s0).length)=lv:=⟨_,rfl⟩
  have hlv2:=hlv
  rw[aeF]at hlv2
  obtain⟨j,hj,hjo⟩:=aaB 0 ho
  have hjl0:=afR hjo
  have hjl:((j:Int)<((Tj w N s0).length:Int))=True:=eq_true (by omega)
  obtain⟨vb',bt,ev,hrow0,_,_⟩:=afU hrd hjo (rA hwb hu (adQ hjo)).2.2.1
  injection ev with _ ev1 _ _
  subst ev1
  have hrow:∀q,Zf ((M++q)[vb]?) j=some [.int .i64 o.k,.int .i64 (o.i:Int),.int .i64 o.c,.slr 25 bt 0 o.to.length]:=fun q=>by
   rw[afJ (jE hvb)];exact hrow0
  have hI:=aqN (f:=bs w N l) (l:=Tj w N s0) K.tw (fun s hs=>awL w N l s (hF s hs)) (fun o ho=>by
   obtain⟨u0,u1,u2,u3,u4⟩:=rA hwb hu ho
   exact⟨by omega,u1,fun z hz=>hcl s0 hm o ho z hz,u2,u3⟩) (by have:=tD w N s0 (by omega);unfold maxLen;omega) false hm
  unfold qB at hI
  rw[Nat.zero_add]at hj
  rw[show((0:Nat):Int)=0 from rfl]at hj
  rw[hj]at hI
  have hlvR:∀j∈lv,9≤j∧j<M.length:=fun j hj=>by
   have hj2:=mU (e:=12) (iR (l:=[CB.live 1 false true [[AV.mapr 7]]]) hrd) j (by rw[aaN,hlv];exact hj)
   exact⟨(hR j hj2).1,uI (by omega) (Vq hrd dG) j (by simpa using hj2)⟩
  have hany:(lv.any fun x=>x==M.length||(x==3||x==7))=false:=by
   rw[auE]
   intro z hz
   have:=hlvR z hz
   simp
   omega
  (have hb:=trivial;with_reducible repeat' (first|simp only[hb,Vc.down,seval,al9.down,e2,hl4,hkn2,hb32,hb12,hb1,hset1,hlk,hkv,q0,q1,hlkA,hrv,hlv2,hI,hany,hjl,hrow,hM3,hM7,hM7',aL,cP,cV,fH,w1,w2,w3,w4,aT.down,lS,lP,mL,ajV,ajY,aj6]|refine Qp ?_ ?_<;>intro hb|refine fdq ?_|fail))
  have hvb9:9≤vb:=by
   obtain⟨q,_,rfl,_⟩:=tP hrd hvb
   exact(hR vb (by simp)).1
  have n1:vb≠1:=by omega
  have n2:M.length≠1:=by omega
  refine yR (fun b=>if b=1 then 1 else 0) [([],[]),([],[.cells 0 0 25]),([],[.blk 0]),([],[]),([],[]),([],[]),([],[.cells 0 0 2]),([],[.cells 0 0 1]),([],[.cells 0 0 25]),([],[.blk 0]),([.cells 1 0 2],[.cells 1 0 2]),([],[]),([],[])] (by kernel_rfl) ?_ (fun _=>?_)
  ·simp only[iW,lU]
   simp[dD,Qd.foot,n1,n2]
  ·(have hb:=trivial;with_reducible repeat' (first|simp only[hb,Vc.down,seval,al9.down,hset1,hkv,aT.down,hb1,hb12]|refine Qp ?_ ?_<;>intro hb|refine fd ?_|fail))
noncomputable def apW(b:Nat):Int:=if b<Ud then(b:Int)else 0
noncomputable def aiI(b:Nat):Int:=if b<Ud then 0 else 5
theorem aoA{w:Qh}{N:Nat}(hw:qK w N){d:Int}{l:List Vg}(hl:l.length≤maxLen){f:Nat}(h:bF w d l f=0):(Zx w N l).Fine Ud (Qb w d,f):=by
 obtain⟨h6,hwb,_,hgb,_,hf3⟩:=aQ h
 exact zT hw hwb h6 (bJ (by omega)) (rH w d) (by show f≤3;omega) l hl (fun x hx=>by have:=dR (by omega) hgb x hx;omega)
theorem af1{w:Qh}{N:Nat}(hb:Vw w=true){l:List Vg}{s:St}:∀o∈(Zx w N l).ops s,1≤o.1:=by
 intro o ho
 obtain⟨c,hc,rfl⟩:=lQ.1 ho
 obtain⟨p,x,I⟩:=dE.1 hc
 have:=jJ hb I.hp c.k
 rw[←I.c]at this
 show 1≤c.c.toNat
 omega
theorem aw0{w:Qh}{N:Nat}(hw:qK w N)(hs:w.small)(d:Int)(l:List Vg)(nn:Bool)(hl:l.length≤maxLen)(f:Nat)(h:bF w d l f=0):
 ∃k i:Int,Up.call (.fn 15) [.agg [.int .i64 w.rooms,.int .i64 w.need,Rn 9 true w.nn (w.parts.map Qc.cells)],.int .i64 d,Rn 3 true nn (l.map Vg.cells),.int .i64 (f:Int)] []=some (.ret (.tup [.agg [.int .i64 k,.int .i64 i],.int .i64 (apW (bs w N l (Qb w d,f))),.int .i64 (aiI (bs w N l (Qb w d,f)))]),[])∧
  (bs w N l (Qb w d,f)≠0→bs w N l (Qb w d,f)<Ud→∃o,(Tj w N (Qb w d,f)).find? (fun o=>kZ (bs w N l) o==bs w N l (Qb w d,f))=some o∧k=o.k∧i=o.i)∧(bs w N l (Qb w d,f)=0∨Ud≤bs w N l (Qb w d,f)→k=0∧i=0):=by
 have hF:=aoA hw hl h
 have hle:=awL w N l _ hF
 obtain⟨_,hwb,_,hgb,_,_⟩:=aQ h
 have hA:=fun out=>amX hw hs d l nn hl f h out
 have hop:=qE.bst_op hF
 change bs w N l (Qb w d,f)<Ud→_ at hop
 have hgo:bs w N l (Qb w d,f)≠0→(Zx w N l).goal (Qb w d,f)=false:=fun hn=>by
  cases hg:(Zx w N l).goal (Qb w d,f)with
  |false=>rfl
  |true=>exact absurd (qE.bst_goal hg) hn
 have hfind:bs w N l (Qb w d,f)≠0→bs w N l (Qb w d,f)<Ud→∃o,(Tj w N (Qb w d,f)).find? (fun o=>kZ (bs w N l) o==bs w N l (Qb w d,f))=some o:=fun h0 h1=>by
  obtain⟨o,ho,e,_⟩:=hop h1 (hgo h0) (af1 hwb)
  obtain⟨c,hc,rfl⟩:=lQ.1 ho
  refine Option.isSome_iff_exists.1 (List.find?_isSome.2 ⟨c,hc,?_⟩)
  rw[beq_iff_eq]
  exact e.symm
 by_cases h0:bs w N l (Qb w d,f)=0
 ·refine⟨0,0,?_,fun h=>absurd h0 h,fun _=>⟨rfl,rfl⟩⟩
  have:=hA [.agg [.int .i64 0,.int .i64 0],.int .i64 0,.int .i64 0] (fun _=>rfl) (fun e=>by rw[h0]at e;cases e) (fun h=>absurd h0 h)
  rw[h0]
  exact this
 ·by_cases h1:bs w N l (Qb w d,f)<Ud
  ·obtain⟨o,ho⟩:=hfind h0 h1
   refine⟨o.k,o.i,?_,fun _ _=>⟨o,ho,rfl,rfl⟩,fun h=>by omega⟩
   have:=hA [.agg [.int .i64 o.k,.int .i64 (o.i:Int)],.int .i64 (bs w N l (Qb w d,f):Nat),.int .i64 0] (fun h=>absurd h h0) (fun h=>by omega) (fun _ _=>⟨o,ho,rfl⟩)
   unfold apW aiI
   rw[if_pos h1,if_pos h1]
   exact this
  ·refine⟨0,0,?_,fun _ h=>absurd h h1,fun _=>⟨rfl,rfl⟩⟩
   have:=hA [.agg [.int .i64 0,.int .i64 0],.int .i64 0,.int .i64 5] (fun h=>absurd h h0) (fun _=>rfl) (fun _ h=>absurd (by omega) h)
   unfold apW aiI
   rw[if_neg h1,if_neg h1]
   exact this
theorem az5{n:Nat}{r:List AV}(h:Ty Tryz.prog (n+4) 75 r):∃x:Vg,r=x.cells:=by
 unfold Ty at h
 simp only[Tryz.underlying75,aiP]at h
 obtain⟨a1,b1,rfl,h1,a2,b2,rfl,h2,a3,b3,rfl,h3,rfl⟩:=h
 obtain⟨i,rfl,_⟩:=cQ h1
 obtain⟨b,rfl⟩:=iZ h2
 obtain⟨c,rfl⟩:=iZ h3
 exact⟨⟨i,b,c⟩,rfl⟩
theorem auI{av:AV}(h:zC Tryz.prog 7 25 av):∃(nn:Bool) (l:List Vg),av=Rn 3 true nn (l.map Vg.cells)∧l.length≤maxLen:=by
 unfold zC at h
 simp only[Tryz.underlying25]at h
 unfold Ty at h
 simp only[Tryz.underlying25]at h
 obtain⟨nn,rows,hx,hl,hrows⟩:=h
 obtain⟨l,rfl,hm⟩:=qS (q:=fun _=>True) (fun r hr=>by obtain⟨x,hx⟩:=az5 (n:=2) hr;exact⟨x,hx,trivial⟩) hrows
 have e1:Tryz.prog.cellsOf 75=3:=by kernel_rfl
 have e2:zD Tryz.prog 6 75=true:=by kernel_rfl
 rw[e1,e2]at hx
 simp only[List.cons.injEq,and_true]at hx
 exact⟨nn,l,hx,by simpa using hl⟩
theorem aqL{w:Qh}{d:Int}{l:List Vg}{f:Int}(h:bF w d l f=0){j:Nat}{q:Qc}(hq:Xa w.rooms q=true){g:Int}(hg0:0≤g)(hg3:g≤3):bF (Qq w j q) d l g=0:=by
 obtain⟨h6,hwb,hdb,hgb,_,_⟩:=aQ h
 have hgb':fC (Qq w j q) l=true:=by unfold fC;rw[Qk];exact hgb
 unfold bF
 rw[Qk,if_neg (by simp;omega),if_neg (by simp[wX hwb hq,hdb,hgb'];omega)]
theorem aRT{w:Qh}{N:Nat}{i:Nat}{p q:Qc}(hp:w.parts[i]?=some p)(h:afY p q)(l:List Vg)(s:St):bs (Qq w i q) N l s=bs w N l s:=by
 unfold bs;rw[aoY hp h]
theorem abS{p:Qc}(hpf:p.fits){d:Int}(hdd:0≤d∧d≤5000)(k:Int)(b:Bool):(Qw p d k b).fits:=by
 have hi64:i64 d:=⟨by omega,by omega⟩
 unfold Qw
 split
 ·exact hpf
 ·split
  ·exact hpf
  ·split
   ·split
    ·exact⟨hpf.1,hpf.2.1,hi64,hpf.2.2.2⟩
    ·exact hpf
   ·exact⟨hpf.1,hpf.2.1,hi64,hpf.2.2.2⟩
theorem nE{w:Qh}(hs:w.small){d:Int}(hwb:Vw w=true)(hdb:aS d=true){i:Nat}{p:Qc}(hp:w.parts[i]?=some p){k:Int}(hc:aM p (Re p d,p.opn) k=true)(b:Bool):Up.call (.fn 17) [.agg [.int .i64 w.rooms,.int .i64 w.need,.imm 9 true ((w.parts.set i (Qw p d k b)).map Qc.cells)]] []=some (.ret (.bool true),[]):=by
 have hc':ab5 p d k=true:=by rw[←ak7 hwb hp];exact hc
 have hdd:0≤d∧d≤5000:=by simpa [aS,Ye]using hdb
 have h:=aoJ (Qq w i (Qw p d k b)) (rR hs (abS (hs.fits p (adQ hp)) hdd k b))
 rw[wX hwb (aa3 (mR hwb hp) hdb hc' b)]at h
 have e5:(Qq w i (Qw p d k b)).cells=[.int .i64 w.rooms,.int .i64 w.need,.imm 9 true ((w.parts.set i (Qw p d k b)).map Qc.cells)]:=by
  show [_,_,Rn 9 true true _]=_
  rw[apY];rfl
 change Up.call _ [AV.agg (Qq w i (Qw p d k b)).cells] []=_ at h
 rw[e5]at h
 exact h
theorem apJ{w:Qh}{N:Nat}(hw:qK w N){d:Int}{l:List Vg}(hl:l.length≤maxLen){f:Nat}(h:bF w d l f=0):bs w N l (Qb w d,f)=0↔kS (Qb w d) l=true:=by
 obtain⟨_,hwb,_⟩:=aQ h
 exact qE.bst_pos (aoA hw hl h) (by unfold Ud;omega) (af1 hwb)
end Go.Proofs.YtcncggaobhbomaaGreatDoor
