/- The functions of the layer, walked. -/
import Derived.Test.YtcncggaobhbomaaGreatDoorPartAD
import Derived.Test.YtcncggaobhbomaaGreatDoorPartAC
open List renaming length_map→aaB,take_of_length_le→aaM,take→abV,mem_of_getElem?→abZ,getElem?_append_left→ab9,getElem?_set_ne→acH,mem_append→aeN,foldl_cons→ae5,all_cons→afC,all_nil→afO,take_add_one→ag1,take_length→ag2,getElem?_set_self→ag5,take_append_of_le_length→aiJ,getElem?_append_right→ai9,map_eq_nil_iff→akD,mem_cons→amE,mem_map→amX,nodup_cons→amZ,mem_append_left→apI,getElem?_map→apM,getElem?_eq_some_iff→apN,mem_of_mem_take→aqK,prefix_append→as6,foldl_nil→aw3,any_eq_false→axH
open Nat renaming le_refl→aeQ,add_sub_cancel_left→apP
open Bool renaming and_true→afU,and_false→apH,and_eq_true→apJ,true_and→apL,eq_iff_iff→axI
open Int renaming lt_irrefl→ag0
set_option linter.unusedSimpArgs false
set_option linter.unusedVariables false
namespace Go.Proofs.YtcncggaobhbomaaGreatDoor
open Go.Ev Go Go.Ev.Net
set_option maxRecDepth 100000
set_option maxHeartbeats 16000000
theorem gQ{d:Nat}{h:Qa}{v:AV}{p:AV × List Nat}{l:Qa}(hr:rd (d+1) (hf h) v=some p)(hd:d+1≤9:=by omega):rd (d+1) (hf (h++l)) v=some p:=by
 have:=gG (g':=hf (h++l)) (Vo hr dG) fun j hj z hz=>by
  show((h++l)[j]?).bind Qw=_
  rw[ab9 (vJ hd (Vo hr dG) j hj)];exact hz
 obtain⟨a,l',R1,R2,e,h1,h2,h3⟩:=Xl this
 cases e
 obtain⟨_,rfl⟩:=dH h2
 simp at h3
 rw[h1,←h3]
theorem nR:Qg .nilm=[.nilm]:=Eq.trans rfl rfl
theorem nK:AV.flat .nilm=false:=Eq.trans rfl rfl
theorem oR:AV.isCell .nilm=true:=Eq.trans rfl rfl
theorem wV:∀{l:List St} {i j:Nat} {x:St},l.Nodup→l[i]?=some x→l[j]?=some x→i=j
 | [],i,j,x,_,h,_=>by simp at h
 |a::l,0,0,x,_,_,_=>rfl
 |a::l,0,j+1,x,hn,h1,h2=>by
  simp at h1 h2;subst h1
  exact absurd (abZ h2) (amZ.1 hn).1
 |a::l,i+1,0,x,hn,h1,h2=>by
  simp at h1 h2;subst h2
  exact absurd (abZ h1) (amZ.1 hn).1
 |a::l,i+1,j+1,x,hn,h1,h2=>congrArg (· +1) (wV (l:=l) (x:=x) (amZ.1 hn).2 (by simpa using h1) (by simpa using h2))
def knT:St→AV:=dK fun _=>Qx
theorem atJ{h:Qa}{b:Nat}{L:List St}{s:St}(hb:h[b]?=some (Tu (Vh L knT)))(hL:Twl L)(h12:s.1.length=12)(hs:s∉L):ms Tryz.prog h 86 (some (.mapr b)) (some (.agg (Ss s))) (some (.int .i64 1099511627776))=some (.ret (.tup []),[.put b (Tu (Vh (L++[s]) knT))]):=by
 rw[a40 hb hL h12 hs]
 have:(fun y=>if y=s then AV.int .i64 1099511627776 else knT y)=knT:=by
  funext y;split<;>rfl
 rw[this]
theorem aEG{g:HF}{v:AV}{l:List Zw}{R:List Nat}(h:rd 6 g v=some (Rh 4 false false (l.map Zw.cells),R)):ln Tryz.prog 91 (some v)=some (.ret (.int .i64 (l.length:Int)),[]):=by
 rcases cJ h with⟨rfl,h0⟩|⟨b,rows',rfl,_⟩
 ·obtain rfl:=akD.1 h0
  simp only[Vc.down,seval,Zl.down,List.length_nil,Int.natCast_zero]
 ·simp only[Vc.down,seval,Zl.down,aaB]
structure CI(w:Qf)(N:Nat)(H:Qa)(s0:St)(U:St→Prop)(L:List St)(i b:Nat)(av:St→AV)(h:Qa):Prop where
 keep:Yg [] H h
 all:h[H.length+1]?=some (Tu (Vh (L.take i) av))
 lst:∃x,h[b]?=some (.live 25 true x (L.map Ss))
 kn:h[H.length+3]?=some (Tu (Vh L knT))
 bx:∃x,h[H.length+4]?=some (.live 1 false x [[.mapr (H.length+3)]])
 b2:H.length+2≤b
 b3:b≠H.length+3
 b4:b≠H.length+4
 ch:∀s∈L.take i,∃R,rd 6 (hf h) (av s)=some (Rh 4 false false ((Tj w N s).map Zw.cells),R)∧∀j∈R,H.length+5≤j∧j≠b
 nd:L.Nodup
 tw:Twl L
 un:∀s∈L,U s
 hd:L[0]?=some s0
def Cls(w:Qf)(N:Nat)(L:List St)(i:Nat):Prop:=∀s∈L.take i,∀o∈Tj w N s,∀x∈o.to,x∈L
theorem CI.app{w:Qf}{N:Nat}{H:Qa}{s0:St}{U:St→Prop}{L:List St}{i b:Nat}{av:St→AV}{h:Qa}(I:CI w N H s0 U L i b av h)(l:Qa):CI w N H s0 U L i b av (h++l):=by
 obtain⟨xl,hl⟩:=I.lst
 obtain⟨xb,hb⟩:=I.bx
 exact⟨aHR I.keep l,Qh I.all l,⟨xl,Qh hl l⟩,Qh I.kn l,⟨xb,Qh hb l⟩,I.b2,I.b3,I.b4,fun s hs=>by
  obtain⟨R,h1,h2⟩:=I.ch s hs
  exact⟨R,gQ h1,h2⟩,I.nd,I.tw,I.un,I.hd⟩
theorem CI.call{w:Qf}{N:Nat}{H:Qa}{s0:St}{U:St→Prop}{L:List St}{i b:Nat}{av:St→AV}{h:Qa}(I:CI w N H s0 U L i b av h){s:St}(hs:L[i]?=some s){v:AV}{R:List Nat}{G M:Qa}{c:CB}
 (e5:(h++[c]).length≤M.length) (e6:∀b,b<(h++[c]).length→M[b]?=(h++[c])[b]?) (e7:∀b,(h++[c]).length≤b→M[b]?=G[b]?) (hv:rd 6 (hf G) v=some (Rh 4 false false ((Tj w N s).map Zw.cells),R)) (hR:∀j∈R,(h++[c]).length≤j):
 CI w N H s0 U L (i+1) b (fun y=>if y=s then v else av y) (M.set (H.length+1) (Tu (Vh (L.take i++[s]) fun y=>if y=s then v else av y))):=by
 obtain⟨xl,hl⟩:=I.lst
 obtain⟨xb,hb⟩:=I.bx
 have lA:=Rw I.all
 have ll:=Rw hl
 have lk:=Rw I.kn
 have lx:=Rw hb
 have b2:=I.b2
 have hlen:(h++[c]).length=h.length+1:=by simp
 have old:∀j,j<h.length→j≠H.length+1→(M.set (H.length+1) (Tu (Vh (L.take i++[s]) fun y=>if y=s then v else av y)))[j]?=h[j]?:=fun j hj hn=>by
  rw[acH (fun e=>hn e.symm),e6 j (by omega),ab9 hj]
 have htk:L.take (i+1)=L.take i++[s]:=by rw[ag1,hs];rfl
 refine⟨⟨by have:=I.keep.len;simp;omega,fun j hj hn=>by rw[old j (by omega) (by omega)];exact I.keep.same j hj hn⟩,by rw[htk];exact ag5 (by omega),⟨xl,by rw[old b ll (by omega)];exact hl⟩,by rw[old _ lk (by omega)];exact I.kn,⟨xb,by rw[old _ lx (by omega)];exact hb⟩,I.b2,I.b3,I.b4,fun y hy=>?_,I.nd,I.tw,I.un,I.hd⟩
 by_cases e:y=s
 ·subst e
  refine⟨R,?_,fun j hj=>by have:=hR j hj;omega⟩
  rw[if_pos rfl]
  have:=gG (g':=hf (M.set (H.length+1) (Tu (Vh (L.take i++[y]) fun z=>if z=y then v else av z)))) (Vo hv dG) fun j hj z hz=>by
   have hj2:j∈R:=by simpa using hj
   have:=hR j hj2
   show((M.set _ _)[j]?).bind Qw=_
   rw[acH (by omega),e7 j this];exact hz
  obtain⟨a,l',R1,R2,e1,h1,h2,h3⟩:=Xl this
  cases e1
  obtain⟨_,rfl⟩:=dH h2
  simp at h3
  rw[h1,←h3]
 ·rw[htk]at hy
  have hy2:y∈L.take i:=by
   rcases aeN.1 hy with h|h
   ·exact h
   ·simp at h;exact absurd h e
  obtain⟨R0,h1,h2⟩:=I.ch y hy2
  refine⟨R0,?_,h2⟩
  rw[if_neg e]
  have:=gG (g':=hf (M.set (H.length+1) (Tu (Vh (L.take i++[s]) fun z=>if z=s then v else av z)))) (Vo h1 dG) fun j hj z hz=>by
   have hj2:j∈R0:=by simpa using hj
   have:=h2 j hj2
   show((M.set _ _)[j]?).bind Qw=_
   rw[old j (vJ (by omega) (Vo h1 dG) j hj) (by omega)];exact hz
  obtain⟨a,l',R1,R2,e1,h1',h2',h3⟩:=Xl this
  cases e1
  obtain⟨_,rfl⟩:=dH h2'
  simp at h3
  rw[h1',←h3]
theorem adD{g:HF}{d st b r n:Nat}{x:AV}{R:List Nat}{rows:List (List AV)}(h:rd (d+1) g (.slr st b r n)=some (x,R))(hb:(g b).bind Qw=some (st,true,rows)):b∈R:=by
 simp only[rd,hb,Option.bind_some,cond_true]at h
 split at h
 ·cases h;simp
 ·cases h
theorem ajS{H:Qa}{v:AV}{l:List Zw}{R:List Nat}(h:rd 6 (hf H) v=some (Rh 4 false false (l.map Zw.cells),R)){j:Nat}{o:Zw}(hj:l[j]?=some o)(hne:o.to≠[]):
 ∃b bt,v=.slr 4 b 0 l.length∧Yz (H[b]?) j=some [.int .i64 o.k,.int .i64 (o.i:Int),.int .i64 o.c,.slr 25 bt 0 o.to.length]∧(hf H bt).bind Qw=some (25,true,o.to.map Ss)∧bt∈R:=by
 rcases cJ h with⟨_,h0⟩|⟨b,rows',rfl,hb,_,_,hr⟩
 ·obtain rfl:=akD.1 h0;simp at hj
 ·obtain⟨q,hq,rfl,hx⟩:=mK h hb
  have hX:(l.map Zw.cells)[j]?=some o.cells:=by rw[apM,hj];rfl
  have hq1:q.1=l.map Zw.cells:=by
   have hl:l.map Zw.cells≠[]:=fun e=>by rw[e]at hX;simp at hX
   rw[Yj hl]at hx
   injection hx with _ _ h3
   exact h3.symm
  obtain⟨r,R2,k1,k2⟩:=mS (i:=j) hq (by rw[hq1];exact hX)
  have hs:=tW hq k1 k2
  obtain⟨a1,l1,_,_,rfl,m1,n1,rfl⟩:=Xl k2
  obtain⟨a2,l2,_,_,rfl,m2,n2,rfl⟩:=Xl n1
  obtain⟨a3,l3,_,_,rfl,m3,n3,rfl⟩:=Xl n2
  obtain⟨a4,l4,_,_,rfl,m4,n4,rfl⟩:=Xl n3
  obtain⟨rfl,rfl⟩:=dH n4
  obtain⟨rfl,rfl⟩:=aiL m1
  obtain⟨rfl,rfl⟩:=aiL m2
  obtain⟨rfl,rfl⟩:=aiL m3
  rcases cJ m4 with⟨rfl,h0⟩|⟨bt,rows2,rfl,hb2,_,hfl,_⟩
  ·exact absurd (akD.1 h0) hne
  ·obtain rfl:=hfl rfl
   refine⟨b,bt,by rw[aaB],by rw[tK hb,k1,aaB],hb2,List.mem_cons_of_mem _ (hs bt ?_)⟩
   have:=(adD m4 hb2)
   simpa using this
theorem nT(w:Qf)(N:Nat)(s:St)(k:Int):(lB w N s k).length≤w.parts.length:=by
 have:=List.length_filterMap_le (choF w N s k) (List.range w.parts.length)
 unfold lB;simpa using this
theorem xI(w:Qf)(N:Nat)(s:St)(h:w.parts.length≤12):(Tj w N s).length≤48:=by
 have h1:=nT w N s 1
 have h2:=nT w N s 2
 have h3:=nT w N s 3
 have h4:=nT w N s 4
 simp only[Tj,List.length_append];omega
theorem aj2{α:Type}{l:List α}{i:Nat}{x:α}(h:l[i]?=some x):i<l.length:=(apN.1 h).1
theorem CI.grow{w:Qf}{N:Nat}{H:Qa}{s0:St}{U:St→Prop}{L:List St}{i b:Nat}{av:St→AV}{h:Qa}(I:CI w N H s0 U L i b av h)(hi:i≤L.length){x:St}(hx:x∉L)(hx2:x.1.length=12)(hU:U x)(c:CB):
 CI w N H s0 U (L++[x]) i (h.length+1) av ((h.set (H.length+3) (Tu (Vh (L++[x]) knT))).set b .dead++[c,.live 25 true false (L.map Ss++[Ss x])]):=by
 obtain⟨xl,hl⟩:=I.lst
 obtain⟨xb,hb⟩:=I.bx
 have lA:=Rw I.all
 have ll:=Rw hl
 have lk:=Rw I.kn
 have lx:=Rw hb
 have b2:=I.b2
 have b3:=I.b3
 have b4:=I.b4
 have old:∀j,j<h.length→j≠H.length+3→j≠b→((h.set (H.length+3) (Tu (Vh (L++[x]) knT))).set b .dead++[c,.live 25 true false (L.map Ss++[Ss x])])[j]?=h[j]?:=fun j hj h1 h2=>by
  rw[ab9 (by simpa using hj),acH (fun e=>h2 e.symm),acH (fun e=>h1 e.symm)]
 have htk:(L++[x]).take i=L.take i:=aiJ hi
 refine⟨⟨by have:=I.keep.len;simp;omega,fun j hj hn=>by rw[old j (by omega) (by omega) (by omega)];exact I.keep.same j hj hn⟩,by rw[htk,old _ lA (by omega) (by omega)];exact I.all,⟨false,?_⟩,?_,⟨xb,by rw[old _ lx (by omega) (by omega)];exact hb⟩,by omega,by omega,by omega,fun y hy=>?_,?_,?_,?_,?_⟩
 ·rw[ai9 (by simp),List.map_append];simp
 ·rw[ab9 (by simpa using lk),acH b3,ag5 lk]
 ·rw[htk]at hy
  obtain⟨R0,h1,h2⟩:=I.ch y hy
  have hlt:=vJ (by omega) (Vo h1 dG)
  refine⟨R0,?_,fun j hj=>⟨(h2 j hj).1,by have:=hlt j (by simpa using hj);omega⟩⟩
  have:=gG (g':=hf ((h.set (H.length+3) (Tu (Vh (L++[x]) knT))).set b .dead++[c,.live 25 true false (L.map Ss++[Ss x])])) (Vo h1 dG) fun j hj z hz=>by
   have hj2:j∈R0:=by simpa using hj
   have h3:=h2 j hj2
   show((_++_:Qa)[j]?).bind Qw=_
   rw[old j (hlt j hj) (by omega) h3.2];exact hz
  obtain⟨a,l',R1,R2,e1,h1',h2',h3⟩:=Xl this
  cases e1
  obtain⟨_,rfl⟩:=dH h2'
  simp at h3
  rw[h1',←h3]
 ·refine List.nodup_append.2 ⟨I.nd,by simp,fun a ha b hb=>?_⟩
  simp at hb;subst hb;exact fun e=>hx (e▸ha)
 ·intro y hy
  rcases aeN.1 hy with h|h
  ·exact I.tw y h
  ·simp at h;rw[h];exact hx2
 ·intro y hy
  rcases aeN.1 hy with h|h
  ·exact I.un y h
  ·simp at h;rw[h];exact hU
 ·have h0:=I.hd
  rw[ab9 (aj2 h0)];exact h0
structure CK(w:Qf)(N:Nat)(H:Qa)(s0:St)(U:St→Prop)(L:List St)(b:Nat)(av:St→AV)(f:St→Nat)(h:Qa):Prop where
 keep:Yg [] H h
 all:h[H.length+1]?=some (Tu (Vh L av))
 lst:∃x,h[b]?=some (.live 25 true x (L.map Ss))
 kn:h[H.length+3]?=some (Tu (Vh L (dK f)))
 bx:∃x,h[H.length+4]?=some (.live 1 false x [[.mapr (H.length+3)]])
 b2:H.length+2≤b
 b3:b≠H.length+3
 b4:b≠H.length+4
 ch:∀s∈L,∃R,rd 6 (hf h) (av s)=some (Rh 4 false false ((Tj w N s).map Zw.cells),R)∧∀j∈R,H.length+5≤j∧j≠b
 nd:L.Nodup
 tw:Twl L
 un:∀s∈L,U s
 hd:L[0]?=some s0
theorem CI.toK{w:Qf}{N:Nat}{H:Qa}{s0:St}{U:St→Prop}{L:List St}{b:Nat}{av:St→AV}{h:Qa}(I:CI w N H s0 U L L.length b av h):CK w N H s0 U L b av (fun _=>Qx) h:=
 ⟨I.keep,by have:=I.all;rwa[ag2]at this,I.lst,I.kn,I.bx,I.b2,I.b3,I.b4,fun s hs=>I.ch s (by rwa[ag2]),I.nd,I.tw,I.un,I.hd⟩
theorem CK.app{w:Qf}{N:Nat}{H:Qa}{s0:St}{U:St→Prop}{L:List St}{b:Nat}{av:St→AV}{f:St→Nat}{h:Qa}(I:CK w N H s0 U L b av f h)(l:Qa):CK w N H s0 U L b av f (h++l):=by
 obtain⟨xl,hl⟩:=I.lst
 obtain⟨xb,hb⟩:=I.bx
 exact⟨aHR I.keep l,Qh I.all l,⟨xl,Qh hl l⟩,Qh I.kn l,⟨xb,Qh hb l⟩,I.b2,I.b3,I.b4,fun s hs=>by
  obtain⟨R,h1,h2⟩:=I.ch s hs
  exact⟨R,gQ h1,h2⟩,I.nd,I.tw,I.un,I.hd⟩
theorem CK.put{w:Qf}{N:Nat}{H:Qa}{s0:St}{U:St→Prop}{L:List St}{b:Nat}{av:St→AV}{f:St→Nat}{h:Qa}(I:CK w N H s0 U L b av f h)(g:St→Nat):CK w N H s0 U L b av g (h.set (H.length+3) (Tu (Vh L (dK g)))):=by
 obtain⟨xl,hl⟩:=I.lst
 obtain⟨xb,hb⟩:=I.bx
 have lk:=Rw I.kn
 have b3:=I.b3
 have old:∀j,j≠H.length+3→(h.set (H.length+3) (Tu (Vh L (dK g))))[j]?=h[j]?:=fun j h1=>acH (fun e=>h1 e.symm)
 refine⟨⟨by have:=I.keep.len;simp;omega,fun j hj hn=>by rw[old j (by omega)];exact I.keep.same j hj hn⟩,by rw[old _ (by omega)];exact I.all,⟨xl,by rw[old b b3];exact hl⟩,ag5 lk,⟨xb,by rw[old _ (by omega)];exact hb⟩,I.b2,I.b3,I.b4,fun y hy=>?_,I.nd,I.tw,I.un,I.hd⟩
 obtain⟨R0,h1,h2⟩:=I.ch y hy
 refine⟨R0,?_,h2⟩
 have:=gG (g':=hf (h.set (H.length+3) (Tu (Vh L (dK g))))) (Vo h1 dG) fun j hj z hz=>by
  have hj2:j∈R0:=by simpa using hj
  have h3:=h2 j hj2
  show((h.set _ _)[j]?).bind Qw=_
  rw[old j (by omega)];exact hz
 obtain⟨a,l',R1,R2,e1,h1',h2',h3⟩:=Xl this
 cases e1
 obtain⟨_,rfl⟩:=dH h2'
 simp at h3
 rw[h1',←h3]
def mtS(l:List Ua)(f:St→Nat)(x:St):St→Nat:=if lG x.1 l then fun y=>if y=x then 0 else f y else f
theorem aXD{s:St}(h:s.1.length=12):abV 24 (Ss s)=To s.1:=by
 have:(To s.1).length=24:=by rw[Rz];omega
 unfold Ss;rw[aiJ (by omega),aaM (by omega)]
theorem ab8(f:St→Nat)(x:St)(n:Nat):(fun y=>if y=x then AV.int .i64 (n:Int)else dK f y)=dK fun y=>if y=x then n else f y:=by
 funext y;unfold dK;by_cases e:y=x<;>simp[e]
def mY(w:Qf)(N:Nat)(p:(St→Nat) × Bool)(x:St):(St→Nat) × Bool:=if dE p.1 (p.1 x) (Tj w N x)<p.1 x then(fun y=>if y=x then dE p.1 (p.1 x) (Tj w N x)else p.1 y,true)else p
theorem yY(f:St→Nat):∀(l:List Zw) (n:Nat),dE f n l≤n∧(∀o∈l,dE f n l≤kW f o)∧(dE f n l=n∨∃o∈l,dE f n l=kW f o)
 | [],n=>⟨aeQ _,by simp,.inl rfl⟩
 |o::l,n=>by
  obtain⟨h1,h2,h3⟩:=yY f l (min n (kW f o))
  have e:dE f n (o::l)=dE f (min n (kW f o)) l:=rfl
  rw[e]
  refine⟨by omega,fun x hx=>?_,?_⟩
  ·rcases amE.1 hx with rfl|hx
   ·omega
   ·exact h2 x hx
  ·rcases h3 with h|⟨x,hx,h⟩
   ·by_cases c:n≤kW f o
    ·exact .inl (by omega)
    ·exact .inr ⟨o,by simp,by omega⟩
   ·exact .inr ⟨x,by simp[hx],h⟩
theorem akN{f:St→Nat}{x:St}{n:Nat}:∀{L:List St},(∀y∈L,y∈L)→n≤f x→(L.map fun y=>if y=x then n else f y).sum≤(L.map f).sum
 | [],_,_=>aeQ _
 |y::L,_,h=>by
  have:=akN (L:=L) (fun _ h=>h) h
  simp only[List.map_cons,List.sum_cons]
  split
  ·rename_i e;subst e;omega
  ·omega
theorem nP{f:St→Nat}{x:St}{n:Nat}(h:n<f x):∀{L:List St},x∈L→(L.map fun y=>if y=x then n else f y).sum<(L.map f).sum
 |y::L,hm=>by
  have h0:=akN (f:=f) (L:=L) (fun _ h=>h) (Nat.le_of_lt h)
  simp only[List.map_cons,List.sum_cons]
  by_cases e:y=x
  ·subst e;rw[if_pos rfl];omega
  ·rw[if_neg e]
   rcases amE.1 hm with e'|hm
   ·exact absurd e'.symm e
   ·have:=nP h hm;omega
theorem pB{w:Qf}{N:Nat}{l:List Ua}{L:List St}:∀(r:List St),(∀x∈r,x∈L)→∀p:(St→Nat) × Bool,(cK w N l).Known Qx L p.1→
 (cK w N l).Known Qx L (r.foldl (mY w N) p).1∧((L.map (r.foldl (mY w N) p).1).sum≤(L.map p.1).sum)∧((r.foldl (mY w N) p).2=true→p.2=true∨(L.map (r.foldl (mY w N) p).1).sum<(L.map p.1).sum)∧
 ((r.foldl (mY w N) p).2=false→r.foldl (mY w N) p=p∧∀x∈r,∀o∈Tj w N x,p.1 x≤kW p.1 o)
 | [],_,p,K=>⟨K,aeQ _,.inl,fun _=>⟨rfl,by simp⟩⟩
 |x::r,hr,p,K=>by
  obtain⟨q1,q2,q3⟩:=yY p.1 (Tj w N x) (p.1 x)
  simp only[ae5]
  by_cases c:dE p.1 (p.1 x) (Tj w N x)<p.1 x
  ·have e:mY w N p x=(fun y=>if y=x then dE p.1 (p.1 x) (Tj w N x)else p.1 y,true):=by simp only[mY,if_pos c]
   rw[e]
   rcases q3 with q3|⟨o,ho,q3⟩
   ·omega
   have hs:=nP c (hr x (by simp))
   have K2:(cK w N l).Known Qx L (fun y=>if y=x then dE p.1 (p.1 x) (Tj w N x)else p.1 y):=K.less (s:=x) (o:=(o.c.toNat,o.to)) (List.mem_map_of_mem ho) (hr x (by simp)) q3 c
   generalize(fun y=>if y=x then dE p.1 (p.1 x) (Tj w N x)else p.1 y)=g at hs K2 ⊢
   obtain⟨a1,a2,a3,a4⟩:=pB r (fun y h=>hr y (by simp[h])) (g,true) K2
   refine⟨a1,by simp only at a2;omega,fun _=>.inr (by simp only at a2;omega),fun h=>?_⟩
   have:=(a4 h).1
   rw[this]at h
   cases h
  ·have e:mY w N p x=p:=by simp only[mY,if_neg c]
   rw[e]
   obtain⟨a1,a2,a3,a4⟩:=pB r (fun y h=>hr y (by simp[h])) p K
   refine⟨a1,a2,a3,fun h=>⟨(a4 h).1,fun y hy o ho=>?_⟩⟩
   rcases amE.1 hy with rfl|hy
   ·have:=q2 o ho;omega
   ·exact(a4 h).2 y hy o ho
theorem oH(l:List Ua)(y:St):∀(L:List St) (f:St→Nat),L.foldl (mtS l) f y=if y∈L∧lG y.1 l=true then 0 else f y
 | [],f=>by simp
 |x::L,f=>by
  rw[ae5,oH l y L]
  by_cases c:lG x.1 l=true
  ·by_cases e:y=x
   ·subst e;simp[mtS,c]
   ·simp[mtS,c,e]
  ·by_cases e:y=x
   ·subst e;simp[mtS,c]
   ·simp[mtS,c,e]
theorem baO{w:Qf}{N:Nat}{l:List Ua}{L:List St}(ho:∀s∈L,∀o∈Tj w N s,1≤o.c∧o.c≤1000∧o.to≠[]∧∀x∈o.to,x∈L):(cK w N l).Known Qx L (L.foldl (mtS l) fun _=>Qx):=by
 refine⟨fun s hs o h=>?_,fun s hs=>?_,fun s hs hg=>?_,fun s hs hlt=>?_,fun s hs hlt=>?_⟩
 ·obtain⟨c,hc,rfl⟩:=amX.1 h
  obtain⟨a1,a2,a3,a4⟩:=ho s hs c hc
  exact⟨by show 1≤c.c.toNat;omega,by show c.c.toNat≤1000;omega,a3,a4⟩
 ·rw[oH];split<;>simp
 ·rw[oH];exact if_pos ⟨hs,hg⟩
 ·rw[oH]at hlt ⊢
  split at hlt
  ·rename_i h;rw[if_pos h];exact .met h.2
  ·simp at hlt
 ·rw[oH]at hlt
  split at hlt
  ·rename_i h;exact .inl h.2
  ·simp at hlt
theorem aAU{w:Qf}{N:Nat}(hw:mX w N)(h12:w.parts.length≤12)(d:Int){H:Qa}{lb:Nat}{wf:Bool}(hlb:H[lb]?=some (tO w d wf)){s0:St}(hs:s0.1.length=12)(hf3:s0.2≤3)(l:List Ua)(nn:Bool)(hl:l.length≤maxLen)(hlp:∀x∈l,0≤x.part∧x.part<12)
 {U:St→Prop} {B:Nat} (hB39:B≤400000000000) (hU:∀L:List St,L.Nodup→(∀s∈L,U s)→L.length≤B) (hU0:U s0) (hUs:∀s,U s→s.1.length=12∧s.2≤3) (hUc:∀s,U s→∀o∈Tj w N s,1≤o.c∧o.c≤1000∧o.to≠[]∧o.to.length≤2∧∀x∈o.to,U x):
 ShQ Ub 41 [.ptr lb 0 0,.agg (Ss s0),Rh 3 true nn (l.map Ua.cells)] H fun o G=>∃(L:List St) (f:St→Nat) (av:St→AV) (b:Nat),o=.ret (.tup [.mapr (H.length+3),.mapr (H.length+1)])∧CK w N H s0 U L b av f G∧(cK w N l).Known Qx L f∧∀x∈L,∀o∈Tj w N x,f x≤kW f o:=by
 have hlen:=hw.len
 have hsl:=Yr hs
 have hsf:=Wl s0
 have hsc:=Wz s0
 have htk:abV 25 (Ss s0)=Ss s0:=aaM (by omega)
 refine aiM rfl Tryz.func41 rfl rfl ?_
 simp only[Tryz.f41]
 obtain⟨qC,hqC⟩:∃q,Fn.func 65=q:=⟨_,rfl⟩
 have hins:=atJ (h:=H++[CB.live 25 true false [Ss s0],CB.lp [] Code.skip Code.skip [] Yl.map,CB.live 25 true false [Ss s0],CB.lp [] Code.skip Code.skip [] Yl.map]) (b:=H.length+3) (L:=[]) (s:=s0) (by rw[ai9 (by omega),apP];rfl) (by intro s hs;cases hs) hs (by simp)
 (have hb:=trivial;with_reducible repeat' (first|simp only[hb,Vc.down,seval,Zl.down,hsl,hsf,hsc,htk,hins,bV.down,nR,nK,oR,afC,afO,afU,apH,aaB]|refine Qm ?_ ?_<;>intro hb|refine fd ?_|fail))
 refine Uj (cnt 117 (fun n (_:Unit) t h=>t 0=.ptr lb 0 0∧t 2=Rh 3 true nn (l.map Ua.cells)∧t 8=.mapr (H.length+1)∧t 10=.ptr (H.length+4) 0 0∧∃(L:List St) (i b:Nat) (av:St→AV),t 9=.slr 25 b 0 L.length∧t 11=.int .i64 (i:Int)∧i+n=B∧i≤L.length∧CI w N H s0 U L i b av h∧Cls w N L i) (fun _ _=>())
  (fun _ e t h=>e=.exit 0∧t 0=.ptr lb 0 0∧t 2=Rh 3 true nn (l.map Ua.cells)∧t 8=.mapr (H.length+1)∧t 10=.ptr (H.length+4) 0 0∧∃(L:List St) (b:Nat) (av:St→AV),t 9=.slr 25 b 0 L.length∧CI w N H s0 U L L.length b av h∧Cls w N L L.length) ?_ ?_ B () _ _ ?_) (fun e t h hk=>?_)
 ·rintro _ t h Q' kQ ⟨g0,g2,g8,g10,L,i,b,av,g9,g11,hi,hiL,I,hcl⟩
  have hLB:=hU L I.nd I.un
  obtain rfl:i=L.length:=by omega
  (have hb:=trivial;with_reducible repeat' (first|simp only[hb,Vc.down,seval,Zl.down,g9,g11,ag0,decide_false]|refine Qm ?_ ?_<;>intro hb|refine fd ?_|fail))
  exact kQ _ _ _ ⟨rfl,by simp[up,g0],by simp[up,g2],by simp[up,g8],by simp[up,g10],L,b,av,by simp[up,g9],I,hcl⟩
 ·rintro n _ t h J Q' kJ kQ ⟨g0,g2,g8,g10,L,i,b,av,g9,g11,hi,hiL,I,hcl⟩
  have hLB:=hU L I.nd I.un
  by_cases hlt:i<L.length
  ·obtain⟨s,hs'⟩:∃s,L[i]?=some s:=⟨_,List.getElem?_eq_getElem hlt⟩
   have hsm:=abZ hs'
   obtain⟨hs12,hsf3⟩:=hUs s (I.un s hsm)
   obtain⟨xl,hlst⟩:=I.lst
   have hdd:decide ((i:Int)<(L.length:Int))=true:=decide_eq_true (by omega)
   have hip:((i:Int)<(L.length:Int))=True:=eq_true (by omega)
   have z1:=Yr hs12
   have z2:=Wl s
   have z3:=Wz s
   have z4:abV 25 (Ss s)=Ss s:=aaM (by omega)
   (have hb:=trivial;with_reducible repeat' (first|simp only[hb,Vc.down,seval,Zl.down,g0,g8,g9,g11,hdd,hip,hlst,hs',z1,z2,z3,z4,hqC,bV.down,aaB]|refine Qm ?_ ?_<;>intro hb|refine fd ?_|fail))
   generalize hE:cl Ub (h++[CB.live 25 true true [Ss s]]) (some (.func qC [] [])) (some [.ptr lb 0 0,.agg (Ss s)])=E
   rw[←hqC]at hE
   have hlb2:(Xe (h++[CB.live 25 true true [Ss s]]))[lb]?=some (tO w d false):=by
    have h1:(h++[CB.live 25 true true [Ss s]])[lb]?=some (tO w d wf):=Qh ((I.keep.same lb (Rw hlb) (by simp)).trans hlb) _
    rw[Ux h1];rfl
   obtain⟨o,G,es,M,e1,e2,⟨v,R,rfl,hv,hR⟩,e4,e5,e6,e7,e8⟩:=auL (O:=Ub) (f:=65) (H:=h++[CB.live 25 true true [Ss s]]) (args:=[.ptr lb 0 0,.agg (Ss s)]) rfl rfl (anD hw h12 d hlb2 hs12 hsf3)
   have e9:=hE.symm.trans e1
   subst e9
   rw[Su]at hR
   have hft:ftC Ub (h++[CB.live 25 true true [Ss s]]) (some (.func qC [] [])) (some [.ptr lb 0 0,.agg (Ss s)])=some [.all]:=by
    rw[←hqC,ag3];rfl
   obtain⟨p1,p2⟩:=axD hv
   have hMall:M[H.length+1]?=some (Tu (Vh (L.take i) av)):=(e6 _ (by have:=Rw I.all;simp;omega)).trans (Qh I.all _)
   have hnt:s∉L.take i:=fun hm=>by
    obtain⟨j,hj⟩:=List.getElem?_of_mem hm
    have hji:j<i:=by
     have:=(apN.1 hj).1
     simp at this;omega
    rw[List.getElem?_take_of_lt hji]at hj
    have:=wV I.nd hj hs'
    omega
   have hms:=baV hMall (fun x hx=>I.tw x (aqK hx)) hs12 hnt v
   have hMbx:M[h.length]?=some (.live 25 true true [Ss s]):=(e6 _ (by simp)).trans (by rw[ai9 (aeQ _),Nat.sub_self];rfl)
   obtain⟨av2,hav2⟩:∃av2:St→AV,(fun y=>if y=s then v else av y)=av2:=⟨_,rfl⟩
   rw[hav2]at hms
   have hav2s:av2 s=v:=by rw[←hav2];simp
   have hAM:=Rw hMall
   have hAh:H.length+1≠h.length:=by have:=Rw I.all;omega
   have hM2:(M.set (H.length+1) (Tu (Vh (L.take i++[s]) av2)))[H.length+1]?=some (Tu (Vh (L.take i++[s]) av2)):=ag5 hAM
   have hMb2:(M.set (H.length+1) (Tu (Vh (L.take i++[s]) av2)))[h.length]?=some (.live 25 true true [Ss s]):=by rw[acH hAh];exact hMbx
   have hlk:=ag7 hM2 (fun x hx=>by
    rcases aeN.1 hx with hx|hx
    ·exact I.tw x (aqK hx)
    ·simp at hx;rw[hx];exact hs12) (s:=s) (by simp)
   rw[hav2s]at hlk
   have hln:=aEG hv
   have hic:v.isCell=true:=p1
   (have hb:=trivial;with_reducible repeat' (first|simp only[hb,Vc.down,seval,Zl.down,g8,e2,hft,hms,hM2,hMb2,hlk,hln,hic,p2,z1,z2,z3,z4,bV.down,afU,apH,afC,afO]|refine Qm ?_ ?_<;>intro hb|refine fdq ?_|fail))
   refine aa4 (fun b=>if b=h.length then 0 else 1) [([],[]),([],[.cells 0 0 25]),([],[]),([],[.cells 0 0 25]),([.blk 1],[.all]),([.blk 1],[.blk 1])] (by kernel_rfl) ?_ (fun _=>?_)
   ·have hes:∀e∈es,eN (fun b=>if b=h.length then 0 else 1) e.foot=.blk 1:=fun e he=>by
     obtain⟨b',k1,k2⟩:=e8 e he
     have hne:b'≠h.length:=by
      rcases k2 with k2|⟨c,k3,k4⟩
      ·simp at k2;omega
      ·intro e';subst e'
       rw[ai9 (aeQ _),Nat.sub_self]at k3
       simp at k3;subst k3;cases k4
     rw[k1];simp[eN,hne]
    simp only[kD,nE]
    refine⟨by simp,by simp,by simp,by simp[eN],by simp,by simp,by simp,by simp[eN],fun e he=>.inr (by rw[hes e he];simp),by simp,by simp[Qd.foot,eN,hAh],by simp[eN,hAh],trivial⟩
   have I1:=I.call hs' e5 e6 e7 hv hR
   rw[hav2]at I1
   have hCl:(Tj w N s).length≤48:=xI w N s h12
   have hUo:=hUc s (I.un s hsm)
   refine Uj (lst 117 (Tj w N s) (fun j (_:Unit) t h=>t 0=.ptr lb 0 0∧t 2=Rh 3 true nn (l.map Ua.cells)∧t 8=.mapr (H.length+1)∧t 10=.ptr (H.length+4) 0 0∧t 11=.int .i64 (i:Int)∧t 48=v∧t 49=.int .i64 ((Tj w N s).length:Int)∧t 50=.int .i64 (j:Int)∧∃(L':List St) (b':Nat),t 9=.slr 25 b' 0 L'.length∧L <+:L'∧CI w N H s0 U L' (i+1) b' av2 h∧∀o∈(Tj w N s).take j,∀x∈o.to,x∈L') (fun _ _=>())
    (fun _ e t h=>e=.exit 2∧t 0=.ptr lb 0 0∧t 2=Rh 3 true nn (l.map Ua.cells)∧t 8=.mapr (H.length+1)∧t 10=.ptr (H.length+4) 0 0∧t 11=.int .i64 (i:Int)∧∃(L':List St) (b':Nat),t 9=.slr 25 b' 0 L'.length∧L <+:L'∧CI w N H s0 U L' (i+1) b' av2 h∧∀o∈Tj w N s,∀x∈o.to,x∈L') ?_ ?_ () _ _ ?_) (fun e t h hk=>?_)
   ·rintro _ t h Q'' kQ ⟨g0,g2,g8,g10,g11,g48,g49,g50,L',b',g9,hp,I',ho⟩
    rw[ag2]at ho
    (have hb:=trivial;with_reducible repeat' (first|simp only[hb,Vc.down,seval,Zl.down,g49,g50,ag0,decide_false]|refine Qm ?_ ?_<;>intro hb|refine fd ?_|fail))
    exact kQ _ _ _ ⟨rfl,by simp[up,g0],by simp[up,g2],by simp[up,g8],by simp[up,g10],by simp[up,g11],L',b',by simp[up,g9],hp,I',ho⟩
   ·rintro o rest j _ t h J' Q'' kJ' kQ' hx hj ⟨g0,g2,g8,g10,g11,g48,g49,g50,L',b',g9,hp,I',ho⟩
    have hdj:decide ((j:Int)<((Tj w N s).length:Int))=true:=decide_eq_true (by omega)
    have hij:((j:Int)<((Tj w N s).length:Int))=True:=eq_true (by omega)
    have hwj:=Sl hj (by unfold maxLen;omega)
    obtain⟨u0,u1,u2,u3,u4⟩:=hUo o (abZ hx)
    obtain⟨X,rfl⟩:=hp
    have hst:s∈(L++X).take (i+1):=by
     rw[aiJ (by omega),ag1,hs'];simp
    obtain⟨R',hv',hR'⟩:=I'.ch s hst
    rw[hav2s]at hv'
    obtain⟨bv,bt,hvv,y1,y2,y3⟩:=ajS hv' hx u2
    rw[hvv]at g48
    have hbt:=hR' bt y3
    (have hb:=trivial;with_reducible repeat' (first|simp only[hb,Vc.down,seval,Zl.down,g48,g49,g50,hdj,hij,y1,afU,apH,afC,afO,aaB]|refine Qm ?_ ?_<;>intro hb|refine fd ?_|fail))
    refine Uj (lst 117 o.to (fun m (_:Unit) t h=>t 0=.ptr lb 0 0∧t 2=Rh 3 true nn (l.map Ua.cells)∧t 8=.mapr (H.length+1)∧t 10=.ptr (H.length+4) 0 0∧t 11=.int .i64 (i:Int)∧t 48=v∧t 49=.int .i64 ((Tj w N s).length:Int)∧t 50=.int .i64 (j:Int)∧t 55=.slr 25 bt 0 o.to.length∧t 56=.int .i64 (o.to.length:Int)∧t 57=.int .i64 (m:Int)∧(hf h bt).bind Qw=some (25,true,o.to.map Ss)∧∃(L':List St) (b':Nat),t 9=.slr 25 b' 0 L'.length∧bt≠b'∧L <+:L'∧CI w N H s0 U L' (i+1) b' av2 h∧(∀o∈(Tj w N s).take j,∀x∈o.to,x∈L')∧∀x∈o.to.take m,x∈L') (fun _ _=>())
     (fun _ e t h=>e=.exit 4∧t 0=.ptr lb 0 0∧t 2=Rh 3 true nn (l.map Ua.cells)∧t 8=.mapr (H.length+1)∧t 10=.ptr (H.length+4) 0 0∧t 11=.int .i64 (i:Int)∧t 48=v∧t 49=.int .i64 ((Tj w N s).length:Int)∧t 50=.int .i64 (j:Int)∧∃(L':List St) (b':Nat),t 9=.slr 25 b' 0 L'.length∧L <+:L'∧CI w N H s0 U L' (i+1) b' av2 h∧(∀o∈(Tj w N s).take j,∀x∈o.to,x∈L')∧∀x∈o.to,x∈L') ?_ ?_ () _ _ ?_) (fun e t h hk=>?_)
    ·rintro _ t h Q3 kQ3 ⟨g0,g2,g8,g10,g11,g48,g49,g50,g55,g56,g57,z5,L',b',g9,hnb,hp,I',ho,hm⟩
     rw[ag2]at hm
     (have hb:=trivial;with_reducible repeat' (first|simp only[hb,Vc.down,seval,Zl.down,g56,g57,ag0,decide_false]|refine Qm ?_ ?_<;>intro hb|refine fd ?_|fail))
     exact kQ3 _ _ _ ⟨rfl,by simp[up,g0],by simp[up,g2],by simp[up,g8],by simp[up,g10],by simp[up,g11],by simp[up,g48],by simp[up,g49],by simp[up,g50],L',b',by simp[up,g9],hp,I',ho,hm⟩
    ·rintro x rest m _ t h J3 Q3 kJ3 kQ3 hx3 hm3 ⟨g0,g2,g8,g10,g11,g48,g49,g50,g55,g56,g57,z5,L',b',g9,hnb,hp,I',ho,hm⟩
     have hdm:decide ((m:Int)<(o.to.length:Int))=true:=decide_eq_true (by omega)
     have him:((m:Int)<(o.to.length:Int))=True:=eq_true (by omega)
     have hwm:=Sl hm3 (by unfold maxLen;omega)
     have hxU:=u4 x (abZ hx3)
     obtain⟨hx12,_⟩:=hUs x hxU
     have w1:=Yr hx12
     have w2:=Wl x
     have w3:=Wz x
     have w4:abV 25 (Ss x)=Ss x:=aaM (by omega)
     have yx:Yz (h[bt]?) m=some (Ss x):=by rw[tK z5,apM,hx3];rfl
     obtain⟨xb,hbx⟩:=I'.bx
     obtain⟨xl',hlst'⟩:=I'.lst
     have hbx2:=Qh hbx
     have hkn2:=Qh I'.kn
     by_cases hin:x∈L'
     ·have hlk2:=fun q=>aWQ (v:=knT) (hkn2 q) I'.tw hin
      (have hb:=trivial;with_reducible repeat' (first|simp only[hb,Vc.down,seval,Zl.down,g10,g55,g56,g57,hdm,him,hwm,yx,w1,w2,w3,w4,hbx2,hkn2,hlk2,bV.down,aaB]|refine Qm ?_ ?_<;>intro hb|refine fd ?_|fail))
      exact Qq (kJ3 _ _ () ⟨by simp[up,g0],by simp[up,g2],by simp[up,g8],by simp[up,g10],by simp[up,g11],by simp[up,g48],by simp[up,g49],by simp[up,g50],by simp[up,g55],by simp[up,g56],by simp[up],by
       show((_++_:Qa)[bt]?).bind Qw=_
       rw[ab9 (kF z5)];exact z5,L',b',by simp[up,g9],hnb,hp,I'.app _,ho,fun y hy=>by
       rw[ag1,hx3]at hy
       rcases aeN.1 hy with h|h
       ·exact hm y h
       ·simp at h;rw[h];exact hin⟩ rfl)
     ·have hlk2:=fun q=>bmC (hkn2 q) I'.tw hx12 hin
      have hms2:=fun q=>atJ (hkn2 q) I'.tw hx12 hin
      have hLB':=hU L' I'.nd I'.un
      have hkl:=Rw I'.kn
      have hbl:=Rw hlst'
      have hSk:=Ya hkl
      have b3':=I'.b3
      have b4':=I'.b4
      have hbx3:∀q,(h.set (H.length+3) (Tu (Vh (L'++[x]) knT))++q)[H.length+4]?=some (.live 1 false xb [[.mapr (H.length+3)]]):=fun q=>tB _ (by omega) hbx q
      have hlst3:∀q,(h.set (H.length+3) (Tu (Vh (L'++[x]) knT))++q)[b']?=some (.live 25 true xl' (L'.map Ss)):=fun q=>tB _ (fun e=>b3' e.symm) hlst' q
      have hSb:∀q c,(h.set (H.length+3) (Tu (Vh (L'++[x]) knT))++q).set b' c=(h.set (H.length+3) (Tu (Vh (L'++[x]) knT))).set b' c++q:=fun q c=>List.set_append_left _ _ (by simpa using hbl)
      have hi39:(L'.length+1≤549755813888)=True:=eq_true (by omega)
      (have hb:=trivial;with_reducible repeat' (first|simp only[hb,Vc.down,seval,Zl.down,g9,g10,g55,g56,g57,hdm,him,hwm,yx,w1,w2,w3,w4,hbx2,hkn2,hlk2,hms2,hSk,hbx3,hlst3,hSb,hi39,Xg,Vz,List.length_set,bV.down,aaB]|refine Qm ?_ ?_<;>intro hb|refine fd ?_|fail))
      have hIL:i+1≤L'.length:=by have:=hp.length_le;omega
      have hg:=(I'.app [.live 25 true true [Ss x]]).grow hIL hin hx12 hxU (.live 25 true false [Ss x])
      have he:((h++[CB.live 25 true true [Ss x]]).set (H.length+3) (Tu (Vh (L'++[x]) knT))).set b' .dead++[CB.live 25 true false [Ss x],CB.live 25 true false (L'.map Ss++[Ss x])]=(h.set (H.length+3) (Tu (Vh (L'++[x]) knT))).set b' .dead++[CB.live 25 true true [Ss x],CB.live 25 true false [Ss x],CB.live 25 true false (L'.map Ss++[Ss x])]:=by
       rw[hSk,hSb,List.append_assoc];rfl
      rw[he]at hg
      have hbl2:=kF z5
      refine Qq (kJ3 _ _ () ⟨by simp[up,g0],by simp[up,g2],by simp[up,g8],by simp[up,g10],by simp[up,g11],by simp[up,g48],by simp[up,g49],by simp[up,g50],by simp[up,g55],by simp[up,g56],by simp[up],?_,L'++[x],(h++[CB.live 25 true true [Ss x]]).length+1,by simp[up],by simp;omega,hp.trans (as6 _ _),hg,fun o' ho' x' hx'=>apI _ (ho o' ho' x' hx'),fun y hy=>?_⟩ rfl)
      ·show((_++_:Qa)[bt]?).bind Qw=_
       rw[ab9 (by simpa using hbl2),acH (fun e=>hnb e.symm),acH (by have:=hbt.1;omega)]
       exact z5
      ·rw[ag1,hx3]at hy
       rcases aeN.1 hy with h|h
       ·exact apI _ (hm y h)
       ·simp at h;rw[h];simp
    ·exact⟨by simp[up,g0],by simp[up,g2],by simp[up,g8],by simp[up,g10],by simp[up,g11],by simp[up,g48,hvv],by simp[up,g49],by simp[up,g50],by simp[up],by simp[up],by simp[up],by
      show((_++_:Qa)[bt]?).bind Qw=_
      rw[ab9 (kF y2)];exact y2,L++X,b',by simp[up,g9],hbt.2,as6 _ _,I'.app _,ho,by simp⟩
    obtain⟨rfl,g0,g2,g8,g10,g11,g48,g49,g50,L',b',g9,hp,I',ho,hm⟩:=hk
    (have hb:=trivial;with_reducible repeat' (first|simp only[hb,Vc.down,seval,Zl.down,g50,hwj]|refine Qm ?_ ?_<;>intro hb|refine fd ?_|fail))
    exact Qq (kJ' _ _ () ⟨by simp[up,g0],by simp[up,g2],by simp[up,g8],by simp[up,g10],by simp[up,g11],by simp[up,g48],by simp[up,g49],by simp[up],L',b',by simp[up,g9],hp,I',fun o' ho'=>by
     rw[ag1,hx]at ho'
     rcases aeN.1 ho' with h|h
     ·exact ho o' h
     ·simp at h;subst h;exact hm⟩ rfl)
   ·exact⟨by simp[up,g0],by simp[up,g2],by simp[up,g8],by simp[up,g10],by simp[up,g11],by simp[up],by simp[up],by simp[up],L,b,by simp[up,g9],List.prefix_refl _,I1,by simp⟩
   obtain⟨rfl,g0,g2,g8,g10,g11,L',b',g9,⟨X,rfl⟩,I',ho⟩:=hk
   have hwi:IntKind.i64.wrap ((i:Int)+1)=((i+1:Nat):Int):=by rw[Re (by omega) (by omega)];omega
   (have hb:=trivial;with_reducible repeat' (first|simp only[hb,Vc.down,seval,Zl.down,g11,hwi]|refine Qm ?_ ?_<;>intro hb|refine fd ?_|fail))
   refine Qq (kJ _ _ () ⟨by simp[up,g0],by simp[up,g2],by simp[up,g8],by simp[up,g10],L++X,i+1,b',av2,by simp[up,g9],by simp[up],by omega,by simp;omega,I',fun y hy o' ho' x' hx'=>?_⟩ rfl)
   rw[aiJ (by omega),ag1,hs']at hy
   rcases aeN.1 hy with hy|hy
   ·exact apI _ (hcl y hy o' ho' x' hx')
   ·simp at hy;subst hy;exact ho o' ho' x' hx'
  ·obtain rfl:i=L.length:=by omega
   (have hb:=trivial;with_reducible repeat' (first|simp only[hb,Vc.down,seval,Zl.down,g9,g11,ag0,decide_false]|refine Qm ?_ ?_<;>intro hb|refine fd ?_|fail))
   exact kQ _ _ _ ⟨rfl,by simp[up,g0],by simp[up,g2],by simp[up,g8],by simp[up,g10],L,b,av,by simp[up,g9],I,hcl⟩
 ·refine⟨by simp[up,bF],by simp[up,bF],by simp[up],by simp[up],[s0],0,H.length+2,fun _=>.nils,by simp[up],by simp[up],by omega,by simp,?_,by intro s hs;simp at hs⟩
  have at':∀(j:Nat) (c:CB) (X:Qa),X[j]?=some c→(H++X)[H.length+j]?=some c:=fun j c X h=>by rw[ai9 (by omega),apP];exact h
  exact⟨Yg.app _ _,at' 1 _ _ rfl,⟨_,at' 2 _ _ rfl⟩,at' 3 _ _ rfl,⟨_,at' 4 _ _ rfl⟩,by omega,by omega,by omega,by intro s hs;simp at hs,by simp,by intro s hs';simp at hs';rw[hs'];exact hs,by intro s hs';simp at hs';rw[hs'];exact hU0,rfl⟩
 obtain⟨rfl,g0,g2,g8,g10,L,b,av,g9,I,hcl⟩:=hk
 have hLB:=hU L I.nd I.un
 have K:=I.toK
 have hL9:L.length≤maxLen:=by unfold maxLen;omega
 (have hb:=trivial;with_reducible repeat' (first|simp only[hb,Vc.down,seval,Zl.down,g9]|refine Qm ?_ ?_<;>intro hb|refine fd ?_|fail))
 refine Uj (lst 117 L (fun i (f:St→Nat) t h=>t 0=.ptr lb 0 0∧t 2=Rh 3 true nn (l.map Ua.cells)∧t 8=.mapr (H.length+1)∧t 9=.slr 25 b 0 L.length∧t 10=.ptr (H.length+4) 0 0∧t 77=.slr 25 b 0 L.length∧t 78=.int .i64 (L.length:Int)∧t 79=.int .i64 (i:Int)∧CK w N H s0 U L b av f h) (fun rest f=>rest.foldl (mtS l) f)
  (fun f e t h=>e=.exit 6∧t 0=.ptr lb 0 0∧t 2=Rh 3 true nn (l.map Ua.cells)∧t 8=.mapr (H.length+1)∧t 9=.slr 25 b 0 L.length∧t 10=.ptr (H.length+4) 0 0∧CK w N H s0 U L b av f h) ?_ ?_ (fun _=>Qx) _ _ ?_) (fun e t h hk=>?_)
 ·rintro f t h Q' kQ ⟨g0,g2,g8,g9,g10,g77,g78,g79,K⟩
  (have hb:=trivial;with_reducible repeat' (first|simp only[hb,Vc.down,seval,Zl.down,g78,g79,ag0,decide_false]|refine Qm ?_ ?_<;>intro hb|refine fd ?_|fail))
  exact kQ _ _ _ ⟨rfl,by simp[up,g0],by simp[up,g2],by simp[up,g8],by simp[up,g9],by simp[up,g10],K⟩
 ·rintro x rest i f t h J Q' kJ kQ hx hi ⟨g0,g2,g8,g9,g10,g77,g78,g79,K⟩
  have hdd:decide ((i:Int)<(L.length:Int))=true:=decide_eq_true (by omega)
  have hii:((i:Int)<(L.length:Int))=True:=eq_true (by omega)
  have hww:=Sl hi hL9
  obtain⟨xl,hlst⟩:=K.lst
  obtain⟨xb,hbx⟩:=K.bx
  have hxm:=abZ hx
  have hx12:=K.tw x hxm
  have w1:=Yr hx12
  have w2:=Wl x
  have w3:=Wz x
  have w4:abV 25 (Ss x)=Ss x:=aaM (by omega)
  have hbx2:=Qh hbx
  have hkn2:=Qh K.kn
  have hM:=bl4 hx12 l nn hl hlp
  have hms2:=fun q=>ag4 (hkn2 q) K.tw K.nd hxm (.int .i64 0)
  have hSk:=Ya (Rw K.kn)
  generalize hmb:lG x.1 l=mb at *
  have w5:=aXD hx12
  have w6:=iR x.1 6
  cases mb with
  |false=>
   (have hb:=trivial;with_reducible repeat' (first|simp only[hb,Vc.down,seval,Zl.down,g2,g8,g9,g10,g77,g78,g79,hdd,hii,hww,hlst,hx,w1,w2,w3,w4,w5,w6,hbx2,hkn2,hM,hms2,hSk,bV.down,aaB]|refine Qm ?_ ?_<;>intro hb|refine fd ?_|fail))
   have hf:mtS l f x=f:=by simp[mtS,hmb]
   exact Qq (kJ _ _ f ⟨by simp[up,g0],by simp[up,g2],by simp[up,g8],by simp[up,g9],by simp[up,g10],by simp[up,g77],by simp[up,g78],by simp[up],K.app _⟩ (by rw[ae5,hf]))
  |true=>
   (have hb:=trivial;with_reducible repeat' (first|simp only[hb,Vc.down,seval,Zl.down,g2,g8,g9,g10,g77,g78,g79,hdd,hii,hww,hlst,hx,w1,w2,w3,w4,w5,w6,hbx2,hkn2,hM,hms2,hSk,bV.down,aaB]|refine Qm ?_ ?_<;>intro hb|refine fd ?_|fail))
   have hf:mtS l f x=fun y=>if y=x then 0 else f y:=by simp[mtS,hmb]
   have hkp:(fun y=>if y=x then AV.int .i64 0 else dK f y)=dK (mtS l f x):=by rw[hf];exact ab8 f x 0
   rw[hkp]
   exact Qq (kJ _ _ (mtS l f x) ⟨by simp[up,g0],by simp[up,g2],by simp[up,g8],by simp[up,g9],by simp[up,g10],by simp[up,g77],by simp[up,g78],by simp[up],(K.put (mtS l f x)).app _⟩ rfl)
 ·exact⟨by simp[up,g0],by simp[up,g2],by simp[up,g8],by simp[up,g9],by simp[up,g10],by simp[up],by simp[up],by simp[up],K⟩
 obtain⟨rfl,g0,g2,g8,g9,g10,K⟩:=hk
 have hK0:=baO (w:=w) (N:=N) (l:=l) (L:=L) fun s hs o ho=>by
  obtain⟨u0,u1,u2,u3,u4⟩:=hUc s (I.un s hs) o ho
  exact⟨u0,u1,u2,fun x hx=>hcl s (by rwa[ag2]) o ho x hx⟩
 (have hb:=trivial;with_reducible repeat' (first|simp only[hb,Vc.down,seval,Zl.down]|refine Qm ?_ ?_<;>intro hb|refine fd ?_|fail))
 refine Uj (cnt 117 (fun n (_:Unit) t h=>t 0=.ptr lb 0 0∧t 8=.mapr (H.length+1)∧t 9=.slr 25 b 0 L.length∧t 10=.ptr (H.length+4) 0 0∧∃f,CK w N H s0 U L b av f h∧(cK w N l).Known Qx L f∧(L.map f).sum<n) (fun _ _=>())
  (fun _ e t h=>e=.exit 8∧t 8=.mapr (H.length+1)∧t 10=.ptr (H.length+4) 0 0∧∃f,CK w N H s0 U L b av f h∧(cK w N l).Known Qx L f∧∀x∈L,∀o∈Tj w N x,f x≤kW f o) ?_ ?_ ((L.map (L.foldl (mtS l) fun _=>Qx)).sum+1) () _ _ ?_) (fun e t h hk=>?_)
 ·rintro _ t h Q' kQ ⟨_,_,_,_,f,_,_,hn⟩
  omega
 ·rintro n _ t h J Q' kJ kQ ⟨g0,g8,g9,g10,f,K,hKn,hn⟩
  (have hb:=trivial;with_reducible repeat' (first|simp only[hb,Vc.down,seval,Zl.down,g9]|refine Qm ?_ ?_<;>intro hb|refine fd ?_|fail))
  refine Uj (lst 117 L (fun i (p:(St→Nat) × Bool) t h=>t 0=.ptr lb 0 0∧t 8=.mapr (H.length+1)∧t 9=.slr 25 b 0 L.length∧t 10=.ptr (H.length+4) 0 0∧t 21=.bool p.2∧t 90=.slr 25 b 0 L.length∧t 91=.int .i64 (L.length:Int)∧t 92=.int .i64 (i:Int)∧CK w N H s0 U L b av p.1 h∧(cK w N l).Known Qx L p.1) (fun rest p=>rest.foldl (mY w N) p)
   (fun p e t h=>e=.exit 10∧t 0=.ptr lb 0 0∧t 8=.mapr (H.length+1)∧t 9=.slr 25 b 0 L.length∧t 10=.ptr (H.length+4) 0 0∧t 21=.bool p.2∧CK w N H s0 U L b av p.1 h) ?_ ?_ (f,false) _ _ ?_) (fun e t h hk=>?_)
  ·rintro p t h Q' kQ ⟨g0,g8,g9,g10,g21,g90,g91,g92,K,_⟩
   (have hb:=trivial;with_reducible repeat' (first|simp only[hb,Vc.down,seval,Zl.down,g91,g92,ag0,decide_false]|refine Qm ?_ ?_<;>intro hb|refine fd ?_|fail))
   exact kQ _ _ _ ⟨rfl,by simp[up,g0],by simp[up,g8],by simp[up,g9],by simp[up,g10],by simp[up,g21],K⟩
  ·rintro x rest i p t h J Q' kJ kQ hx hi ⟨g0,g8,g9,g10,g21,g90,g91,g92,K,hKn⟩
   have hdd:decide ((i:Int)<(L.length:Int))=true:=decide_eq_true (by omega)
   have hii:((i:Int)<(L.length:Int))=True:=eq_true (by omega)
   have hww:=Sl hi hL9
   obtain⟨xl,hlst⟩:=K.lst
   obtain⟨xb,hbx⟩:=K.bx
   have hxm:=abZ hx
   have hx12:=K.tw x hxm
   have w1:=Yr hx12
   have w2:=Wl x
   have w3:=Wz x
   have w4:abV 25 (Ss x)=Ss x:=aaM (by omega)
   have hbx2:=Qh hbx
   have hkn2:=Qh K.kn
   have hall2:=Qh K.all
   have hlkA:=fun q=>ag7 (hall2 q) K.tw hxm
   have hlkK:=fun q=>abG (hkn2 q) K.tw hxm
   obtain⟨R,hrd,hR⟩:=K.ch x hxm
   obtain⟨p1,p2⟩:=axD hrd
   have hic:(av x).isCell=true:=p1
   have hkx:dK p.1 x=.int .i64 (p.1 x:Int):=rfl
   have hCl:(Tj w N x).length≤48:=xI w N x h12
   have hL1:=aIU (f:=p.1) K.tw hKn.le (l:=Tj w N x) (fun o ho=>by
    obtain⟨u0,u1,u2,u3,u4⟩:=hUc x (K.un x hxm) o ho
    exact⟨by omega,u1,fun z hz=>hcl x (by rwa[ag2]) o ho z hz,u2,u3⟩) (by unfold maxLen;omega) false (p.1 x) false
   have hrv:=fun q=>kT (e:=12) (by omega) (gQ (l:=q) hrd)
   obtain⟨v,hav⟩:∃v,av x=v:=⟨_,rfl⟩
   rw[hav]at hlkA hrd hic p2 hrv
   change ∀q,qG (h++q) v=_ at hrv
   rcases cJ hrd with⟨rfl,h0⟩|⟨vb,vr,rfl,hvb,_,_,hvr⟩
   ·rw[h0]at hL1
    rw[show Rh 4 false false []=AV.nils from rfl]at hL1
    have hne1:(H.length+1=H.length)=False:=eq_false (by omega)
    (have hb:=trivial;with_reducible repeat' (first|simp only[hb,Vc.down,seval,Zl.down,g8,g10,g90,g91,g92,hdd,hii,hlst,hx,w1,w2,w3,w4,hbx2,hkn2,hall2,hlkA,hlkK,hic,p2,hkx,hne1,hL1,bK,eJ,eE,jG,bV.down,aaB]|refine Qm ?_ ?_<;>intro hb|refine fdq ?_|fail))
    refine aa4 (fun _=>0) [([],[]),([],[.cells 0 0 25]),([],[.blk 0]),([],[]),([],[.cells 0 0 1]),([],[.cells 0 0 25]),([],[.blk 0]),([],[.blk 0]),([],[])] (by kernel_rfl) ?_ (fun _=>?_)
    ·simp only[kD,nE]
     exact⟨by simp,by simp,by simp,by simp[eN],by simp,by simp[eN],by simp,by simp,by simp,by simp[eN],by simp,by simp[eN],by simp,by simp[eN],by simp,by simp[eN],by simp,by simp,trivial⟩
    ·cases c:decide (((dE p.1 (p.1 x) (Tj w N x):Nat):Int)<((p.1 x:Nat):Int))with
     |false=>
      have hst:mY w N p x=p:=by
       unfold mY;rw[if_neg]
       have:=of_decide_eq_false c
       omega
      (have hb:=trivial;with_reducible repeat' (first|simp only[hb,Vc.down,seval,Zl.down,g92,hww,c]|refine Qm ?_ ?_<;>intro hb|refine fd ?_|fail))
      exact Qq (kJ _ _ p ⟨by simp[up,g0],by simp[up,g8],by simp[up,g9],by simp[up,g10],by simp[up,g21],by simp[up,g90],by simp[up,g91],by simp[up],K.app _,hKn⟩ (by rw[ae5,hst]))
     |true=>
      have hst:mY w N p x=(fun y=>if y=x then dE p.1 (p.1 x) (Tj w N x)else p.1 y,true):=by
       unfold mY;rw[if_pos]
       have:=of_decide_eq_true c
       omega
      have hK1:=(pB (w:=w) (N:=N) (l:=l) (L:=L) [x] (fun y hy=>by simp at hy;rw[hy];exact hxm) p hKn).1
      simp only[ae5,aw3]at hK1
      have hms2:=fun q=>ag4 (hkn2 q) K.tw K.nd hxm (.int .i64 (dE p.1 (p.1 x) (Tj w N x):Nat))
      have hSk:=Ya (Rw K.kn)
      have hkp:(fun y=>if y=x then AV.int .i64 (dE p.1 (p.1 x) (Tj w N x):Nat)else dK p.1 y)=dK (mY w N p x).1:=by rw[hst];exact ab8 p.1 x _
      rw[hkp]at hms2
      (have hb:=trivial;with_reducible repeat' (first|simp only[hb,Vc.down,seval,Zl.down,g8,g10,g92,hww,c,hbx2,hkn2,hms2,hSk,w1,w2,w3,w4,bV.down]|refine Qm ?_ ?_<;>intro hb|refine fd ?_|fail))
      exact Qq (kJ _ _ (mY w N p x) ⟨by simp[up,g0],by simp[up,g8],by simp[up,g9],by simp[up,g10],by simp[up,hst],by simp[up,g90],by simp[up,g91],by simp[up],(K.put _).app _,hK1⟩ rfl)
   ·simp only[uD,aaB]at hrv
    obtain⟨lv,hlv⟩:∃lv,Qp 12 (hf (h++[CB.live 25 true true [Ss x]])) (.slr 4 vb 0 (Tj w N x).length)=lv:=⟨_,rfl⟩
    have hlv2:=hlv
    rw[wS]at hlv2
    have hlvR:∀j∈lv,H.length+5≤j∧j≠b:=fun j hj=>hR j (nJ (e:=12) (gQ (l:=[CB.live 25 true true [Ss x]]) hrd) j (by rw[aaB,hlv];exact hj))
    have hany:(lv.any fun y=>y==H.length+4||y==H.length+3)=false:=by
     rw[axH]
     intro j hj
     have:=(hlvR j hj).1
     simp
     omega
    have hne1:(H.length+1=H.length)=False:=eq_false (by omega)
    (have hb:=trivial;with_reducible repeat' (first|simp only[hb,Vc.down,seval,Zl.down,g8,g10,g90,g91,g92,hdd,hii,hlst,hx,w1,w2,w3,w4,hbx2,hkn2,hall2,hlkA,hlkK,hic,p2,hkx,hrv,hlv2,hne1,hL1,hany,bK,eJ,eE,jG,bV.down,aaB]|refine Qm ?_ ?_<;>intro hb|refine fdq ?_|fail))
    refine aa4 (fun _=>0) [([],[]),([],[.cells 0 0 25]),([],[.blk 0]),([],[]),([],[.cells 0 0 1]),([],[.cells 0 0 25]),([],[.blk 0]),([],[.blk 0]),([],[])] (by kernel_rfl) ?_ (fun _=>?_)
    ·simp only[kD,nE]
     exact⟨by simp,by simp,by simp,by simp[eN],by simp,by simp[eN],by simp,by simp,by simp,by simp[eN],by simp,by simp[eN],by simp,by simp[eN],by simp,fun y hy=>.inr (by obtain⟨j,_,rfl⟩:=amX.1 hy;simp[eN]),by simp,by simp,trivial⟩
    ·cases c:decide (((dE p.1 (p.1 x) (Tj w N x):Nat):Int)<((p.1 x:Nat):Int))with
     |false=>
      have hst:mY w N p x=p:=by
       unfold mY;rw[if_neg]
       have:=of_decide_eq_false c
       omega
      (have hb:=trivial;with_reducible repeat' (first|simp only[hb,Vc.down,seval,Zl.down,g92,hww,c]|refine Qm ?_ ?_<;>intro hb|refine fd ?_|fail))
      exact Qq (kJ _ _ p ⟨by simp[up,g0],by simp[up,g8],by simp[up,g9],by simp[up,g10],by simp[up,g21],by simp[up,g90],by simp[up,g91],by simp[up],K.app _,hKn⟩ (by rw[ae5,hst]))
     |true=>
      have hst:mY w N p x=(fun y=>if y=x then dE p.1 (p.1 x) (Tj w N x)else p.1 y,true):=by
       unfold mY;rw[if_pos]
       have:=of_decide_eq_true c
       omega
      have hK1:=(pB (w:=w) (N:=N) (l:=l) (L:=L) [x] (fun y hy=>by simp at hy;rw[hy];exact hxm) p hKn).1
      simp only[ae5,aw3]at hK1
      have hms2:=fun q=>ag4 (hkn2 q) K.tw K.nd hxm (.int .i64 (dE p.1 (p.1 x) (Tj w N x):Nat))
      have hSk:=Ya (Rw K.kn)
      have hkp:(fun y=>if y=x then AV.int .i64 (dE p.1 (p.1 x) (Tj w N x):Nat)else dK p.1 y)=dK (mY w N p x).1:=by rw[hst];exact ab8 p.1 x _
      rw[hkp]at hms2
      (have hb:=trivial;with_reducible repeat' (first|simp only[hb,Vc.down,seval,Zl.down,g8,g10,g92,hww,c,hbx2,hkn2,hms2,hSk,w1,w2,w3,w4,bV.down]|refine Qm ?_ ?_<;>intro hb|refine fd ?_|fail))
      exact Qq (kJ _ _ (mY w N p x) ⟨by simp[up,g0],by simp[up,g8],by simp[up,g9],by simp[up,g10],by simp[up,hst],by simp[up,g90],by simp[up,g91],by simp[up],(K.put _).app _,hK1⟩ rfl)
  ·exact⟨by simp[up,g0],by simp[up,g8],by simp[up,g9],by simp[up,g10],by simp[up],by simp[up],by simp[up],by simp[up],K,hKn⟩
  obtain⟨rfl,g0,g8,g9,g10,g21,K⟩:=hk
  obtain⟨a1,a2,a3,a4⟩:=pB (w:=w) (N:=N) (l:=l) L (fun _ h=>h) (f,false) hKn
  generalize hp:List.foldl (mY w N) (f,false) L=p at *
  obtain⟨g,c⟩:=p
  cases c with
  |false=>
   (have hb:=trivial;with_reducible repeat' (first|simp only[hb,Vc.down,seval,Zl.down,g21]|refine Qm ?_ ?_<;>intro hb|refine fd ?_|fail))
   obtain⟨a5,a6⟩:=a4 rfl
   cases a5
   exact kQ _ _ _ ⟨rfl,by simp[up,g8],by simp[up,g10],f,K,a1,a6⟩
  |true=>
   (have hb:=trivial;with_reducible repeat' (first|simp only[hb,Vc.down,seval,Zl.down,g21]|refine Qm ?_ ?_<;>intro hb|refine fd ?_|fail))
   have hlt:=(a3 rfl).resolve_left (by simp)
   simp only at hlt
   exact Qq (kJ _ _ () ⟨by simp[up,g0],by simp[up,g8],by simp[up,g9],by simp[up,g10],g,K,a1,by omega⟩ rfl)
 ·exact⟨by simp[up,g0],by simp[up,g8],by simp[up,g9],by simp[up,g10],_,K,hK0,by omega⟩
 obtain⟨rfl,g8,g10,f,K,hKn,hst⟩:=hk
 obtain⟨xb,hbx⟩:=K.bx
 (have hb:=trivial;with_reducible repeat' (first|simp only[hb,Vc.down,seval,Zl.down,g8,g10,hbx,bV.down]|refine Qm ?_ ?_<;>intro hb|refine fd ?_|fail))
 exact⟨L,f,av,b,K,hKn,hst⟩
theorem bW{w:Qf}{N:Nat}{l:List Ua}{s:St}{o:Nat × List St}:o∈(cK w N l).ops s↔∃c∈Tj w N s,o=(c.c.toNat,c.to):=by
 show o∈(Tj w N s).map _↔_
 rw[amX]
 exact⟨fun⟨c,h1,h2⟩=>⟨c,h1,h2.symm⟩,fun⟨c,h1,h2⟩=>⟨c,h1,h2.symm⟩⟩
noncomputable def bs(w:Qf)(N:Nat)(l:List Ua)(s:St):Nat:=(cK w N l).bst Qx s
theorem afD{v v':St→AV}:∀{L:List St},(∀s∈L,v s=v' s)→Vh L v=Vh L v'
 | [],_=>rfl
 |a::L,h=>by
  show AV.agg (Ss a)::v a::Vh L v=.agg (Ss a)::v' a::Vh L v'
  rw[h a (by simp),afD fun s hs=>h s (by simp[hs])]
theorem CK.congr{w:Qf}{N:Nat}{H:Qa}{s0:St}{U:St→Prop}{L:List St}{b:Nat}{av:St→AV}{f g:St→Nat}{h:Qa}(K:CK w N H s0 U L b av f h)(e:∀s∈L,f s=g s):CK w N H s0 U L b av g h:=
 ⟨K.keep,K.all,K.lst,by rw[←afD (v:=dK f) (v':=dK g) fun s hs=>by unfold dK;rw[e s hs]];exact K.kn,K.bx,K.b2,K.b3,K.b4,K.ch,K.nd,K.tw,K.un,K.hd⟩
theorem aSF(w:Qf)(N:Nat)(l:List Ua)(s:St)(hs:(cK w N l).Fine Qx s):bs w N l s≤Qx:=by
 by_cases e:∃k,Go.Ev.iC (cK w N l) s k
 ·exact Nat.le_of_lt (hs.lt e)
 ·unfold bs;rw[Vd.bst_none e];exact aeQ _
theorem agS{w:Qf}{N:Nat}(hw:mX w N)(hwb:Wb w=true)(h6:w.parts.length≤6)(d:Int){H:Qa}{lb:Nat}{wf:Bool}(hlb:H[lb]?=some (tO w d wf)){s0:St}(hu:InU w.parts.length s0 s0)(hf3:s0.2≤3)(l:List Ua)(nn:Bool)(hl:l.length≤maxLen)(hlp:∀x∈l,0≤x.part∧x.part<12):
 ShQ Ub 41 [.ptr lb 0 0,.agg (Ss s0),Rh 3 true nn (l.map Ua.cells)] H fun o G=>(∃(L:List St) (av:St→AV) (b:Nat),o=.ret (.tup [.mapr (H.length+3),.mapr (H.length+1)])∧CK w N H s0 (InU w.parts.length s0) L b av (bs w N l) G∧s0∈L∧(∀s∈L,(cK w N l).Fine Qx s)∧∀s∈L,∀o∈Tj w N s,∀x∈o.to,x∈L)∧Yg [] H G:=by
 obtain⟨o,G,hc,L,f,av,b,ho,K,hKn,hst⟩:=aAU hw (by omega) d hlb hu.l12 hf3 l nn hl hlp (U:=InU w.parts.length s0) (B:=186624) (by omega) (fun L hL h=>aaI h6 hf3 L hL h) hu (fun s h=>⟨h.l12,Nat.le_trans h.fl hf3⟩) (fun s h o ho=>ag9 hwb h ho)
 have hLB:=aaI h6 hf3 L K.nd K.un
 have hst2:∀s∈L,∀o∈(cK w N l).ops s,f s≤min Qx (o.1+Vd.mx f o.2):=fun s hs o ho=>by
  obtain⟨c,hc,rfl⟩:=bW.1 ho
  exact hst s hs c hc
 have hbt:=fun s (hs:s∈L)=>hKn.bst hst2 (by unfold Qx;omega) hs
 have hfb:∀s∈L,f s=bs w N l s:=fun s hs=>(hbt s hs).1
 refine⟨o,G,hc,⟨L,av,b,ho,K.congr hfb,abZ K.hd,fun s hs=>⟨fun h=>?_⟩,fun s hs o ho x hx=>?_⟩,K.keep⟩
 ·have h1:=(hbt s hs).2 h
  rw[hfb s hs]at h1
  exact h1
 ·exact(hKn.ops s hs _ (bW.2 ⟨o,ho,rfl⟩)).2.2.2 x hx
theorem arJ{w:Qf}{N:Nat}(hw:mX w N)(hwb:Wb w=true)(h6:w.parts.length≤6){s:St}(h12:s.1.length=12)(hd:∀x∈s.1,0≤x.1∧x.1≤2)(hf3:s.2≤3)(l:List Ua)(hl:l.length≤maxLen)(hlp:∀x∈l,0≤x.part∧x.part<12):(cK w N l).Fine Qx s:=by
 obtain⟨o,G,hc,⟨L,av,b,_,K,hm,hF,_⟩,_⟩:=agS hw hwb h6 0 (H:=[tO w 0 false]) (lb:=0) rfl (s0:=s) ⟨h12,hd,rfl,aeQ _⟩ hf3 l true hl hlp
 exact hF s hm
theorem ab7(p:Qb)(d:Int):0≤Qs p d∧Qs p d≤2:=by
 unfold Qs;split
 ·decide
 ·split<;>decide
theorem agZ(w:Qf)(d:Int):∀x∈Qc w d,0≤x.1∧x.1≤2:=by
 intro x hx
 unfold Qc at hx
 rcases aeN.1 hx with hx|hx
 ·obtain⟨p,_,rfl⟩:=amX.1 hx
  exact ab7 p d
 ·obtain⟨_,rfl⟩:=List.mem_replicate.1 hx
  decide
theorem dY{w:Qf}{d:Int}{l:List Ua}{f:Int}(h:bN w d l f=0):w.parts.length≤6∧Wb w=true∧lF d=true∧jE w l=true∧0≤f∧f≤3:=by
 unfold bN at h
 split at h
 ·cases h
 ·rename_i h1
  split at h
  ·cases h
  ·rename_i h2
   simp only[Bool.or_eq_true,Bool.not_eq_true',not_or,Bool.not_eq_false,decide_eq_true_eq]at h1 h2
   exact⟨by omega,h2.1.1.1.1,h2.1.1.1.2,h2.1.1.2,by omega,by omega⟩
theorem ac5{n:Int}:∀{l:List Ua} {y:Option Ua},Vx n y l=true→∀x∈l,Yw x.part 0 n=true
 | [],_,_,x,hx=>by cases hx
 |a::l,y,h,x,hx=>by
  have h1:Yw a.part 0 n=true∧Vx n (some a) l=true:=by
   cases y with
   |none=>simp only[Vx,apJ]at h;exact h
   |some z=>simp only[Vx,apJ]at h;exact⟨h.1.1,h.2⟩
  rcases amE.1 hx with rfl|hx
  ·exact h1.1
  ·exact ac5 h1.2 x hx
theorem qS{w:Qf}(hl:w.parts.length≤1000){l:List Ua}(h:jE w l=true):∀x∈l,0≤x.part∧x.part<(w.parts.length:Int):=fun x hx=>by
 have:=ac5 h x hx
 rw[Re (by omega) (by omega)]at this
 simp only[Yw,apJ,decide_eq_true_eq]at this
 omega
theorem aoV(w:Qf)(hs:w.small)(d:Int)(l:List Ua)(nn:Bool)(hl:l.length≤maxLen)(f:Int)(h:bN w d l f≠0):Ub.call (.fn 15) [.agg [.int .i64 w.rooms,.int .i64 w.need,Rh 9 true w.nn (w.parts.map Qb.cells)],.int .i64 d,Rh 3 true nn (l.map Ua.cells),.int .i64 f] []=some (.ret (.tup [.agg [.int .i64 0,.int .i64 0],.int .i64 0,.int .i64 (bN w d l f)]),[]):=by
 have h1:=ak8 w hs d
 have h2:=auO w l nn hl
 have h3:=pW f 0 3
 have h4:Yw f 0 3= !(decide (f<0)||decide (f>3)):=by
  unfold Yw;rw[axI];simp
 unfold bN at h ⊢
 cases c0:decide ((w.parts.length:Int)>6)with
 |true=>
  rw[if_pos rfl]
  (refine ce Tryz.func15 ?_;simp only[Tryz.f15];(have hb:=trivial;with_reducible repeat' (first|simp only[hb,Vc.down,seval,xX.down,c0,aaB]|refine Qm ?_ ?_<;>intro hb|refine fd ?_|fail)))
 |false=>
  rw[c0]at h
  rw[if_neg (by simp)]at h ⊢
  generalize Wb w=b1 at *
  generalize lF d=b2 at *
  generalize jE w l=b3 at *
  generalize Yw f 0 3=b4 at *
  generalize decide (f<0)=b5 at *
  generalize decide (f>3)=b6 at *
  subst h4
  cases b1 with
  |false=>
   rw[if_pos (by simp)]
   rw[Bool.false_and]at h1
   (refine ce Tryz.func15 ?_;simp only[Tryz.f15];(have hb:=trivial;with_reducible repeat' (first|simp only[hb,Vc.down,seval,xX.down,c0,h1,aaB]|refine Qm ?_ ?_<;>intro hb|refine fd ?_|fail)))
  |true=>
   cases b2 with
   |false=>
    rw[if_pos (by simp)]
    rw[apL]at h1
    (refine ce Tryz.func15 ?_;simp only[Tryz.f15];(have hb:=trivial;with_reducible repeat' (first|simp only[hb,Vc.down,seval,xX.down,c0,h1,aaB]|refine Qm ?_ ?_<;>intro hb|refine fd ?_|fail)))
   |true=>
    cases b3 with
    |false=>
     rw[if_pos (by simp)]
     rw[apL]at h1
     (refine ce Tryz.func15 ?_;simp only[Tryz.f15];(have hb:=trivial;with_reducible repeat' (first|simp only[hb,Vc.down,seval,xX.down,c0,h1,h2,aaB]|refine Qm ?_ ?_<;>intro hb|refine fd ?_|fail)))
    |true=>
     have h5:(b5||b6)=true:=by
      cases b5<;>cases b6<;>simp at h ⊢
     rw[h5]at h3
     rw[if_pos (by cases b5<;>cases b6<;>simp at h5 ⊢)]
     rw[apL]at h1
     (refine ce Tryz.func15 ?_;simp only[Tryz.f15];(have hb:=trivial;with_reducible repeat' (first|simp only[hb,Vc.down,seval,xX.down,c0,h1,h2,h3,aaB]|refine Qm ?_ ?_<;>intro hb|refine fd ?_|fail)))
def sR(L:List St)(f:St→Nat)(s:St):Qa:=[.live 1 false false [[.mapr 2]],.live 25 true false [Ss s],Tu (Vh L (dK f))]
theorem ba9{L:List St}{f:St→Nat}(hL:Twl L)(hf:∀s∈L,f s≤Qx){o:Zw}(ho:COk L o){s:St}(hs:s∈L):
 Ub.call (.fn 43) [.agg o.cells,.ptr 0 0 0,.ptr 1 0 0] (sR L f s)=some (.ret (.bool (kW f o==f s)),sR L f s):=by
 have h:=ad7 hL hf ho
 have hne:o.to.map Ss≠[]:=by simpa using ho.ne
 have hlk:=fun(q:Qa) (b:Nat) (hb:q[b]?=some (Tu (Vh L (dK f))))=>abG hb hL hs
 have hkv:dK f s=.int .i64 (f s:Int):=rfl
 have w1:=Yr (hL s hs)
 have w2:=Wl s
 have w3:=Wz s
 have w4:abV 25 (Ss s)=Ss s:=aaM (by omega)
 have heq:((kW f o:Int)==(f s:Int))=(kW f o==f s):=by rw[axI];simp;omega
 simp only[Zw.cells,Yj hne]at h ⊢
 unfold sR
 refine ce Tryz.func43 ?_
 simp only[Tryz.f43]
 (have hb:=trivial;with_reducible repeat' (first|simp only[hb,Vc.down,seval,bnD.down,h,hlk,hkv,heq,w1,w2,w3,w4,bK,eJ,eE,jG,bV.down]|refine Qm ?_ ?_<;>intro hb|refine fd ?_|fail))
theorem avS{L:List St}{f:St→Nat}(hL:Twl L)(hf:∀s∈L,f s≤Qx){l:List Zw}(hl:∀o∈l,COk L o)(hlen:l.length≤maxLen)(nn:Bool){s:St}(hs:s∈L):
 Ub.call (.fn 42) [Rh 4 false nn (l.map Zw.cells),.func (.func 43) [] [.ptr 0 0 0,.ptr 1 0 0]] (sR L f s)=some (.ret (.int .i64 (idx (fun o=>kW f o==f s) l 0)),sR L f s):=by
 unfold sR
 have w1:=Yr (hL s hs)
 have w2:=Wl s
 have w3:=Wz s
 have w4:abV 25 (Ss s)=Ss s:=aaM (by omega)
 refine ce Tryz.func42 ?_
 simp only[Tryz.f42]
 (have hb:=trivial;with_reducible repeat' (first|simp only[hb,Vc.down,seval,anH.down,aaB]|refine Qm ?_ ?_<;>intro hb|refine fd ?_|fail))
 refine Uj (lst 19 l (fun j (m:Int) t h=>m=j∧t 0=Rh 4 false nn (l.map Zw.cells)∧t 1=.func (.func 43) [] [.ptr 0 0 0,.ptr 1 0 0]∧t 7=.int .i64 (l.length:Nat)∧t 8=.int .i64 (j:Int)∧h=sR L f s) (fun rest m=>idx (fun o=>kW f o==f s) rest m)
  (fun r e t h=>h=sR L f s∧((e=.exit 0∧r= -1)∨(e=.ret∧t 4=.int .i64 r))) ?_ ?_ 0 _ _ ?_) (fun e t h hk=>?_)
 ·rintro m t h Q' kQ ⟨rfl,g0,g1,g7,g8,rfl⟩
  (have hb:=trivial;with_reducible repeat' (first|simp only[hb,Vc.down,seval,anH.down,g7,g8,ag0,decide_false]|refine Qm ?_ ?_<;>intro hb|refine fd ?_|fail))
  exact kQ _ _ _ ⟨rfl,.inl ⟨rfl,rfl⟩⟩
 ·rintro o rest j m t h J Q' kJ kQ hx hj ⟨rfl,g0,g1,g7,g8,rfl⟩
  have hdd:decide ((j:Int)<(l.length:Int))=true:=decide_eq_true (by omega)
  have hww:=Sl hj (by unfold maxLen at hlen;unfold maxLen;omega)
  have ho:=hl o (abZ hx)
  have hc:=ba9 hL hf ho hs
  have hne:o.to.map Ss≠[]:=by simpa using ho.ne
  simp only[Zw.cells,Yj hne]at hc
  have hcs:o.cells=[.int .i64 o.k,.int .i64 (o.i:Int),.int .i64 o.c,.imm 25 true (o.to.map Ss)]:=by simp only[Zw.cells,Yj hne]
  unfold sR at hc ⊢
  cases hb:(kW f o==f s)with
  |true=>
   rw[hb]at hc
   have hi1:idx (fun o=>kW f o==f s) (o::rest) (j:Int)=j:=if_pos hb
   (have hb:=trivial;with_reducible repeat' (first|simp only[hb,Vc.down,seval,anH.down,g0,g1,g7,g8,hdd,hww,hx,hcs,hc,w1,w2,w3,w4,bK,eJ,eE,jG,bV.down,aaB]|refine Qm ?_ ?_<;>intro hb|refine fd ?_|fail))
   exact kQ _ _ _ ⟨rfl,.inr ⟨rfl,by rw[hi1];simp[up]⟩⟩
  |false=>
   rw[hb]at hc
   have hi2:idx (fun o=>kW f o==f s) rest ((j:Int)+1)=idx (fun o=>kW f o==f s) (o::rest) (j:Int):=by
    have h2:¬((fun o=>kW f o==f s) o=true):=by show ¬((kW f o==f s)=true);rw[hb];simp
    exact(if_neg h2).symm
   (have hb:=trivial;with_reducible repeat' (first|simp only[hb,Vc.down,seval,anH.down,g0,g1,g7,g8,hdd,hww,hx,hcs,hc,w1,w2,w3,w4,bK,eJ,eE,jG,bV.down,aaB]|refine Qm ?_ ?_<;>intro hb|refine fd ?_|fail))
   exact Qq (kJ _ _ (j+1) ⟨by simp,by simp[up,g0],by simp[up,g1],by simp[up,g7],by simp[up],rfl⟩ hi2)
 ·exact⟨rfl,by simp[up,bF],by simp[up,bF],by simp[up],by simp[up],rfl⟩
 obtain⟨rfl,⟨rfl,hi⟩|⟨rfl,hi⟩⟩:=hk
 ·unfold sR
  (have hb:=trivial;with_reducible repeat' (first|simp only[hb,Vc.down,seval,anH.down,bK,eJ,eE,jG,w1,w2,w3,w4,bV.down]|refine Qm ?_ ?_<;>intro hb|refine fd ?_|fail))
  rw[hi]
 ·unfold sR
  (have hb:=trivial;with_reducible repeat' (first|simp only[hb,Vc.down,seval,anH.down,hi,bK,eJ,eE,jG,w1,w2,w3,w4,bV.down]|refine Qm ?_ ?_<;>intro hb|refine fd ?_|fail))
theorem agA{α:Type}{p:α→Bool}:∀{l:List α} {o:α} (i:Nat),l.find? p=some o→∃j,idx p l i=((i+j:Nat):Int)∧l[j]?=some o
 | [],o,i,h=>by cases h
 |a::l,o,i,h=>by
  cases hp:p a with
  |true=>
   rw[List.find?_cons_of_pos hp]at h
   cases h
   exact⟨0,by simp[idx,hp],rfl⟩
  |false=>
   rw[List.find?_cons_of_neg (by simp[hp])]at h
   obtain⟨j,h1,h2⟩:=agA (i+1) h
   refine⟨j+1,?_,h2⟩
   simp only[idx,hp,Bool.false_eq_true,if_false]
   rw[show((i:Nat):Int)+1=((i+1:Nat):Int) by omega,h1]
   omega
theorem auD{w:Qf}{N:Nat}(hw:mX w N)(hs:w.small)(d:Int)(l:List Ua)(nn:Bool)(hl:l.length≤maxLen)(f:Nat)(h:bN w d l f=0)(out:List AV)(c0:bs w N l (Qc w d,f)=0→out=[.agg [.int .i64 0,.int .i64 0],.int .i64 0,.int .i64 0])(c1:bs w N l (Qc w d,f)=Qx→out=[.agg [.int .i64 0,.int .i64 0],.int .i64 0,.int .i64 5])
 (c2:bs w N l (Qc w d,f)≠0→bs w N l (Qc w d,f)≠Qx→∃o,(Tj w N (Qc w d,f)).find? (fun o=>kW (bs w N l) o==bs w N l (Qc w d,f))=some o∧out=[.agg [.int .i64 o.k,.int .i64 (o.i:Int)],.int .i64 (bs w N l (Qc w d,f):Nat),.int .i64 0]):
 Ub.call (.fn 15) [.agg [.int .i64 w.rooms,.int .i64 w.need,Rh 9 true w.nn (w.parts.map Qb.cells)],.int .i64 d,Rh 3 true nn (l.map Ua.cells),.int .i64 (f:Int)] []=some (.ret (.tup out),[]):=by
 obtain⟨h6,hwb,hdb,hgb,hf0,hf3'⟩:=dY h
 have h1:=ak8 w hs d
 have h2:=auO w l nn hl
 have h3:=pW (f:Int) 0 3
 rw[hwb,hdb,Bool.and_self]at h1
 rw[hgb]at h2
 rw[show Yw (f:Int) 0 3=true by simp[Yw];omega]at h3
 have d0:decide ((w.parts.length:Int)>6)=false:=decide_eq_false (by omega)
 have hlp:=qS (by omega) hgb
 have hlp':∀x∈l,0≤x.part∧x.part<12:=fun x hx=>by have:=hlp x hx;omega
 have hpc:=aqR w d false (by omega)
 have hL:=uC (w:=w) (d:=d) (by omega)
 have hdg:=agZ w d
 obtain⟨s0,hs0⟩:∃s0:St,(Qc w d,f)=s0:=⟨_,rfl⟩
 have hst1:To (Qc w d)++[AV.int .i64 (f:Int)]=Ss s0:=by rw[←hs0];rfl
 have hu:InU w.parts.length s0 s0:=by rw[←hs0];exact⟨hL,hdg,rfl,aeQ _⟩
 have hf3:s0.2≤3:=by rw[←hs0];show f≤3;omega
 rw[hs0]at c0 c1 c2
 have f0:=Wx (Qc w d)
 have k0:=Wy (Qc w d)
 have v0:=qA (Qc w d)
 have l0:=qR (Qc w d)
 have r0:=gJ (Qc w d)
 have p0:=iR (Qc w d)
 have n0:=uF (Qc w d)
 have i0:=tQ (Qc w d)
 have hpl:(To (Qc w d)).length=24:=by rw[Rz];omega
 have htk24:=aaM (l:=To (Qc w d)) (i:=24) (by omega)
 have b1:abV 25 (To (Qc w d))=To (Qc w d):=aaM (by omega)
 have b2:∀z,abV 24 (To (Qc w d)++[z])=To (Qc w d):=fun z=>by rw[aiJ (by omega),aaM (by omega)]
 have b3:∀z,List.drop 25 (To (Qc w d)++[z])=[]:=fun z=>List.drop_eq_nil_of_le (by simp;omega)
 have w1:=Yr hu.l12
 have w2:=Wl s0
 have w3:=Wz s0
 have w4:abV 25 (Ss s0)=Ss s0:=aaM (by omega)
 obtain⟨qC,hqC⟩:∃q,Fn.func 41=q:=⟨_,rfl⟩
 refine ce Tryz.func15 ?_
 simp only[Tryz.f15]
 (have hb:=trivial;with_reducible repeat' (first|simp only[hb,Vc.down,seval,xX.down,d0,h1,h2,h3,hpc,f0,k0,v0,l0,r0,p0,n0,i0,hpl,htk24,b1,b2,b3,hst1,w1,w2,w3,w4,hqC,nR,nK,oR,afC,afO,afU,aaB]|refine Qm ?_ ?_<;>intro hb|refine fd ?_|fail))
 obtain⟨Hc,hHc⟩:∃Hc:Qa,[CB.live 3 false false [[AV.int IntKind.i64 w.rooms,AV.int IntKind.i64 w.need,Rh 9 true w.nn (List.map Qb.cells w.parts)]],CB.live 2 true false [[AV.int IntKind.i64 0,AV.int IntKind.i64 0]],CB.live 4 false false [[AV.int IntKind.i64 w.rooms,AV.int IntKind.i64 w.need,Rh 9 true w.nn (List.map Qb.cells w.parts),AV.int IntKind.i64 d]],CB.live 25 true true [Ss s0]]=Hc:=⟨_,rfl⟩
 rw[hHc]
 generalize hE:cl Ub Hc (some (.func qC [] [])) (some [.ptr 2 0 0,.agg (Ss s0),Rh 3 true nn (l.map Ua.cells)])=E
 rw[←hqC]at hE
 have hl4:Hc.length=4:=by rw[←hHc];rfl
 have hcl2:(Xe Hc).length=4:=by rw[Su,hl4]
 have hlb2:(Xe Hc)[2]?=some (tO w d false):=by rw[←hHc];rfl
 obtain⟨o,G,es,M,e1,e2,⟨L,av,b,rfl,K,hm,hF,hcl⟩,e4,e5,e6,e7,e8⟩:=auL (O:=Ub) (f:=41) (H:=Hc) (args:=[.ptr 2 0 0,.agg (Ss s0),Rh 3 true nn (l.map Ua.cells)]) rfl rfl (agS hw hwb h6 d hlb2 hu hf3 l nn hl hlp')
 have e9:=hE.symm.trans e1
 subst e9
 have hkn:M[7]?=some (Tu (Vh L (dK (bs w N l)))):=(e7 7 (by omega)).trans (by have:=K.kn;rwa[hcl2]at this)
 have hall:M[5]?=some (Tu (Vh L av)):=(e7 5 (by omega)).trans (by have:=K.all;rwa[hcl2]at this)
 have hb3:M[3]?=some (.live 25 true true [Ss s0]):=(e6 3 (by omega)).trans (by rw[←hHc];rfl)
 have hb1:M[1]?=some (.live 2 true false [[AV.int IntKind.i64 0,AV.int IntKind.i64 0]]):=(e6 1 (by omega)).trans (by rw[←hHc];rfl)
 have hkn2:=Qh hkn
 have hall2:=Qh hall
 have hb32:=Qh hb3
 have hb12:=Qh hb1
 have hlk:=fun q=>abG (hkn2 q) K.tw hm
 have hlkA:=fun q=>ag7 (hall2 q) K.tw hm
 have hset1:∀(q:Qa) (c:CB),((M++q).set 1 c)[1]?=some c:=fun q c=>ag5 (by have:=Rw hb1;simp;omega)
 have hkv:dK (bs w N l) s0=.int .i64 (bs w N l s0:Int):=rfl
 cases q0:((bs w N l s0:Int)==0)with
 |true=>
  rw[c0 (by simp at q0;omega)]
  (have hb:=trivial;with_reducible repeat' (first|simp only[hb,Vc.down,seval,xX.down,e2,hl4,hkn2,hb32,hb12,hb1,hset1,hlk,hkv,q0,w1,w2,w3,w4,bV.down,nR,nK,oR,afC,afO,afU]|refine Qm ?_ ?_<;>intro hb|refine fd ?_|fail))
 |false=>
 cases q1:((bs w N l s0:Int)==1099511627776)with
 |true=>
  rw[c1 (by simp at q1;unfold Qx;omega)]
  (have hb:=trivial;with_reducible repeat' (first|simp only[hb,Vc.down,seval,xX.down,e2,hl4,hkn2,hb32,hb12,hb1,hset1,hlk,hkv,q0,q1,w1,w2,w3,w4,bV.down,nR,nK,oR,afC,afO,afU]|refine Qm ?_ ?_<;>intro hb|refine fd ?_|fail))
 |false=>
 obtain⟨o,ho,rfl⟩:=c2 (fun e=>by rw[e]at q0;simp at q0) (fun e=>by rw[e]at q1;simp[Qx]at q1)
 obtain⟨R,hrd0,hR⟩:=K.ch s0 hm
 rw[hcl2]at hR
 have hrd:rd 6 (hf M) (av s0)=some (Rh 4 false false ((Tj w N s0).map Zw.cells),R):=by
  have:=gG (g':=hf M) (Vo hrd0 dG) fun j hj z hz=>by
   have hj2:j∈R:=by simpa using hj
   show(M[j]?).bind Qw=_
   rw[e7 j (by have:=(hR j hj2).1;omega)];exact hz
  obtain⟨a,l',R1,R2,e1,h1,h2,h3⟩:=Xl this
  cases e1
  obtain⟨_,rfl⟩:=dH h2
  simp at h3
  rw[h1,←h3]
 have hrv:=fun q=>kT (e:=12) (by omega) (gQ (l:=q) hrd)
 obtain⟨v,hav⟩:∃v,av s0=v:=⟨_,rfl⟩
 rw[hav]at hlkA hrd hrv
 change ∀q,qG (M++q) v=_ at hrv
 rcases cJ hrd with⟨rfl,h0⟩|⟨vb,vr,rfl,hvb,_,_,hvr⟩
 ·rw[akD.1 h0]at ho
  cases ho
 ·simp only[uD,aaB]at hrv
  have hM8:=Rw hkn
  have hM3:(M.length=3)=False:=eq_false (by omega)
  have hM7:(7=M.length)=False:=eq_false (by omega)
  have hM7':(M.length=7)=False:=eq_false (by omega)
  obtain⟨lv,hlv⟩:∃lv,Qp 12 (hf (M++[CB.live 1 false true [[AV.mapr 7]]])) (.slr 4 vb 0 (Tj w N s0).length)=lv:=⟨_,rfl⟩
  have hlv2:=hlv
  rw[wS]at hlv2
  obtain⟨j,hj,hjo⟩:=agA 0 ho
  have hjl0:=aj2 hjo
  have hjl:((j:Int)<((Tj w N s0).length:Int))=True:=eq_true (by omega)
  obtain⟨vb',bt,ev,hrow0,_,_⟩:=ajS hrd hjo (ag9 hwb hu (abZ hjo)).2.2.1
  injection ev with _ ev1 _ _
  subst ev1
  have hrow:∀q,Yz ((M++q)[vb]?) j=some [.int .i64 o.k,.int .i64 (o.i:Int),.int .i64 o.c,.slr 25 bt 0 o.to.length]:=fun q=>by
   rw[ab9 (kF hvb)];exact hrow0
  have hI:=avS (f:=bs w N l) (l:=Tj w N s0) K.tw (fun s hs=>aSF w N l s (hF s hs)) (fun o ho=>by
   obtain⟨u0,u1,u2,u3,u4⟩:=ag9 hwb hu ho
   exact⟨by omega,u1,fun z hz=>hcl s0 hm o ho z hz,u2,u3⟩) (by have:=xI w N s0 (by omega);unfold maxLen;omega) false hm
  unfold sR at hI
  rw[Nat.zero_add]at hj
  rw[show((0:Nat):Int)=0 from rfl]at hj
  rw[hj]at hI
  have hlvR:∀j∈lv,9≤j∧j<M.length:=fun j hj=>by
   have hj2:=nJ (e:=12) (gQ (l:=[CB.live 1 false true [[AV.mapr 7]]]) hrd) j (by rw[aaB,hlv];exact hj)
   exact⟨(hR j hj2).1,vJ (by omega) (Vo hrd dG) j (by simpa using hj2)⟩
  have hany:(lv.any fun x=>x==M.length||(x==3||x==7))=false:=by
   rw[axH]
   intro z hz
   have:=hlvR z hz
   simp
   omega
  (have hb:=trivial;with_reducible repeat' (first|simp only[hb,Vc.down,seval,xX.down,e2,hl4,hkn2,hb32,hb12,hb1,hset1,hlk,hkv,q0,q1,hlkA,hrv,hlv2,hI,hany,hjl,hrow,hM3,hM7,hM7',bK,eJ,eE,jG,w1,w2,w3,w4,bV.down,nR,nK,oR,afC,afO,afU]|refine Qm ?_ ?_<;>intro hb|refine fdq ?_|fail))
  have hvb9:9≤vb:=by
   obtain⟨q,_,rfl,_⟩:=mK hrd hvb
   exact(hR vb (by simp)).1
  have n1:vb≠1:=by omega
  have n2:M.length≠1:=by omega
  refine aa4 (fun b=>if b=1 then 1 else 0) [([],[]),([],[.cells 0 0 25]),([],[.blk 0]),([],[]),([],[]),([],[]),([],[.cells 0 0 2]),([],[.cells 0 0 1]),([],[.cells 0 0 25]),([],[.blk 0]),([.cells 1 0 2],[.cells 1 0 2]),([],[]),([],[])] (by kernel_rfl) ?_ (fun _=>?_)
  ·simp only[kD,nE]
   simp[eN,Qd.foot,n1,n2]
  ·(have hb:=trivial;with_reducible repeat' (first|simp only[hb,Vc.down,seval,xX.down,hset1,hkv,bV.down,hb1,hb12]|refine Qm ?_ ?_<;>intro hb|refine fd ?_|fail))
noncomputable def abW(b:Nat):Int:=if b<Qx then(b:Int)else 0
noncomputable def al6(b:Nat):Int:=if b<Qx then 0 else 5
theorem abU{w:Qf}{N:Nat}(hw:mX w N){d:Int}{l:List Ua}(hl:l.length≤maxLen){f:Nat}(h:bN w d l f=0):(cK w N l).Fine Qx (Qc w d,f):=by
 obtain⟨h6,hwb,_,hgb,_,hf3⟩:=dY h
 exact arJ hw hwb h6 (uC (by omega)) (agZ w d) (by show f≤3;omega) l hl (fun x hx=>by have:=qS (by omega) hgb x hx;omega)
theorem aa3{w:Qf}{N:Nat}(hb:Wb w=true){l:List Ua}{s:St}:∀o∈(cK w N l).ops s,1≤o.1:=by
 intro o ho
 obtain⟨c,hc,rfl⟩:=bW.1 ho
 obtain⟨p,x,I⟩:=Zp.1 hc
 have:=aJ hb I.hp c.k
 rw[←I.c]at this
 show 1≤c.c.toNat
 omega
theorem blI{w:Qf}{N:Nat}(hw:mX w N)(hs:w.small)(d:Int)(l:List Ua)(nn:Bool)(hl:l.length≤maxLen)(f:Nat)(h:bN w d l f=0):
 ∃k i:Int,Ub.call (.fn 15) [.agg [.int .i64 w.rooms,.int .i64 w.need,Rh 9 true w.nn (w.parts.map Qb.cells)],.int .i64 d,Rh 3 true nn (l.map Ua.cells),.int .i64 (f:Int)] []=some (.ret (.tup [.agg [.int .i64 k,.int .i64 i],.int .i64 (abW (bs w N l (Qc w d,f))),.int .i64 (al6 (bs w N l (Qc w d,f)))]),[])∧
  (bs w N l (Qc w d,f)≠0→bs w N l (Qc w d,f)<Qx→∃o,(Tj w N (Qc w d,f)).find? (fun o=>kW (bs w N l) o==bs w N l (Qc w d,f))=some o∧k=o.k∧i=o.i)∧(bs w N l (Qc w d,f)=0∨Qx≤bs w N l (Qc w d,f)→k=0∧i=0):=by
 have hF:=abU hw hl h
 have hle:=aSF w N l _ hF
 obtain⟨_,hwb,_,hgb,_,_⟩:=dY h
 have hA:=fun out=>auD hw hs d l nn hl f h out
 have hop:=Vd.bst_op hF
 change bs w N l (Qc w d,f)<Qx→_ at hop
 have hgo:bs w N l (Qc w d,f)≠0→(cK w N l).goal (Qc w d,f)=false:=fun hn=>by
  cases hg:(cK w N l).goal (Qc w d,f)with
  |false=>rfl
  |true=>exact absurd (Vd.bst_goal hg) hn
 have hfind:bs w N l (Qc w d,f)≠0→bs w N l (Qc w d,f)<Qx→∃o,(Tj w N (Qc w d,f)).find? (fun o=>kW (bs w N l) o==bs w N l (Qc w d,f))=some o:=fun h0 h1=>by
  obtain⟨o,ho,e,_⟩:=hop h1 (hgo h0) (aa3 hwb)
  obtain⟨c,hc,rfl⟩:=bW.1 ho
  refine Option.isSome_iff_exists.1 (List.find?_isSome.2 ⟨c,hc,?_⟩)
  rw[beq_iff_eq]
  exact e.symm
 by_cases h0:bs w N l (Qc w d,f)=0
 ·refine⟨0,0,?_,fun h=>absurd h0 h,fun _=>⟨rfl,rfl⟩⟩
  have:=hA [.agg [.int .i64 0,.int .i64 0],.int .i64 0,.int .i64 0] (fun _=>rfl) (fun e=>by rw[h0]at e;cases e) (fun h=>absurd h0 h)
  rw[h0]
  exact this
 ·by_cases h1:bs w N l (Qc w d,f)<Qx
  ·obtain⟨o,ho⟩:=hfind h0 h1
   refine⟨o.k,o.i,?_,fun _ _=>⟨o,ho,rfl,rfl⟩,fun h=>by omega⟩
   have:=hA [.agg [.int .i64 o.k,.int .i64 (o.i:Int)],.int .i64 (bs w N l (Qc w d,f):Nat),.int .i64 0] (fun h=>absurd h h0) (fun h=>by omega) (fun _ _=>⟨o,ho,rfl⟩)
   unfold abW al6
   rw[if_pos h1,if_pos h1]
   exact this
  ·refine⟨0,0,?_,fun _ h=>absurd h h1,fun _=>⟨rfl,rfl⟩⟩
   have:=hA [.agg [.int .i64 0,.int .i64 0],.int .i64 0,.int .i64 5] (fun h=>absurd h h0) (fun _=>rfl) (fun _ h=>absurd (by omega) h)
   unfold abW al6
   rw[if_neg h1,if_neg h1]
   exact this
end Go.Proofs.YtcncggaobhbomaaGreatDoor
