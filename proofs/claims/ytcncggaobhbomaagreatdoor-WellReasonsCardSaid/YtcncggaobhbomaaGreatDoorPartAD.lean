/- The functions of the layer, walked. -/
import Derived.Test.YtcncggaobhbomaaGreatDoorPartAC
open List renaming length_map→agX,mem_of_getElem?→aqM,getElem?_set_ne→aqT,mem_append→awX,take_of_length_le→aAR,getElem?_append_left→aC4,take→aC5,foldl_cons→aC6,take_add_one→aC8,take_length→aEY,getElem?_set_self→aE6,getElem?_append_right→aFD,all_cons→aHS,all_nil→aH6,take_append_of_le_length→aIS,mem_cons→aJY,mem_map→aJ1,nodup_cons→aKY,map_eq_nil_iff→aLK,getElem?_eq_some_iff→aM0,mem_append_left→aNT,getElem?_map→aNU,mem_of_mem_take→aNZ,prefix_append→aN0,foldl_nil→aOE
open Nat renaming le_refl→ao8,add_sub_cancel_left→aNV
open Int renaming lt_irrefl→aC7
open Bool renaming and_true→aIF,and_eq_true→aJ9,and_false→aM7,not_eq_true'→aP8
set_option linter.unusedSimpArgs false
set_option linter.unusedVariables false
namespace Go.Proofs.YtcncggaobhbomaaGreatDoor
open Go.Ev Go Go.Ev.Net
set_option maxRecDepth 100000
set_option maxHeartbeats 16000000
theorem az2{d:Nat}{h:Aa}{v:AV}{p:AV × List Nat}{l:Aa}(hr:rd (d+1) (hf h) v=some p)(hd:d+1≤9:=by omega):rd (d+1) (hf (h++l)) v=some p:=by
 have:=agI (g':=hf (h++l)) (Ey hr Px) fun j hj z hz=>by
  show((h++l)[j]?).bind Bq=_
  rw[aC4 (aGL hd (Ey hr Px) j hj)];exact hz
 obtain⟨a,l',R1,R2,e,h1,h2,h3⟩:=Ia this
 cases e
 obtain⟨_,rfl⟩:=ac6 h2
 simp at h3
 rw[h1,←h3]
theorem aC0:Ad .nilm=[.nilm]:=Eq.trans rfl rfl
theorem aBX:AV.flat .nilm=false:=Eq.trans rfl rfl
theorem aCC:AV.isCell .nilm=true:=Eq.trans rfl rfl
theorem aGA:∀{l:List St} {i j:Nat} {x:St},l.Nodup→l[i]?=some x→l[j]?=some x→i=j
 | [],i,j,x,_,h,_=>by simp at h
 |a::l,0,0,x,_,_,_=>rfl
 |a::l,0,j+1,x,hn,h1,h2=>by
  simp at h1 h2;subst h1
  exact absurd (aqM h2) (aKY.1 hn).1
 |a::l,i+1,0,x,hn,h1,h2=>by
  simp at h1 h2;subst h2
  exact absurd (aqM h1) (aKY.1 hn).1
 |a::l,i+1,j+1,x,hn,h1,h2=>congrArg (· +1) (aGA (l:=l) (x:=x) (aKY.1 hn).2 (by simpa using h1) (by simpa using h2))
def knT:St→AV:=Ni fun _=>Cd
theorem aVL{h:Aa}{b:Nat}{L:List St}{s:St}(hb:h[b]?=some (Da (En L knT)))(hL:Twl L)(h12:s.1.length=12)(hs:s∉L):ms Tryz.prog h 86 (some (.mapr b)) (some (.agg (Bm s))) (some (.int .i64 1099511627776))=some (.ret (.tup []),[.put b (Da (En (L++[s]) knT))]):=by
 rw[a6H hb hL h12 hs]
 have:(fun y=>if y=s then AV.int .i64 1099511627776 else knT y)=knT:=by
  funext y;split<;>rfl
 rw[this]
theorem a07{g:HF}{v:AV}{l:List Je}{R:List Nat}(h:rd 6 g v=some (Bo 4 false false (l.map Je.cells),R)):ln Tryz.prog 91 (some v)=some (.ret (.int .i64 (l.length:Int)),[]):=by
 rcases awK h with⟨rfl,h0⟩|⟨b,rows',rfl,_⟩
 ·obtain rfl:=aLK.1 h0
  simp only[Vc.down,seval,Is.down,List.length_nil,Int.natCast_zero]
 ·simp only[Vc.down,seval,Is.down,agX]
structure CI(w:Am)(N:Nat)(H:Aa)(s0:St)(U:St→Prop)(L:List St)(i b:Nat)(av:St→AV)(h:Aa):Prop where
 keep:Hv [] H h
 all:h[H.length+1]?=some (Da (En (L.take i) av))
 lst:∃x,h[b]?=some (.live 25 true x (L.map Bm))
 kn:h[H.length+3]?=some (Da (En L knT))
 bx:∃x,h[H.length+4]?=some (.live 1 false x [[.mapr (H.length+3)]])
 b2:H.length+2≤b
 b3:b≠H.length+3
 b4:b≠H.length+4
 ch:∀s∈L.take i,∃R,rd 6 (hf h) (av s)=some (Bo 4 false false ((Dj w N s).map Je.cells),R)∧∀j∈R,H.length+5≤j∧j≠b
 nd:L.Nodup
 tw:Twl L
 un:∀s∈L,U s
 hd:L[0]?=some s0
def Cls(w:Am)(N:Nat)(L:List St)(i:Nat):Prop:=∀s∈L.take i,∀o∈Dj w N s,∀x∈o.to,x∈L
theorem CI.app{w:Am}{N:Nat}{H:Aa}{s0:St}{U:St→Prop}{L:List St}{i b:Nat}{av:St→AV}{h:Aa}(I:CI w N H s0 U L i b av h)(l:Aa):CI w N H s0 U L i b av (h++l):=by
 obtain⟨xl,hl⟩:=I.lst
 obtain⟨xb,hb⟩:=I.bx
 exact⟨aZJ I.keep l,Ah I.all l,⟨xl,Ah hl l⟩,Ah I.kn l,⟨xb,Ah hb l⟩,I.b2,I.b3,I.b4,fun s hs=>by
  obtain⟨R,h1,h2⟩:=I.ch s hs
  exact⟨R,az2 h1,h2⟩,I.nd,I.tw,I.un,I.hd⟩
theorem CI.call{w:Am}{N:Nat}{H:Aa}{s0:St}{U:St→Prop}{L:List St}{i b:Nat}{av:St→AV}{h:Aa}(I:CI w N H s0 U L i b av h){s:St}(hs:L[i]?=some s){v:AV}{R:List Nat}{G M:Aa}{c:CB}
 (e5:(h++[c]).length≤M.length) (e6:∀b,b<(h++[c]).length→M[b]?=(h++[c])[b]?) (e7:∀b,(h++[c]).length≤b→M[b]?=G[b]?) (hv:rd 6 (hf G) v=some (Bo 4 false false ((Dj w N s).map Je.cells),R)) (hR:∀j∈R,(h++[c]).length≤j):
 CI w N H s0 U L (i+1) b (fun y=>if y=s then v else av y) (M.set (H.length+1) (Da (En (L.take i++[s]) fun y=>if y=s then v else av y))):=by
 obtain⟨xl,hl⟩:=I.lst
 obtain⟨xb,hb⟩:=I.bx
 have lA:=Eg I.all
 have ll:=Eg hl
 have lk:=Eg I.kn
 have lx:=Eg hb
 have b2:=I.b2
 have hlen:(h++[c]).length=h.length+1:=by simp
 have old:∀j,j<h.length→j≠H.length+1→(M.set (H.length+1) (Da (En (L.take i++[s]) fun y=>if y=s then v else av y)))[j]?=h[j]?:=fun j hj hn=>by
  rw[aqT (fun e=>hn e.symm),e6 j (by omega),aC4 hj]
 have htk:L.take (i+1)=L.take i++[s]:=by rw[aC8,hs];rfl
 refine⟨⟨by have:=I.keep.len;simp;omega,fun j hj hn=>by rw[old j (by omega) (by omega)];exact I.keep.same j hj hn⟩,by rw[htk];exact aE6 (by omega),⟨xl,by rw[old b ll (by omega)];exact hl⟩,by rw[old _ lk (by omega)];exact I.kn,⟨xb,by rw[old _ lx (by omega)];exact hb⟩,I.b2,I.b3,I.b4,fun y hy=>?_,I.nd,I.tw,I.un,I.hd⟩
 by_cases e:y=s
 ·subst e
  refine⟨R,?_,fun j hj=>by have:=hR j hj;omega⟩
  rw[if_pos rfl]
  have:=agI (g':=hf (M.set (H.length+1) (Da (En (L.take i++[y]) fun z=>if z=y then v else av z)))) (Ey hv Px) fun j hj z hz=>by
   have hj2:j∈R:=by simpa using hj
   have:=hR j hj2
   show((M.set _ _)[j]?).bind Bq=_
   rw[aqT (by omega),e7 j this];exact hz
  obtain⟨a,l',R1,R2,e1,h1,h2,h3⟩:=Ia this
  cases e1
  obtain⟨_,rfl⟩:=ac6 h2
  simp at h3
  rw[h1,←h3]
 ·rw[htk]at hy
  have hy2:y∈L.take i:=by
   rcases awX.1 hy with h|h
   ·exact h
   ·simp at h;exact absurd h e
  obtain⟨R0,h1,h2⟩:=I.ch y hy2
  refine⟨R0,?_,h2⟩
  rw[if_neg e]
  have:=agI (g':=hf (M.set (H.length+1) (Da (En (L.take i++[s]) fun z=>if z=s then v else av z)))) (Ey h1 Px) fun j hj z hz=>by
   have hj2:j∈R0:=by simpa using hj
   have:=h2 j hj2
   show((M.set _ _)[j]?).bind Bq=_
   rw[old j (aGL (by omega) (Ey h1 Px) j hj) (by omega)];exact hz
  obtain⟨a,l',R1,R2,e1,h1',h2',h3⟩:=Ia this
  cases e1
  obtain⟨_,rfl⟩:=ac6 h2'
  simp at h3
  rw[h1',←h3]
theorem aM3{g:HF}{d st b r n:Nat}{x:AV}{R:List Nat}{rows:List (List AV)}(h:rd (d+1) g (.slr st b r n)=some (x,R))(hb:(g b).bind Bq=some (st,true,rows)):b∈R:=by
 simp only[rd,hb,Option.bind_some,cond_true]at h
 split at h
 ·cases h;simp
 ·cases h
theorem aQU{H:Aa}{v:AV}{l:List Je}{R:List Nat}(h:rd 6 (hf H) v=some (Bo 4 false false (l.map Je.cells),R)){j:Nat}{o:Je}(hj:l[j]?=some o)(hne:o.to≠[]):
 ∃b bt,v=.slr 4 b 0 l.length∧Iu (H[b]?) j=some [.int .i64 o.k,.int .i64 (o.i:Int),.int .i64 o.c,.slr 25 bt 0 o.to.length]∧(hf H bt).bind Bq=some (25,true,o.to.map Bm)∧bt∈R:=by
 rcases awK h with⟨_,h0⟩|⟨b,rows',rfl,hb,_,_,hr⟩
 ·obtain rfl:=aLK.1 h0;simp at hj
 ·obtain⟨q,hq,rfl,hx⟩:=aFO h hb
  have hX:(l.map Je.cells)[j]?=some o.cells:=by rw[aNU,hj];rfl
  have hq1:q.1=l.map Je.cells:=by
   have hl:l.map Je.cells≠[]:=fun e=>by rw[e]at hX;simp at hX
   rw[av0 hl]at hx
   injection hx with _ _ h3
   exact h3.symm
  obtain⟨r,R2,k1,k2⟩:=aFZ (i:=j) hq (by rw[hq1];exact hX)
  have hs:=aGN hq k1 k2
  obtain⟨a1,l1,_,_,rfl,m1,n1,rfl⟩:=Ia k2
  obtain⟨a2,l2,_,_,rfl,m2,n2,rfl⟩:=Ia n1
  obtain⟨a3,l3,_,_,rfl,m3,n3,rfl⟩:=Ia n2
  obtain⟨a4,l4,_,_,rfl,m4,n4,rfl⟩:=Ia n3
  obtain⟨rfl,rfl⟩:=ac6 n4
  obtain⟨rfl,rfl⟩:=aN7 m1
  obtain⟨rfl,rfl⟩:=aN7 m2
  obtain⟨rfl,rfl⟩:=aN7 m3
  rcases awK m4 with⟨rfl,h0⟩|⟨bt,rows2,rfl,hb2,_,hfl,_⟩
  ·exact absurd (aLK.1 h0) hne
  ·obtain rfl:=hfl rfl
   refine⟨b,bt,by rw[agX],by rw[aPY hb,k1,agX],hb2,List.mem_cons_of_mem _ (hs bt ?_)⟩
   have:=(aM3 m4 hb2)
   simpa using this
theorem aCG(w:Am)(N:Nat)(s:St)(k:Int):(aHZ w N s k).length≤w.parts.length:=by
 have:=List.length_filterMap_le (aJ3 w N s k) (List.range w.parts.length)
 unfold aHZ;simpa using this
theorem aFJ(w:Am)(N:Nat)(s:St)(h:w.parts.length≤12):(Dj w N s).length≤48:=by
 have h1:=aCG w N s 1
 have h2:=aCG w N s 2
 have h3:=aCG w N s 3
 have h4:=aCG w N s 4
 simp only[Dj,List.length_append];omega
theorem aFF{α:Type}{l:List α}{i:Nat}{x:α}(h:l[i]?=some x):i<l.length:=(aM0.1 h).1
theorem CI.grow{w:Am}{N:Nat}{H:Aa}{s0:St}{U:St→Prop}{L:List St}{i b:Nat}{av:St→AV}{h:Aa}(I:CI w N H s0 U L i b av h)(hi:i≤L.length){x:St}(hx:x∉L)(hx2:x.1.length=12)(hU:U x)(c:CB):
 CI w N H s0 U (L++[x]) i (h.length+1) av ((h.set (H.length+3) (Da (En (L++[x]) knT))).set b .dead++[c,.live 25 true false (L.map Bm++[Bm x])]):=by
 obtain⟨xl,hl⟩:=I.lst
 obtain⟨xb,hb⟩:=I.bx
 have lA:=Eg I.all
 have ll:=Eg hl
 have lk:=Eg I.kn
 have lx:=Eg hb
 have b2:=I.b2
 have b3:=I.b3
 have b4:=I.b4
 have old:∀j,j<h.length→j≠H.length+3→j≠b→((h.set (H.length+3) (Da (En (L++[x]) knT))).set b .dead++[c,.live 25 true false (L.map Bm++[Bm x])])[j]?=h[j]?:=fun j hj h1 h2=>by
  rw[aC4 (by simpa using hj),aqT (fun e=>h2 e.symm),aqT (fun e=>h1 e.symm)]
 have htk:(L++[x]).take i=L.take i:=aIS hi
 refine⟨⟨by have:=I.keep.len;simp;omega,fun j hj hn=>by rw[old j (by omega) (by omega) (by omega)];exact I.keep.same j hj hn⟩,by rw[htk,old _ lA (by omega) (by omega)];exact I.all,⟨false,?_⟩,?_,⟨xb,by rw[old _ lx (by omega) (by omega)];exact hb⟩,by omega,by omega,by omega,fun y hy=>?_,?_,?_,?_,?_⟩
 ·rw[aFD (by simp),List.map_append];simp
 ·rw[aC4 (by simpa using lk),aqT b3,aE6 lk]
 ·rw[htk]at hy
  obtain⟨R0,h1,h2⟩:=I.ch y hy
  have hlt:=aGL (by omega) (Ey h1 Px)
  refine⟨R0,?_,fun j hj=>⟨(h2 j hj).1,by have:=hlt j (by simpa using hj);omega⟩⟩
  have:=agI (g':=hf ((h.set (H.length+3) (Da (En (L++[x]) knT))).set b .dead++[c,.live 25 true false (L.map Bm++[Bm x])])) (Ey h1 Px) fun j hj z hz=>by
   have hj2:j∈R0:=by simpa using hj
   have h3:=h2 j hj2
   show((_++_:Aa)[j]?).bind Bq=_
   rw[old j (hlt j hj) (by omega) h3.2];exact hz
  obtain⟨a,l',R1,R2,e1,h1',h2',h3⟩:=Ia this
  cases e1
  obtain⟨_,rfl⟩:=ac6 h2'
  simp at h3
  rw[h1',←h3]
 ·refine List.nodup_append.2 ⟨I.nd,by simp,fun a ha b hb=>?_⟩
  simp at hb;subst hb;exact fun e=>hx (e▸ha)
 ·intro y hy
  rcases awX.1 hy with h|h
  ·exact I.tw y h
  ·simp at h;rw[h];exact hx2
 ·intro y hy
  rcases awX.1 hy with h|h
  ·exact I.un y h
  ·simp at h;rw[h];exact hU
 ·have h0:=I.hd
  rw[aC4 (aFF h0)];exact h0
structure CK(w:Am)(N:Nat)(H:Aa)(s0:St)(U:St→Prop)(L:List St)(b:Nat)(av:St→AV)(f:St→Nat)(h:Aa):Prop where
 keep:Hv [] H h
 all:h[H.length+1]?=some (Da (En L av))
 lst:∃x,h[b]?=some (.live 25 true x (L.map Bm))
 kn:h[H.length+3]?=some (Da (En L (Ni f)))
 bx:∃x,h[H.length+4]?=some (.live 1 false x [[.mapr (H.length+3)]])
 b2:H.length+2≤b
 b3:b≠H.length+3
 b4:b≠H.length+4
 ch:∀s∈L,∃R,rd 6 (hf h) (av s)=some (Bo 4 false false ((Dj w N s).map Je.cells),R)∧∀j∈R,H.length+5≤j∧j≠b
 nd:L.Nodup
 tw:Twl L
 un:∀s∈L,U s
 hd:L[0]?=some s0
theorem CI.toK{w:Am}{N:Nat}{H:Aa}{s0:St}{U:St→Prop}{L:List St}{b:Nat}{av:St→AV}{h:Aa}(I:CI w N H s0 U L L.length b av h):CK w N H s0 U L b av (fun _=>Cd) h:=
 ⟨I.keep,by have:=I.all;rwa[aEY]at this,I.lst,I.kn,I.bx,I.b2,I.b3,I.b4,fun s hs=>I.ch s (by rwa[aEY]),I.nd,I.tw,I.un,I.hd⟩
theorem CK.app{w:Am}{N:Nat}{H:Aa}{s0:St}{U:St→Prop}{L:List St}{b:Nat}{av:St→AV}{f:St→Nat}{h:Aa}(I:CK w N H s0 U L b av f h)(l:Aa):CK w N H s0 U L b av f (h++l):=by
 obtain⟨xl,hl⟩:=I.lst
 obtain⟨xb,hb⟩:=I.bx
 exact⟨aZJ I.keep l,Ah I.all l,⟨xl,Ah hl l⟩,Ah I.kn l,⟨xb,Ah hb l⟩,I.b2,I.b3,I.b4,fun s hs=>by
  obtain⟨R,h1,h2⟩:=I.ch s hs
  exact⟨R,az2 h1,h2⟩,I.nd,I.tw,I.un,I.hd⟩
theorem CK.put{w:Am}{N:Nat}{H:Aa}{s0:St}{U:St→Prop}{L:List St}{b:Nat}{av:St→AV}{f:St→Nat}{h:Aa}(I:CK w N H s0 U L b av f h)(g:St→Nat):CK w N H s0 U L b av g (h.set (H.length+3) (Da (En L (Ni g)))):=by
 obtain⟨xl,hl⟩:=I.lst
 obtain⟨xb,hb⟩:=I.bx
 have lk:=Eg I.kn
 have b3:=I.b3
 have old:∀j,j≠H.length+3→(h.set (H.length+3) (Da (En L (Ni g))))[j]?=h[j]?:=fun j h1=>aqT (fun e=>h1 e.symm)
 refine⟨⟨by have:=I.keep.len;simp;omega,fun j hj hn=>by rw[old j (by omega)];exact I.keep.same j hj hn⟩,by rw[old _ (by omega)];exact I.all,⟨xl,by rw[old b b3];exact hl⟩,aE6 lk,⟨xb,by rw[old _ (by omega)];exact hb⟩,I.b2,I.b3,I.b4,fun y hy=>?_,I.nd,I.tw,I.un,I.hd⟩
 obtain⟨R0,h1,h2⟩:=I.ch y hy
 refine⟨R0,?_,h2⟩
 have:=agI (g':=hf (h.set (H.length+3) (Da (En L (Ni g))))) (Ey h1 Px) fun j hj z hz=>by
  have hj2:j∈R0:=by simpa using hj
  have h3:=h2 j hj2
  show((h.set _ _)[j]?).bind Bq=_
  rw[old j (by omega)];exact hz
 obtain⟨a,l',R1,R2,e1,h1',h2',h3⟩:=Ia this
 cases e1
 obtain⟨_,rfl⟩:=ac6 h2'
 simp at h3
 rw[h1',←h3]
def mtS(l:List Dq)(f:St→Nat)(x:St):St→Nat:=if aJX x.1 l then fun y=>if y=x then 0 else f y else f
theorem a5F{s:St}(h:s.1.length=12):aC5 24 (Bm s)=Cf s.1:=by
 have:(Cf s.1).length=24:=by rw[Bd];omega
 unfold Bm;rw[aIS (by omega),aAR (by omega)]
theorem aKU(f:St→Nat)(x:St)(n:Nat):(fun y=>if y=x then AV.int .i64 (n:Int)else Ni f y)=Ni fun y=>if y=x then n else f y:=by
 funext y;unfold Ni;by_cases e:y=x<;>simp[e]
def rdS(w:Am)(N:Nat)(p:(St→Nat) × Bool)(x:St):(St→Nat) × Bool:=if Nn p.1 (p.1 x) (Dj w N x)<p.1 x then(fun y=>if y=x then Nn p.1 (p.1 x) (Dj w N x)else p.1 y,true)else p
theorem aIN(f:St→Nat):∀(l:List Je) (n:Nat),Nn f n l≤n∧(∀o∈l,Nn f n l≤wst f o)∧(Nn f n l=n∨∃o∈l,Nn f n l=wst f o)
 | [],n=>⟨ao8 _,by simp,.inl rfl⟩
 |o::l,n=>by
  obtain⟨h1,h2,h3⟩:=aIN f l (min n (wst f o))
  have e:Nn f n (o::l)=Nn f (min n (wst f o)) l:=rfl
  rw[e]
  refine⟨by omega,fun x hx=>?_,?_⟩
  ·rcases aJY.1 hx with rfl|hx
   ·omega
   ·exact h2 x hx
  ·rcases h3 with h|⟨x,hx,h⟩
   ·by_cases c:n≤wst f o
    ·exact .inl (by omega)
    ·exact .inr ⟨o,by simp,by omega⟩
   ·exact .inr ⟨x,by simp[hx],h⟩
theorem aP9{f:St→Nat}{x:St}{n:Nat}:∀{L:List St},(∀y∈L,y∈L)→n≤f x→(L.map fun y=>if y=x then n else f y).sum≤(L.map f).sum
 | [],_,_=>ao8 _
 |y::L,_,h=>by
  have:=aP9 (L:=L) (fun _ h=>h) h
  simp only[List.map_cons,List.sum_cons]
  split
  ·rename_i e;subst e;omega
  ·omega
theorem aCK{f:St→Nat}{x:St}{n:Nat}(h:n<f x):∀{L:List St},x∈L→(L.map fun y=>if y=x then n else f y).sum<(L.map f).sum
 |y::L,hm=>by
  have h0:=aP9 (f:=f) (L:=L) (fun _ h=>h) (Nat.le_of_lt h)
  simp only[List.map_cons,List.sum_cons]
  by_cases e:y=x
  ·subst e;rw[if_pos rfl];omega
  ·rw[if_neg e]
   rcases aJY.1 hm with e'|hm
   ·exact absurd e'.symm e
   ·have:=aCK h hm;omega
theorem aCI{w:Am}{N:Nat}{l:List Dq}{L:List St}:∀(r:List St),(∀x∈r,x∈L)→∀p:(St→Nat) × Bool,(Jv w N l).Known Cd L p.1→
 (Jv w N l).Known Cd L (r.foldl (rdS w N) p).1∧((L.map (r.foldl (rdS w N) p).1).sum≤(L.map p.1).sum)∧((r.foldl (rdS w N) p).2=true→p.2=true∨(L.map (r.foldl (rdS w N) p).1).sum<(L.map p.1).sum)∧
 ((r.foldl (rdS w N) p).2=false→r.foldl (rdS w N) p=p∧∀x∈r,∀o∈Dj w N x,p.1 x≤wst p.1 o)
 | [],_,p,K=>⟨K,ao8 _,.inl,fun _=>⟨rfl,by simp⟩⟩
 |x::r,hr,p,K=>by
  obtain⟨q1,q2,q3⟩:=aIN p.1 (Dj w N x) (p.1 x)
  simp only[aC6]
  by_cases c:Nn p.1 (p.1 x) (Dj w N x)<p.1 x
  ·have e:rdS w N p x=(fun y=>if y=x then Nn p.1 (p.1 x) (Dj w N x)else p.1 y,true):=by simp only[rdS,if_pos c]
   rw[e]
   rcases q3 with q3|⟨o,ho,q3⟩
   ·omega
   have hs:=aCK c (hr x (by simp))
   have K2:(Jv w N l).Known Cd L (fun y=>if y=x then Nn p.1 (p.1 x) (Dj w N x)else p.1 y):=K.less (s:=x) (o:=(o.c.toNat,o.to)) (List.mem_map_of_mem ho) (hr x (by simp)) q3 c
   generalize(fun y=>if y=x then Nn p.1 (p.1 x) (Dj w N x)else p.1 y)=g at hs K2 ⊢
   obtain⟨a1,a2,a3,a4⟩:=aCI r (fun y h=>hr y (by simp[h])) (g,true) K2
   refine⟨a1,by simp only at a2;omega,fun _=>.inr (by simp only at a2;omega),fun h=>?_⟩
   have:=(a4 h).1
   rw[this]at h
   cases h
  ·have e:rdS w N p x=p:=by simp only[rdS,if_neg c]
   rw[e]
   obtain⟨a1,a2,a3,a4⟩:=aCI r (fun y h=>hr y (by simp[h])) p K
   refine⟨a1,a2,a3,fun h=>⟨(a4 h).1,fun y hy o ho=>?_⟩⟩
   rcases aJY.1 hy with rfl|hy
   ·have:=q2 o ho;omega
   ·exact(a4 h).2 y hy o ho
theorem aCX(l:List Dq)(y:St):∀(L:List St) (f:St→Nat),L.foldl (mtS l) f y=if y∈L∧aJX y.1 l=true then 0 else f y
 | [],f=>by simp
 |x::L,f=>by
  rw[aC6,aCX l y L]
  by_cases c:aJX x.1 l=true
  ·by_cases e:y=x
   ·subst e;simp[mtS,c]
   ·simp[mtS,c,e]
  ·by_cases e:y=x
   ·subst e;simp[mtS,c]
   ·simp[mtS,c,e]
theorem a4E{w:Am}{N:Nat}{l:List Dq}{L:List St}(ho:∀s∈L,∀o∈Dj w N s,1≤o.c∧o.c≤1000∧o.to≠[]∧∀x∈o.to,x∈L):(Jv w N l).Known Cd L (L.foldl (mtS l) fun _=>Cd):=by
 refine⟨fun s hs o h=>?_,fun s hs=>?_,fun s hs hg=>?_,fun s hs hlt=>?_,fun s hs hlt=>?_⟩
 ·obtain⟨c,hc,rfl⟩:=aJ1.1 h
  obtain⟨a1,a2,a3,a4⟩:=ho s hs c hc
  exact⟨by show 1≤c.c.toNat;omega,by show c.c.toNat≤1000;omega,a3,a4⟩
 ·rw[aCX];split<;>simp
 ·rw[aCX];exact if_pos ⟨hs,hg⟩
 ·rw[aCX]at hlt ⊢
  split at hlt
  ·rename_i h;rw[if_pos h];exact .met h.2
  ·simp at hlt
 ·rw[aCX]at hlt
  split at hlt
  ·rename_i h;exact .inl h.2
  ·simp at hlt
theorem a0K{w:Am}{N:Nat}(hw:WOk w N)(h12:w.parts.length≤12)(d:Int){H:Aa}{lb:Nat}{wf:Bool}(hlb:H[lb]?=some (aoN w d wf)){s0:St}(hs:s0.1.length=12)(hf3:s0.2≤3)(l:List Dq)(nn:Bool)(hl:l.length≤maxLen)(hlp:∀x∈l,0≤x.part∧x.part<12)
 {U:St→Prop} {B:Nat} (hB39:B≤400000000000) (hU:∀L:List St,L.Nodup→(∀s∈L,U s)→L.length≤B) (hU0:U s0) (hUs:∀s,U s→s.1.length=12∧s.2≤3) (hUc:∀s,U s→∀o∈Dj w N s,1≤o.c∧o.c≤1000∧o.to≠[]∧o.to.length≤2∧∀x∈o.to,U x):
 ShQ Ei 41 [.ptr lb 0 0,.agg (Bm s0),Bo 3 true nn (l.map Dq.cells)] H fun o G=>∃(L:List St) (f:St→Nat) (av:St→AV) (b:Nat),o=.ret (.tup [.mapr (H.length+3),.mapr (H.length+1)])∧CK w N H s0 U L b av f G∧(Jv w N l).Known Cd L f∧∀x∈L,∀o∈Dj w N x,f x≤wst f o:=by
 have hlen:=hw.len
 have hsl:=Hh hs
 have hsf:=Ff s0
 have hsc:=Gf s0
 have htk:aC5 25 (Bm s0)=Bm s0:=aAR (by omega)
 refine aPE rfl Tryz.func41 rfl rfl ?_
 simp only[Tryz.f41]
 obtain⟨qC,hqC⟩:∃q,Fn.func 65=q:=⟨_,rfl⟩
 have hins:=aVL (h:=H++[CB.live 25 true false [Bm s0],CB.lp [] Code.skip Code.skip [] Ib.map,CB.live 25 true false [Bm s0],CB.lp [] Code.skip Code.skip [] Ib.map]) (b:=H.length+3) (L:=[]) (s:=s0) (by rw[aFD (by omega),aNV];rfl) (by intro s hs;cases hs) hs (by simp)
 (have hb:=trivial;with_reducible repeat' (first|simp only[hb,Vc.down,seval,Is.down,hsl,hsf,hsc,htk,hins,Kt.down,aC0,aBX,aCC,aHS,aH6,aIF,aM7,agX]|refine Av ?_ ?_<;>intro hb|refine fd ?_|fail))
 refine Hn (cnt 117 (fun n (_:Unit) t h=>t 0=.ptr lb 0 0∧t 2=Bo 3 true nn (l.map Dq.cells)∧t 8=.mapr (H.length+1)∧t 10=.ptr (H.length+4) 0 0∧∃(L:List St) (i b:Nat) (av:St→AV),t 9=.slr 25 b 0 L.length∧t 11=.int .i64 (i:Int)∧i+n=B∧i≤L.length∧CI w N H s0 U L i b av h∧Cls w N L i) (fun _ _=>())
  (fun _ e t h=>e=.exit 0∧t 0=.ptr lb 0 0∧t 2=Bo 3 true nn (l.map Dq.cells)∧t 8=.mapr (H.length+1)∧t 10=.ptr (H.length+4) 0 0∧∃(L:List St) (b:Nat) (av:St→AV),t 9=.slr 25 b 0 L.length∧CI w N H s0 U L L.length b av h∧Cls w N L L.length) ?_ ?_ B () _ _ ?_) (fun e t h hk=>?_)
 ·rintro _ t h Q' kQ ⟨g0,g2,g8,g10,L,i,b,av,g9,g11,hi,hiL,I,hcl⟩
  have hLB:=hU L I.nd I.un
  obtain rfl:i=L.length:=by omega
  (have hb:=trivial;with_reducible repeat' (first|simp only[hb,Vc.down,seval,Is.down,g9,g11,aC7,decide_false]|refine Av ?_ ?_<;>intro hb|refine fd ?_|fail))
  exact kQ _ _ _ ⟨rfl,by simp[up,g0],by simp[up,g2],by simp[up,g8],by simp[up,g10],L,b,av,by simp[up,g9],I,hcl⟩
 ·rintro n _ t h J Q' kJ kQ ⟨g0,g2,g8,g10,L,i,b,av,g9,g11,hi,hiL,I,hcl⟩
  have hLB:=hU L I.nd I.un
  by_cases hlt:i<L.length
  ·obtain⟨s,hs'⟩:∃s,L[i]?=some s:=⟨_,List.getElem?_eq_getElem hlt⟩
   have hsm:=aqM hs'
   obtain⟨hs12,hsf3⟩:=hUs s (I.un s hsm)
   obtain⟨xl,hlst⟩:=I.lst
   have hdd:decide ((i:Int)<(L.length:Int))=true:=decide_eq_true (by omega)
   have hip:((i:Int)<(L.length:Int))=True:=eq_true (by omega)
   have z1:=Hh hs12
   have z2:=Ff s
   have z3:=Gf s
   have z4:aC5 25 (Bm s)=Bm s:=aAR (by omega)
   (have hb:=trivial;with_reducible repeat' (first|simp only[hb,Vc.down,seval,Is.down,g0,g8,g9,g11,hdd,hip,hlst,hs',z1,z2,z3,z4,hqC,Kt.down,agX]|refine Av ?_ ?_<;>intro hb|refine fd ?_|fail))
   generalize hE:cl Ei (h++[CB.live 25 true true [Bm s]]) (some (.func qC [] [])) (some [.ptr lb 0 0,.agg (Bm s)])=E
   rw[←hqC]at hE
   have hlb2:(Gt (h++[CB.live 25 true true [Bm s]]))[lb]?=some (aoN w d false):=by
    have h1:(h++[CB.live 25 true true [Bm s]])[lb]?=some (aoN w d wf):=Ah ((I.keep.same lb (Eg hlb) (by simp)).trans hlb) _
    rw[Ej h1];rfl
   obtain⟨o,G,es,M,e1,e2,⟨v,R,rfl,hv,hR⟩,e4,e5,e6,e7,e8⟩:=aN6 (O:=Ei) (f:=65) (H:=h++[CB.live 25 true true [Bm s]]) (args:=[.ptr lb 0 0,.agg (Bm s)]) rfl rfl (aR4 hw h12 d hlb2 hs12 hsf3)
   have e9:=hE.symm.trans e1
   subst e9
   rw[Bv]at hR
   have hft:ftC Ei (h++[CB.live 25 true true [Bm s]]) (some (.func qC [] [])) (some [.ptr lb 0 0,.agg (Bm s)])=some [.all]:=by
    rw[←hqC,aN9];rfl
   obtain⟨p1,p2⟩:=aWD hv
   have hMall:M[H.length+1]?=some (Da (En (L.take i) av)):=(e6 _ (by have:=Eg I.all;simp;omega)).trans (Ah I.all _)
   have hnt:s∉L.take i:=fun hm=>by
    obtain⟨j,hj⟩:=List.getElem?_of_mem hm
    have hji:j<i:=by
     have:=(aM0.1 hj).1
     simp at this;omega
    rw[List.getElem?_take_of_lt hji]at hj
    have:=aGA I.nd hj hs'
    omega
   have hms:=a7L hMall (fun x hx=>I.tw x (aNZ hx)) hs12 hnt v
   have hMbx:M[h.length]?=some (.live 25 true true [Bm s]):=(e6 _ (by simp)).trans (by rw[aFD (ao8 _),Nat.sub_self];rfl)
   obtain⟨av2,hav2⟩:∃av2:St→AV,(fun y=>if y=s then v else av y)=av2:=⟨_,rfl⟩
   rw[hav2]at hms
   have hav2s:av2 s=v:=by rw[←hav2];simp
   have hAM:=Eg hMall
   have hAh:H.length+1≠h.length:=by have:=Eg I.all;omega
   have hM2:(M.set (H.length+1) (Da (En (L.take i++[s]) av2)))[H.length+1]?=some (Da (En (L.take i++[s]) av2)):=aE6 hAM
   have hMb2:(M.set (H.length+1) (Da (En (L.take i++[s]) av2)))[h.length]?=some (.live 25 true true [Bm s]):=by rw[aqT hAh];exact hMbx
   have hlk:=aOA hM2 (fun x hx=>by
    rcases awX.1 hx with hx|hx
    ·exact I.tw x (aNZ hx)
    ·simp at hx;rw[hx];exact hs12) (s:=s) (by simp)
   rw[hav2s]at hlk
   have hln:=a07 hv
   have hic:v.isCell=true:=p1
   (have hb:=trivial;with_reducible repeat' (first|simp only[hb,Vc.down,seval,Is.down,g8,e2,hft,hms,hM2,hMb2,hlk,hln,hic,p2,z1,z2,z3,z4,Kt.down,aIF,aM7,aHS,aH6]|refine Av ?_ ?_<;>intro hb|refine fdq ?_|fail))
   refine aKT (fun b=>if b=h.length then 0 else 1) [([],[]),([],[.cells 0 0 25]),([],[]),([],[.cells 0 0 25]),([.blk 1],[.all]),([.blk 1],[.blk 1])] (by kernel_rfl) ?_ (fun _=>?_)
   ·have hes:∀e∈es,Ox (fun b=>if b=h.length then 0 else 1) e.foot=.blk 1:=fun e he=>by
     obtain⟨b',k1,k2⟩:=e8 e he
     have hne:b'≠h.length:=by
      rcases k2 with k2|⟨c,k3,k4⟩
      ·simp at k2;omega
      ·intro e';subst e'
       rw[aFD (ao8 _),Nat.sub_self]at k3
       simp at k3;subst k3;cases k4
     rw[k1];simp[Ox,hne]
    simp only[az0,aCB]
    refine⟨by simp,by simp,by simp,by simp[Ox],by simp,by simp,by simp,by simp[Ox],fun e he=>.inr (by rw[hes e he];simp),by simp,by simp[Ab.foot,Ox,hAh],by simp[Ox,hAh],trivial⟩
   have I1:=I.call hs' e5 e6 e7 hv hR
   rw[hav2]at I1
   have hCl:(Dj w N s).length≤48:=aFJ w N s h12
   have hUo:=hUc s (I.un s hsm)
   refine Hn (lst 117 (Dj w N s) (fun j (_:Unit) t h=>t 0=.ptr lb 0 0∧t 2=Bo 3 true nn (l.map Dq.cells)∧t 8=.mapr (H.length+1)∧t 10=.ptr (H.length+4) 0 0∧t 11=.int .i64 (i:Int)∧t 48=v∧t 49=.int .i64 ((Dj w N s).length:Int)∧t 50=.int .i64 (j:Int)∧∃(L':List St) (b':Nat),t 9=.slr 25 b' 0 L'.length∧L <+:L'∧CI w N H s0 U L' (i+1) b' av2 h∧∀o∈(Dj w N s).take j,∀x∈o.to,x∈L') (fun _ _=>())
    (fun _ e t h=>e=.exit 2∧t 0=.ptr lb 0 0∧t 2=Bo 3 true nn (l.map Dq.cells)∧t 8=.mapr (H.length+1)∧t 10=.ptr (H.length+4) 0 0∧t 11=.int .i64 (i:Int)∧∃(L':List St) (b':Nat),t 9=.slr 25 b' 0 L'.length∧L <+:L'∧CI w N H s0 U L' (i+1) b' av2 h∧∀o∈Dj w N s,∀x∈o.to,x∈L') ?_ ?_ () _ _ ?_) (fun e t h hk=>?_)
   ·rintro _ t h Q'' kQ ⟨g0,g2,g8,g10,g11,g48,g49,g50,L',b',g9,hp,I',ho⟩
    rw[aEY]at ho
    (have hb:=trivial;with_reducible repeat' (first|simp only[hb,Vc.down,seval,Is.down,g49,g50,aC7,decide_false]|refine Av ?_ ?_<;>intro hb|refine fd ?_|fail))
    exact kQ _ _ _ ⟨rfl,by simp[up,g0],by simp[up,g2],by simp[up,g8],by simp[up,g10],by simp[up,g11],L',b',by simp[up,g9],hp,I',ho⟩
   ·rintro o rest j _ t h J' Q'' kJ' kQ' hx hj ⟨g0,g2,g8,g10,g11,g48,g49,g50,L',b',g9,hp,I',ho⟩
    have hdj:decide ((j:Int)<((Dj w N s).length:Int))=true:=decide_eq_true (by omega)
    have hij:((j:Int)<((Dj w N s).length:Int))=True:=eq_true (by omega)
    have hwj:=Ci hj (by unfold maxLen;omega)
    obtain⟨u0,u1,u2,u3,u4⟩:=hUo o (aqM hx)
    obtain⟨X,rfl⟩:=hp
    have hst:s∈(L++X).take (i+1):=by
     rw[aIS (by omega),aC8,hs'];simp
    obtain⟨R',hv',hR'⟩:=I'.ch s hst
    rw[hav2s]at hv'
    obtain⟨bv,bt,hvv,y1,y2,y3⟩:=aQU hv' hx u2
    rw[hvv]at g48
    have hbt:=hR' bt y3
    (have hb:=trivial;with_reducible repeat' (first|simp only[hb,Vc.down,seval,Is.down,g48,g49,g50,hdj,hij,y1,aIF,aM7,aHS,aH6,agX]|refine Av ?_ ?_<;>intro hb|refine fd ?_|fail))
    refine Hn (lst 117 o.to (fun m (_:Unit) t h=>t 0=.ptr lb 0 0∧t 2=Bo 3 true nn (l.map Dq.cells)∧t 8=.mapr (H.length+1)∧t 10=.ptr (H.length+4) 0 0∧t 11=.int .i64 (i:Int)∧t 48=v∧t 49=.int .i64 ((Dj w N s).length:Int)∧t 50=.int .i64 (j:Int)∧t 55=.slr 25 bt 0 o.to.length∧t 56=.int .i64 (o.to.length:Int)∧t 57=.int .i64 (m:Int)∧(hf h bt).bind Bq=some (25,true,o.to.map Bm)∧∃(L':List St) (b':Nat),t 9=.slr 25 b' 0 L'.length∧bt≠b'∧L <+:L'∧CI w N H s0 U L' (i+1) b' av2 h∧(∀o∈(Dj w N s).take j,∀x∈o.to,x∈L')∧∀x∈o.to.take m,x∈L') (fun _ _=>())
     (fun _ e t h=>e=.exit 4∧t 0=.ptr lb 0 0∧t 2=Bo 3 true nn (l.map Dq.cells)∧t 8=.mapr (H.length+1)∧t 10=.ptr (H.length+4) 0 0∧t 11=.int .i64 (i:Int)∧t 48=v∧t 49=.int .i64 ((Dj w N s).length:Int)∧t 50=.int .i64 (j:Int)∧∃(L':List St) (b':Nat),t 9=.slr 25 b' 0 L'.length∧L <+:L'∧CI w N H s0 U L' (i+1) b' av2 h∧(∀o∈(Dj w N s).take j,∀x∈o.to,x∈L')∧∀x∈o.to,x∈L') ?_ ?_ () _ _ ?_) (fun e t h hk=>?_)
    ·rintro _ t h Q3 kQ3 ⟨g0,g2,g8,g10,g11,g48,g49,g50,g55,g56,g57,z5,L',b',g9,hnb,hp,I',ho,hm⟩
     rw[aEY]at hm
     (have hb:=trivial;with_reducible repeat' (first|simp only[hb,Vc.down,seval,Is.down,g56,g57,aC7,decide_false]|refine Av ?_ ?_<;>intro hb|refine fd ?_|fail))
     exact kQ3 _ _ _ ⟨rfl,by simp[up,g0],by simp[up,g2],by simp[up,g8],by simp[up,g10],by simp[up,g11],by simp[up,g48],by simp[up,g49],by simp[up,g50],L',b',by simp[up,g9],hp,I',ho,hm⟩
    ·rintro x rest m _ t h J3 Q3 kJ3 kQ3 hx3 hm3 ⟨g0,g2,g8,g10,g11,g48,g49,g50,g55,g56,g57,z5,L',b',g9,hnb,hp,I',ho,hm⟩
     have hdm:decide ((m:Int)<(o.to.length:Int))=true:=decide_eq_true (by omega)
     have him:((m:Int)<(o.to.length:Int))=True:=eq_true (by omega)
     have hwm:=Ci hm3 (by unfold maxLen;omega)
     have hxU:=u4 x (aqM hx3)
     obtain⟨hx12,_⟩:=hUs x hxU
     have w1:=Hh hx12
     have w2:=Ff x
     have w3:=Gf x
     have w4:aC5 25 (Bm x)=Bm x:=aAR (by omega)
     have yx:Iu (h[bt]?) m=some (Bm x):=by rw[aPY z5,aNU,hx3];rfl
     obtain⟨xb,hbx⟩:=I'.bx
     obtain⟨xl',hlst'⟩:=I'.lst
     have hbx2:=Ah hbx
     have hkn2:=Ah I'.kn
     by_cases hin:x∈L'
     ·have hlk2:=fun q=>a5G (v:=knT) (hkn2 q) I'.tw hin
      (have hb:=trivial;with_reducible repeat' (first|simp only[hb,Vc.down,seval,Is.down,g10,g55,g56,g57,hdm,him,hwm,yx,w1,w2,w3,w4,hbx2,hkn2,hlk2,Kt.down,agX]|refine Av ?_ ?_<;>intro hb|refine fd ?_|fail))
      exact Bh (kJ3 _ _ () ⟨by simp[up,g0],by simp[up,g2],by simp[up,g8],by simp[up,g10],by simp[up,g11],by simp[up,g48],by simp[up,g49],by simp[up,g50],by simp[up,g55],by simp[up,g56],by simp[up],by
       show((_++_:Aa)[bt]?).bind Bq=_
       rw[aC4 (azU z5)];exact z5,L',b',by simp[up,g9],hnb,hp,I'.app _,ho,fun y hy=>by
       rw[aC8,hx3]at hy
       rcases awX.1 hy with h|h
       ·exact hm y h
       ·simp at h;rw[h];exact hin⟩ rfl)
     ·have hlk2:=fun q=>a8Q (hkn2 q) I'.tw hx12 hin
      have hms2:=fun q=>aVL (hkn2 q) I'.tw hx12 hin
      have hLB':=hU L' I'.nd I'.un
      have hkl:=Eg I'.kn
      have hbl:=Eg hlst'
      have hSk:=Jq hkl
      have b3':=I'.b3
      have b4':=I'.b4
      have hbx3:∀q,(h.set (H.length+3) (Da (En (L'++[x]) knT))++q)[H.length+4]?=some (.live 1 false xb [[.mapr (H.length+3)]]):=fun q=>aQZ _ (by omega) hbx q
      have hlst3:∀q,(h.set (H.length+3) (Da (En (L'++[x]) knT))++q)[b']?=some (.live 25 true xl' (L'.map Bm)):=fun q=>aQZ _ (fun e=>b3' e.symm) hlst' q
      have hSb:∀q c,(h.set (H.length+3) (Da (En (L'++[x]) knT))++q).set b' c=(h.set (H.length+3) (Da (En (L'++[x]) knT))).set b' c++q:=fun q c=>List.set_append_left _ _ (by simpa using hbl)
      have hi39:(L'.length+1≤549755813888)=True:=eq_true (by omega)
      (have hb:=trivial;with_reducible repeat' (first|simp only[hb,Vc.down,seval,Is.down,g9,g10,g55,g56,g57,hdm,him,hwm,yx,w1,w2,w3,w4,hbx2,hkn2,hlk2,hms2,hSk,hbx3,hlst3,hSb,hi39,Pm,Pl,List.length_set,Kt.down,agX]|refine Av ?_ ?_<;>intro hb|refine fd ?_|fail))
      have hIL:i+1≤L'.length:=by have:=hp.length_le;omega
      have hg:=(I'.app [.live 25 true true [Bm x]]).grow hIL hin hx12 hxU (.live 25 true false [Bm x])
      have he:((h++[CB.live 25 true true [Bm x]]).set (H.length+3) (Da (En (L'++[x]) knT))).set b' .dead++[CB.live 25 true false [Bm x],CB.live 25 true false (L'.map Bm++[Bm x])]=(h.set (H.length+3) (Da (En (L'++[x]) knT))).set b' .dead++[CB.live 25 true true [Bm x],CB.live 25 true false [Bm x],CB.live 25 true false (L'.map Bm++[Bm x])]:=by
       rw[hSk,hSb,List.append_assoc];rfl
      rw[he]at hg
      have hbl2:=azU z5
      refine Bh (kJ3 _ _ () ⟨by simp[up,g0],by simp[up,g2],by simp[up,g8],by simp[up,g10],by simp[up,g11],by simp[up,g48],by simp[up,g49],by simp[up,g50],by simp[up,g55],by simp[up,g56],by simp[up],?_,L'++[x],(h++[CB.live 25 true true [Bm x]]).length+1,by simp[up],by simp;omega,hp.trans (aN0 _ _),hg,fun o' ho' x' hx'=>aNT _ (ho o' ho' x' hx'),fun y hy=>?_⟩ rfl)
      ·show((_++_:Aa)[bt]?).bind Bq=_
       rw[aC4 (by simpa using hbl2),aqT (fun e=>hnb e.symm),aqT (by have:=hbt.1;omega)]
       exact z5
      ·rw[aC8,hx3]at hy
       rcases awX.1 hy with h|h
       ·exact aNT _ (hm y h)
       ·simp at h;rw[h];simp
    ·exact⟨by simp[up,g0],by simp[up,g2],by simp[up,g8],by simp[up,g10],by simp[up,g11],by simp[up,g48,hvv],by simp[up,g49],by simp[up,g50],by simp[up],by simp[up],by simp[up],by
      show((_++_:Aa)[bt]?).bind Bq=_
      rw[aC4 (azU y2)];exact y2,L++X,b',by simp[up,g9],hbt.2,aN0 _ _,I'.app _,ho,by simp⟩
    obtain⟨rfl,g0,g2,g8,g10,g11,g48,g49,g50,L',b',g9,hp,I',ho,hm⟩:=hk
    (have hb:=trivial;with_reducible repeat' (first|simp only[hb,Vc.down,seval,Is.down,g50,hwj]|refine Av ?_ ?_<;>intro hb|refine fd ?_|fail))
    exact Bh (kJ' _ _ () ⟨by simp[up,g0],by simp[up,g2],by simp[up,g8],by simp[up,g10],by simp[up,g11],by simp[up,g48],by simp[up,g49],by simp[up],L',b',by simp[up,g9],hp,I',fun o' ho'=>by
     rw[aC8,hx]at ho'
     rcases awX.1 ho' with h|h
     ·exact ho o' h
     ·simp at h;subst h;exact hm⟩ rfl)
   ·exact⟨by simp[up,g0],by simp[up,g2],by simp[up,g8],by simp[up,g10],by simp[up,g11],by simp[up],by simp[up],by simp[up],L,b,by simp[up,g9],List.prefix_refl _,I1,by simp⟩
   obtain⟨rfl,g0,g2,g8,g10,g11,L',b',g9,⟨X,rfl⟩,I',ho⟩:=hk
   have hwi:IntKind.i64.wrap ((i:Int)+1)=((i+1:Nat):Int):=by rw[It (by omega) (by omega)];omega
   (have hb:=trivial;with_reducible repeat' (first|simp only[hb,Vc.down,seval,Is.down,g11,hwi]|refine Av ?_ ?_<;>intro hb|refine fd ?_|fail))
   refine Bh (kJ _ _ () ⟨by simp[up,g0],by simp[up,g2],by simp[up,g8],by simp[up,g10],L++X,i+1,b',av2,by simp[up,g9],by simp[up],by omega,by simp;omega,I',fun y hy o' ho' x' hx'=>?_⟩ rfl)
   rw[aIS (by omega),aC8,hs']at hy
   rcases awX.1 hy with hy|hy
   ·exact aNT _ (hcl y hy o' ho' x' hx')
   ·simp at hy;subst hy;exact ho o' ho' x' hx'
  ·obtain rfl:i=L.length:=by omega
   (have hb:=trivial;with_reducible repeat' (first|simp only[hb,Vc.down,seval,Is.down,g9,g11,aC7,decide_false]|refine Av ?_ ?_<;>intro hb|refine fd ?_|fail))
   exact kQ _ _ _ ⟨rfl,by simp[up,g0],by simp[up,g2],by simp[up,g8],by simp[up,g10],L,b,av,by simp[up,g9],I,hcl⟩
 ·refine⟨by simp[up,Oc],by simp[up,Oc],by simp[up],by simp[up],[s0],0,H.length+2,fun _=>.nils,by simp[up],by simp[up],by omega,by simp,?_,by intro s hs;simp at hs⟩
  have at':∀(j:Nat) (c:CB) (X:Aa),X[j]?=some c→(H++X)[H.length+j]?=some c:=fun j c X h=>by rw[aFD (by omega),aNV];exact h
  exact⟨Hv.app _ _,at' 1 _ _ rfl,⟨_,at' 2 _ _ rfl⟩,at' 3 _ _ rfl,⟨_,at' 4 _ _ rfl⟩,by omega,by omega,by omega,by intro s hs;simp at hs,by simp,by intro s hs';simp at hs';rw[hs'];exact hs,by intro s hs';simp at hs';rw[hs'];exact hU0,rfl⟩
 obtain⟨rfl,g0,g2,g8,g10,L,b,av,g9,I,hcl⟩:=hk
 have hLB:=hU L I.nd I.un
 have K:=I.toK
 have hL9:L.length≤maxLen:=by unfold maxLen;omega
 (have hb:=trivial;with_reducible repeat' (first|simp only[hb,Vc.down,seval,Is.down,g9]|refine Av ?_ ?_<;>intro hb|refine fd ?_|fail))
 refine Hn (lst 117 L (fun i (f:St→Nat) t h=>t 0=.ptr lb 0 0∧t 2=Bo 3 true nn (l.map Dq.cells)∧t 8=.mapr (H.length+1)∧t 9=.slr 25 b 0 L.length∧t 10=.ptr (H.length+4) 0 0∧t 77=.slr 25 b 0 L.length∧t 78=.int .i64 (L.length:Int)∧t 79=.int .i64 (i:Int)∧CK w N H s0 U L b av f h) (fun rest f=>rest.foldl (mtS l) f)
  (fun f e t h=>e=.exit 6∧t 0=.ptr lb 0 0∧t 2=Bo 3 true nn (l.map Dq.cells)∧t 8=.mapr (H.length+1)∧t 9=.slr 25 b 0 L.length∧t 10=.ptr (H.length+4) 0 0∧CK w N H s0 U L b av f h) ?_ ?_ (fun _=>Cd) _ _ ?_) (fun e t h hk=>?_)
 ·rintro f t h Q' kQ ⟨g0,g2,g8,g9,g10,g77,g78,g79,K⟩
  (have hb:=trivial;with_reducible repeat' (first|simp only[hb,Vc.down,seval,Is.down,g78,g79,aC7,decide_false]|refine Av ?_ ?_<;>intro hb|refine fd ?_|fail))
  exact kQ _ _ _ ⟨rfl,by simp[up,g0],by simp[up,g2],by simp[up,g8],by simp[up,g9],by simp[up,g10],K⟩
 ·rintro x rest i f t h J Q' kJ kQ hx hi ⟨g0,g2,g8,g9,g10,g77,g78,g79,K⟩
  have hdd:decide ((i:Int)<(L.length:Int))=true:=decide_eq_true (by omega)
  have hii:((i:Int)<(L.length:Int))=True:=eq_true (by omega)
  have hww:=Ci hi hL9
  obtain⟨xl,hlst⟩:=K.lst
  obtain⟨xb,hbx⟩:=K.bx
  have hxm:=aqM hx
  have hx12:=K.tw x hxm
  have w1:=Hh hx12
  have w2:=Ff x
  have w3:=Gf x
  have w4:aC5 25 (Bm x)=Bm x:=aAR (by omega)
  have hbx2:=Ah hbx
  have hkn2:=Ah K.kn
  have hM:=a8Z hx12 l nn hl hlp
  have hms2:=fun q=>aOD (hkn2 q) K.tw K.nd hxm (.int .i64 0)
  have hSk:=Jq (Eg K.kn)
  generalize hmb:aJX x.1 l=mb at *
  have w5:=a5F hx12
  have w6:=am1 x.1 6
  cases mb with
  |false=>
   (have hb:=trivial;with_reducible repeat' (first|simp only[hb,Vc.down,seval,Is.down,g2,g8,g9,g10,g77,g78,g79,hdd,hii,hww,hlst,hx,w1,w2,w3,w4,w5,w6,hbx2,hkn2,hM,hms2,hSk,Kt.down,agX]|refine Av ?_ ?_<;>intro hb|refine fd ?_|fail))
   have hf:mtS l f x=f:=by simp[mtS,hmb]
   exact Bh (kJ _ _ f ⟨by simp[up,g0],by simp[up,g2],by simp[up,g8],by simp[up,g9],by simp[up,g10],by simp[up,g77],by simp[up,g78],by simp[up],K.app _⟩ (by rw[aC6,hf]))
  |true=>
   (have hb:=trivial;with_reducible repeat' (first|simp only[hb,Vc.down,seval,Is.down,g2,g8,g9,g10,g77,g78,g79,hdd,hii,hww,hlst,hx,w1,w2,w3,w4,w5,w6,hbx2,hkn2,hM,hms2,hSk,Kt.down,agX]|refine Av ?_ ?_<;>intro hb|refine fd ?_|fail))
   have hf:mtS l f x=fun y=>if y=x then 0 else f y:=by simp[mtS,hmb]
   have hkp:(fun y=>if y=x then AV.int .i64 0 else Ni f y)=Ni (mtS l f x):=by rw[hf];exact aKU f x 0
   rw[hkp]
   exact Bh (kJ _ _ (mtS l f x) ⟨by simp[up,g0],by simp[up,g2],by simp[up,g8],by simp[up,g9],by simp[up,g10],by simp[up,g77],by simp[up,g78],by simp[up],(K.put (mtS l f x)).app _⟩ rfl)
 ·exact⟨by simp[up,g0],by simp[up,g2],by simp[up,g8],by simp[up,g9],by simp[up,g10],by simp[up],by simp[up],by simp[up],K⟩
 obtain⟨rfl,g0,g2,g8,g9,g10,K⟩:=hk
 have hK0:=a4E (w:=w) (N:=N) (l:=l) (L:=L) fun s hs o ho=>by
  obtain⟨u0,u1,u2,u3,u4⟩:=hUc s (I.un s hs) o ho
  exact⟨u0,u1,u2,fun x hx=>hcl s (by rwa[aEY]) o ho x hx⟩
 (have hb:=trivial;with_reducible repeat' (first|simp only[hb,Vc.down,seval,Is.down]|refine Av ?_ ?_<;>intro hb|refine fd ?_|fail))
 refine Hn (cnt 117 (fun n (_:Unit) t h=>t 0=.ptr lb 0 0∧t 8=.mapr (H.length+1)∧t 9=.slr 25 b 0 L.length∧t 10=.ptr (H.length+4) 0 0∧∃f,CK w N H s0 U L b av f h∧(Jv w N l).Known Cd L f∧(L.map f).sum<n) (fun _ _=>())
  (fun _ e t h=>e=.exit 8∧t 8=.mapr (H.length+1)∧t 10=.ptr (H.length+4) 0 0∧∃f,CK w N H s0 U L b av f h∧(Jv w N l).Known Cd L f∧∀x∈L,∀o∈Dj w N x,f x≤wst f o) ?_ ?_ ((L.map (L.foldl (mtS l) fun _=>Cd)).sum+1) () _ _ ?_) (fun e t h hk=>?_)
 ·rintro _ t h Q' kQ ⟨_,_,_,_,f,_,_,hn⟩
  omega
 ·rintro n _ t h J Q' kJ kQ ⟨g0,g8,g9,g10,f,K,hKn,hn⟩
  (have hb:=trivial;with_reducible repeat' (first|simp only[hb,Vc.down,seval,Is.down,g9]|refine Av ?_ ?_<;>intro hb|refine fd ?_|fail))
  refine Hn (lst 117 L (fun i (p:(St→Nat) × Bool) t h=>t 0=.ptr lb 0 0∧t 8=.mapr (H.length+1)∧t 9=.slr 25 b 0 L.length∧t 10=.ptr (H.length+4) 0 0∧t 21=.bool p.2∧t 90=.slr 25 b 0 L.length∧t 91=.int .i64 (L.length:Int)∧t 92=.int .i64 (i:Int)∧CK w N H s0 U L b av p.1 h∧(Jv w N l).Known Cd L p.1) (fun rest p=>rest.foldl (rdS w N) p)
   (fun p e t h=>e=.exit 10∧t 0=.ptr lb 0 0∧t 8=.mapr (H.length+1)∧t 9=.slr 25 b 0 L.length∧t 10=.ptr (H.length+4) 0 0∧t 21=.bool p.2∧CK w N H s0 U L b av p.1 h) ?_ ?_ (f,false) _ _ ?_) (fun e t h hk=>?_)
  ·rintro p t h Q' kQ ⟨g0,g8,g9,g10,g21,g90,g91,g92,K,_⟩
   (have hb:=trivial;with_reducible repeat' (first|simp only[hb,Vc.down,seval,Is.down,g91,g92,aC7,decide_false]|refine Av ?_ ?_<;>intro hb|refine fd ?_|fail))
   exact kQ _ _ _ ⟨rfl,by simp[up,g0],by simp[up,g8],by simp[up,g9],by simp[up,g10],by simp[up,g21],K⟩
  ·rintro x rest i p t h J Q' kJ kQ hx hi ⟨g0,g8,g9,g10,g21,g90,g91,g92,K,hKn⟩
   have hdd:decide ((i:Int)<(L.length:Int))=true:=decide_eq_true (by omega)
   have hii:((i:Int)<(L.length:Int))=True:=eq_true (by omega)
   have hww:=Ci hi hL9
   obtain⟨xl,hlst⟩:=K.lst
   obtain⟨xb,hbx⟩:=K.bx
   have hxm:=aqM hx
   have hx12:=K.tw x hxm
   have w1:=Hh hx12
   have w2:=Ff x
   have w3:=Gf x
   have w4:aC5 25 (Bm x)=Bm x:=aAR (by omega)
   have hbx2:=Ah hbx
   have hkn2:=Ah K.kn
   have hall2:=Ah K.all
   have hlkA:=fun q=>aOA (hall2 q) K.tw hxm
   have hlkK:=fun q=>aG6 (hkn2 q) K.tw hxm
   obtain⟨R,hrd,hR⟩:=K.ch x hxm
   obtain⟨p1,p2⟩:=aWD hrd
   have hic:(av x).isCell=true:=p1
   have hkx:Ni p.1 x=.int .i64 (p.1 x:Int):=rfl
   have hCl:(Dj w N x).length≤48:=aFJ w N x h12
   have hL1:=a2U (f:=p.1) K.tw hKn.le (l:=Dj w N x) (fun o ho=>by
    obtain⟨u0,u1,u2,u3,u4⟩:=hUc x (K.un x hxm) o ho
    exact⟨by omega,u1,fun z hz=>hcl x (by rwa[aEY]) o ho z hz,u2,u3⟩) (by unfold maxLen;omega) false (p.1 x) false
   have hrv:=fun q=>aE9 (e:=12) (by omega) (az2 (l:=q) hrd)
   obtain⟨v,hav⟩:∃v,av x=v:=⟨_,rfl⟩
   rw[hav]at hlkA hrd hic p2 hrv
   change ∀q,rdV (h++q) v=_ at hrv
   rcases awK hrd with⟨rfl,h0⟩|⟨vb,vr,rfl,hvb,_,_,hvr⟩
   ·rw[h0]at hL1
    rw[show Bo 4 false false []=AV.nils from rfl]at hL1
    have hne1:(H.length+1=H.length)=False:=eq_false (by omega)
    (have hb:=trivial;with_reducible repeat' (first|simp only[hb,Vc.down,seval,Is.down,g8,g10,g90,g91,g92,hdd,hii,hlst,hx,w1,w2,w3,w4,hbx2,hkn2,hall2,hlkA,hlkK,hic,p2,hkx,hne1,hL1,Ku,Oi,Om,ayI,Kt.down,agX]|refine Av ?_ ?_<;>intro hb|refine fdq ?_|fail))
    refine aKT (fun _=>0) [([],[]),([],[.cells 0 0 25]),([],[.blk 0]),([],[]),([],[.cells 0 0 1]),([],[.cells 0 0 25]),([],[.blk 0]),([],[.blk 0]),([],[])] (by kernel_rfl) ?_ (fun _=>?_)
    ·simp only[az0,aCB]
     exact⟨by simp,by simp,by simp,by simp[Ox],by simp,by simp[Ox],by simp,by simp,by simp,by simp[Ox],by simp,by simp[Ox],by simp,by simp[Ox],by simp,by simp[Ox],by simp,by simp,trivial⟩
    ·cases c:decide (((Nn p.1 (p.1 x) (Dj w N x):Nat):Int)<((p.1 x:Nat):Int))with
     |false=>
      have hst:rdS w N p x=p:=by
       unfold rdS;rw[if_neg]
       have:=of_decide_eq_false c
       omega
      (have hb:=trivial;with_reducible repeat' (first|simp only[hb,Vc.down,seval,Is.down,g92,hww,c]|refine Av ?_ ?_<;>intro hb|refine fd ?_|fail))
      exact Bh (kJ _ _ p ⟨by simp[up,g0],by simp[up,g8],by simp[up,g9],by simp[up,g10],by simp[up,g21],by simp[up,g90],by simp[up,g91],by simp[up],K.app _,hKn⟩ (by rw[aC6,hst]))
     |true=>
      have hst:rdS w N p x=(fun y=>if y=x then Nn p.1 (p.1 x) (Dj w N x)else p.1 y,true):=by
       unfold rdS;rw[if_pos]
       have:=of_decide_eq_true c
       omega
      have hK1:=(aCI (w:=w) (N:=N) (l:=l) (L:=L) [x] (fun y hy=>by simp at hy;rw[hy];exact hxm) p hKn).1
      simp only[aC6,aOE]at hK1
      have hms2:=fun q=>aOD (hkn2 q) K.tw K.nd hxm (.int .i64 (Nn p.1 (p.1 x) (Dj w N x):Nat))
      have hSk:=Jq (Eg K.kn)
      have hkp:(fun y=>if y=x then AV.int .i64 (Nn p.1 (p.1 x) (Dj w N x):Nat)else Ni p.1 y)=Ni (rdS w N p x).1:=by rw[hst];exact aKU p.1 x _
      rw[hkp]at hms2
      (have hb:=trivial;with_reducible repeat' (first|simp only[hb,Vc.down,seval,Is.down,g8,g10,g92,hww,c,hbx2,hkn2,hms2,hSk,w1,w2,w3,w4,Kt.down]|refine Av ?_ ?_<;>intro hb|refine fd ?_|fail))
      exact Bh (kJ _ _ (rdS w N p x) ⟨by simp[up,g0],by simp[up,g8],by simp[up,g9],by simp[up,g10],by simp[up,hst],by simp[up,g90],by simp[up,g91],by simp[up],(K.put _).app _,hK1⟩ rfl)
   ·simp only[aO7,agX]at hrv
    obtain⟨lv,hlv⟩:∃lv,Ao 12 (hf (h++[CB.live 25 true true [Bm x]])) (.slr 4 vb 0 (Dj w N x).length)=lv:=⟨_,rfl⟩
    have hlv2:=hlv
    rw[aNX]at hlv2
    have hlvR:∀j∈lv,H.length+5≤j∧j≠b:=fun j hj=>hR j (aCO (e:=12) (az2 (l:=[CB.live 25 true true [Bm x]]) hrd) j (by rw[agX,hlv];exact hj))
    have hany:(lv.any fun y=>y==H.length+4||y==H.length+3)=false:=by
     rw[List.any_eq_false]
     intro j hj
     have:=(hlvR j hj).1
     simp
     omega
    have hne1:(H.length+1=H.length)=False:=eq_false (by omega)
    (have hb:=trivial;with_reducible repeat' (first|simp only[hb,Vc.down,seval,Is.down,g8,g10,g90,g91,g92,hdd,hii,hlst,hx,w1,w2,w3,w4,hbx2,hkn2,hall2,hlkA,hlkK,hic,p2,hkx,hrv,hlv2,hne1,hL1,hany,Ku,Oi,Om,ayI,Kt.down,agX]|refine Av ?_ ?_<;>intro hb|refine fdq ?_|fail))
    refine aKT (fun _=>0) [([],[]),([],[.cells 0 0 25]),([],[.blk 0]),([],[]),([],[.cells 0 0 1]),([],[.cells 0 0 25]),([],[.blk 0]),([],[.blk 0]),([],[])] (by kernel_rfl) ?_ (fun _=>?_)
    ·simp only[az0,aCB]
     exact⟨by simp,by simp,by simp,by simp[Ox],by simp,by simp[Ox],by simp,by simp,by simp,by simp[Ox],by simp,by simp[Ox],by simp,by simp[Ox],by simp,fun y hy=>.inr (by obtain⟨j,_,rfl⟩:=aJ1.1 hy;simp[Ox]),by simp,by simp,trivial⟩
    ·cases c:decide (((Nn p.1 (p.1 x) (Dj w N x):Nat):Int)<((p.1 x:Nat):Int))with
     |false=>
      have hst:rdS w N p x=p:=by
       unfold rdS;rw[if_neg]
       have:=of_decide_eq_false c
       omega
      (have hb:=trivial;with_reducible repeat' (first|simp only[hb,Vc.down,seval,Is.down,g92,hww,c]|refine Av ?_ ?_<;>intro hb|refine fd ?_|fail))
      exact Bh (kJ _ _ p ⟨by simp[up,g0],by simp[up,g8],by simp[up,g9],by simp[up,g10],by simp[up,g21],by simp[up,g90],by simp[up,g91],by simp[up],K.app _,hKn⟩ (by rw[aC6,hst]))
     |true=>
      have hst:rdS w N p x=(fun y=>if y=x then Nn p.1 (p.1 x) (Dj w N x)else p.1 y,true):=by
       unfold rdS;rw[if_pos]
       have:=of_decide_eq_true c
       omega
      have hK1:=(aCI (w:=w) (N:=N) (l:=l) (L:=L) [x] (fun y hy=>by simp at hy;rw[hy];exact hxm) p hKn).1
      simp only[aC6,aOE]at hK1
      have hms2:=fun q=>aOD (hkn2 q) K.tw K.nd hxm (.int .i64 (Nn p.1 (p.1 x) (Dj w N x):Nat))
      have hSk:=Jq (Eg K.kn)
      have hkp:(fun y=>if y=x then AV.int .i64 (Nn p.1 (p.1 x) (Dj w N x):Nat)else Ni p.1 y)=Ni (rdS w N p x).1:=by rw[hst];exact aKU p.1 x _
      rw[hkp]at hms2
      (have hb:=trivial;with_reducible repeat' (first|simp only[hb,Vc.down,seval,Is.down,g8,g10,g92,hww,c,hbx2,hkn2,hms2,hSk,w1,w2,w3,w4,Kt.down]|refine Av ?_ ?_<;>intro hb|refine fd ?_|fail))
      exact Bh (kJ _ _ (rdS w N p x) ⟨by simp[up,g0],by simp[up,g8],by simp[up,g9],by simp[up,g10],by simp[up,hst],by simp[up,g90],by simp[up,g91],by simp[up],(K.put _).app _,hK1⟩ rfl)
  ·exact⟨by simp[up,g0],by simp[up,g8],by simp[up,g9],by simp[up,g10],by simp[up],by simp[up],by simp[up],by simp[up],K,hKn⟩
  obtain⟨rfl,g0,g8,g9,g10,g21,K⟩:=hk
  obtain⟨a1,a2,a3,a4⟩:=aCI (w:=w) (N:=N) (l:=l) L (fun _ h=>h) (f,false) hKn
  generalize hp:List.foldl (rdS w N) (f,false) L=p at *
  obtain⟨g,c⟩:=p
  cases c with
  |false=>
   (have hb:=trivial;with_reducible repeat' (first|simp only[hb,Vc.down,seval,Is.down,g21]|refine Av ?_ ?_<;>intro hb|refine fd ?_|fail))
   obtain⟨a5,a6⟩:=a4 rfl
   cases a5
   exact kQ _ _ _ ⟨rfl,by simp[up,g8],by simp[up,g10],f,K,a1,a6⟩
  |true=>
   (have hb:=trivial;with_reducible repeat' (first|simp only[hb,Vc.down,seval,Is.down,g21]|refine Av ?_ ?_<;>intro hb|refine fd ?_|fail))
   have hlt:=(a3 rfl).resolve_left (by simp)
   simp only at hlt
   exact Bh (kJ _ _ () ⟨by simp[up,g0],by simp[up,g8],by simp[up,g9],by simp[up,g10],g,K,a1,by omega⟩ rfl)
 ·exact⟨by simp[up,g0],by simp[up,g8],by simp[up,g9],by simp[up,g10],_,K,hK0,by omega⟩
 obtain⟨rfl,g8,g10,f,K,hKn,hst⟩:=hk
 obtain⟨xb,hbx⟩:=K.bx
 (have hb:=trivial;with_reducible repeat' (first|simp only[hb,Vc.down,seval,Is.down,g8,g10,hbx,Kt.down]|refine Av ?_ ?_<;>intro hb|refine fd ?_|fail))
 exact⟨L,f,av,b,K,hKn,hst⟩
theorem Lc{w:Am}{N:Nat}{l:List Dq}{s:St}{o:Nat × List St}:o∈(Jv w N l).ops s↔∃c∈Dj w N s,o=(c.c.toNat,c.to):=by
 show o∈(Dj w N s).map _↔_
 rw[aJ1]
 exact⟨fun⟨c,h1,h2⟩=>⟨c,h1,h2.symm⟩,fun⟨c,h1,h2⟩=>⟨c,h1,h2.symm⟩⟩
theorem aI9{w:Am}{N:Nat}{L:List (Int × Bool)}{f:Nat}{o:Je}(ho:o∈Dj w N (L,f))(g:Nat):∃p x,aQ2 w N (L,f) o p x∧Je.mk o.k o.i o.c (toF L g o.k o.i x)∈Dj w N (L,g):=by
 obtain⟨p,x,I⟩:=awQ.1 ho
 exact⟨p,x,I,awQ.2 ⟨p,x,I.k4,I.hp,I.hx,I.can,I.safe,I.c,rfl⟩⟩
theorem aR0{w:Am}{N:Nat}{l:List Dq}{L:List (Int × Bool)}{f g:Nat}(hg:g≤f){k:Nat}(hc:Go.Ev.Can (Jv w N l) (L,f) k):Go.Ev.Can (Jv w N l) (L,g) k:=
 hc.sim (fun a b=>a.1=b.1∧b.2≤a.2) (fun a b e h=>by
  have h:aJX a.1 l=true:=h
  show aJX b.1 l=true
  rw[←e.1];exact h) (fun a b e o ho=>by
  obtain⟨M,m⟩:=a
  obtain⟨M',m'⟩:=b
  obtain⟨e1,e2⟩:=e
  simp only at e1 e2
  subst e1
  obtain⟨c,hc,rfl⟩:=Lc.1 ho
  obtain⟨p,x,I,hm⟩:=aI9 hc m'
  refine⟨_,Lc.2 ⟨_,hm,rfl⟩,ao8 _,fun y hy=>?_⟩
  rcases Ob.1 hy with rfl|⟨h3,h0,rfl⟩
  ·exact⟨(M.set c.i (Db c.k true x),m),by rw[I.to];exact Ob.2 (.inl rfl),rfl,e2⟩
  ·exact⟨(M.set c.i (Db c.k false x),m-1),by rw[I.to];exact Ob.2 (.inr ⟨h3,by show 0<m;omega,rfl⟩),rfl,by show m'-1≤m-1;omega⟩) (L,g) ⟨rfl,hg⟩
theorem set_set{α:Type}(L:List α)(i:Nat)(x y:α):(L.set i x).set i y=L.set i y:=List.set_set ..
theorem aQ6{w:Am}{N:Nat}(hw:WOk w N){l:List Dq}:∀(f:Nat) (s:St) (k:Nat),Go.Ev.Can (Jv w N l) s k→s.2=0→∃k',Go.Ev.Can (Jv w N l) (s.1,f) k'
 |0,s,k,h,e=>⟨k,by rw[show(s.1,0)=s from Prod.ext rfl e.symm];exact h⟩
 |f+1,s,k,h,e=>by
  have IH:=aQ6 hw (l:=l) f
  induction h with
  |met h=>exact⟨0,.met h⟩
  | @op s c to k k' h ht hk ih=>
    obtain⟨L,z⟩:=s
    simp only at e
    subst e
    obtain⟨o,ho,e⟩:=Lc.1 h
    cases e
    obtain⟨p,x,I,hm⟩:=aI9 ho (f+1)
    have hil:=(aM0.1 I.hx).1
    have hfst:(L.set o.i (Db o.k true x),0)∈o.to:=by rw[I.to];exact Ob.2 (.inl rfl)
    obtain⟨k1,h1⟩:=ih _ hfst rfl
    simp only at h1
    have hop:=Lc (l:=l).2 ⟨_,hm,rfl⟩
    by_cases k3:o.k=3
    ·obtain⟨k2,h2⟩:=IH _ _ (ht _ hfst) rfl
     simp only at h2
     have hx2:x.2=false:=by
      have:=I.can
      unfold aO2 at this
      rw[k3]at this
      simp only[Int.reduceEq,if_false,if_true,aJ9,aP8]at this
      exact this.1
     obtain⟨a,b⟩:=x
     simp only at hx2
     subst hx2
     have ef:Db o.k false (a,false)=(2,false):=by rw[k3];rfl
     have et:Db o.k true (a,false)=(0,false):=by rw[k3];rfl
     have hl2:o.i<(L.set o.i (2,false)).length:=by simpa using hil
     have hch:Je.mk 4 o.i (aOX p 4) (toF (L.set o.i (2,false)) f 4 o.i (2,false))∈Dj w N (L.set o.i (2,false),f):=awQ.2 ⟨p,(2,false),.inr (.inr (.inr rfl)),I.hp,aE6 hil,rfl,by
      have m1:=a0M (x:=(2,false)) (y:=Db 4 true (2,false)) hw hl2 (by simp[tgB])
      have hle:=(aY0 w N (L.set o.i (2,false))).1
      show aD7 w N (L.set o.i (2,false)) 4 o.i true (2,false)=true
      unfold aD7
      rw[show((2:Int),false).2=false from rfl,set_set]at *
      rw[set_set]at m1
      rw[set_set]
      rw[decide_eq_false (by omega),decide_eq_true (by omega)]
      rfl,rfl,rfl⟩
     have h3:∃k3,Go.Ev.Can (Jv w N l) (L.set o.i (2,false),f) k3:=⟨_,.op (Lc.2 ⟨_,hch,rfl⟩) (k':=k2) (fun y hy=>by
      rcases Ob.1 hy with rfl|⟨h,_⟩
      ·show Go.Ev.Can _ ((L.set o.i (2,false)).set o.i (Db 4 true (2,false)),f) k2
       rw[set_set]
       rw[et]at h2
       exact h2
      ·cases h) (ao8 _)⟩
     obtain⟨k3',h3⟩:=h3
     refine⟨_,.op hop (k':=max k1 k3') (fun y hy=>?_) (ao8 _)⟩
     rcases Ob.1 hy with rfl|⟨_,_,rfl⟩
     ·exact h1.mono (by omega)
     ·rw[ef];exact h3.mono (by omega)
    ·refine⟨_,.op hop (k':=k1) (fun y hy=>?_) (ao8 _)⟩
     rcases Ob.1 hy with rfl|⟨h,_⟩
     ·exact h1
     ·exact absurd h k3
noncomputable def bs(w:Am)(N:Nat)(l:List Dq)(s:St):Nat:=(Jv w N l).bst Cd s
theorem aQC{w:Am}{N:Nat}{l:List Dq}{s:St}(hs:(Jv w N l).Fine Cd s):bs w N l s<Cd↔∃k,Go.Ev.Can (Jv w N l) s k:=by
 constructor
 ·intro h
  refine Classical.byContradiction fun n=>?_
  unfold bs at h
  rw[Sys.bst_none n]at h
  omega
 ·exact hs.lt
theorem aNR{v v':St→AV}:∀{L:List St},(∀s∈L,v s=v' s)→En L v=En L v'
 | [],_=>rfl
 |a::L,h=>by
  show AV.agg (Bm a)::v a::En L v=.agg (Bm a)::v' a::En L v'
  rw[h a (by simp),aNR fun s hs=>h s (by simp[hs])]
theorem CK.congr{w:Am}{N:Nat}{H:Aa}{s0:St}{U:St→Prop}{L:List St}{b:Nat}{av:St→AV}{f g:St→Nat}{h:Aa}(K:CK w N H s0 U L b av f h)(e:∀s∈L,f s=g s):CK w N H s0 U L b av g h:=
 ⟨K.keep,K.all,K.lst,by rw[←aNR (v:=Ni f) (v':=Ni g) fun s hs=>by unfold Ni;rw[e s hs]];exact K.kn,K.bx,K.b2,K.b3,K.b4,K.ch,K.nd,K.tw,K.un,K.hd⟩
theorem a3U(w:Am)(N:Nat)(l:List Dq)(s:St)(hs:(Jv w N l).Fine Cd s):bs w N l s≤Cd:=by
 by_cases e:∃k,Go.Ev.Can (Jv w N l) s k
 ·exact Nat.le_of_lt (hs.lt e)
 ·unfold bs;rw[Sys.bst_none e];exact ao8 _
theorem aGE{w:Am}{N:Nat}(hw:WOk w N)(hwb:Hz w=true)(h6:w.parts.length≤6)(d:Int){H:Aa}{lb:Nat}{wf:Bool}(hlb:H[lb]?=some (aoN w d wf)){s0:St}(hu:InU w.parts.length s0 s0)(hf3:s0.2≤3)(l:List Dq)(nn:Bool)(hl:l.length≤maxLen)(hlp:∀x∈l,0≤x.part∧x.part<12):
 ShQ Ei 41 [.ptr lb 0 0,.agg (Bm s0),Bo 3 true nn (l.map Dq.cells)] H fun o G=>(∃(L:List St) (av:St→AV) (b:Nat),o=.ret (.tup [.mapr (H.length+3),.mapr (H.length+1)])∧CK w N H s0 (InU w.parts.length s0) L b av (bs w N l) G∧s0∈L∧(∀s∈L,(Jv w N l).Fine Cd s)∧∀s∈L,∀o∈Dj w N s,∀x∈o.to,x∈L)∧Hv [] H G:=by
 obtain⟨o,G,hc,L,f,av,b,ho,K,hKn,hst⟩:=a0K hw (by omega) d hlb hu.l12 hf3 l nn hl hlp (U:=InU w.parts.length s0) (B:=186624) (by omega) (fun L hL h=>aJC h6 hf3 L hL h) hu (fun s h=>⟨h.l12,Nat.le_trans h.fl hf3⟩) (fun s h o ho=>aPI hwb h ho)
 have hLB:=aJC h6 hf3 L K.nd K.un
 have hst2:∀s∈L,∀o∈(Jv w N l).ops s,f s≤min Cd (o.1+Sys.mx f o.2):=fun s hs o ho=>by
  obtain⟨c,hc,rfl⟩:=Lc.1 ho
  exact hst s hs c hc
 have hbt:=fun s (hs:s∈L)=>hKn.bst hst2 (by unfold Cd;omega) hs
 have hfb:∀s∈L,f s=bs w N l s:=fun s hs=>(hbt s hs).1
 refine⟨o,G,hc,⟨L,av,b,ho,K.congr hfb,aqM K.hd,fun s hs=>⟨fun h=>?_⟩,fun s hs o ho x hx=>?_⟩,K.keep⟩
 ·have h1:=(hbt s hs).2 h
  rw[hfb s hs]at h1
  exact h1
 ·exact(hKn.ops s hs _ (Lc.2 ⟨o,ho,rfl⟩)).2.2.2 x hx
theorem aX6{w:Am}{N:Nat}(hw:WOk w N)(hwb:Hz w=true)(h6:w.parts.length≤6){s:St}(h12:s.1.length=12)(hd:∀x∈s.1,0≤x.1∧x.1≤2)(hf3:s.2≤3)(l:List Dq)(hl:l.length≤maxLen)(hlp:∀x∈l,0≤x.part∧x.part<12):(Jv w N l).Fine Cd s:=by
 obtain⟨o,G,hc,⟨L,av,b,_,K,hm,hF,_⟩,_⟩:=aGE hw hwb h6 0 (H:=[aoN w 0 false]) (lb:=0) rfl (s0:=s) ⟨h12,hd,rfl,ao8 _⟩ hf3 l true hl hlp
 exact hF s hm
theorem a0R(p:Ai)(d:Int):0≤anV p d∧anV p d≤2:=by
 unfold anV;split
 ·decide
 ·split<;>decide
theorem aHF(w:Am)(d:Int):∀x∈Af w d,0≤x.1∧x.1≤2:=by
 intro x hx
 unfold Af at hx
 rcases awX.1 hx with hx|hx
 ·obtain⟨p,_,rfl⟩:=aJ1.1 hx
  exact a0R p d
 ·obtain⟨_,rfl⟩:=List.mem_replicate.1 hx
  decide
theorem aPX{w:Am}{N:Nat}(hw:WOk w N)(hwb:Hz w=true)(h6:w.parts.length≤6)(d:Int)(l:List Dq)(nn:Bool)(hl:l.length≤maxLen)(hlp:∀x∈l,0≤x.part∧x.part<12):
 Ei.call (.fn 36) [.ptr 0 0 0,Bo 3 true nn (l.map Dq.cells)] [aoN w d false]=some (.ret (.bool (decide (bs w N l (Af w d,0)<Cd))),[aoN w d false]):=by
 have hpc:=aL5 w d false (by omega)
 have hL:=aBF (w:=w) (d:=d) (by omega)
 have hdg:=aHF w d
 obtain⟨s0,hs0⟩:∃s0:St,(Af w d,0)=s0:=⟨_,rfl⟩
 have hst1:Cf (Af w d)++[AV.int .i64 0]=Bm s0:=by rw[←hs0];rfl
 have hu:InU w.parts.length s0 s0:=by rw[←hs0];exact⟨hL,hdg,rfl,ao8 _⟩
 have hf3:s0.2≤3:=by rw[←hs0];exact Nat.zero_le _
 rw[hs0]
 have f0:=Gh (Af w d)
 have k0:=Gi (Af w d)
 have v0:=aAW (Af w d)
 have l0:=aA9 (Af w d)
 have r0:=Ou (Af w d)
 have p0:=am1 (Af w d)
 have n0:=aDT (Af w d)
 have i0:=aDI (Af w d)
 have hpl:(Cf (Af w d)).length=24:=by rw[Bd];omega
 have htk24:=aAR (l:=Cf (Af w d)) (i:=24) (by omega)
 have w1:=Hh hu.l12
 have w2:=Ff s0
 have w3:=Gf s0
 have w4:aC5 25 (Bm s0)=Bm s0:=aAR (by omega)
 have b1:aC5 25 (Cf (Af w d))=Cf (Af w d):=aAR (by omega)
 unfold aoN at hpc
 unfold aoN
 obtain⟨qC,hqC⟩:∃q,Fn.func 41=q:=⟨_,rfl⟩
 refine ce Tryz.func36 ?_
 simp only[Tryz.f36]
 (have hb:=trivial;with_reducible repeat' (first|simp only[hb,Vc.down,seval,ba2.down,hpc,f0,k0,v0,l0,r0,p0,n0,i0,hpl,htk24,hst1,b1,w1,w2,w3,w4,hqC,agX]|refine Av ?_ ?_<;>intro hb|refine fd ?_|fail))
 obtain⟨Hc,hHc⟩:∃Hc:Aa,[CB.live 4 false false [[AV.int IntKind.i64 w.rooms,AV.int IntKind.i64 w.need,Bo 9 true w.nn (List.map Ai.cells w.parts),AV.int IntKind.i64 d]],CB.live 25 true true [Bm s0]]=Hc:=⟨_,rfl⟩
 rw[hHc]
 generalize hE:cl Ei Hc (some (.func qC [] [])) (some [.ptr 0 0 0,.agg (Bm s0),Bo 3 true nn (l.map Dq.cells)])=E
 rw[←hqC]at hE
 have hcl2:(Gt Hc).length=2:=by rw[Bv,←hHc];rfl
 have hlb2:(Gt Hc)[0]?=some (aoN w d false):=by rw[←hHc];rfl
 obtain⟨o,G,es,M,e1,e2,⟨L,av,b,rfl,K,hm,hF,hcl⟩,e4,e5,e6,e7,e8⟩:=aN6 (O:=Ei) (f:=41) (H:=Hc) (args:=[.ptr 0 0 0,.agg (Bm s0),Bo 3 true nn (l.map Dq.cells)]) rfl rfl (aGE hw hwb h6 d hlb2 hu hf3 l nn hl hlp)
 have e9:=hE.symm.trans e1
 subst e9
 have hl2:Hc.length=2:=by rw[←hHc];rfl
 have hkn:M[5]?=some (Da (En L (Ni (bs w N l)))):=(e7 5 (by omega)).trans (by have:=K.kn;rwa[hcl2]at this)
 have hb1:M[1]?=some (.live 25 true true [Bm s0]):=(e6 1 (by omega)).trans (by rw[←hHc];rfl)
 have hb0:M[0]?=some (.live 4 false false [[AV.int IntKind.i64 w.rooms,AV.int IntKind.i64 w.need,Bo 9 true w.nn (List.map Ai.cells w.parts),AV.int IntKind.i64 d]]):=(e6 0 (by omega)).trans (by rw[←hHc];rfl)
 have hlk:=aG6 hkn K.tw hm
 have hkv:Ni (bs w N l) s0=.int .i64 (bs w N l s0:Int):=rfl
 (have hb:=trivial;with_reducible repeat' (first|simp only[hb,Vc.down,seval,ba2.down,e2,hl2,hkn,hb1,hb0,hlk,hkv,w1,w2,w3,w4,Kt.down]|refine Av ?_ ?_<;>intro hb|refine fd ?_|fail))
 have hdd:decide ((bs w N l s0:Int)<1099511627776)=decide (bs w N l s0<Cd):=by rw[decide_eq_decide];unfold Cd;omega
 rw[hdd]
theorem abJ{w:Am}{d:Int}{l:List Dq}{f:Int}(h:Ky w d l f=0):w.parts.length≤6∧Hz w=true∧aDP d=true∧Ny w l=true∧0≤f∧f≤3:=by
 unfold Ky at h
 split at h
 ·cases h
 ·rename_i h1
  split at h
  ·cases h
  ·rename_i h2
   simp only[Bool.or_eq_true,aP8,not_or,Bool.not_eq_false,decide_eq_true_eq]at h1 h2
   exact⟨by omega,h2.1.1.1.1,h2.1.1.1.2,h2.1.1.2,by omega,by omega⟩
theorem aG2{n:Int}:∀{l:List Dq} {y:Option Dq},Eu n y l=true→∀x∈l,Jd x.part 0 n=true
 | [],_,_,x,hx=>by cases hx
 |a::l,y,h,x,hx=>by
  have h1:Jd a.part 0 n=true∧Eu n (some a) l=true:=by
   cases y with
   |none=>simp only[Eu,aJ9]at h;exact h
   |some z=>simp only[Eu,aJ9]at h;exact⟨h.1.1,h.2⟩
  rcases aJY.1 hx with rfl|hx
  ·exact h1.1
  ·exact aG2 h1.2 x hx
theorem aDG{w:Am}(hl:w.parts.length≤1000){l:List Dq}(h:Ny w l=true):∀x∈l,0≤x.part∧x.part<(w.parts.length:Int):=fun x hx=>by
 have:=aG2 h x hx
 rw[It (by omega) (by omega)]at this
 simp only[Jd,aJ9,decide_eq_true_eq]at this
 omega
theorem a7G{w:Am}{N:Nat}(hw:WOk w N)(hwb:Hz w=true)(h6:w.parts.length≤6)(d:Int)(x:Dq)(hx:0≤x.part∧x.part<12):
 Ei.call (.fn 38) [.agg [.int .i64 x.part,.bool x.opn,.bool x.good],.ptr 0 0 0] [.live 1 false false [[.ptr 1 0 0]],.live 4 false false [[.int .i64 w.rooms,.int .i64 w.need,Bo 9 true w.nn (w.parts.map Ai.cells),.int .i64 d]]]=some (.ret (.bool (!decide (bs w N [x] (Af w d,0)<Cd))),[.live 1 false false [[.ptr 1 0 0]],.live 4 false false [[.int .i64 w.rooms,.int .i64 w.need,Bo 9 true w.nn (w.parts.map Ai.cells),.int .i64 d]]]):=by
 have hL:=aPX hw hwb h6 d [x] true (by unfold maxLen;simp) (fun y hy=>by simp at hy;rw[hy];exact hx)
 have e1:Bo 3 true true ([x].map Dq.cells)=.imm 3 true [x.cells]:=rfl
 rw[e1]at hL
 unfold aoN at hL
 simp only[Dq.cells]at hL
 generalize decide (bs w N [x] (Af w d,0)<Cd)=c at *
 (refine ce Tryz.func38 ?_;simp only[Tryz.f38];(have hb:=trivial;with_reducible repeat' (first|simp only[hb,Vc.down,seval,bcS.down,hL,agX]|refine Av ?_ ?_<;>intro hb|refine fd ?_|fail)))
theorem aRG{l:List Dq}{nn:Bool}{g:Nat}{wq:Am}{dq:Int}{p:Dq→Bool}(hp:∀x∈l,Ei.call (.fn g) (.agg [.int .i64 x.part,.bool x.opn,.bool x.good]::[.ptr 0 0 0]) [.live 1 false false [[.ptr 1 0 0]],.live 4 false false [[.int .i64 wq.rooms,.int .i64 wq.need,Bo 9 true wq.nn (wq.parts.map Ai.cells),.int .i64 dq]]]=some (.ret (.bool (p x)),[.live 1 false false [[.ptr 1 0 0]],.live 4 false false [[.int .i64 wq.rooms,.int .i64 wq.need,Bo 9 true wq.nn (wq.parts.map Ai.cells),.int .i64 dq]]]))(hl:l.length≤maxLen):
 Ei.call (.fn 37) [Bo 3 true nn (l.map Dq.cells),.func (.func g) [] [.ptr 0 0 0]] [.live 1 false false [[.ptr 1 0 0]],.live 4 false false [[.int .i64 wq.rooms,.int .i64 wq.need,Bo 9 true wq.nn (wq.parts.map Ai.cells),.int .i64 dq]]]=some (.ret (.int .i64 (idx p l 0)),[.live 1 false false [[.ptr 1 0 0]],.live 4 false false [[.int .i64 wq.rooms,.int .i64 wq.need,Bo 9 true wq.nn (wq.parts.map Ai.cells),.int .i64 dq]]]):=by
 (refine ce Tryz.func37 ?_;simp only[Tryz.f37];(have hb:=trivial;with_reducible repeat' (first|simp only[hb,Vc.down,seval,aH3.down,agX]|refine Av ?_ ?_<;>intro hb|refine fd ?_|fail)))
 refine Hn (lst 19 l (fun i (s:Int) t h=>s=i∧h=[.live 1 false false [[.ptr 1 0 0]],.live 4 false false [[.int .i64 wq.rooms,.int .i64 wq.need,Bo 9 true wq.nn (wq.parts.map Ai.cells),.int .i64 dq]]]∧t 0=Bo 3 true nn (l.map Dq.cells)∧t 1=.func (.func g) [] [.ptr 0 0 0]∧t 7=.int .i64 l.length∧t 8=.int .i64 i)
  (fun rest s=>idx p rest s) (fun r e t h=>h=[.live 1 false false [[.ptr 1 0 0]],.live 4 false false [[.int .i64 wq.rooms,.int .i64 wq.need,Bo 9 true wq.nn (wq.parts.map Ai.cells),.int .i64 dq]]]∧((e=.exit 0∧r= -1)∨(e=.ret∧t 4=.int .i64 r))) ?_ ?_ 0 _ _ ?_) (fun e t h hk=>?_)
 ·rintro s t h Q' kQ ⟨rfl,rfl,h0,h1,h7,h8⟩
  (have hb:=trivial;with_reducible repeat' (first|simp only[hb,Vc.down,seval,aH3.down,h0,h1,h7,h8,aC7,decide_false]|refine Av ?_ ?_<;>intro hb|refine fd ?_|fail))
  exact kQ _ _ _ ⟨rfl,.inl ⟨rfl,rfl⟩⟩
 ·rintro x rest i s t h J Q' kJ kQ hx hi ⟨rfl,rfl,h0,h1,h7,h8⟩
  have hpx:=hp x (aqM hx)
  have hd:decide ((i:Int)<(l.length:Int))=true:=by simpa using hi
  (have hb:=trivial;with_reducible repeat' (first|simp only[hb,Vc.down,seval,aH3.down,h0,h1,h7,h8,hd,hx,Dq.cells,hpx,Ci hi hl]|refine Av ?_ ?_<;>intro hb|refine fd ?_|fail))
  ·exact kQ _ _ _ ⟨rfl,.inr ⟨rfl,by simp[up,idx,hb]⟩⟩
  ·exact Bh (kJ _ _ (i+1) ⟨by simp,rfl,by simp[up,h0],by simp[up,h1],by simp[up,h7],by simp[up]⟩ (by simp[idx,hb]))
 ·exact⟨rfl,rfl,by simp[up,Oc],by simp[up,Oc],by simp[up],by simp[up]⟩
 ·obtain⟨rfl,⟨rfl,hi⟩|⟨rfl,hi⟩⟩:=hk
  ·(have hb:=trivial;with_reducible repeat' (first|simp only[hb,Vc.down,seval,aH3.down]|refine Av ?_ ?_<;>intro hb|refine fd ?_|fail))
   rw[hi]
  ·(have hb:=trivial;with_reducible repeat' (first|simp only[hb,Vc.down,seval,aH3.down,hi]|refine Av ?_ ?_<;>intro hb|refine fd ?_|fail))
noncomputable def aXB(w:Am)(N:Nat)(d:Int)(l:List Dq):Int:=idx (fun x=> !decide (bs w N [x] (Af w d,0)<Cd)) l 0
theorem ba3{w:Am}{N:Nat}(hw:WOk w N)(hs:w.small)(d:Int)(l:List Dq)(nn:Bool)(hl:l.length≤maxLen)(h:Ky w d l 0=0):Ei.call (.fn 12) [.agg [.int .i64 w.rooms,.int .i64 w.need,Bo 9 true w.nn (w.parts.map Ai.cells)],.int .i64 d,Bo 3 true nn (l.map Dq.cells)] []=some (.ret (.tup (if bs w N l (Af w d,0)<Cd then [.int .i64 0,.int .i64 6]else [.int .i64 (aXB w N d l),.int .i64 0])),[]):=by
 obtain⟨h6,hwb,hdb,hgb,_,_⟩:=abJ h
 have h1:=aQK w hs d
 have h2:=aYV w l nn hl
 rw[hwb,hdb,Bool.and_self]at h1
 rw[hgb]at h2
 have c0:decide ((w.parts.length:Int)>6)=false:=decide_eq_false (by omega)
 have hlp:=aDG (by omega) hgb
 have hL:=aPX hw hwb h6 d l nn hl (fun x hx=>by have:=hlp x hx;omega)
 unfold aoN at hL
 have hI:=aRG (g:=38) (l:=l) (nn:=nn) (wq:=w) (dq:=d) (fun x hx=>a7G hw hwb h6 d x (by have:=hlp x hx;omega)) hl
 change Ei.call _ _ _=some (Dm.ret (.int .i64 (aXB w N d l)),_)at hI
 generalize aXB w N d l=z at *
 cases c1:decide (bs w N l (Af w d,0)<Cd)with
 |true=>
  rw[if_pos (of_decide_eq_true c1)]
  rw[c1]at hL
  (refine ce Tryz.func12 ?_;simp only[Tryz.f12];(have hb:=trivial;with_reducible repeat' (first|simp only[hb,Vc.down,seval,a9O.down,c0,h1,h2,hL,aKL,aHS,aH6,aIF,agX]|refine Av ?_ ?_<;>intro hb|refine fd ?_|fail)))
 |false=>
  rw[if_neg (of_decide_eq_false c1)]
  rw[c1]at hL
  (refine ce Tryz.func12 ?_;simp only[Tryz.f12];(have hb:=trivial;with_reducible repeat' (first|simp only[hb,Vc.down,seval,a9O.down,c0,h1,h2,hL,hI,aKL,aHS,aH6,aIF,agX]|refine Av ?_ ?_<;>intro hb|refine fd ?_|fail)))
end Go.Proofs.YtcncggaobhbomaaGreatDoor
