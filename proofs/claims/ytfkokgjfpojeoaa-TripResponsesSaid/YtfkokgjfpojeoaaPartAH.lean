/- The functions of the layer, walked. -/
import Derived.Test.YtfkokgjfpojeoaaPartAF
import Derived.Test.YtfkokgjfpojeoaaPartAG
open List renaming length_map→acL,getElem?_map→acR,mem_map→aqD,range→aAM,getElem?_eq_getElem→aAN,getElem?_range→aAO,mem_of_getElem?→aAP,getElem?_set_ne→aCF,getElem?_set_self→aC6,ext_getElem?→aEO,getElem?_eq_none→aER,length_range→aG6,any_cons→aHJ,getElem?_of_mem→aHM,all_cons→aIC,getElem?_append_left→aJZ,mem_range→aKM,foldl_cons→aLD,map_eq_nil_iff→aLE,take_add_one→aLG,filter_append→aLH,getElem?_append_right→aLI,replicate→aM9,getElem?_replicate→aOD,length_filter_le→aOX
open Option renaming map_some→acZ,getD_some→aID,bind_eq_some_iff→aLF,isSome_iff_exists→aOW
open Nat renaming le_refl→aC7
open Int renaming lt_irrefl→aE9
open Bool renaming and_eq_true→aON
set_option linter.unusedSimpArgs false
set_option linter.unusedVariables false
namespace Go.Proofs.Ytfkokgjfpojeoaa
open Go.Ev Go Go.Ev.Bfs
set_option maxRecDepth 100000
set_option maxHeartbeats 16000000
def scR(m:Ah)(vt:Nat)(v w:Int × Int):Prop:=∃a∈Fz m,Xc m vt a=true∧stp m v a=w
abbrev rS(m:Ah)(vt:Nat)(sl:List Int)(r:Nat)(v:Int × Int):Nat:=rT (pK sl) (Xc m vt) (stp m) (Dy m) r v
theorem a64{m:Ah}(hm:Ce m=true)(vt:Nat)(v w:Int × Int):scR m vt v w↔∃a∈Dy m,Xc m vt a=true∧stp m v a=w:=by
 have key:∀{X Y:List (List Int × Int)},pF m X→pF m Y→(∃a∈X,Xc m vt a=true∧stp m v a=w)→∃a∈Y,Xc m vt a=true∧stp m v a=w:=fun {X Y} hX hY ⟨a,a1,a2,a3⟩=>by
  obtain⟨b,b1,b2,b3,_⟩:=hY.rep a (hX.leg a a1)
  refine⟨b,b1,?_,by rw[aLR b2 b3 v];exact a3⟩
  unfold Xc at a2 ⊢
  rw[b2];exact a2
 exact⟨key (eW hm) (Xo hm),key (Xo hm) (eW hm)⟩
theorem aYY{m:Ah}{vt:Nat}{D:List ((Int × Int) × List Nat)}(B:Fnd m (Fz m) D)(v w:Int × Int)(hv:v∈D.map (·.1))(hw:scR m vt v w):w∈D.map (·.1):=by
 obtain⟨x,hx,rfl⟩:=aqD.1 hv
 obtain⟨a,ha,_,rfl⟩:=hw
 obtain⟨kx,hkx⟩:=aHM hx
 obtain⟨i,hi,rfl⟩:=List.getElem_of_mem ha
 obtain⟨k',x',c1,c2,_⟩:=B.cls kx x.1 x.2 hkx i hi (.inl (rM hkx))
 rw[pJ (aAN hi)]at c2
 exact aqD.2 ⟨x',aAP c1,c2⟩
theorem aHU{m:Ah}(hm:Ce m=true){D E:List ((Int × Int) × List Nat)}(B:Fnd m (Fz m) D)(C:Fnd m (Dy m) E)(v:Int × Int):v∈D.map (·.1)↔v∈E.map (·.1):=by
 have hX:=eW hm
 have hY:=Xo hm
 constructor
 ·intro h
  obtain⟨x,hx,rfl⟩:=aqD.1 h
  obtain⟨k,hk⟩:=aHM hx
  obtain⟨k',y,h1,h2,_⟩:=Fnd.eq hX hY B C hk
  exact aqD.2 ⟨y,aAP h1,h2⟩
 ·intro h
  obtain⟨x,hx,rfl⟩:=aqD.1 h
  obtain⟨k,hk⟩:=aHM hx
  obtain⟨k',y,h1,h2,_⟩:=Fnd.eq hY hX C B hk
  exact aqD.2 ⟨y,aAP h1,h2⟩
theorem aVM{m:Ah}(hm:Ce m=true){vt:Nat}{sl:List Int}{D E:List ((Int × Int) × List Nat)}(B:Fnd m (Fz m) D)(C:Fnd m (Dy m) E){r:Nat}(hr:∀v∈E.map (·.1),rS m vt sl (r+1) v=rS m vt sl r v){out:Nat}(h1:∀v∈E.map (·.1),rS m vt sl r v≤out)(h2:out=0∨∃v∈E.map (·.1),rS m vt sl r v=out):az1 m vt sl (D.map (·.1)) 0 DS.none=some (out:Int)∧out≤Ia m:=by
 have h88:=Qw hm B
 have e:=aHU hm B C
 have:=aS4 (safe:=pK sl) (sc:=scR m vt) (D:=D.map (·.1)) (inc:=afC) (dng:=Xc m vt) (stp:=stp m) (sg:=Fz m) (F:=89) (aYY B) (fun n h0 h1=>by
  unfold afC
  rw[acL]at h1
  rw[Dz (by omega) (by omega)]) (fun v w=>Iff.rfl) (by rw[acL];omega) (a64 hm vt) (r:=r) (fun v hv=>hr v ((e v).1 hv)) (out:=out) (fun v hv=>h1 v ((e v).1 hv)) (h2.imp id fun⟨v,v1,v2⟩=>⟨v,(e v).2 v1,v2⟩)
 refine⟨this.1,Nat.le_trans this.2 ?_⟩
 rw[acL]
 exact aP0 hm B
theorem aUD{m:Ah}(hm:Ce m=true){vt:Nat}{sl:List Int}{D E:List ((Int × Int) × List Nat)}(B:Fnd m (Fz m) D)(C:Fnd m (Dy m) E){v:Int × Int}(hv:v∈E.map (·.1))(hr:rS m vt sl (Ia m+2) v≠rS m vt sl (Ia m+1) v):az1 m vt sl (D.map (·.1)) 0 DS.none=none∧rS m vt sl (Ia m+2) v=Ia m+2:=by
 have h88:=Qw hm B
 have e:=aHU hm B C
 exact aVO (safe:=pK sl) (sc:=scR m vt) (D:=D.map (·.1)) (inc:=afC) (dng:=Xc m vt) (stp:=stp m) (sg:=Fz m) (F:=89) (aYY B) (fun n h0 h1=>by
  unfold afC
  rw[acL]at h1
  rw[Dz (by omega) (by omega)]) (fun v w=>Iff.rfl) (by rw[acL];omega) (a64 hm vt) (L:=Ia m) (by rw[acL];exact aP0 hm B) ((e v).2 hv) hr
theorem a61{m:Ah}(vt:Nat)(sl:List Int):∀(r:Nat) (v:Int × Int),rS m vt sl r v≤r
 |0,v=>aC7 _
 |r+1,v=>by
  unfold rS rT
  by_cases h:pK sl v=true
  ·rw[if_pos h];exact Nat.zero_le _
  ·rw[if_neg h]
   have key:∀(l:List (List Int × Int)) (a:Nat),a≤r+1→l.foldl (fun a x=>max a (1+rT (pK sl) (Xc m vt) (stp m) (Dy m) r (stp m v x))) a≤r+1:=by
    intro l
    induction l with
    |nil=>intro a h;exact h
    |cons x l ih=>
     intro a h
     have h2:rT (pK sl) (Xc m vt) (stp m) (Dy m) r (stp m v x)≤r:=a61 (m:=m) vt sl r (stp m v x)
     exact ih _ (Nat.max_le.2 ⟨h,by omega⟩)
   exact key _ 1 (by omega)
theorem aZO{m:Ah}(hs:m.small)(hm:Ce m=true)(hN:(Dy m).length≤200)(H:Aa):∃(sb:Nat) (cS:CB) (srow:Nat→List AV) (es:List As) (H1:Aa),cl Ec H (some (.func (.func 59) [] [])) (some [.agg m.cells])=some (.ret (.slr 2 sb 0 (Dy m).length),es)∧Eh H es=H1∧(∀c,c<H.length→H1[c]?=H[c]?)∧H.length≤H1.length∧H1[sb]?=some cS∧(∀k,k<(Dy m).length→∃v0,srow k=[v0,.int .i64 (gS (Dy m) k).2]∧Rq (some cS) k=some (srow k))∧(∀G:Aa,(∀c,c<H1.length→G[c]?=H1[c]?)→∀k,k<(Dy m).length→∃R,(∀d,cY (rd (d+1) (hf G)) (srow k)=some (scC (gS (Dy m) k),R))∧R.length≤1):=by
 have KS:=aSS hs hm (by omega)
 have hXl:1≤(Dy m).length:=by
  rw[abT]
  exact Nat.mul_le_mul (yE m m.sens.length) (show 1≤(Fg m).length by have:=mP hm;have:=eT hm;omega)
 generalize Dy m=X at *
 obtain⟨v,es,H1,R,e1,e2,K1,r1,r2,r3⟩:=KS.cl (H:=H) (args:=[.agg m.cells]) (uA rfl) (by simp only[Ou,Um,aDK,Ly]) (by simp[Vx,aIC])
 rw[show([AV.agg m.cells].flatMap (Dk 12 (hf H)))=[]from by rw[List.flatMap_cons,Vk _ (show 8≤12 by omega) (Vx m)];rfl]at K1
 rcases bO r1 with⟨_,h1⟩|⟨sb,rows',rfl,w2,w3,_,w5⟩
 ·have:X=[]:=aLE.1 h1
  subst this;simp at hXl
 obtain⟨R',w6⟩:=w5 rfl
 rw[acL]at e1
 have w2':(H1[sb]?).bind Dn=some (2,false,rows'):=w2
 obtain⟨cS,hcS,_⟩:=aLF.1 w2'
 have srw:∀k,k<X.length→∃v0,rows'[k]?=some [v0,.int .i64 (gS X k).2]∧∃R,rd 5 (hf H1) v0=some (Ak 1 true false ((gS X k).1.map iv),R):=fun k hk=>by
  obtain⟨r,R7,k1,k2,_⟩:=aeT w6 (i:=k) (X:=scC (gS X k)) (by rw[acR,aAN hk,pJ (aAN hk)];rfl)
  obtain⟨v0,l1,R10,R11,rfl,w9,w10,_⟩:=pN (show cY (rd 5 (hf H1)) r=some (Ak 1 true false ((gS X k).1.map iv)::[.int .i64 (gS X k).2],R7)from k2)
  obtain⟨v1,l2,R12,R13,rfl,w11,w12,_⟩:=pN w10
  obtain⟨rfl,_⟩:=aK2 w12
  obtain⟨rfl,_⟩:=a0D w11
  exact⟨v0,k1,R10,w9⟩
 refine⟨sb,cS,fun k=>(rows'[k]?).getD [],es,H1,e1,e2,fun c hc=>K1.same c hc (by simp),K1.len,hcS,fun k hk=>?_,fun G hG k hk=>?_⟩
 ·obtain⟨v0,a1,_⟩:=srw k hk
  refine⟨v0,by simp only[a1,aID],?_⟩
  have:=aEP w2 k
  rw[hcS]at this
  rw[this];simp only[a1,aID]
 ·obtain⟨v0,a1,R10,w9⟩:=srw k hk
  simp only[a1,aID]
  unfold scC
  rcases bO w9 with⟨rfl,h1⟩|⟨b,rows2,rfl,y1,y2,y3,_⟩
  ·refine⟨[],fun d=>?_,by simp⟩
   rw[h1]
   exact Xe (R1:=[]) rfl (Xe (aG2 ..) aCW)
  ·have y4:=y3 rfl
   subst y4
   have y1':(H1[b]?).bind Dn=some (1,true,(gS X k).1.map iv):=y1
   obtain⟨c,hc,_⟩:=aLF.1 y1'
   have hne:(gS X k).1.map iv≠[]:=fun e=>by
    rw[e]at w9 y1'
    have:=(avO (d:=4) (n:=0) (show(hf H1 b).bind Dn=some (1,true,[])from y1') rfl).symm.trans (show rd 5 (hf H1) (.slr 1 b 0 0)=some (Ak 1 true false [],R10)from w9)
    simp[Ak]at this
   refine⟨[b],fun d=>?_,by simp⟩
   rw[aE8 hne]
   exact Xe (avO (show(G[b]?).bind Dn=_ by rw[hG b (Aw hc)];exact y1') rfl) (Xe (aG2 ..) aCW)
theorem a40{m:Ah}(hm:Ce m=true){vt:Nat}{v:Au}(hv:m.votes[vt]?=some v)(x:List Int × Int):sZ m x.1 v=Xc m vt x:=by
 have hv6:=fN hm
 have hvl:=rM hv
 have:=aKP (m.votes.map (sZ m x.1)) (by rw[acL];exact hv6) vt (by rw[acL];exact hvl)
 rw[acR,hv]at this
 unfold Xc Hh
 rw[ahR]
 exact Option.some.inj this
structure DgI(m:Ah)(vt ib sb:Nat)(cI cS:CB)(H2:Aa)(srow:Nat→List AV)(i:Nat)(L:List Nat)(v:AV)(h:Aa):Prop where
 kp:∀c,c<H2.length→h[c]?=H2[c]?
 len:H2.length≤h.length
 lt:∀k∈L,k<(Dy m).length
 eq:L.map (gS (Dy m))=((Dy m).take i).filter (Xc m vt)
 own:jV 0 2 false (L.map srow) v h
 vb:∀a b r n,v=.slr a b r n→H2.length≤b
theorem DgI.snoc{m:Ah}{vt ib sb:Nat}{cI cS:CB}{H2:Aa}{srow:Nat→List AV}{i:Nat}{L:List Nat}{v:AV}{h:Aa}(I:DgI m vt ib sb cI cS H2 srow i L v h)(hi:i<(Dy m).length)(hd:Xc m vt (gS (Dy m) i)=true)(l:Aa){n:Nat}(hn:n=h.length+l.length):DgI m vt ib sb cI cS H2 srow (i+1) (L++[i]) (.slr 2 n 0 (L.length+1)) (kl 0 v h++(l++[.live 2 false false (L.map srow++[srow i])])):=by
 obtain⟨kp,len,lt,eq,own,vb⟩:=I
 have hkl:(kl 0 v h).length=h.length:=aBZ ..
 refine⟨fun c hc=>?_,by simp;omega,fun k hk=>?_,?_,jV.blk (b:=n) (w:=false) ?_ (by omega) (by simp),fun a b r k e=>by cases e;omega⟩
 ·rw[aJZ (by omega),←kp c hc]
  rcases own with⟨_,rfl⟩|⟨b,w,rfl,_⟩
  ·rfl
  ·simp only[kl]
   rw[aCF (fun e=>by have:=vb _ _ _ _ rfl;omega)]
 ·rcases List.mem_append.1 hk with hk|hk
  ·exact lt k hk
  ·simp at hk;omega
 ·rw[List.map_append,eq,aLG,aLH,aAN hi]
  have hg:=pJ (aAN hi)
  rw[hg]at hd
  simp[hd,hg]
 ·rw[aLI (by omega),aLI (by omega),hkl,show n-h.length-l.length=0 by omega]
  simp
theorem DgI.skip{m:Ah}{vt ib sb:Nat}{cI cS:CB}{H2:Aa}{srow:Nat→List AV}{i:Nat}{L:List Nat}{v:AV}{h:Aa}(I:DgI m vt ib sb cI cS H2 srow i L v h)(hi:i<(Dy m).length)(hd:Xc m vt (gS (Dy m) i)=false):DgI m vt ib sb cI cS H2 srow (i+1) L v h:=by
 refine { I with eq:=?_ }
 rw[I.eq,aLG,aLH,aAN hi]
 have hg:=pJ (aAN hi)
 rw[hg]at hd
 simp[hd]
def tkN(m:Ah)(vt:Nat)(sl:List Int)(r:Nat):List Nat:=(aAM (Ia m)).map fun y=>rS m vt sl r (iK y)
def nxN(m:Ah)(vt:Nat)(sl:List Int)(r x:Nat):List Nat:=(aAM (Ia m)).map fun y=>if y<x then rS m vt sl (r+1) (iK y)else 0
theorem a3Y(m:Ah)(vt:Nat)(sl:List Int)(r:Nat):(tkN m vt sl r).length=Ia m:=by simp[tkN]
theorem aK9(m:Ah)(vt:Nat)(sl:List Int)(r x:Nat):(nxN m vt sl r x).length=Ia m:=by simp[nxN]
theorem aEQ{m:Ah}{vt:Nat}{sl:List Int}{r y:Nat}(h:y<Ia m):(tkN m vt sl r)[y]?=some (rS m vt sl r (iK y)):=by
 unfold tkN;rw[acR,aAO h];rfl
theorem beO(m:Ah)(vt:Nat)(sl:List Int):(tkN m vt sl 0).map (fun n:Nat=>[AV.int .i64 (n:Int)])=aM9 (Ia m) [.int .i64 0]:=by
 refine aEO fun i=>?_
 rw[acR,aOD]
 by_cases hi:i<Ia m
 ·rw[aEQ hi,if_pos hi];rfl
 ·rw[aER (by rw[a3Y];omega),if_neg hi];rfl
theorem biO(m:Ah)(vt:Nat)(sl:List Int)(r:Nat):(nxN m vt sl r 0).map (fun n:Nat=>[AV.int .i64 (n:Int)])=aM9 (Ia m) [.int .i64 0]:=by
 refine aEO fun i=>?_
 rw[acR,aOD]
 unfold nxN
 by_cases hi:i<Ia m
 ·rw[acR,aAO hi,if_pos hi];rfl
 ·rw[aER (by simp;omega),if_neg hi];rfl
theorem a47(m:Ah)(vt:Nat)(sl:List Int)(r:Nat):nxN m vt sl r (Ia m)=tkN m vt sl (r+1):=by
 unfold nxN tkN
 refine List.map_congr_left fun y hy=>?_
 rw[if_pos (aKM.1 hy)]
theorem aFZ{m:Ah}{vt:Nat}{sl:List Int}{r x:Nat}(h:x<Ia m):(nxN m vt sl r x).set x (rS m vt sl (r+1) (iK x))=nxN m vt sl r (x+1):=by
 refine aEO fun i=>?_
 unfold nxN
 by_cases hi:i<Ia m
 ·by_cases e:x=i
  ·subst e
   rw[aC6 (by simpa using h),acR,aAO h,acZ,if_pos (Nat.lt_succ_self _)]
  ·rw[aCF e,acR,acR,aAO hi,acZ,acZ]
   by_cases hx:i<x
   ·rw[if_pos hx,if_pos (by omega)]
   ·rw[if_neg hx,if_neg (by omega)]
 ·rw[aER (by simp;omega),aER (by simp;omega)]
theorem a03{m:Ah}{vt:Nat}{sl:List Int}{r x:Nat}(h:x<Ia m):(nxN m vt sl r x)[x]?=some 0:=by
 unfold nxN
 rw[acR,aAO h,acZ,if_neg (by omega)]
theorem a0E{m:Ah}{vt:Nat}{sl:List Int}{r x:Nat}(h:x<Ia m)(hs:pK sl (iK x)=true):nxN m vt sl r x=nxN m vt sl r (x+1):=by
 rw[←aFZ h]
 have e:rS m vt sl (r+1) (iK x)=0:=by unfold rS rT;rw[if_pos hs]
 rw[e]
 refine(aEO fun i=>?_)
 by_cases e:x=i
 ·subst e;rw[aC6 (by rw[aK9];exact h),a03 h]
 ·rw[aCF e]
def fS(m:Ah)(vt:Nat)(sl:List Int)(r:Nat)(v:Int × Int)(l:List (List Int × Int))(a:Nat):Nat:=l.foldl (fun a x=>max a (1+rS m vt sl r (stp m v x))) a
theorem a4U{m:Ah}{vt:Nat}{sl:List Int}{r:Nat}{v:Int × Int}(h:pK sl v=false):rS m vt sl (r+1) v=fS m vt sl r v ((Dy m).filter (Xc m vt)) 1:=by
 show rT _ _ _ _ (r+1) v=_
 unfold rT
 rw[if_neg (by simp[h])];rfl
theorem a7O(H:Aa)(v:Au):rdV H (.agg v.cells)=some (.agg v.cells):=dM _ (d:=8) (by omega) (by simp[Au.cells,aCN,uV,aKH,Xy])
theorem aRZ{m:Ah}{vt:Nat}{sl:List Int}{v:Int × Int}(h:pK sl v=true):∀r,rS m vt sl r v=0
 |0=>rfl
 |r+1=>by unfold rS rT;rw[if_pos h]
theorem a3M{m:Ah}{vt:Nat}{sl:List Int}{r x:Nat}(h:x<Ia m):(nxN m vt sl r (x+1))[x]?=some (rS m vt sl (r+1) (iK x)):=by
 rw[←aFZ h,aC6 (by rw[aK9];exact h)]
def aF3(m:Ah)(vt:Nat)(sl:List Int)(E:List ((Int × Int) × List Nat))(r:Nat)(l:List Nat)(o:Nat):Nat:=l.foldl (fun o y=>if(Ud E y).isSome=true then max o (rS m vt sl r (iK y))else o) o
theorem aIT{m:Ah}{vt:Nat}{sl:List Int}{E:List ((Int × Int) × List Nat)}{r:Nat}:∀(l:List Nat) (o:Nat),(∀y∈l,(Ud E y).isSome=true→rS m vt sl r (iK y)≤aF3 m vt sl E r l o)∧o≤aF3 m vt sl E r l o∧(aF3 m vt sl E r l o=o∨∃y∈l,(Ud E y).isSome=true∧rS m vt sl r (iK y)=aF3 m vt sl E r l o)
 | [],o=>⟨by simp,aC7 _,.inl rfl⟩
 |y::l,o=>by
  obtain⟨o',ho⟩:∃o',(if(Ud E y).isSome=true then max o (rS m vt sl r (iK y))else o)=o':=⟨_,rfl⟩
  obtain⟨i1,i2,i3⟩:=aIT (m:=m) (vt:=vt) (sl:=sl) (E:=E) (r:=r) l o'
  have e:aF3 m vt sl E r (y::l) o=aF3 m vt sl E r l o':=by unfold aF3;rw[aLD,ho]
  rw[e]
  cases hT:(Ud E y).isSome with
  |true=>
   rw[hT,if_pos rfl]at ho
   refine⟨fun z hz hzs=>?_,by omega,?_⟩
   ·rcases List.mem_cons.1 hz with rfl|hz
    ·omega
    ·exact i1 z hz hzs
   ·rcases i3 with h|⟨z,h1,h2⟩
    ·by_cases hm:o≤rS m vt sl r (iK y)
     ·exact .inr ⟨y,by simp,hT,by omega⟩
     ·exact .inl (by omega)
    ·exact .inr ⟨z,by simp[h1],h2⟩
  |false=>
   rw[hT,if_neg (by simp)]at ho
   refine⟨fun z hz hzs=>?_,by omega,?_⟩
   ·rcases List.mem_cons.1 hz with rfl|hz
    ·rw[hT]at hzs;cases hzs
    ·exact i1 z hz hzs
   ·rcases i3 with h|⟨z,h1,h2⟩
    ·exact .inl (by omega)
    ·exact .inr ⟨z,by simp[h1],h2⟩
structure RoI(H2:Aa)(tb nb:Nat)(T U:List Nat)(h:Aa):Prop where
 kp:∀c,c<H2.length→h[c]?=H2[c]?
 tk:∃x,h[tb]?=some (.live 1 true x (T.map fun n:Nat=>[.int .i64 (n:Int)]))
 nx:∃x,h[nb]?=some (.live 1 true x (U.map fun n:Nat=>[.int .i64 (n:Int)]))
 tl:H2.length≤tb
 nl:H2.length≤nb
 ne:tb≠nb
theorem RoI.set{H2:Aa}{tb nb:Nat}{T U:List Nat}{h:Aa}(I:RoI H2 tb nb T U h)(x a:Nat):RoI H2 tb nb T (U.set x a) (h.set nb (.live 1 true true ((U.map fun n:Nat=>[AV.int .i64 (n:Int)]).set x [.int .i64 (a:Int)]))):=by
 obtain⟨kp,tk,⟨x0,nx⟩,tl,nl,ne⟩:=I
 refine⟨fun c hc=>by rw[aCF (by omega)];exact kp c hc,by rw[aCF (fun e=>ne e.symm)];exact tk,⟨true,by rw[aC6 (Aw nx),List.map_set]⟩,tl,nl,ne⟩
def aDQ(m:Ah)(vt:Nat)(sl:List Int)(E:List ((Int × Int) × List Nat))(r y:Nat):Bool:=(Ud E y).isSome&&decide (rS m vt sl (r+1) (iK y)≠rS m vt sl r (iK y))
theorem aQ2{m:Ah}(hm:Ce m=true){vt:Nat}{sl:List Int}{E:List ((Int × Int) × List Nat)}(C:Fnd m (Dy m) E)(r:Nat):((aAM (Ia m)).any (aDQ m vt sl E r))=true↔∃v∈E.map (·.1),rS m vt sl (r+1) v≠rS m vt sl r v:=by
 rw[List.any_eq_true]
 unfold aDQ
 constructor
 ·rintro⟨y,hy,h⟩
  simp only[aON,decide_eq_true_eq]at h
  obtain⟨p,hp⟩:=aOW.1 h.1
  exact⟨iK y,aqD.2 ⟨_,(oG C).1 hp,rfl⟩,h.2⟩
 ·rintro⟨v,hv,h⟩
  obtain⟨x,hx,rfl⟩:=aqD.1 hv
  have hk:=aFI hm C hx
  refine⟨dH x.1,aKM.2 (afI hk),?_⟩
  have h1:Ud E (dH x.1)=some x.2:=by
   unfold Ud
   rw[fA hk,oG C];exact hx
  rw[h1,fA hk]
  simp only[Option.isSome_some,Bool.true_and,decide_eq_true_eq];exact h
theorem aO6{m:Ah}(hs:m.small)(hm:Ce m=true)(hN:(Dy m).length≤200){vt:Nat}{v:Au}(hv:m.votes[vt]?=some v){sl:List Int}{nn:Bool}(hsl:sl.length≤maxLen){D:List ((Int × Int) × List Nat)}(B:Fnd m (Fz m) D):
 ClQ Ec 23 [.agg m.cells,.int .i64 (vt:Int),Ak 1 true nn (sl.map iv)] [] fun o h'=>h'=[]∧∃N:Int,o=.ret (.int .i64 N)∧((0≤N∧az1 m vt sl (D.map (·.1)) 0 DS.none=some N)∨(N= -1∧az1 m vt sl (D.map (·.1)) 0 DS.none=none)):=by
 obtain⟨q,hq⟩:∃q,Fn.func 58=q:=⟨_,rfl⟩
 obtain⟨qs,hqs⟩:∃q,Fn.func 59=q:=⟨_,rfl⟩
 obtain⟨qp,hqp⟩:∃q,Fn.func 61=q:=⟨_,rfl⟩
 obtain⟨qy,hqy⟩:∃q,Fn.func 60=q:=⟨_,rfl⟩
 obtain⟨qh,hqh⟩:∃q,Fn.func 36=q:=⟨_,rfl⟩
 obtain⟨qt,hqt⟩:∃q,Fn.func 17=q:=⟨_,rfl⟩
 have hms:=Kv hm
 have hpl:=aQN hm
 have hS:=Xo hm
 have hPl:=fun {v:Int × Int} (h:okN m v) (H:Aa)=>aW7 hm h H
 rw[hqp]at hPl
 obtain⟨E,hE,pb,rows,RR,cI,ib,es,H1,e1,e2,K1,K2,g1,g2,g3,_,_,_⟩:=a0T hs hm hN [.live 7 false false [m.cells]]
 rw[hq]at e1
 have h01:H1[0]?=some (.live 7 false false [m.cells]):=K1 0 (by simp)
 obtain⟨sb,cS,srow,es2,H2,f1,f2,K3,K4,hcS,srw,srd⟩:=aZO hs hm hN H1
 rw[hqs]at f1
 have h02:H2[0]?=some (.live 7 false false [m.cells]):=(K3 0 (Aw h01)).trans h01
 have hI2:H2[ib]?=some cI:=(K3 ib (Aw g1)).trans g1
 have hib:=Aw hI2
 have hsb:=Aw hcS
 have hvl:=rM hv
 have hvl2:((vt:Int)<(m.votes.length:Int))=True:=eq_true (by omega)
 have hvm:v∈m.votes:=aAP hv
 refine aJT rfl Try.func23 rfl rfl ?_
 simp only[Try.f23]
 (have hb:=trivial;with_reducible repeat' (first|simp only[hb,Vc.down,seval,mF.down,hq,e1,e2,h01,hqs,f1,f2,acL]|refine Bm ?_ ?_<;>intro hb|refine fd ?_|fail))
 refine Eo (Wy 156 (Dy m) (fun i (_:Unit) t h=>∃L v,t 1=.int .i64 (vt:Int)∧t 2=Ak 1 true nn (sl.map iv)∧t 3=.ptr 0 0 0∧t 8=.slr 1 ib 0 (Ia m)∧t 9=v∧t 10=.slr 2 sb 0 (Dy m).length∧t 11=.int .i64 i∧DgI m vt ib sb cI cS H2 srow i L v h) (fun _ _=>()) (fun _ e t h=>e=.exit 0∧∃L v,t 2=Ak 1 true nn (sl.map iv)∧t 3=.ptr 0 0 0∧t 8=.slr 1 ib 0 (Ia m)∧t 9=v∧DgI m vt ib sb cI cS H2 srow (Dy m).length L v h) ?_ ?_ () _ _ ?_) (fun e t h hk=>?_)
 ·rintro _ t h Q' kQ ⟨L,v,c1,c2,c3,c8,c9,c10,c11,I⟩
  (have hb:=trivial;with_reducible repeat' (first|simp only[hb,Vc.down,seval,mF.down,c10,c11,aE9,decide_false]|refine Bm ?_ ?_<;>intro hb|refine fd ?_|fail))
  exact kQ _ _ _ ⟨rfl,L,v,by simp[up,c2],by simp[up,c3],by simp[up,c8],by simp[up,c9],I⟩
 ·rintro x rest i _ t h J Q' kJ kQ hx hi ⟨L,w,c1,c2,c3,c8,c9,c10,c11,I⟩
  have hd:((i:Int)<((Dy m).length:Int))=True:=eq_true (by omega)
  have hw:IntKind.i64.wrap ((i:Int)+1)=((i+1:Nat):Int):=by rw[Dz (by omega) (by omega)];rfl
  have hgx:gS (Dy m) i=x:=pJ hx
  obtain⟨v0,s1,s2⟩:=srw i hi
  have h0:=(I.kp 0 (Aw h02)).trans h02
  have hSb:=(I.kp sb hsb).trans hcS
  obtain⟨R5,hR5,_⟩:=srd h I.kp i hi
  rw[s1,hgx]at hR5
  rw[s1,hgx]at s2
  obtain⟨u0,l1,R10,R11,e5,w9,w10,_⟩:=pN (show cY (rd 6 (hf h)) [v0,.int .i64 x.2]=some (Ak 1 true false (x.1.map iv)::[.int .i64 x.2],R5)from hR5 5)
  obtain⟨rfl,rfl⟩:u0=v0∧l1=[.int .i64 x.2]:=by simpa [eq_comm]using e5
  obtain⟨hic,hac⟩:=bcR w9
  have hYes:cl Ec h (some (.func qy [] [])) (some [.agg m.cells,.agg v.cells,u0])=some (.ret (.bool (Xc m vt x)),[]):=by
   rw[←hqy,←a40 hm hv x]
   have hrx:x.1.length=m.sens.length:=(hS.leg x (aAP hx)).1
   exact af0 (O:=Ec) (H:=h) (uA rfl) (by simp only[Ou,Um,aDK,a7O,show rdV h u0=_ from aAE (show 6≤12 by omega) w9,Ly];rfl) (by simp[Vx,aCN,Au.cells,uV,aKH,Xy,aIC]) (a6Y (nn:=false) m v hrx (hs.vs v hvm) (ac6 hm v hvm)) rfl rfl
  simp only[Au.cells]at hYes
  cases hdg:Xc m vt x with
  |true=>
   rw[hdg]at hYes
   rw[←hgx]at hdg
   have hLl:L.length≤200:=by
    have:=congrArg List.length I.eq
    rw[acL]at this
    have h2:=aOX (Xc m vt) ((Dy m).take i)
    rw[List.length_take]at h2
    omega
   have own':=I.own
   have hap:=fun(q:Aa) (r:List AV)=>aw2 own' (pre:=[]) rfl q r [] (by simp;omega)
   have hhp:=fun(q:Aa) (r:List (List AV)) (ba:Nat)=>aE0 own' (pre:=[]) rfl q 2 false r ba
   simp only[List.nil_append]at hap hhp
   (have hb:=trivial;with_reducible repeat' (first|simp only[hb,Vc.down,seval,mF.down,c1,c2,c3,c8,c9,c10,c11,hd,h0,hSb,s2,hvl2,hv,Au.cells,hqy,hYes,hw,hic,hac,hap,hhp,acZ,acL]|refine Bm ?_ ?_<;>intro hb|refine fd ?_|fail))
   refine Bn (kJ _ _ () ⟨L++[i],.slr 2 (h.length+1) 0 (L.length+1),by simp[up,c1],by simp[up,c2],by simp[up,c3],by simp[up,c8],by simp[up],by simp[up,c10],by simp[up],?_⟩ rfl)
   have:=I.snoc hi hdg [CB.live 2 false false [[u0,AV.int IntKind.i64 x.2]]] (n:=h.length+1) rfl
   rw[s1,hgx]at this
   exact this
  |false=>
   rw[hdg]at hYes
   rw[←hgx]at hdg
   (have hb:=trivial;with_reducible repeat' (first|simp only[hb,Vc.down,seval,mF.down,c1,c2,c3,c8,c9,c10,c11,hd,h0,hSb,s2,hvl2,hv,Au.cells,hqy,hYes,hw,hic,hac,acZ,acL]|refine Bm ?_ ?_<;>intro hb|refine fd ?_|fail))
   exact Bn (kJ _ _ () ⟨L,w,by simp[up,c1],by simp[up,c2],by simp[up,c3],by simp[up,c8],by simp[up,c9],by simp[up,c10],by simp[up],I.skip hi hdg⟩ rfl)
 ·exact⟨[],.nils,by simp[up,Fe],by simp[up,Fe],by simp[up,Fe],by simp[up],by simp[up],by simp[up],by simp[up],fun c hc=>rfl,aC7 _,by simp,by simp,jV.nil _ _ _ _,fun a b r n e=>by cases e⟩
 obtain⟨rfl,L,w,c2,c3,c8,c9,I⟩:=hk
 have hP0:((0:Int)≤(Ia m:Int))=True:=eq_true (by omega)
 have hP1:((Ia m:Int)≤1099511627776)=True:=eq_true (by omega)
 have hw1:IntKind.i64.wrap ((Ia m:Int)+1)=((Ia m+1:Nat):Int):=by rw[Dz (by omega) (by omega)];rfl
 have hlw:ln Try.prog 66 (some w)=some (.ret (.int .i64 L.length),[]):=by
  have:=I.own.ln Try.underlying66
  rwa[acL]at this
 have hLeq:=I.eq
 rw[List.take_length]at hLeq
 have hLX:=I.lt
 have hLl:L.length≤200:=by
  have:=congrArg List.length hLeq
  rw[acL]at this
  have h2:=aOX (Xc m vt) (Dy m)
  omega
 obtain⟨HF_,hHF⟩:∃H,h=H:=⟨_,rfl⟩
 have hf0:HF_[0]?=some (.live 7 false false [m.cells]):=by rw[←hHF];exact(I.kp 0 (Aw h02)).trans h02
 have hfI:HF_[ib]?=some cI:=by rw[←hHF];exact(I.kp ib hib).trans hI2
 have hfw:L≠[]→∃vb x,w=.slr 2 vb 0 L.length∧HF_[vb]?=some (.live 2 false x (L.map srow)):=fun hne=>by
  rw[←hHF]
  rcases I.own with⟨h1,_⟩|⟨b,x,h1,h2⟩
  ·exact absurd (aLE.1 h1) hne
  ·exact⟨b,x,by rw[h1,acL];rfl,h2⟩
 have hfr:∀G:Aa,(∀c,c<HF_.length→G[c]?=HF_[c]?)→∀k,k<(Dy m).length→∃R,(∀d,cY (rd (d+1) (hf G)) (srow k)=some (scC (gS (Dy m) k),R))∧R.length≤1:=fun G hG k hk=>srd G (fun c hc=>by rw[hG c (by rw[←hHF];have:=I.len;omega),←hHF];exact I.kp c hc) k hk
 rw[hHF]
 clear I hHF
 (have hb:=trivial;with_reducible repeat' (first|simp only[hb,Vc.down,seval,mF.down,c8,hP0,hP1,Int.le_refl]|refine Bm ?_ ?_<;>intro hb|refine fd ?_|fail))
 refine Eo (cnt 156 (fun n (_:Unit) t h=>∃r tb,n+r=Ia m+3∧r≤Ia m+2∧t 2=Ak 1 true nn (sl.map iv)∧t 3=.ptr 0 0 0∧t 8=.slr 1 ib 0 (Ia m)∧t 9=w∧t 12=.slr 1 tb 0 (Ia m)∧t 13=.int .i64 r∧(∀c,c<HF_.length→h[c]?=HF_[c]?)∧HF_.length≤tb∧(∃x,h[tb]?=some (.live 1 true x ((tkN m vt sl r).map fun n:Nat=>[.int .i64 (n:Int)])))∧(r=Ia m+2→∃v∈E.map (·.1),rS m vt sl (Ia m+2) v≠rS m vt sl (Ia m+1) v)) (fun _ _=>()) (fun _ e t h=>e=.exit 2∧∃r tb,t 8=.slr 1 ib 0 (Ia m)∧t 12=.slr 1 tb 0 (Ia m)∧(∀c,c<HF_.length→h[c]?=HF_[c]?)∧r≤Ia m+2∧(∃x,h[tb]?=some (.live 1 true x ((tkN m vt sl r).map fun n:Nat=>[.int .i64 (n:Int)])))∧((∀v∈E.map (·.1),rS m vt sl (r+1) v=rS m vt sl r v)∨(r=Ia m+2∧∃v∈E.map (·.1),rS m vt sl (Ia m+2) v≠rS m vt sl (Ia m+1) v))) ?_ ?_ (Ia m+3) () _ _ ?_) (fun e t h hk=>?_)
 ·rintro _ t h Q' kQ ⟨r,tb,h1,h2,_⟩
  omega
 ·rintro n _ t h J Q' kJ kQ ⟨r,tb,hnr,hr2,c2,c3,c8,c9,c12,c13,kp,htb,⟨xt,htk⟩,hch⟩
  by_cases hr:r=Ia m+2
  ·have hd:((r:Int)≤((Ia m+1:Nat):Int))=False:=eq_false (by omega)
   (have hb:=trivial;with_reducible repeat' (first|simp only[hb,Vc.down,seval,mF.down,c8,c13,hw1,hd]|refine Bm ?_ ?_<;>intro hb|refine fd ?_|fail))
   exact kQ _ _ _ ⟨rfl,r,tb,by simp[up,c8],by simp[up,c12],kp,hr2,⟨xt,htk⟩,.inr ⟨hr,hch hr⟩⟩
  ·have hd:((r:Int)≤((Ia m+1:Nat):Int))=True:=eq_true (by omega)
   have hwr:IntKind.i64.wrap ((r:Int)+1)=((r+1:Nat):Int):=by rw[Dz (by omega) (by omega)];rfl
   have htbl:=Aw htk
   have hfl:HF_.length≤h.length:=by omega
   (have hb:=trivial;with_reducible repeat' (first|simp only[hb,Vc.down,seval,mF.down,c8,c13,hw1,hd,hP0,hP1,Int.le_refl]|refine Bm ?_ ?_<;>intro hb|refine fd ?_|fail))
   refine Eo (Wy 156 (aAM (Ia m)) (fun x (ch:Bool) t h'=>t 2=Ak 1 true nn (sl.map iv)∧t 3=.ptr 0 0 0∧t 8=.slr 1 ib 0 (Ia m)∧t 9=w∧t 12=.slr 1 tb 0 (Ia m)∧t 13=.int .i64 r∧t 14=.bool ch∧t 15=.slr 1 h.length 0 (Ia m)∧t 16=.int .i64 x∧RoI HF_ tb h.length (tkN m vt sl r) (nxN m vt sl r x) h') (fun rest ch=>ch||rest.any (aDQ m vt sl E r)) (fun ch e t h'=>e=.exit 4∧t 2=Ak 1 true nn (sl.map iv)∧t 3=.ptr 0 0 0∧t 8=.slr 1 ib 0 (Ia m)∧t 9=w∧t 12=.slr 1 tb 0 (Ia m)∧t 13=.int .i64 r∧t 14=.bool ch∧t 15=.slr 1 h.length 0 (Ia m)∧RoI HF_ tb h.length (tkN m vt sl r) (tkN m vt sl (r+1)) h') ?_ ?_ false _ _ ?_) (fun e t h' hk=>?_)
   ·rintro ch t h' Q2 kQ2 ⟨d2,d3,d8,d9,d12,d13,d14,d15,d16,I⟩
    rw[aG6]at d16 I
    rw[a47]at I
    (have hb:=trivial;with_reducible repeat' (first|simp only[hb,Vc.down,seval,mF.down,d8,d16,aE9,decide_false]|refine Bm ?_ ?_<;>intro hb|refine fd ?_|fail))
    exact kQ2 _ _ _ ⟨rfl,by simp[up,d2],by simp[up,d3],by simp[up,d8],by simp[up,d9],by simp[up,d12],by simp[up,d13],by simp[up,d14],by simp[up,d15],I⟩
   ·rintro x rest k ch t h' J2 Q2 kJ2 kQ2 hx hk2 ⟨d2,d3,d8,d9,d12,d13,d14,d15,d16,I⟩
    rw[aG6]at hk2
    obtain rfl:k=x:=by rw[aAO hk2]at hx;cases hx;rfl
    have hnk:=a85 hk2
    have hdk:((k:Int)<(Ia m:Int))=True:=eq_true (by omega)
    have hwk:IntKind.i64.wrap ((k:Int)+1)=((k+1:Nat):Int):=by rw[Dz (by omega) (by omega)];rfl
    have hq1:((k:Int)).tdiv 11=(iK k).1:=by rw[Int.tdiv_eq_ediv_of_nonneg (by omega)];unfold iK;simp only;omega
    have hq2:((k:Int)).tmod 11=(iK k).2:=by rw[Int.tmod_eq_emod_of_nonneg (by omega)];unfold iK;simp only;omega
    have hwu:IntKind.i64.wrap (iK k).1=(iK k).1:=by obtain⟨a1,a2,a3,a4⟩:=hnk;exact Dz (by omega) (by omega)
    have hHas:=bcU (nn:=nn) (iK k).1 hsl
    have hsb2:(sl.any fun z=>z==(iK k).1)=pK sl (iK k):=by unfold pK;congr 1;funext z;exact Bool.beq_comm
    rw[hsb2]at hHas
    generalize hnd:iK k=u at hnk hq1 hq2 hwu hHas
    cases hsf:pK sl u with
    |true=>
     rw[hsf]at hHas
     (have hb:=trivial;with_reducible repeat' (first|simp only[hb,Vc.down,seval,mF.down,d2,d3,d8,d9,d12,d13,d14,d15,d16,hdk,hwk,hq1,hq2,hwu,hHas]|refine Bm ?_ ?_<;>intro hb|refine fd ?_|fail))
     have hcf:aDQ m vt sl E r k=false:=by
      unfold aDQ
      rw[hnd,aRZ hsf,aRZ hsf];simp
     exact Bn (kJ2 _ _ ch ⟨by simp[up,d2],by simp[up,d3],by simp[up,d8],by simp[up,d9],by simp[up,d12],by simp[up,d13],by simp[up,d14],by simp[up,d15],by simp[up],by rw[←a0E hk2 (by rw[hnd];exact hsf)];exact I⟩ (by rw[aHJ,hcf,Bool.false_or]))
    |false=>
     rw[hsf]at hHas
     have hget:=a03 (vt:=vt) (sl:=sl) (r:=r) hk2
     obtain⟨x0,hnx⟩:=I.nx
     have I1:=I.set k 1
     (have hb:=trivial;with_reducible repeat' (first|simp only[hb,Vc.down,seval,mF.down,d2,d3,d8,d9,d12,d13,d14,d15,d16,hdk,hwk,hq1,hq2,hwu,hHas,hnx,hget,acZ]|refine Bm ?_ ?_<;>intro hb|refine fd ?_|fail))
     refine Eo (Wy 156 L (fun j (a:Nat) t h'=>t 2=Ak 1 true nn (sl.map iv)∧t 3=.ptr 0 0 0∧t 8=.slr 1 ib 0 (Ia m)∧t 9=w∧t 12=.slr 1 tb 0 (Ia m)∧t 13=.int .i64 r∧t 14=.bool ch∧t 15=.slr 1 h.length 0 (Ia m)∧t 16=.int .i64 k∧t 17=.int .i64 j∧a≤Ia m+3∧RoI HF_ tb h.length (tkN m vt sl r) ((nxN m vt sl r k).set k a) h') (fun rest a=>fS m vt sl r u (rest.map (gS (Dy m))) a) (fun a e t h'=>e=.exit 6∧t 2=Ak 1 true nn (sl.map iv)∧t 3=.ptr 0 0 0∧t 8=.slr 1 ib 0 (Ia m)∧t 9=w∧t 12=.slr 1 tb 0 (Ia m)∧t 13=.int .i64 r∧t 14=.bool ch∧t 15=.slr 1 h.length 0 (Ia m)∧t 16=.int .i64 k∧RoI HF_ tb h.length (tkN m vt sl r) ((nxN m vt sl r k).set k a) h') ?_ ?_ 1 _ _ ?_) (fun e t h2 hk=>?_)
     ·rintro a t h3 Q3 kQ3 ⟨d2,d3,d8,d9,d12,d13,d14,d15,d16,d17,ha,I⟩
      (have hb:=trivial;with_reducible repeat' (first|simp only[hb,Vc.down,seval,mF.down,d9,d17,hlw,aE9,decide_false]|refine Bm ?_ ?_<;>intro hb|refine fd ?_|fail))
      exact kQ3 _ _ _ ⟨rfl,by simp[up,d2],by simp[up,d3],by simp[up,d8],by simp[up,d9],by simp[up,d12],by simp[up,d13],by simp[up,d14],by simp[up,d15],by simp[up,d16],I⟩
     ·rintro kk rest j a t h3 J3 Q3 kJ3 kQ3 hx3 hj ⟨d2,d3,d8,d9,d12,d13,d14,d15,d16,d17,ha,I⟩
      have hdj:((j:Int)<(L.length:Int))=True:=eq_true (by omega)
      have hwj:IntKind.i64.wrap ((j:Int)+1)=((j+1:Nat):Int):=by rw[Dz (by omega) (by omega)];rfl
      have hkX:=hLX kk (aAP hx3)
      obtain⟨vb,xv,hwv,hvb⟩:=hfw (fun e=>by rw[e]at hx3;simp at hx3)
      have hvb3:=(I.kp vb (Aw hvb)).trans hvb
      have h03:=(I.kp 0 (Aw hf0)).trans hf0
      obtain⟨v0,s1,s2⟩:=srw kk hkX
      obtain⟨x,hgx⟩:∃x,gS (Dy m) kk=x:=⟨_,rfl⟩
      obtain⟨R5,hR5,_⟩:=hfr h3 I.kp kk hkX
      rw[s1,hgx]at hR5
      rw[hgx]at s1
      have hlx:=aNO hm (hS.leg x (by rw[←hgx];exact aPI hkX))
      have hrx:aE7 m x.1=true:=by simp only[aRV,aON]at hlx;exact hlx.1
      have hrv:rdV h3 (.agg [v0,.int .i64 x.2])=some (.agg (scC x)):=aAE (show 6≤12 by omega) (a6D (hR5 4))
      have hstp:cl Ec h3 (some (.func qt [] [])) (some [.agg m.cells,.int .i64 u.1,.int .i64 u.2,.agg [v0,.int .i64 x.2]])=some (.ret (.tup [.int .i64 (stp m u x).1,.int .i64 (stp m u x).2]),[]):=by
       rw[←hqt]
       exact af0 (O:=Ec) (H:=h3) (uA rfl) (by simp only[Ou,Um,aDK,aR3,hrv,Ly];rfl) (by simp[Vx,uV,aCN,azE.cells,Xy,aIC]) (aX1 m u.1 u.2 ⟨false,x.1,x.2⟩ hs hm hrx) rfl rfl
      have hu2:=apH hm hnk x
      obtain⟨v',hv'⟩:∃v',stp m u x=v':=⟨_,rfl⟩
      rw[hv']at hstp hu2
      have hpc:=aLB hm hu2
      have hp2:=afI hu2
      have hd3:((dH v':Int)<(Ia m:Int))=True:=eq_true (by omega)
      have htg:=aEQ (vt:=vt) (sl:=sl) (r:=r) hp2
      rw[fA hu2]at htg
      have hrl:=a61 (m:=m) vt sl r v'
      have hng:((nxN m vt sl r k).set k a)[k]?=some a:=aC6 (by rw[aK9];exact hk2)
      have hw1t:IntKind.i64.wrap (1+(rS m vt sl r v':Int))=((1+rS m vt sl r v':Nat):Int):=by rw[Dz (by omega) (by omega)];omega
      obtain⟨xt3,htk3⟩:=I.tk
      obtain⟨xn3,hnx3⟩:=I.nx
      have hd9:=d9
      rw[hwv]at d9
      obtain⟨b,hbm⟩:∃b,max a (1+rS m vt sl r v')=b:=⟨_,rfl⟩
      have hmx:(if((1+rS m vt sl r v':Nat):Int)>(a:Int)then((1+rS m vt sl r v':Nat):Int)else(a:Int))=(b:Int):=by
       rw[←hbm];split<;>omega
      (have hb:=trivial;with_reducible repeat' (first|simp only[hb,Vc.down,seval,mF.down,d2,d3,d8,d9,d12,d13,d14,d15,d16,d17,hdk,hdj,hwj,hq1,hq2,hwu,h03,hvb3,hx3,s1,hqt,hstp,hpc,hd3,htg,hng,hw1t,hmx,htk3,hnx3,acZ,acR]|refine Bm ?_ ?_<;>intro hb|refine fd ?_|fail))
      refine Bn (kJ3 _ _ b ⟨by simp[up,d2],by simp[up,d3],by simp[up,d8],by simp[up,hd9],by simp[up,d12],by simp[up,d13],by simp[up,d14],by simp[up,d15],by simp[up,d16],by simp[up],by omega,?_⟩ ?_)
      ·have:=I.set k b
       rw[List.set_set]at this
       exact this
      ·rw[List.map_cons,hgx]
       show fS m vt sl r u _ b=fS m vt sl r u _ (max a (1+rS m vt sl r (stp m u x)))
       rw[hv',hbm]
     ·refine⟨by simp[up,d2],by simp[up,d3],by simp[up,d8],by simp[up,d9],by simp[up,d12],by simp[up,d13],by simp[up,d14],by simp[up,d15],by simp[up,d16],by simp[up],by omega,by simpa [List.map_set]using I1⟩
     ·obtain⟨rfl,d2,d3,d8,d9,d12,d13,d14,d15,d16,I⟩:=hk
      rw[hLeq,←a4U hsf,←hnd,aFZ hk2]at I
      have hIb:=(I.kp ib (Aw hfI)).trans hfI
      have hgk:=g2 k hk2
      have htg:=aEQ (vt:=vt) (sl:=sl) (r:=r) hk2
      have hng:=a3M (vt:=vt) (sl:=sl) (r:=r) hk2
      obtain⟨xt3,htk3⟩:=I.tk
      obtain⟨xn3,hnx3⟩:=I.nx
      cases ch with
      |true=>
       (have hb:=trivial;with_reducible repeat' (first|simp only[hb,Vc.down,seval,mF.down,d2,d3,d8,d9,d12,d13,d14,d15,d16,hwk,hdk]|refine Bm ?_ ?_<;>intro hb|refine fd ?_|fail))
       exact Bn (kJ2 _ _ true ⟨by simp[up,d2],by simp[up,d3],by simp[up,d8],by simp[up,d9],by simp[up,d12],by simp[up,d13],by simp[up],by simp[up,d15],by simp[up],I⟩ (by simp))
      |false=>
       cases hT:(Ud E k).isSome with
       |false=>
        rw[hT]at hgk
        have hcf:aDQ m vt sl E r k=false:=by unfold aDQ;rw[hT];rfl
        (have hb:=trivial;with_reducible repeat' (first|simp only[hb,Vc.down,seval,mF.down,d2,d3,d8,d9,d12,d13,d14,d15,d16,hwk,hdk,hIb,hgk]|refine Bm ?_ ?_<;>intro hb|refine fd ?_|fail))
        exact Bn (kJ2 _ _ false ⟨by simp[up,d2],by simp[up,d3],by simp[up,d8],by simp[up,d9],by simp[up,d12],by simp[up,d13],by simp[up],by simp[up,d15],by simp[up],I⟩ (by rw[aHJ,hcf];rfl))
       |true=>
        rw[hT]at hgk
        by_cases hne:rS m vt sl (r+1) (iK k)=rS m vt sl r (iK k)
        ·have hcf:aDQ m vt sl E r k=false:=by unfold aDQ;rw[hT];simp[hne]
         have hbq:((rS m vt sl (r+1) (iK k):Int)==(rS m vt sl r (iK k):Int))=true:=by simp[hne]
         (have hb:=trivial;with_reducible repeat' (first|simp only[hb,Vc.down,seval,mF.down,d2,d3,d8,d9,d12,d13,d14,d15,d16,hwk,hdk,hIb,hgk,htg,hng,htk3,hnx3,bne,hbq,Bool.not_true,acZ,acR]|refine Bm ?_ ?_<;>intro hb|refine fd ?_|fail))
         exact Bn (kJ2 _ _ false ⟨by simp[up,d2],by simp[up,d3],by simp[up,d8],by simp[up,d9],by simp[up,d12],by simp[up,d13],by simp[up],by simp[up,d15],by simp[up],I⟩ (by rw[aHJ,hcf];rfl))
        ·have hcf:aDQ m vt sl E r k=true:=by unfold aDQ;rw[hT];simp[hne]
         have hbq:((rS m vt sl (r+1) (iK k):Int)==(rS m vt sl r (iK k):Int))=false:=by simp;omega
         (have hb:=trivial;with_reducible repeat' (first|simp only[hb,Vc.down,seval,mF.down,d2,d3,d8,d9,d12,d13,d14,d15,d16,hwk,hdk,hIb,hgk,htg,hng,htk3,hnx3,bne,hbq,Bool.not_false,acZ,acR]|refine Bm ?_ ?_<;>intro hb|refine fd ?_|fail))
         exact Bn (kJ2 _ _ true ⟨by simp[up,d2],by simp[up,d3],by simp[up,d8],by simp[up,d9],by simp[up,d12],by simp[up,d13],by simp[up],by simp[up,d15],by simp[up],I⟩ (by rw[aHJ,hcf];rfl))
   ·refine⟨by simp[up,c2],by simp[up,c3],by simp[up,c8],by simp[up,c9],by simp[up,c12],by simp[up,c13],by simp[up],by simp[up],by simp[up],fun c hc=>by rw[aJZ (by omega)];exact kp c hc,⟨xt,Ae htk _⟩,⟨false,?_⟩,htb,hfl,by omega⟩
    rw[biO];simp
   ·obtain⟨rfl,d2,d3,d8,d9,d12,d13,d14,d15,I⟩:=hk
    rw[Bool.false_or]at d14
    cases hca:(aAM (Ia m)).any (aDQ m vt sl E r)with
    |false=>
     rw[hca]at d14
     (have hb:=trivial;with_reducible repeat' (first|simp only[hb,Vc.down,seval,mF.down,d14]|refine Bm ?_ ?_<;>intro hb|refine fd ?_|fail))
     refine kQ _ _ _ ⟨rfl,r,tb,by simp[up,d8],by simp[up,d12],I.kp,hr2,I.tk,.inl fun v hv=>?_⟩
     exact Classical.byContradiction fun hne=>by
      have:=(aQ2 hm hE r).2 ⟨v,hv,hne⟩
      rw[hca]at this;cases this
    |true=>
     rw[hca]at d14
     (have hb:=trivial;with_reducible repeat' (first|simp only[hb,Vc.down,seval,mF.down,d13,d14,d15,hwr]|refine Bm ?_ ?_<;>intro hb|refine fd ?_|fail))
     exact Bn (kJ _ _ () ⟨r+1,h.length,by omega,by omega,by simp[up,d2],by simp[up,d3],by simp[up,d8],by simp[up,d9],by simp[up],by simp[up],I.kp,hfl,I.nx,fun e=>by
      obtain⟨v,hv,hne⟩:=(aQ2 hm hE r).1 hca
      have e2:r=Ia m+1:=by omega
      subst e2
      exact⟨v,hv,hne⟩⟩ rfl)
 ·exact⟨0,HF_.length,by omega,by omega,by simp[up,c2],by simp[up,c3],by simp[up,c8],by simp[up,c9],by simp[up],by simp[up],fun c hc=>aJZ hc,aC7 _,⟨false,by rw[beO];simp⟩,fun e=>by omega⟩
 obtain⟨rfl,r,tb,c8,c12,kp,hr2,⟨xt,htk⟩,hfin⟩:=hk
 (have hb:=trivial;with_reducible repeat' (first|simp only[hb,Vc.down,seval,mF.down]|refine Bm ?_ ?_<;>intro hb|refine fd ?_|fail))
 have hIb:=(kp ib (Aw hfI)).trans hfI
 refine Eo (Wy 156 (aAM (Ia m)) (fun x (o:Nat) t h'=>t 8=.slr 1 ib 0 (Ia m)∧t 12=.slr 1 tb 0 (Ia m)∧t 20=.int .i64 o∧t 21=.int .i64 x∧h=h') (fun rest o=>aF3 m vt sl E r rest o) (fun o e t h'=>e=.exit 8∧t 8=.slr 1 ib 0 (Ia m)∧t 20=.int .i64 o∧h=h') ?_ ?_ 0 _ _ ?_) (fun e t h' hk=>?_)
 ·rintro o t h' Q' kQ ⟨d8,d12,d20,d21,rfl⟩
  rw[aG6]at d21
  (have hb:=trivial;with_reducible repeat' (first|simp only[hb,Vc.down,seval,mF.down,d8,d21,aE9,decide_false]|refine Bm ?_ ?_<;>intro hb|refine fd ?_|fail))
  exact kQ _ _ _ ⟨rfl,by simp[up,d8],by simp[up,d20];rfl,rfl⟩
 ·rintro x rest k o t h' J Q' kJ kQ hx hk2 ⟨d8,d12,d20,d21,rfl⟩
  rw[aG6]at hk2
  obtain rfl:k=x:=by rw[aAO hk2]at hx;cases hx;rfl
  have hdk:((k:Int)<(Ia m:Int))=True:=eq_true (by omega)
  have hwk:IntKind.i64.wrap ((k:Int)+1)=((k+1:Nat):Int):=by rw[Dz (by omega) (by omega)];rfl
  have hgk:=g2 k hk2
  have htg:=aEQ (vt:=vt) (sl:=sl) (r:=r) hk2
  cases hT:(Ud E k).isSome with
  |false=>
   rw[hT]at hgk
   (have hb:=trivial;with_reducible repeat' (first|simp only[hb,Vc.down,seval,mF.down,d8,d12,d20,d21,hdk,hwk,hIb,hgk]|refine Bm ?_ ?_<;>intro hb|refine fd ?_|fail))
   exact Bn (kJ _ _ o ⟨by simp[up,d8],by simp[up,d12],by simp[up,d20],by simp[up],rfl⟩ (by unfold aF3;rw[aLD,hT,if_neg (by simp)]))
  |true=>
   rw[hT]at hgk
   obtain⟨b,hbm⟩:∃b,max o (rS m vt sl r (iK k))=b:=⟨_,rfl⟩
   have hmx:(if(rS m vt sl r (iK k):Int)>(o:Int)then(rS m vt sl r (iK k):Int)else(o:Int))=(b:Int):=by
    rw[←hbm];split<;>omega
   (have hb:=trivial;with_reducible repeat' (first|simp only[hb,Vc.down,seval,mF.down,d8,d12,d20,d21,hdk,hwk,hIb,hgk,htk,htg,hmx,acZ,acR]|refine Bm ?_ ?_<;>intro hb|refine fd ?_|fail))
   exact Bn (kJ _ _ b ⟨by simp[up,d8],by simp[up,d12],by simp[up],by simp[up],rfl⟩ (by unfold aF3;rw[aLD,hT,if_pos rfl,hbm]))
 ·exact⟨by simp[up,c8],by simp[up,c12],by simp[up],by simp[up],rfl⟩
 obtain⟨rfl,d8,d20,rfl⟩:=hk
 obtain⟨o1,_,o3⟩:=aIT (m:=m) (vt:=vt) (sl:=sl) (E:=E) (r:=r) (aAM (Ia m)) 0
 generalize aF3 m vt sl E r (aAM (Ia m)) 0=out at d20 o1 o3
 have toY:∀v∈E.map (·.1),∃y∈aAM (Ia m),(Ud E y).isSome=true∧iK y=v:=fun v hv=>by
  obtain⟨x,hx,rfl⟩:=aqD.1 hv
  have hk:=aFI hm hE hx
  refine⟨dH x.1,aKM.2 (afI hk),?_,fA hk⟩
  unfold Ud
  rw[fA hk,(oG hE).2 (show(x.1,x.2)∈E from hx)];rfl
 have h1:∀v∈E.map (·.1),rS m vt sl r v≤out:=fun v hv=>by
  obtain⟨y,hy,h2,rfl⟩:=toY v hv
  exact o1 y hy h2
 rcases hfin with hst|⟨hr3,v',hv',hne⟩
 ·have h2:out=0∨∃v∈E.map (·.1),rS m vt sl r v=out:=by
   rcases o3 with h|⟨y,_,h3,h4⟩
   ·exact .inl h
   ·obtain⟨p,hp⟩:=aOW.1 h3
    exact .inr ⟨iK y,aqD.2 ⟨_,(oG hE).1 hp,rfl⟩,h4⟩
  obtain⟨k1,k2⟩:=aVM hm B hE hst h1 h2
  have hgt:((Ia m:Int)<(out:Int))=False:=eq_false (by omega)
  (have hb:=trivial;with_reducible repeat' (first|simp only[hb,Vc.down,seval,mF.down,d8,d20,hgt]|refine Bm ?_ ?_<;>intro hb|refine fd ?_|fail))
  exact⟨out,rfl,.inl ⟨by omega,k1⟩⟩
 ·obtain⟨k1,k2⟩:=aUD hm B hE hv' hne
  have h2:=h1 v' hv'
  rw[hr3,k2]at h2
  have hgt:((Ia m:Int)<(out:Int))=True:=eq_true (by omega)
  (have hb:=trivial;with_reducible repeat' (first|simp only[hb,Vc.down,seval,mF.down,d8,d20,hgt]|refine Bm ?_ ?_<;>intro hb|refine fd ?_|fail))
  exact⟨-1,rfl,.inr ⟨rfl,k1⟩⟩
theorem a8X{m:Ah}(hs:m.small){vote:Int}{nn:Bool}{sl:List Int}(hsl:sl.length≤maxLen):Ec.call (.fn 5) [.agg [Ak 3 true m.nS (m.sens.map Db.cells),Ak 4 false m.nV (m.votes.map Au.cells),Ak 5 false m.nM (m.moves.map Bi.cells),.int .i64 m.states,.int .i64 m.cmds,.int .i64 m.bgn,Ak 1 true m.nO (m.opn.map iv)],.int .i64 vote,Ak 1 true nn (sl.map iv)] []=some (.ret (.bool true),[]):=by
 have h1:=a31 hs 100
 have h2:=aJD m hs
 have h6:=a82 (m:=m) (nn:=nn) hsl
 have hk:=known_ok
 cases c0:aEW m 100 with
 |false=>
  rw[c0]at h1
  (refine ce Try.func5 ?_;simp only[Try.f5];(have hb:=trivial;with_reducible repeat' (first|simp only[hb,Vc.down,seval,TY5.down,h1,hk,acL]|refine Bm ?_ ?_<;>intro hb|refine fd ?_|fail)))
 |true=>
  rw[c0]at h1
  by_cases c4:sl.length≤20
  ·have l5:((20:Int)<(sl.length:Int))=False:=eq_false (by omega)
   have h0:=fun e=>aOP hs (vote:=vote) (nn:=nn) (sl:=sl) hsl e
   unfold aPG at h0
   cases c1:Ce m with
   |false=>
    rw[c1]at h2 h0
    have h3:=h0 rfl
    (refine ce Try.func5 ?_;simp only[Try.f5];(have hb:=trivial;with_reducible repeat' (first|simp only[hb,Vc.down,seval,TY5.down,h1,h2,l5,h3,hk,beq_self_eq_true,acL]|refine Bm ?_ ?_<;>intro hb|refine fd ?_|fail)))
   |true=>
    have hm:=c1
    have hst:=Kv hm
    have hv6:=fN hm
    rw[c1]at h2 h0
    rw[Bool.true_and]at h0
    by_cases c2:0≤vote
    ·have l3:(vote<0)=False:=eq_false (by omega)
     by_cases c3:vote<m.votes.length
     ·have l4:((m.votes.length:Int)≤vote)=False:=eq_false (by omega)
      cases c5:Oy m.states sl none with
      |false=>
       rw[c5]at h6 h0
       have h3:=h0 (by simp)
       (refine ce Try.func5 ?_;simp only[Try.f5];(have hb:=trivial;with_reducible repeat' (first|simp only[hb,Vc.down,seval,TY5.down,h1,h2,l3,l4,l5,h3,h6,hk,beq_self_eq_true,acL]|refine Bm ?_ ?_<;>intro hb|refine fd ?_|fail)))
      |true=>
       rw[c5]at h6
       obtain⟨vt,rfl⟩:∃vt:Nat,vote=vt:=⟨vote.toNat,by omega⟩
       have hokR:aPG m (vt:Int) sl=true:=by
        unfold aPG
        rw[c1,c5,Dz (by omega) (by omega)]
        simp[Qy];omega
       obtain⟨v,hv⟩:∃v,m.votes[vt]?=some v:=⟨_,aAN (by omega)⟩
       have hN:=aUC hm (n:=100) c0
       obtain⟨oR,hR',hcR,rfl,D,BD,rfl⟩:=aP2 hs (nn:=nn) hsl hokR
       obtain⟨oS,hS',hcS,rfl,N,rfl,hcase⟩:=aO6 hs hm (by omega) hv (nn:=nn) hsl BD
       rcases hcase with⟨hN0,hr⟩|⟨rfl,hr⟩
       ·rw[hr]at hcR
        simp only[RpO]at hcR
        have l6:(N<0)=False:=eq_false (by omega)
        (refine ce Try.func5 ?_;simp only[Try.f5];(have hb:=trivial;with_reducible repeat' (first|simp only[hb,Vc.down,seval,TY5.down,h1,h2,l3,l4,l5,l6,hcR,hcS,h6,hk,beq_self_eq_true,acL]|refine Bm ?_ ?_<;>intro hb|refine fd ?_|fail)))
       ·rw[hr]at hcR
        simp only[RpO]at hcR
        (refine ce Try.func5 ?_;simp only[Try.f5];(have hb:=trivial;with_reducible repeat' (first|simp only[hb,Vc.down,seval,TY5.down,h1,h2,l3,l4,l5,hcR,hcS,h6,hk,beq_self_eq_true,acL]|refine Bm ?_ ?_<;>intro hb|refine fd ?_|fail)))
     ·have l4:((m.votes.length:Int)≤vote)=True:=eq_true (by omega)
      have h3:=h0 (by
       rw[Dz (by omega) (by omega)]
       simp[Qy];omega)
      (refine ce Try.func5 ?_;simp only[Try.f5];(have hb:=trivial;with_reducible repeat' (first|simp only[hb,Vc.down,seval,TY5.down,h1,h2,l3,l4,l5,h3,hk,beq_self_eq_true,acL]|refine Bm ?_ ?_<;>intro hb|refine fd ?_|fail)))
    ·have l3:(vote<0)=True:=eq_true (by omega)
     have h3:=h0 (by
      rw[Dz (by omega) (by omega)]
      simp[Qy];omega)
     (refine ce Try.func5 ?_;simp only[Try.f5];(have hb:=trivial;with_reducible repeat' (first|simp only[hb,Vc.down,seval,TY5.down,h1,h2,l3,l5,h3,hk,beq_self_eq_true,acL]|refine Bm ?_ ?_<;>intro hb|refine fd ?_|fail)))
  ·have l5:((20:Int)<(sl.length:Int))=True:=eq_true (by omega)
   (refine ce Try.func5 ?_;simp only[Try.f5];(have hb:=trivial;with_reducible repeat' (first|simp only[hb,Vc.down,seval,TY5.down,h1,l5,hk,acL]|refine Bm ?_ ?_<;>intro hb|refine fd ?_|fail)))
theorem aDS:∀avs,aUI Try.prog 7 Try.f5.params.toList avs→Ec.call (.fn 5) avs []=some (.ret (.bool true),[]):=by
 intro avs h
 rw[show Try.f5.params.toList=[27,3,25]from rfl]at h
 match avs,h with
 | [a,b,c],h=>
   obtain⟨h1,h2,h3,_⟩:=h
   obtain⟨m,rfl,hs⟩:=a4I h1
   obtain⟨x,rfl,_⟩:=baP h2
   obtain⟨n1,sl,rfl,hsl,_⟩:=a4P h3
   exact a8X hs hsl
 | [],h=>exact h.elim
 | [_],h=>exact h.2.elim
 | [_,_],h=>exact h.2.2.elim
 |_::_::_::_::_,h=>exact h.2.2.2.elim
end Go.Proofs.Ytfkokgjfpojeoaa
