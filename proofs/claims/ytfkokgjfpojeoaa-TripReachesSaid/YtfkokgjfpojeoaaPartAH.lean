/- The functions of the layer, walked. -/
import Derived.Test.YtfkokgjfpojeoaaPartAG
open List renaming length_map→acE,all_cons→acG,getElem?_set_ne→acK,getElem?_map→acZ,replicate→adD,length_set→ah3,getElem?_append_left→aiC,map_cons→aiH,length_cons→aiK,getElem?_eq_getElem→al2,map_map→al3,sum_cons→al5,mem_of_getElem?→al7,length→al9,getElem?_append_right→anF,range→an5,length_nil→aoC,getElem?_of_mem→apC,any_eq_true→apN,getElem?_set_self→asB,map_set→asI,flatMap_cons→asS,map_eq_nil_iff→asX,getElem?_replicate→as6,mem_map→as8,map_nil→as9,getElem?_cons_zero→atX,getElem?_cons_succ→avF,take_add_one→avO,range'_succ→av2,length_append→awV,nil_append→ayH,getElem?_range→ay2,take_of_length_le→azC,length_filter_le→azH
open Option renaming map_some→ahZ,bind_eq_some_iff→aiI,some→al4,getD_some→al6,map_eq_some_iff→ap9,map_none→axV,isSome_iff_exists→azB,bind_some→azE,isSome_none→azI,isSome_some→azK
open Bool renaming not_true→amP,and_eq_true→azA,eq_iff_iff→azF
open Int renaming add_zero→anC,lt_irrefl→ao3,zero_add→atA
open Nat renaming le_trans→apH,mul_assoc→atB
set_option linter.unusedSimpArgs false
set_option linter.unusedVariables false
namespace Go.Proofs.Ytfkokgjfpojeoaa
open Go.Ev Go Go.Ev.Bfs
set_option maxRecDepth 100000
set_option maxHeartbeats 16000000
theorem apY{m:Ad}(hm:Bh m=true){v:Int × Int}(h:xN m v):Dc.call (.fn 61) [.int .i64 v.1,.int .i64 v.2] []=some (.ret (.int .i64 (Xh v)),[]):=by
 have hst:=Ie hm
 have h1:=a6Q h
 obtain⟨h2,h3,h4,h5⟩:=h
 have w1:IntKind.i64.wrap (v.1*11)=v.1*11:=Ed (by omega) (by omega)
 have w2:IntKind.i64.wrap (v.1*11+v.2)=(Xh v:Int):=by rw[Ed (by omega) (by omega)];exact h1.symm
 (refine ce Try.func61 ?_;simp only[Try.f61];(have hb:=trivial;with_reducible repeat' (first|simp only[hb,Vc.down,seval,w1,w2]|refine Aq ?_ ?_<;>intro hb|refine fd ?_|fail)))
theorem vC{f:AV→Option (AV × List Nat)}:∀{l:List (List AV)} {p:List (List AV) × List Nat} {i:Nat} {X:List AV},Cj f l=some p→p.1[i]?=some X→∃r R,l[i]?=some r∧Xa f r=some (X,R)∧∀b∈R,b∈p.2
 | [],p,i,X,h,hx=>by simp[Cj]at h;subst h;simp at hx
 |a::l,p,i,X,h,hx=>by
  simp only[Cj,aiI,ap9]at h
  obtain⟨q,hq,r,hr,rfl⟩:=h
  cases i with
  |zero=>
   simp only[atX,al4.injEq]at hx
   subst hx
   exact⟨a,q.2,rfl,hq,fun b hb=>List.mem_append_left _ hb⟩
  |succ i=>
   simp only[avF]at hx
   obtain⟨r',R,k1,k2,k3⟩:=vC hr hx
   exact⟨r',R,by simpa using k1,k2,fun b hb=>List.mem_append_right _ (k3 b hb)⟩
theorem ay8(H:Ab)(n:Int):tV H (.int .i64 n)=some (.int .i64 n):=rfl
theorem PzH.grow{m:Ad}{X:List (List Int × Int)}{H1:Ab}{srow:Nat→List AV}{D:List ((Int × Int) × List Nat)}{i j lb:Nat}{PS:List AV}{h:Ab}(F:PzH m X H1 srow D i j lb PS h){v:Int × Int}(hv:xN m v)(hn:v∉D.map (·.1)){p:List Nat}(B:BF (fun v i=>Ww m v (gS X i)) X.length (m.bgn,0) (D++[(v,p)]) i (j+1))(h3:3≤H1.length)(u:AV)(l:Ab){n:Nat}(hl:n=h.length+l.length)(hu:∃k x,u=.slr 2 (h.length+k) 0 p.length∧p≠[]∧l[k]?=some (.live 2 false x (p.map srow))):
 PzH m X H1 srow (D++[(v,p)]) i (j+1) n (PS.set (Xh v) u) (((h.set 2 (.live 1 true true (((isT m D).map fun b=>[AV.bool b]).set (Xh v) [.bool true]))).set 1 (.live 1 false true ((PS.map fun v=>[v]).set (Xh v) [u]))).set lb .dead++(l++[.live 1 true false (D.map (fun x=>[AV.int .i64 (Xh x.1)])++[[.int .i64 (Xh v)]])])):=by
 have hlen:=F.len
 have hlbl:=F.lbl
 obtain⟨k,x,rfl,hp,hk⟩:=hu
 have hkl:=An hk
 obtain⟨A,hA⟩:∃A,CB.live 1 true true (((isT m D).map fun b=>[AV.bool b]).set (Xh v) [.bool true])=A:=⟨_,rfl⟩
 obtain⟨C,hC⟩:∃C,CB.live 1 false true ((PS.map fun v=>[v]).set (Xh v) [.slr 2 (h.length+k) 0 p.length])=C:=⟨_,rfl⟩
 rw[hA,hC]
 have hat:∀(q:Nat) (ll:Ab),(((h.set 2 A).set 1 C).set lb CB.dead++ll)[h.length+q]?=ll[q]?:=fun q ll=>by
  rw[anF (by simp only[ah3];omega)]
  simp only[ah3]
  congr 1;omega
 refine F.new hv hn B (by simp) h3 (fun c c1 c2 c4 c5=>?_) ⟨true,?_⟩ ⟨true,?_⟩ ⟨false,?_⟩ (by omega) (.inr ⟨h.length+k,x,rfl,hp,?_,by omega,by omega⟩)
 ·rw[aiC (by simpa using c1),acK (fun e=>c5 e.symm),acK (fun e=>c2 e.symm),acK (fun e=>c4 e.symm)]
 ·rw[aiC (by simp only[ah3];omega),acK (by omega),asB (by simp only[ah3];omega),←hC,asI]
 ·rw[aiC (by simp only[ah3];omega),acK (by omega),acK (by omega),asB (by omega),←hA,asI]
 ·rw[hl,hat,anF (Nat.le_refl _),Nat.sub_self];rfl
 ·rw[hat,aiC hkl];exact hk
theorem bg4{st:Nat}{fl:Bool}{r:List (List AV)}(h:r≠[])(hl:r.length≤1000)(H:Ab):apK st H (some .nils) (some (fl,r))=some (.ret (.slr st H.length 0 r.length),[.new H.length (.live st fl false r)]):=by
 cases r with
 |nil=>exact(h rfl).elim
 |cons a r=>
  have:=fW (k:=0) (pre:=[]) (Wc.nil 0 st fl H) rfl [] a r (by simp at hl ⊢;omega)
  simpa [apE]using this
def bbL:Nat→Nat
 |0=>0
 |n+1=>bbL n+(n+1)
theorem apI{l:List Nat}(h:∀k x,l[k]?=some x→x≤k+1):∀n,(l.take n).sum≤bbL n
 |0=>by simp
 |n+1=>by
  have ih:=apI h n
  rw[avO,List.sum_append]
  unfold bbL
  cases hx:l[n]? with
  |none=>simp;omega
  |some x=>have:=h n x hx;simp;omega
def wN(D:List ((Int × Int) × List Nat))(y:Nat):Nat:=((Ya D y).map fun p=>p.length+1).getD 0
theorem avZ:∀(D:List ((Int × Int) × List Nat)) (L:List Nat),L.Nodup→(L.map (wN D)).sum≤(D.map fun x=>x.2.length+1).sum
 | [],L,_=>by
   have h0:∀L:List Nat,(L.map (wN [])).sum=0:=by
    intro L
    induction L with
    |nil=>rfl
    |cons a L ih=>rw[aiH,al5,ih];rfl
   rw[h0];exact Nat.zero_le _
 |x::D,L,hL=>by
  have ih:=avZ D L hL
  have e:∀y,wN (x::D) y=if x.1=nod y then x.2.length+1 else wN D y:=fun y=>by
   unfold wN Ya eM
   rw[List.find?_cons]
   by_cases h:x.1=nod y
   ·simp[h]
   ·simp[h]
  have key:∀L:List Nat,L.Nodup→(L.map (wN (x::D))).sum≤(x.2.length+1)+(L.map (wN D)).sum∧((∀y∈L,x.1≠nod y)→(L.map (wN (x::D))).sum≤(L.map (wN D)).sum):=by
   intro L
   induction L with
   |nil=>intro _;simp
   |cons y L ih2=>
    intro hn
    obtain⟨n1,n2⟩:=List.nodup_cons.1 hn
    obtain⟨i1,i2⟩:=ih2 n2
    rw[aiH,aiH,al5,al5,e y]
    by_cases h:x.1=nod y
    ·rw[if_pos h]
     have:=i2 fun z hz hxz=>n1 (by rw[aD7 (h.symm.trans hxz)];exact hz)
     exact⟨by omega,fun hh=>absurd h (hh y (by simp))⟩
    ·rw[if_neg h]
     exact⟨by omega,fun hh=>by have:=i2 fun z hz=>hh z (by simp[hz]);omega⟩
  rw[aiH,al5]
  have:=(key L hL).1
  omega
theorem zJ{f:AV→Option (AV × List Nat)}{val:Nat→AV}{w:Nat→Nat}:∀(PS:List AV) (k:Nat),(∀(y:Nat) (u:AV),PS[y]?=some u→∃R,f u=some (val (k+y),R)∧R.length≤w (k+y))→∃R,Cj f (PS.map fun v=>[v])=some ((List.range' k PS.length).map fun y=>[val y],R)∧R.length≤((List.range' k PS.length).map w).sum
 | [],k,_=>⟨[],rfl,by simp⟩
 |u::PS,k,h=>by
  obtain⟨R1,a1,a2⟩:=h 0 u rfl
  obtain⟨R2,b1,b2⟩:=zJ PS (k+1) fun y v hv=>by
   have:=h (y+1) v (by simpa using hv)
   rwa[show k+(y+1)=k+1+y by omega]at this
  rw[Nat.add_zero]at a1 a2
  refine⟨R1++R2,?_,?_⟩
  ·simp[Cj,Xa,a1,b1,av2]
  ·rw[aiK,av2,aiH,al5,awV]
   omega
theorem wQ{f:AV→Option (AV × List Nat)}{srow g:Nat→List AV}:∀(p:List Nat),(∀k∈p,∃R,Xa f (srow k)=some (g k,R)∧R.length≤1)→∃R,Cj f (p.map srow)=some (p.map g,R)∧R.length≤p.length
 | [],_=>⟨[],rfl,by simp⟩
 |k::p,h=>by
  obtain⟨R1,a1,a2⟩:=h k (by simp)
  obtain⟨R2,b1,b2⟩:=wQ p fun j hj=>h j (by simp[hj])
  exact⟨R1++R2,by simp[Cj,a1,b1],by simp;omega⟩
def alV(m:Ad)(p:List Nat):AV:=Af 2 false false (p.map fun i=>scC (gS (Dx m) i))
theorem azT{m:Ad}(hs:m.small)(hm:Bh m=true)(hN:(Dx m).length≤200):∃E,mT m (Dx m) E∧RdT Dc 58 [.agg m.cells] [Af 1 false false ((an5 (Xr m)).map fun y=>[alV m ((Ya E y).getD [])]),Af 1 true false ((isT m E).map fun b=>[.bool b])] 4500:=by
 have key:ClQ Dc 58 [.agg m.cells] [] fun o h'=>∃E outs R,mT m (Dx m) E∧o=.ret (.tup outs)∧Xa (rd 6 (hf h')) outs=some ([Af 1 false false ((an5 (Xr m)).map fun y=>[alV m ((Ya E y).getD [])]),Af 1 true false ((isT m E).map fun b=>[.bool b])],R)∧R.length≤4500∧∀c∈h',Rnm c:=by
  obtain⟨q,hq⟩:∃q,Fn.func 59=q:=⟨_,rfl⟩
  obtain⟨qp,hqp⟩:∃q,Fn.func 61=q:=⟨_,rfl⟩
  obtain⟨qs,hqs⟩:∃q,Fn.func 17=q:=⟨_,rfl⟩
  have hst:=Ie hm
  have hpl:=ag0 hm
  have hw0:IntKind.i64.wrap (m.states*11)=(Xr m:Int):=by rw[Ed (by omega) (by omega)];exact hpl.2.1.symm
  have hP0:((0:Int)≤(Xr m:Int))=True:=eq_true (by omega)
  have hP1:((Xr m:Int)≤1099511627776)=True:=eq_true (by omega)
  have KS:=aUS hs hm (by omega)
  obtain⟨v,es,H1,R,e1,e2,K1,r1,r2,r3⟩:=KS.cl (H:=[.live 7 false false [m.cells],.live 1 false false (adD (Xr m) [.nils]),.live 1 true false (adD (Xr m) [.bool false])]) (args:=[.agg m.cells]) (Xl rfl) (by simp only[Hw,Jk,jP,Gi]) (by simp[Ob,acG])
  rw[hq]at e1
  rw[show([AV.agg m.cells].flatMap (Cf 12 (hf [CB.live 7 false false [m.cells],.live 1 false false (adD (Xr m) [.nils]),.live 1 true false (adD (Xr m) [.bool false])])))=[]from by rw[asS,Rj _ (show 8≤12 by omega) (Ob m)];rfl]at K1
  have hXl:1≤(Dx m).length:=by
   rw[pP]
   exact Nat.mul_le_mul (lZ m m.sens.length) (show 1≤(Ep m).length by have:=dV hm;have:=aE hm;omega)
  have hS:=Ye hm
  obtain⟨X,hX⟩:∃X,Dx m=X:=⟨_,rfl⟩
  have hPlc:∀{v:Int × Int},xN m v→∀H:Ab,cl Dc H (some (.func qp [] [])) (some [.int .i64 v.1,.int .i64 v.2])=some (.ret (.int .i64 (Xh v)),[]):=fun h H=>by
   rw[←hqp]
   exact Ys (O:=Dc) (H:=H) (Xl rfl) (by simp only[Hw,Jk,ay8,Gi]) (by simp[bN,acG]) (apY hm h) rfl rfl
  have hb0:=hPlc (ah7 hm)
  have hH1l:=K1.len
  simp only[aiK,aoC]at hH1l
  have g0:H1[0]?=some (.live 7 false false [m.cells]):=K1.same 0 (by simp) (by simp)
  have g1:H1[1]?=some (.live 1 false false (adD (Xr m) [.nils])):=K1.same 1 (by simp) (by simp)
  have g2:H1[2]?=some (.live 1 true false (adD (Xr m) [.bool false])):=K1.same 2 (by simp) (by simp)
  have hs0:∀c,(H1.set 2 c)[0]?=some (.live 7 false false [m.cells]):=fun c=>by rw[acK (by omega)];exact g0
  have hb1:=pI (ah7 hm)
  have hb2:((Xh (m.bgn,0):Int)<(Xr m:Int))=True:=eq_true (by omega)
  rw[hX]at r1 hXl hN hS
  rcases Rf r1 with⟨_,h1⟩|⟨sb,rows',rfl,w2,w3,_,w5⟩
  ·have:X=[]:=asX.1 h1
   subst this;simp at hXl
  obtain⟨R',w6⟩:=w5 rfl
  rw[acE]at *
  refine abD rfl Try.func58 rfl rfl ?_
  simp only[Try.f58]
  refine Ik (fun K iN hK=>?_)
  (have hb:=trivial;with_reducible repeat' (first|simp only[hb,Vc.down,seval,adN.down,hw0,hP0,hP1,Int.le_refl,hq,hqp,e1,e2,g0,g1,g2,hb0,hb1,hb2,hs0,Int.toNat_natCast,as6,acE]|refine Aq ?_ ?_<;>intro hb|refine fd ?_|fail))
  have srw:∀k,k<X.length→∃v0,rows'[k]?=some [v0,.int .i64 (gS X k).2]∧((v0=.nils∧(gS X k).1=[])∨∃b,v0=.slr 1 b 0 (gS X k).1.length∧(gS X k).1≠[]∧(H1[b]?).bind Ci=some (1,true,(gS X k).1.map iv)∧b<H1.length∧b≠1∧b≠2):=fun k hk=>by
   obtain⟨r,R7,k1,k2,_⟩:=vC w6 (i:=k) (X:=scC (gS X k)) (by rw[acZ,al2 hk,oZ (al2 hk)];rfl)
   obtain⟨v0,l1,R10,R11,rfl,w9,w10,_⟩:=Oi (show Xa (rd 5 (hf H1)) r=some (Af 1 true false ((gS X k).1.map iv)::[.int .i64 (gS X k).2],R7)from k2)
   obtain⟨v1,l2,R12,R13,rfl,w11,w12,_⟩:=Oi w10
   obtain⟨rfl,_⟩:=fH w12
   obtain⟨rfl,_⟩:=aiF w11
   refine⟨v0,k1,?_⟩
   rcases Rf w9 with⟨rfl,h1⟩|⟨b,rows2,rfl,y1,y2,y3,_⟩
   ·exact .inl ⟨rfl,asX.1 h1⟩
   ·have y4:=y3 rfl
    subst y4
    rw[acE]
    have y1':(H1[b]?).bind Ci=some (1,true,(gS X k).1.map iv):=y1
    by_cases hne:(gS X k).1=[]
    ·rw[hne]at w9 y1'
     have:=(wO (d:=4) (n:=0) (show(hf H1 b).bind Ci=some (1,true,[])from y1') rfl).symm.trans (show rd 5 (hf H1) (.slr 1 b 0 0)=some (Af 1 true false [],R10)from w9)
     simp[Af]at this
    ·refine .inr ⟨b,rfl,hne,y1',?_,?_,?_⟩
     ·obtain⟨c,hc,_⟩:=aiI.1 y1'
      exact An hc
     ·rintro rfl
      rw[g1]at y1'
      simp[Ci]at y1'
     ·rintro rfl
      rw[g2]at y1'
      obtain⟨z,l,hz⟩:=List.exists_cons_of_ne_nil hne
      obtain⟨n,hn⟩:∃n,Xr m=n+1:=⟨Xr m-1,by omega⟩
      rw[hz,hn]at y1'
      simp[Ci,List.replicate_succ,iv]at y1'
  obtain⟨srow,hsr⟩:∃srow:Nat→List AV,∀k,k<X.length→∃v0,srow k=[v0,.int .i64 (gS X k).2]∧Qp (H1[sb]?) k=some (srow k)∧((v0=.nils∧(gS X k).1=[])∨∃b,v0=.slr 1 b 0 (gS X k).1.length∧(gS X k).1≠[]∧(H1[b]?).bind Ci=some (1,true,(gS X k).1.map iv)∧b<H1.length∧b≠1∧b≠2):=⟨fun k=>(rows'[k]?).getD [],fun k hk=>by
   obtain⟨v0,a1,a2⟩:=srw k hk
   exact⟨v0,by simp[a1],by rw[show Qp (H1[sb]?) k=rows'[k]? from xY w2 k];simp only[a1,al6],a2⟩⟩
  have w2':(H1[sb]?).bind Ci=some (2,false,rows'):=w2
  have hsb0:sb≠0:=by rintro rfl;rw[g0]at w2';simp[Ci]at w2'
  have hsb1:sb≠1:=by rintro rfl;rw[g1]at w2';simp[Ci]at w2'
  have hsb2:sb≠2:=by rintro rfl;rw[g2]at w2';simp[Ci]at w2'
  have hsbl:sb<H1.length:=by obtain⟨c,hc,_⟩:=aiI.1 w2';exact An hc
  have hrd:∀G:Ab,(∀c,c<H1.length→c≠1→c≠2→G[c]?=H1[c]?)→∀k,k<X.length→∃R,(∀d,Xa (rd (d+1) (hf G)) (srow k)=some (scC (gS X k),R))∧R.length≤1:=fun G hG k hk=>by
   obtain⟨v0,s1,_,s3⟩:=hsr k hk
   rw[s1]
   rcases s3 with⟨rfl,h1⟩|⟨b,rfl,h1,h2,h3,h4,h5⟩
   ·refine⟨[],fun d=>?_,by simp⟩
    unfold scC
    rw[h1]
    exact Oq (R1:=[]) rfl (Oq (vB ..) nL)
   ·refine⟨[b],fun d=>?_,by simp⟩
    unfold scC
    rw[agX (by simpa using h1)]
    exact Oq (wO (show(G[b]?).bind Ci=_ by rw[hG b h3 h4 h5];exact h2) (by simp)) (Oq (vB ..) nL)
  have hz:xN m (m.bgn,0):=ah7 hm
  have F0:PzH m X H1 srow [((m.bgn,0),[])] 0 0 H1.length (adD (Xr m) .nils) (H1.set 2 (.live 1 true true ((adD (Xr m) [.bool false]).set (Xh (m.bgn,0)) [.bool true]))++[.live 1 true false [[.int .i64 (Xh (m.bgn,0))]]]):=by
   refine⟨BF.start _ _ _,by simp,fun c c1 _ c3=>?_,⟨false,?_⟩,by simp,fun y u hu=>.inl ⟨?_,?_⟩,⟨true,?_⟩,⟨false,?_⟩,Nat.le_refl _⟩
   ·rw[aiC (by simpa using c1),acK (fun e=>c3 e.symm)]
   ·rw[aiC (by simp;omega),acK (by omega),g1];simp
   ·rw[as6]at hu
    split at hu
    ·simpa using hu.symm
    ·cases hu
   ·unfold Ya
    rw[show [((m.bgn,(0:Int)),([]:List Nat))]=[]++[((m.bgn,0),[])]from rfl,jA]
    simp only[eM,List.find?_nil,axV]
    split<;>rfl
   ·rw[aiC (by simp;omega),asB (by omega)]
    have:=apR (D:=[]) hz (by simp) []
    rw[ayH]at this
    rw[this,asI]
    have h0:(isT m []).map (fun b=>[AV.bool b])=adD (Xr m) [.bool false]:=by
     unfold isT
     rw[al3]
     refine List.ext_getElem? fun i=>?_
     rw[acZ,as6]
     by_cases hi:i<Xr m
     ·rw[ay2 hi,if_pos hi];rfl
     ·rw[List.getElem?_eq_none (by simpa using hi),if_neg hi];rfl
    rw[h0]
   ·simp
  refine Dl (cnt 92 (fun n (_:Unit) t h=>∃D i lb PS,n+i=89∧i≤D.length∧t 1=.ptr 0 0 0∧t 4=.slr 1 1 0 (Xr m)∧t 5=.slr 1 2 0 (Xr m)∧t 6=.slr 2 sb 0 X.length∧t 7=.slr 1 lb 0 D.length∧t 8=.int .i64 i∧PzH m X H1 srow D i 0 lb PS h) (fun _ _=>()) (fun _ e t h=>e=.exit 0∧∃D lb PS,t 4=.slr 1 1 0 (Xr m)∧t 5=.slr 1 2 0 (Xr m)∧PzH m X H1 srow D D.length 0 lb PS h) ?_ ?_ 89 () _ _ ?_) (fun e t h hk=>?_)
  ·rintro _ t h Q' kQ ⟨D,i,lb,PS,hni,hiD,_,_,_,_,_,_,F⟩
   have:=La hm F.B
   omega
  ·rintro n _ t h J Q' kJ kQ ⟨D,i,lb,PS,hni,hiD,c1,c4,c5,c6,c7,c8,F⟩
   by_cases hlt:i<D.length
   ·obtain⟨⟨u,pth⟩,hDi⟩:∃z,D[i]?=some z:=⟨_,al2 hlt⟩
    have hd:((i:Int)<(D.length:Int))=True:=eq_true (by omega)
    obtain⟨xl,hln⟩:=F.ln
    have hw:IntKind.i64.wrap ((i:Int)+1)=((i+1:Nat):Int):=by have:=La hm F.B;rw[Ed (by omega) (by omega)];rfl
    (have hb:=trivial;with_reducible repeat' (first|simp only[hb,Vc.down,seval,adN.down,c1,c4,c5,c6,c7,c8,hd,hln,hDi,ahZ,acZ]|refine Aq ?_ ?_<;>intro hb|refine fd ?_|fail))
    refine Dl (Ss 92 X (fun j (_:Unit) t h=>∃D lb PS,(∃pth,D[i]?=some (u,pth))∧t 1=.ptr 0 0 0∧t 4=.slr 1 1 0 (Xr m)∧t 5=.slr 1 2 0 (Xr m)∧t 6=.slr 2 sb 0 X.length∧t 7=.slr 1 lb 0 D.length∧t 8=.int .i64 i∧t 9=.int .i64 (Xh u)∧t 10=.int .i64 j∧PzH m X H1 srow D i j lb PS h) (fun _ _=>()) (fun _ e t h=>e=.exit 2∧∃D lb PS,(∃pth,D[i]?=some (u,pth))∧t 1=.ptr 0 0 0∧t 4=.slr 1 1 0 (Xr m)∧t 5=.slr 1 2 0 (Xr m)∧t 6=.slr 2 sb 0 X.length∧t 7=.slr 1 lb 0 D.length∧t 8=.int .i64 i∧PzH m X H1 srow D i X.length lb PS h) ?_ ?_ () _ _ ?_) (fun e t h hk=>?_)
    ·rintro _ t h Q2 kQ2 ⟨D,lb,PS,hDi,c1,c4,c5,c6,c7,c8,c9,c10,F⟩
     (have hb:=trivial;with_reducible repeat' (first|simp only[hb,Vc.down,seval,adN.down,c6,c10,ao3,decide_false]|refine Aq ?_ ?_<;>intro hb|refine fd ?_|fail))
     exact kQ2 _ _ _ ⟨rfl,D,lb,PS,hDi,by simp[up,c1],by simp[up,c4],by simp[up,c5],by simp[up,c6],by simp[up,c7],by simp[up,c8],F⟩
    ·rintro x rest j _ t h J2 Q2 kJ2 kQ2 hx hj ⟨D,lb,PS,⟨pth,hDi⟩,c1,c4,c5,c6,c7,c8,c9,c10,F⟩
     have hlt:=Yg hDi
     have hd2:((j:Int)<(X.length:Int))=True:=eq_true (by omega)
     have hw2:IntKind.i64.wrap ((j:Int)+1)=((j+1:Nat):Int):=by rw[Ed (by omega) (by omega)];rfl
     have hgx:gS X j=x:=oZ hx
     obtain⟨v0,s1,s2,s3⟩:=hsr j hj
     rw[hgx]at s1 s3
     obtain⟨cS,hcS⟩:∃c,H1[sb]?=some c:=⟨_,al2 hsbl⟩
     rw[hcS,s1]at s2
     have hSb:h[sb]?=some cS:=(F.kp sb hsbl hsb1 hsb2).trans hcS
     have h0:h[0]?=some (.live 7 false false [m.cells]):=(F.kp 0 (by omega) (by omega) (by omega)).trans g0
     have hu:=ahW hm F.B (al7 hDi)
     simp only at hu
     have hu2:=atZ hm hu x
     have hui:=a6Q hu
     have hq1:((Xh u:Int)).tdiv 11=u.1:=by rw[hui];obtain⟨a1,a2,a3,a4⟩:=hu;rw[Int.tdiv_eq_ediv_of_nonneg (by omega)];omega
     have hq2:((Xh u:Int)).tmod 11=u.2:=by rw[hui];obtain⟨a1,a2,a3,a4⟩:=hu;rw[Int.tmod_eq_emod_of_nonneg (by omega)];omega
     have hwu:IntKind.i64.wrap u.1=u.1:=by obtain⟨a1,a2,a3,a4⟩:=hu;exact Ed (by omega) (by omega)
     obtain⟨R5,hR5,_⟩:=hrd h F.kp j hj
     rw[s1,hgx]at hR5
     have hlx:=avP hm (hS.leg x (al7 hx))
     have hrx:afZ m x.1=true:=by simp only[auW,azA]at hlx;exact hlx.1
     have hrv:tV h (.agg [v0,.int .i64 x.2])=some (.agg (scC x)):=mJ (show 6≤12 by omega) (blA (hR5 4))
     have hstp:cl Dc h (some (.func qs [] [])) (some [.agg m.cells,.int .i64 u.1,.int .i64 u.2,.agg [v0,.int .i64 x.2]])=some (.ret (.tup [.int .i64 (Ww m u x).1,.int .i64 (Ww m u x).2]),[]):=by
      rw[←hqs]
      exact Ys (O:=Dc) (H:=h) (Xl rfl) (by simp only[Hw,Jk,jP,ay8,hrv,Gi];rfl) (by simp[Ob,bN,anK,Ii.cells,Uj,acG]) (bfX m u.1 u.2 ⟨false,x.1,x.2⟩ hs hm hrx) rfl rfl
     have hpv:=hPlc hu2 h
     have hpl2:=pI hu2
     have hBo:=F.B
     obtain⟨v',hv'⟩:∃v',Ww m u x=v':=⟨_,rfl⟩
     rw[hv']at hstp hpv hpl2 hu2
     have hgj:Ww m u (gS X j)=v':=by rw[hgx,hv']
     have hd3:((Xh v':Int)<(Xr m:Int))=True:=eq_true (by omega)
     obtain⟨xi,his⟩:=F.is_
     have hit:=yV D hpl2
     cases hin:(Ya D (Xh v')).isSome with
     |true=>
      rw[hin]at hit
      (have hb:=trivial;with_reducible repeat' (first|simp only[hb,Vc.down,seval,adN.down,c1,c4,c5,c6,c7,c8,c9,c10,hd2,h0,hSb,s2,hq1,hq2,hwu,hqs,hqp,hstp,hpv,hd3,his,hit,hw2,ahZ,acZ]|refine Aq ?_ ?_<;>intro hb|refine fd ?_|fail))
      obtain⟨p',hp'⟩:=azB.1 hin
      unfold Ya at hp'
      rw[cK hu2]at hp'
      obtain⟨kz,hkz⟩:=apC ((Zb F.B).1 hp')
      exact Ax (kJ2 _ _ () ⟨D,lb,PS,⟨pth,hDi⟩,by simp[up,c1],by simp[up,c4],by simp[up,c5],by simp[up,c6],by simp[up,c7],by simp[up,c8],by simp[up,c9],by simp[up],{ F with B:=F.B.old hDi hkz hgj.symm }⟩ rfl)
     |false=>
      rw[hin]at hit
      have hnd:v'∉D.map (·.1):=by
       rw[←uN]
       unfold Ya at hin
       rw[cK hu2]at hin
       simpa using hin
      have hBn:=F.B.new hDi hj (fun k z hz e=>hnd (by rw[hgj]at e;exact as8.2 ⟨z,al7 hz,e⟩))
      rw[hgj]at hBn
      have hdu:((Xh u:Int)<(Xr m:Int))=True:=eq_true (by have:=pI hu;omega)
      obtain⟨xp,hps⟩:=F.ps
      obtain⟨xl,hln⟩:=F.ln
      have hlbl:=F.lbl
      have hhl:=F.len
      have hlb3:=An hln
      obtain⟨pu,hpu⟩:∃pu,PS[Xh u]?=some pu:=⟨_,al2 (by rw[F.pl];exact pI hu)⟩
      obtain⟨pq,hpq⟩:∃pq,PS[Xh v']?=some pq:=⟨_,al2 (by rw[F.pl];exact hpl2)⟩
      have hPu:=F.pr _ _ hpu
      have htu:Ya D (Xh u)=some pth:=by
       unfold Ya
       rw[cK hu,Zb F.B]
       exact al7 hDi
      rw[htu,al6]at hPu
      have h88:=La hm F.B
      have h88n:=La hm hBn
      simp only[awV,aiK,aoC]at h88n
      have hpw:=abU F.B i _ hDi
      simp only at hpw
      obtain⟨G2,hG2⟩:∃G2,h.set 2 (.live 1 true true (((isT m D).map fun b=>[AV.bool b]).set (Xh v') [.bool true]))=G2:=⟨_,rfl⟩
      have hG2l:G2.length=h.length:=by rw[←hG2,ah3]
      have kG2:∀c,c≠2→G2[c]?=h[c]?:=fun c hc=>by rw[←hG2,acK (fun e=>hc e.symm)]
      have a1:G2[1]?=some (.live 1 false xp (PS.map fun v=>[v])):=by rw[kG2 1 (by omega)];exact hps
      have aS:G2[sb]?=some cS:=by rw[kG2 sb hsb2];exact hSb
      have s1g:=Jt (show 1<G2.length by omega)
      have hac:Am v0=[v0]:=by rcases s3 with⟨rfl,_⟩|⟨d,rfl,_⟩<;>rfl
      have hic:v0.isCell=true:=by rcases s3 with⟨rfl,_⟩|⟨d,rfl,_⟩<;>rfl
      have hl39:(D.length+1≤549755813888)=True:=eq_true (by omega)
      have hp39:(pth.length+1≤549755813888)=True:=eq_true (by omega)
      rcases hPu with⟨rfl,hp0⟩|⟨c,xc,rfl,hpn,hcb,hcl,hclb⟩
      ·obtain⟨sf,t1,t2,tn,tk⟩:∃sf:Nat→Nat,sf 1=4∧sf sb=1∧sf h.length=10∧∀k,sf (h.length+k)=k+10:=⟨fun b=>if h.length≤b then b-h.length+10 else if b=1 then 4 else 1,by show(if _ then _ else _)=_;rw[if_neg (by omega),if_pos rfl],by show(if _ then _ else _)=_;rw[if_neg (by omega),if_neg hsb1],by simp,fun k=>by simp⟩
       obtain⟨G3,hG3⟩:∃G3,G2.set 1 (.live 1 false true ((PS.map fun v=>[v]).set (Xh v') [.slr 2 (h.length+1) 0 1]))=G3:=⟨_,rfl⟩
       have hG3l:G3.length=h.length:=by rw[←hG3,ah3,hG2l]
       have kG3:∀c,c≠1→G3[c]?=G2[c]?:=fun c hc=>by rw[←hG3,acK (fun e=>hc e.symm)]
       have aL:G3[lb]?=some (.live 1 true xl (D.map fun x=>[AV.int .i64 (Xh x.1)])):=by rw[kG3 lb (by omega),kG2 lb (by omega)];exact hln
       have sLg:=Jt (show lb<G3.length by omega)
       have n0:∀l:Ab,(G3++l)[h.length]?=l[0]?:=fun l=>by rw[←hG3l];exact Px G3 l 0
       have nk:∀(l:Ab) (k:Nat),(G3++l)[h.length+k]?=l[k]?:=fun l k=>by rw[←hG3l];exact Px G3 l k
       have m0:∀l:Ab,(G2++l)[h.length]?=l[0]?:=fun l=>by rw[←hG2l];exact Px G2 l 0
       have mk_:∀(l:Ab) (k:Nat),(G2++l)[h.length+k]?=l[k]?:=fun l k=>by rw[←hG2l];exact Px G2 l k
       have aLa:=Ac aL
       have a1a:=Ac a1
       have aSa:=Ac aS
       (have hb:=trivial;with_reducible repeat' (first|simp only[hb,Vc.down,seval,adN.down,c1,c4,c5,c6,c7,c8,c9,c10,hd2,h0,hSb,s2,hq1,hq2,hwu,hqs,hqp,hstp,hpv,hd3,his,hit,hw2,hG2,hG2l,a1,a1a,aS,aSa,s1g,hac,hic,hdu,hpu,hpq,hG3,hG3l,aL,aLa,sLg,n0,nk,m0,mk_,hl39,ahZ,acZ]|refine Aq ?_ ?_<;>intro hb|((refine Zi (Up (sf) ?_) ?_);(simp (discharger:=decide) only[Zq,Ul,aiH,as9,Qd,Zo,Zk,Zh,Qc,aiK,aoC,t1,t2,tn,tk];kernel_rfl);intro _)|refine fdq ?_|fail))
       rw[←hG3,←hG2]
       subst hp0
       exact Ax (kJ2 _ _ () ⟨D++[(v',[]++[j])],h.length+3,PS.set (Xh v') (.slr 2 (h.length+1) 0 1),⟨[],acC hDi _⟩,by simp[up,c1],by simp[up,c4],by simp[up,c5],by simp[up,c6],by simp[up],by simp[up,c8],by simp[up,c9],by simp[up],F.grow hu2 hnd hBn (by omega) _ [CB.live 2 false false [[v0,AV.int IntKind.i64 x.2]],CB.live 2 false false [[v0,AV.int IntKind.i64 x.2]],CB.live 1 true false [[AV.int IntKind.i64 (Xh v')]]] rfl ⟨1,false,rfl,by simp,by simp[s1]⟩⟩ rfl)
      ·have hcL:=An hcb
       have hc2:c≠2:=by omega
       have hc1:c≠1:=by omega
       have aC:G2[c]?=some (.live 2 false xc (pth.map srow)):=by rw[kG2 c hc2];exact hcb
       have aCa:=Ac aC
       have hcp:=bg4 (st:=2) (fl:=false) (r:=pth.map srow) (by simpa using hpn) (by simp;omega)
       have htk:List.take pth.length (pth.map srow)=pth.map srow:=azC (by simp)
       rw[acE]at hcp
       obtain⟨sf,t1,t2,t3,tn,tk⟩:∃sf:Nat→Nat,sf 1=4∧sf sb=1∧sf c=1∧sf h.length=10∧∀k,sf (h.length+k)=k+10:=⟨fun b=>if h.length≤b then b-h.length+10 else if b=1 then 4 else 1,by show(if _ then _ else _)=_;rw[if_neg (by omega),if_pos rfl],by show(if _ then _ else _)=_;rw[if_neg (by omega),if_neg hsb1],by show(if _ then _ else _)=_;rw[if_neg (by omega),if_neg hc1],by simp,fun k=>by simp⟩
       obtain⟨G3,hG3⟩:∃G3,G2.set 1 (.live 1 false true ((PS.map fun v=>[v]).set (Xh v') [.slr 2 (h.length+2) 0 (pth.length+1)]))=G3:=⟨_,rfl⟩
       have hG3l:G3.length=h.length:=by rw[←hG3,ah3,hG2l]
       have kG3:∀c,c≠1→G3[c]?=G2[c]?:=fun c hc=>by rw[←hG3,acK (fun e=>hc e.symm)]
       have aL:G3[lb]?=some (.live 1 true xl (D.map fun x=>[AV.int .i64 (Xh x.1)])):=by rw[kG3 lb (by omega),kG2 lb (by omega)];exact hln
       have sLg:=Jt (show lb<G3.length by omega)
       have n0:∀l:Ab,(G3++l)[h.length]?=l[0]?:=fun l=>by rw[←hG3l];exact Px G3 l 0
       have nk:∀(l:Ab) (k:Nat),(G3++l)[h.length+k]?=l[k]?:=fun l k=>by rw[←hG3l];exact Px G3 l k
       have m0:∀l:Ab,(G2++l)[h.length]?=l[0]?:=fun l=>by rw[←hG2l];exact Px G2 l 0
       have mk_:∀(l:Ab) (k:Nat),(G2++l)[h.length+k]?=l[k]?:=fun l k=>by rw[←hG2l];exact Px G2 l k
       have hsn:∀(l:Ab) (x:CB),(G2++l).set h.length x=G2++l.set 0 x:=fun l x=>(List.set_append_right _ _ (by omega)).trans (by rw[hG2l,Nat.sub_self])
       have aLa:=Ac aL
       have a1a:=Ac a1
       have aSa:=Ac aS
       (have hb:=trivial;with_reducible repeat' (first|simp only[hb,Vc.down,seval,adN.down,c1,c4,c5,c6,c7,c8,c9,c10,hd2,h0,hSb,s2,hq1,hq2,hwu,hqs,hqp,hstp,hpv,hd3,his,hit,hw2,hG2,hG2l,a1,a1a,aS,aSa,s1g,hac,hic,hdu,hpu,hpq,hG3,hG3l,aL,aLa,sLg,n0,nk,m0,mk_,hl39,hp39,aC,aCa,hcp,htk,hsn,List.set_cons_zero,acE,ahZ,acZ]|refine Aq ?_ ?_<;>intro hb|((refine Zi (Up (sf) ?_) ?_);(simp (discharger:=decide) only[Zq,Ul,aiH,as9,Qd,Zo,Zk,Zh,Qc,aiK,aoC,t1,t2,t3,tn,tk];kernel_rfl);intro _)|refine fdq ?_|fail))
       rw[←hG3,←hG2]
       exact Ax (kJ2 _ _ () ⟨D++[(v',pth++[j])],h.length+4,PS.set (Xh v') (.slr 2 (h.length+2) 0 (pth.length+1)),⟨pth,acC hDi _⟩,by simp[up,c1],by simp[up,c4],by simp[up,c5],by simp[up,c6],by simp[up],by simp[up,c8],by simp[up,c9],by simp[up],by
        have:=F.grow hu2 hnd hBn (by omega) (.slr 2 (h.length+2) 0 (pth++[j]).length) [CB.dead,CB.live 2 false false [[v0,AV.int IntKind.i64 x.2]],CB.live 2 false false (pth.map srow++[[v0,AV.int IntKind.i64 x.2]]),CB.live 1 true false [[AV.int IntKind.i64 (Xh v')]]] rfl ⟨2,false,rfl,by simp,by simp[s1]⟩
        rw[show(pth++[j]).length=pth.length+1 by simp]at this
        exact this⟩ rfl)
    ·exact⟨D,lb,PS,⟨pth,hDi⟩,by simp[up,c1],by simp[up,c4],by simp[up,c5],by simp[up,c6],by simp[up,c7],by simp[up,c8],by simp[up],by simp[up],F⟩
    ·obtain⟨rfl,D,lb,PS,⟨pth,hDi⟩,c1,c4,c5,c6,c7,c8,F⟩:=hk
     have hlt':=Yg hDi
     (have hb:=trivial;with_reducible repeat' (first|simp only[hb,Vc.down,seval,adN.down,c8,hw]|refine Aq ?_ ?_<;>intro hb|refine fd ?_|fail))
     exact Ax (kJ _ _ () ⟨D,i+1,lb,PS,by omega,by omega,by simp[up,c1],by simp[up,c4],by simp[up,c5],by simp[up,c6],by simp[up,c7],by simp[up]<;>omega,{ F with B:=F.B.next }⟩ rfl)
   ·have hDl:i=D.length:=by omega
    subst hDl
    (have hb:=trivial;with_reducible repeat' (first|simp only[hb,Vc.down,seval,adN.down,c7,c8,ao3,decide_false]|refine Aq ?_ ?_<;>intro hb|refine fd ?_|fail))
    exact kQ _ _ _ ⟨rfl,D,lb,PS,by simp[up,c4],by simp[up,c5],F⟩
  ·exact⟨_,0,H1.length,_,rfl,by simp,by simp[up,Eg],by simp[up],by simp[up],by simp[up],by simp[up],by simp[up],F0⟩
  ·obtain⟨rfl,D,lb,PS,c4,c5,F⟩:=hk
   obtain⟨xp,hps⟩:=F.ps
   obtain⟨xi,his⟩:=F.is_
   have h88:=La hm F.B
   obtain⟨R1,p1,p2⟩:=zJ (f:=rd 5 (hf h)) (val:=fun y=>alV m ((Ya D y).getD [])) (w:=wN D) PS 0 fun y u hu=>by
    rw[Nat.zero_add]
    have hy:y<Xr m:=by have:=Yg hu;rw[F.pl]at this;exact this
    rcases F.pr y u hu with⟨rfl,h1⟩|⟨c,x,rfl,h1,h2,_,_⟩
    ·rw[h1]
     exact⟨[],rfl,by simp⟩
    ·obtain⟨p,hp⟩:∃p,Ya D y=some p:=by
      cases hp:Ya D y with
      |none=>rw[hp]at h1;simp at h1
      |some p=>exact⟨p,rfl⟩
     rw[hp,al6]at h1 h2 ⊢
     have hpX:∀k∈p,k<X.length:=by
      obtain⟨kz,hkz⟩:=apC ((Zb F.B).1 hp)
      exact(F.B.way kz _ hkz).2
     obtain⟨R,r1,r2⟩:=wQ (f:=rd 4 (hf h)) (srow:=srow) (g:=fun i=>scC (gS X i)) p fun k hk=>by
      obtain⟨R,q1,q2⟩:=hrd h F.kp k (hpX k hk)
      exact⟨R,q1 3,q2⟩
     have ow:Wc 0 2 false (p.map srow) (.slr 2 c 0 p.length) h:=Wc.blk h2 rfl (by simp)
     obtain⟨R2,q1,q2⟩:=awS ow (d:=4) r1 (fun e=>absurd (asX.1 e) h1)
     refine⟨R2,?_,by unfold wN;rw[hp];simp at q2 ⊢;omega⟩
     unfold alV
     rw[hX];exact q1
   rw[F.pl,←List.range_eq_range']at p1 p2
   have p3:R1.length≤3916:=by
    refine apH p2 (apH (avZ D _ List.nodup_range) ?_)
    have:=apI (l:=D.map fun x=>x.2.length+1) (fun k x hx=>by
     rw[acZ]at hx
     obtain⟨z,hz,rfl⟩:=ap9.1 hx
     have:=abU F.B k z hz
     omega) 88
    rw[azC (by simpa using h88)]at this
    exact apH this (by decide)
   have ow:Wc 0 1 false (PS.map fun v=>[v]) (.slr 1 1 0 (Xr m)) h:=Wc.blk hps rfl (by rw[acE,F.pl])
   obtain⟨R2,q1,q2⟩:=awS ow (d:=5) p1 (fun e=>by
    have h1:=congrArg al9 e
    rw[acE,F.pl]at h1
    simp at h1;omega)
   have q3:rd 6 (hf h) (.slr 1 2 0 (Xr m))=some (Af 1 true false ((isT m D).map fun b=>[.bool b]),[2]):=by
    rw[agX (by
     intro e
     have h1:=congrArg al9 e
     rw[acE,gP]at h1
     simp at h1;omega)]
    exact wO (show(h[2]?).bind Ci=_ by rw[his];rfl) (by rw[acE,gP])
   (have hb:=trivial;with_reducible repeat' (first|simp only[hb,Vc.down,seval,adN.down,c4,c5]|refine Aq ?_ ?_<;>intro hb|refine fd ?_|fail))
   refine hK _ ?_
   rw[fX]
   refine lC (vs:=[.slr 1 1 0 (Xr m),.slr 1 2 0 (Xr m)]) (by simp only[Vc.down,seval,adN.down]) (yQ (Oq q1 (Oq q3 nL)) (by simp at q2 ⊢;omega) rfl fun outs h' R' k1 k2 k3=>⟨D,outs,R',by rw[hX];exact F.B,rfl,k1,by simp at q2 k2;omega,k3⟩)
 obtain⟨o,h',e,E,outs,R,hF,rfl,k1,k2,k3⟩:=key
 exact⟨E,hF,outs,h',R,e,k1,k2,k3⟩
theorem aiW{m:Ad}(hm:Bh m=true){v:Int × Int}(h:xN m v)(H:Ab):cl Dc H (some (.func (.func 61) [] [])) (some [.int .i64 v.1,.int .i64 v.2])=some (.ret (.int .i64 (Xh v)),[]):=
 Ys (O:=Dc) (H:=H) (Xl rfl) (by simp only[Hw,Jk,ay8,Gi]) (by simp[bN,acG]) (apY hm h) rfl rfl
theorem al8{g:HF}{d st b n:Nat}{rows X':List (List AV)}{X:AV}{R R':List Nat}(h1:(g b).bind Ci=some (st,false,rows))(h2:Cj (rd d g) rows=some (X',R'))(h:rd (d+1) g (.slr st b 0 n)=some (X,R)):R.length=R'.length+1:=by
 simp only[rd,h1,h2,azE,cond_false,ahZ]at h
 split at h
 ·simp only[al4.injEq,Prod.mk.injEq]at h
  rw[←h.2,aiK]
 ·cases h
theorem ai1{m:Ad}(hs:m.small)(hm:Bh m=true)(hN:(Dx m).length≤200)(H:Ab):∃E,mT m (Dx m) E∧∃pb rows R cI ib es H1,cl Dc H (some (.func (.func 58) [] [])) (some [.agg m.cells])=some (.ret (.tup [.slr 1 pb 0 (Xr m),.slr 1 ib 0 (Xr m)]),es)∧Dm H es=H1∧(∀c,c<H.length→H1[c]?=H[c]?)∧H.length≤H1.length∧H1[ib]?=some cI∧(∀y,y<Xr m→Qp (some cI) y=some [.bool (Ya E y).isSome])∧H.length≤ib∧(hf H1 pb).bind Ci=some (1,false,rows)∧Cj (rd 5 (hf H1)) rows=some ((an5 (Xr m)).map fun y=>[alV m ((Ya E y).getD [])],R)∧R.length≤4500:=by
 obtain⟨E,hE,KP⟩:=azT hs hm hN
 have hpl:=ag0 hm
 obtain⟨outs,es,H1,R,e1,e2,K1,r1,r2,r3⟩:=KP.cl (H:=H) (args:=[.agg m.cells]) (Xl rfl) (by simp only[Hw,Jk,jP,Gi]) (by simp[Ob,acG])
 rw[show([AV.agg m.cells].flatMap (Cf 12 (hf H)))=[]from by rw[asS,Rj _ (show 8≤12 by omega) (Ob m)];rfl]at K1
 obtain⟨v1,l1,R1,R2,rfl,w1,w2,rfl⟩:=Oi r1
 obtain⟨v2,l2,R3,R4,rfl,w3,w4,rfl⟩:=Oi w2
 obtain⟨rfl,rfl⟩:=fH w4
 refine⟨E,hE,?_⟩
 rcases Rf w1 with⟨_,h1⟩|⟨pb,rows,rfl,a1,a2,_,a4⟩
 ·have:=congrArg al9 h1
  simp at this;omega
 rcases Rf w3 with⟨_,h1⟩|⟨ib,rows2,rfl,b1,b2,b3,_⟩
 ·have:=congrArg al9 h1
  rw[acE,gP]at this
  simp at this;omega
 obtain⟨R',a5⟩:=a4 rfl
 have b4:=b3 rfl
 subst b4
 have b1':(H1[ib]?).bind Ci=some (1,true,(isT m E).map fun b=>[AV.bool b]):=b1
 obtain⟨cI,c1,c2⟩:=aiI.1 b1'
 have hq:=wO (d:=5) (n:=(isT m E).length) b1 (by simp)
 rw[acE]at w3
 rw[hq]at w3
 simp only[al4.injEq,Prod.mk.injEq]at w3
 refine⟨pb,rows,R',cI,ib,es,H1,?_,e2,fun c hc=>K1.same c hc (by simp),K1.len,c1,fun y hy=>?_,r3 ib (by rw[←w3.2];simp),a1,a5,?_⟩
 ·rw[e1,acE,acE,List.length_range,gP]
 ·have:=xY b1 y
  rw[c1,acZ,yV E hy]at this
  exact this
 ·have:=al8 a1 a5 w1
  simp at r2;omega
theorem atN{m:Ad}(hm:Bh m=true){E:List ((Int × Int) × List Nat)}(C:mT m (Dx m) E)(s:Int):((fK 11 0).any fun a=>(eM E (s,a)).isSome)=eF E s:=by
 rw[azF,apN]
 unfold eF
 rw[apN]
 constructor
 ·rintro⟨a,_,h⟩
  obtain⟨p,hp⟩:=azB.1 h
  exact⟨_,(Zb C).1 hp,by simp⟩
 ·rintro⟨⟨⟨s',a⟩,p⟩,hx,h⟩
  have hk:=ahW hm C hx
  obtain⟨h1,h2,h3,h4⟩:=hk
  simp only at h h3 h4
  have e:s'=s:=by simpa using h
  subst e
  exact⟨a,(mQ _ _ _).2 (by omega),by rw[(Zb C).2 hx];rfl⟩
def ReJ(m:Ad)(ib:Nat)(cI:CB)(O:List Int)(v:AV)(h:Ab):Prop:=(∃x,h[0]?=some (.live 7 false x [m.cells]))∧h[ib]?=some cI∧Wc 0 1 true (O.map iv) v h∧∀a b r n,v=.slr a b r n→b≠ib∧b≠0
theorem ReJ.snoc{m:Ad}{ib:Nat}{cI:CB}{O:List Int}{v:AV}{h:Ab}(I:ReJ m ib cI O v h)(s:Int)(l:Ab){n:Nat}(hn:n=h.length+l.length):ReJ m ib cI (O++[s]) (.slr 1 n 0 (O.length+1)) (kl 0 v h++(l++[.live 1 true false (O.map iv++[[.int .i64 s]])])):=by
 obtain⟨⟨x,h1⟩,h2,h3,h4⟩:=I
 have hkl:(kl 0 v h).length=h.length:=Jq ..
 have h1l:=An h1
 have h2l:=An h2
 have key:∀c,c<h.length→(∀a b r k,v=.slr a b r k→b≠c)→(kl 0 v h++(l++[CB.live 1 true false (O.map iv++[[.int .i64 s]])]))[c]?=h[c]?:=fun c hc hv=>by
  rw[aiC (by omega)]
  rcases h3 with⟨_,rfl⟩|⟨b,w,rfl,h3⟩
  ·rfl
  ·simp only[kl]
   rw[acK (fun e=>hv _ _ _ _ rfl (by omega))]
 refine⟨⟨x,by rw[key 0 h1l fun a b r k e=>(h4 a b r k e).2];exact h1⟩,by rw[key ib h2l fun a b r k e=>(h4 a b r k e).1];exact h2,Wc.blk (b:=n) (w:=false) ?_ (by omega) (by simp),fun a b r k e=>by cases e;omega⟩
 rw[anF (by omega),anF (by omega),hkl,show n-h.length-l.length=0 by omega]
 simp[iv]
theorem azS{m:Ad}(hs:m.small)(hm:Bh m=true)(hN:(Dx m).length≤200):∃E nn,mT m (Dx m) E∧RdV Dc 32 [.agg m.cells] (Af 1 true nn ((Zp m E).map iv)) 10:=by
 have key:ClQ Dc 32 [.agg m.cells] [] fun o h'=>∃E nn v R,mT m (Dx m) E∧o=.ret v∧rd 6 (hf h') v=some (Af 1 true nn ((Zp m E).map iv),R)∧R.length≤10∧∀c∈h',Rnm c:=by
  obtain⟨q,hq⟩:∃q,Fn.func 58=q:=⟨_,rfl⟩
  obtain⟨qp,hqp⟩:∃q,Fn.func 61=q:=⟨_,rfl⟩
  have hst:=Ie hm
  have hpl:=ag0 hm
  obtain⟨E,hE,pb,rows,R,cI,ib,es,H1,e1,e2,K1,K2,g1,g2,g3,_,_,_⟩:=ai1 hs hm hN [.live 7 false false [m.cells]]
  have hPl:=fun {v:Int × Int} (h:xN m v) (H:Ab)=>aiW hm h H
  rw[hq]at e1
  rw[hqp]at hPl
  have h0:H1[0]?=some (.live 7 false false [m.cells]):=K1 0 (by simp)
  refine abD rfl Try.func32 rfl rfl ?_
  simp only[Try.f32]
  refine Ik (fun K iN hK=>?_)
  (have hb:=trivial;with_reducible repeat' (first|simp only[hb,Vc.down,seval,abI.down,hq,e1,e2,acE]|refine Aq ?_ ?_<;>intro hb|refine fd ?_|fail))
  refine Dl (Ss 39 (fK m.states.toNat 0) (fun i (_:Unit) t h=>∃v,t 1=.ptr 0 0 0∧t 4=.slr 1 ib 0 (Xr m)∧t 5=v∧t 6=.int .i64 i∧ReJ m ib cI (((fK m.states.toNat 0).take i).filter (eF E)) v h) (fun _ _=>()) (fun _ e t h=>e=.exit 0∧∃v,t 5=v∧ReJ m ib cI (Zp m E) v h) ?_ ?_ () _ _ ?_) (fun e t h hk=>?_)
  ·rintro _ t h Q' kQ ⟨v,c1,c4,c5,c6,I⟩
   rw[Lx]at c6
   have hd:((m.states.toNat:Int)<m.states)=False:=eq_false (by omega)
   rw[List.take_length]at I
   obtain⟨x,h0⟩:=I.1
   (have hb:=trivial;with_reducible repeat' (first|simp only[hb,Vc.down,seval,abI.down,c1,c6,hd,h0]|refine Aq ?_ ?_<;>intro hb|refine fd ?_|fail))
   exact kQ _ _ _ ⟨rfl,v,by simp[up,c5],I⟩
  ·rintro s rest i _ t h J Q' kJ kQ hx hi ⟨v,c1,c4,c5,c6,I⟩
   rw[Lx]at hi
   obtain⟨hs0,_⟩:=fP _ _ _ _ hx
   rw[atA]at hs0
   have hd:((i:Int)<m.states)=True:=eq_true (by omega)
   have hw:=Av hi (show m.states.toNat≤maxLen by unfold maxLen;omega)
   have htk:((fK m.states.toNat 0).take (i+1)).filter (eF E)=((fK m.states.toNat 0).take i).filter (eF E)++if eF E s=true then [s]else []:=by
    rw[avO,hx,List.filter_append]
    congr 1
    cases hh:eF E s<;>simp[hh]
   generalize hO:((fK m.states.toNat 0).take i).filter (eF E)=O at I htk
   have hOl:O.length≤8:=by
    rw[←hO]
    refine apH (azH _ _) ?_
    rw[List.length_take,Lx];omega
   subst hs0
   obtain⟨⟨x0,h0⟩,hib,own',hne⟩:=id I
   (have hb:=trivial;with_reducible repeat' (first|simp only[hb,Vc.down,seval,abI.down,c1,c4,c5,c6,hd,h0]|refine Aq ?_ ?_<;>intro hb|refine fd ?_|fail))
   refine Dl (Ss 39 (fK 11 0) (fun k (b:Bool) t h'=>t 1=.ptr 0 0 0∧t 4=.slr 1 ib 0 (Xr m)∧t 5=v∧t 6=.int .i64 (i:Int)∧t 7=.bool b∧t 8=.int .i64 k∧h=h') (fun rest b=>b||rest.any fun a=>(eM E ((i:Int),a)).isSome) (fun r e t h'=>e=.exit 2∧t 1=.ptr 0 0 0∧t 4=.slr 1 ib 0 (Xr m)∧t 5=v∧t 6=.int .i64 (i:Int)∧t 7=.bool r∧h=h') ?_ ?_ false _ _ ?_) (fun e t h' hk=>?_)
   ·rintro b t h' Q2 kQ2 ⟨d1,d4,d5,d6,d7,d8,rfl⟩
    rw[Lx]at d8
    (have hb:=trivial;with_reducible repeat' (first|simp only[hb,Vc.down,seval,abI.down,d8]|refine Aq ?_ ?_<;>intro hb|refine fd ?_|fail))
    exact kQ2 _ _ _ ⟨rfl,by simp[up,d1],by simp[up,d4],by simp[up,d5],by simp[up,d6],by simp[up,d7],rfl⟩
   ·rintro a rest k b t h' J2 Q2 kJ2 kQ2 hx2 hk2 ⟨d1,d4,d5,d6,d7,d8,rfl⟩
    rw[Lx]at hk2
    obtain⟨ha,_⟩:=fP _ _ _ _ hx2
    rw[atA]at ha
    subst ha
    have hok:xN m ((i:Int),(k:Int)):=⟨by simp only;omega,by simp only;omega,by simp only;omega,by simp only;omega⟩
    have hlt:=pI hok
    have hp1:=hPl hok h
    simp only at hp1
    have hd3:((Xh ((i:Int),(k:Int)):Int)<(Xr m:Int))=True:=eq_true (by omega)
    have hg:=g2 _ hlt
    unfold Ya at hg
    rw[cK hok]at hg
    have hd2:((k:Int)≤10)=True:=eq_true (by omega)
    have hw2:IntKind.i64.wrap ((k:Int)+1)=((k+1:Nat):Int):=by rw[Ed (by omega) (by omega)];rfl
    cases b with
    |true=>
     (have hb:=trivial;with_reducible repeat' (first|simp only[hb,Vc.down,seval,abI.down,d1,d4,d5,d6,d7,d8,hd2,hw2]|refine Aq ?_ ?_<;>intro hb|refine fd ?_|fail))
     exact Ax (kJ2 _ _ true ⟨by simp[up,d1],by simp[up,d4],by simp[up,d5],by simp[up,d6],by simp[up],by simp[up],rfl⟩ (by simp))
    |false=>
     cases hTb:(eM E ((i:Int),(k:Int))).isSome with
     |true=>
      rw[hTb]at hg
      (have hb:=trivial;with_reducible repeat' (first|simp only[hb,Vc.down,seval,abI.down,d1,d4,d5,d6,d7,d8,hd2,hw2,hqp,hp1,hd3,hib,hg]|refine Aq ?_ ?_<;>intro hb|refine fd ?_|fail))
      exact Ax (kJ2 _ _ true ⟨by simp[up,d1],by simp[up,d4],by simp[up,d5],by simp[up,d6],by simp[up],by simp[up],rfl⟩ (by rw[List.any_cons,hTb];rfl))
     |false=>
      rw[hTb]at hg
      (have hb:=trivial;with_reducible repeat' (first|simp only[hb,Vc.down,seval,abI.down,d1,d4,d5,d6,d7,d8,hd2,hw2,hqp,hp1,hd3,hib,hg]|refine Aq ?_ ?_<;>intro hb|refine fd ?_|fail))
      exact Ax (kJ2 _ _ false ⟨by simp[up,d1],by simp[up,d4],by simp[up,d5],by simp[up,d6],by simp[up],by simp[up],rfl⟩ (by rw[List.any_cons,hTb];rfl))
   ·exact⟨by simp[up,c1],by simp[up,c4],by simp[up,c5],by simp[up,c6],by simp[up],by simp[up],rfl⟩
   obtain⟨rfl,d1,d4,d5,d6,d7,rfl⟩:=hk
   rw[Bool.false_or,atN hm hE]at d7
   cases hh:eF E (i:Int)with
   |true=>
    rw[hh]at d7
    rw[hh,if_pos rfl]at htk
    have hap:=fun(q:Ab) (r:List AV)=>fW own' (pre:=[]) rfl q r [] (by simp;omega)
    have hhp:=fun(q:Ab) (r:List (List AV)) (ba:Nat)=>jG own' (pre:=[]) rfl q 1 true r ba
    simp only[ayH]at hap hhp
    (have hb:=trivial;with_reducible repeat' (first|simp only[hb,Vc.down,seval,abI.down,d5,d6,d7,hap,hhp,hw,acE]|refine Aq ?_ ?_<;>intro hb|refine fd ?_|fail))
    exact Ax (kJ _ _ () ⟨.slr 1 (h.length+1) 0 (O.length+1),by simp[up,d1],by simp[up,d4],by simp[up],by simp[up]<;>omega,by rw[htk];exact I.snoc (i:Int) [.live 1 true false [[.int .i64 (i:Int)]]] rfl⟩ rfl)
   |false=>
    rw[hh]at d7
    rw[hh,if_neg (by simp),List.append_nil]at htk
    (have hb:=trivial;with_reducible repeat' (first|simp only[hb,Vc.down,seval,abI.down,d5,d6,d7,hw,acE]|refine Aq ?_ ?_<;>intro hb|refine fd ?_|fail))
    exact Ax (kJ _ _ () ⟨v,by simp[up,d1],by simp[up,d4],by simp[up,d5],by simp[up]<;>omega,by rw[htk];exact I⟩ rfl)
  ·exact⟨.nils,by simp[up,Eg],by simp[up],by simp[up],by simp[up],⟨_,h0⟩,g1,Wc.nil _ _ _ _,fun a b r n e=>by cases e⟩
  ·obtain⟨rfl,v,c5,⟨_,_,own,_⟩⟩:=hk
   obtain⟨nn,R,hR⟩:=yS own
   (have hb:=trivial;with_reducible repeat' (first|simp only[hb,Vc.down,seval,abI.down,c5]|refine Aq ?_ ?_<;>intro hb|refine fd ?_|fail))
   refine hK _ ?_
   rw[fX]
   refine lC (vs:=[v]) (by simp only[Vc.down,seval,abI.down]) (rR (hR 5).1 (by have:=(hR 5).2;omega) fun v' h' R' k1 k2 k3=>⟨E,nn,v',R',hE,rfl,k1,by have:=(hR 5).2;omega,k3⟩)
 obtain⟨o,h',e,E,nn,v,R,hF,rfl,k1,k2,k3⟩:=key
 exact⟨E,nn,hF,v,h',R,e,k1,k2,k3⟩
def tsF(x:List Int × Int):Ii:=⟨false,x.1,x.2⟩
theorem uE(p:List (List Int × Int)):(p.map tsF).map Ii.cells=p.map scC:=by rw[al3];rfl
theorem ahE(p:List (List Int × Int)):(p.map tsF).map prT=p:=by
 rw[al3]
 have:prT ∘ tsF=id:=rfl
 rw[this,List.map_id]
theorem bbC{g:HF}{d:Nat}{v:AV}{rows:List (List AV)}{nn:Bool}{R:List Nat}(h:rd (d+1) g v=some (Af 2 false nn rows,R)):ln Try.prog 66 (some v)=some (.ret (.int .i64 rows.length),[]):=by
 rcases Rf h with⟨rfl,h1⟩|⟨b,rows',rfl,_⟩
 ·rw[h1];simp[ln,agW,Try.underlying66,iH]
 ·simp only[ln,azE,agW,Try.underlying66,iH]
theorem bkW{g:HF}{d st:Nat}{fl nn:Bool}{v:AV}{rows:List (List AV)}{R:List Nat}(h:rd (d+1) g v=some (Af st fl nn rows,R)):v.isCell=true∧Am v=[v]:=by
 rcases Rf h with⟨rfl,_⟩|⟨b,rows',rfl,_⟩<;>exact⟨rfl,rfl⟩
theorem vJ{f:AV→Option (AV × List Nat)}:∀{l:List (List AV)} {p:List (List AV) × List Nat} {i:Nat} {X:List AV},Cj f l=some p→p.1[i]?=some X→∃r R,l[i]?=some r∧Xa f r=some (X,R)∧R.length≤p.2.length
 | [],p,i,X,h,hx=>by simp[Cj]at h;subst h;simp at hx
 |a::l,p,i,X,h,hx=>by
  simp only[Cj,aiI,ap9]at h
  obtain⟨q,hq,r,hr,rfl⟩:=h
  cases i with
  |zero=>
   simp only[atX,al4.injEq]at hx
   subst hx
   exact⟨a,q.2,rfl,hq,by simp⟩
  |succ i=>
   simp only[avF]at hx
   obtain⟨r',R,k1,k2,k3⟩:=vJ hr hx
   exact⟨r',R,by simpa using k1,k2,by simp at k3 ⊢;omega⟩
theorem bfV{O:Hv}{f:Nat}{g:HF}{d st:Nat}{fl nn:Bool}{v:AV}{rows:List (List AV)}{R:List Nat}(r:rd (d+1) g v=some (Af st fl nn rows,R))(hm:O.md f=false)(l:List AV):pkd O f (v::l):=by
 rcases Rf r with⟨rfl,_⟩|⟨b,rows',rfl,_⟩
 ·exact axU rfl
 ·exact fun _=>by simp[eA,hm]
def upB(b:Option (List (List Int × Int)))(o:Option (List (List Int × Int))):Option (List (List Int × Int)):=match o,b with
 |none,b=>b
 |some p,none=>some p
 |some p,some q=>some (if mW p q=true then p else q)
theorem amS(o:Option (List (List Int × Int)))(l:List (Option (List (List Int × Int))))(b:Option (List (List Int × Int))):Tu (o::l) b=Tu l (upB b o):=by
 cases o<;>cases b<;>rfl
structure PaI(m:Ad)(s:Int)(pb ib:Nat)(H:Ab)(b:Option (List (List Int × Int)))(k:Nat)(t:Nat→AV):Prop where
 c1:t 1=.int .i64 s
 c6:t 6=.slr 1 pb 0 (Xr m)
 c7:t 7=.slr 1 ib 0 (Xr m)
 c9:t 9=.bool b.isSome
 c10:t 10=.int .i64 k
 r8:∃R,rd 5 (hf H) (t 8)=some (Af 2 false false ((b.getD []).map scC),R)∧R.length≤4500
 ok:∀q,b=some q→q.length≤88∧∀x∈q,x.1.length≤6
theorem bhZ{m:Ad}(hs:m.small)(hm:Bh m=true)(hN:(Dx m).length≤200){s:Int}(hst:0≤s∧s<m.states):∃E,mT m (Dx m) E∧RdT Dc 33 [.agg m.cells,.int .i64 s] [Af 2 false false (((wA (Dx m) E s).getD []).map scC),.bool (wA (Dx m) E s).isSome] 4500:=by
 have key:ClQ Dc 33 [.agg m.cells,.int .i64 s] [] fun o h'=>∃E outs R,mT m (Dx m) E∧o=.ret (.tup outs)∧Xa (rd 6 (hf h')) outs=some ([Af 2 false false (((wA (Dx m) E s).getD []).map scC),.bool (wA (Dx m) E s).isSome],R)∧R.length≤4500∧∀c∈h',Rnm c:=by
  obtain⟨q,hq⟩:∃q,Fn.func 58=q:=⟨_,rfl⟩
  obtain⟨qp,hqp⟩:∃q,Fn.func 61=q:=⟨_,rfl⟩
  obtain⟨qb,hqb⟩:∃q,Fn.func 37=q:=⟨_,rfl⟩
  have hms:=Ie hm
  have hpl:=ag0 hm
  obtain⟨E,hE,pb,rows,RR,cI,ib,es,H1,e1,e2,K1,K2,g1,g2,g3,g4,g5,g6⟩:=ai1 hs hm hN [.live 7 false false [m.cells]]
  have hPl:=fun {v:Int × Int} (h:xN m v) (H:Ab)=>aiW hm h H
  rw[hq]at e1
  rw[hqp]at hPl
  have h0:H1[0]?=some (.live 7 false false [m.cells]):=K1 0 (by simp)
  have hS:=Ye hm
  refine abD rfl Try.func33 rfl rfl ?_
  simp only[Try.f33]
  refine Ik (fun K iN hK=>?_)
  (have hb:=trivial;with_reducible repeat' (first|simp only[hb,Vc.down,seval,ac9.down,hq,e1,e2,acE]|refine Aq ?_ ?_<;>intro hb|refine fd ?_|fail))
  refine Dl (Ss 59 (fK 11 0) (fun k (b:Option (List (List Int × Int))) t h=>PaI m s pb ib H1 b k t∧H1=h) (fun rest b=>Tu (rest.map fun a=>(eM E (s,a)).map fun p=>p.map (gS (Dx m))) b) (fun r e t h=>e=.exit 0∧t 9=.bool r.isSome∧(∃R,rd 5 (hf H1) (t 8)=some (Af 2 false false ((r.getD []).map scC),R)∧R.length≤4500)∧H1=h) ?_ ?_ none _ _ ?_) (fun e t h hk=>?_)
  ·rintro b t h Q' kQ ⟨I,rfl⟩
   have c10:=I.c10
   rw[Lx]at c10
   have hbe:Tu [] b=b:=by cases b<;>rfl
   rw[as9,hbe]at kQ
   (have hb:=trivial;with_reducible repeat' (first|simp only[hb,Vc.down,seval,ac9.down,c10]|refine Aq ?_ ?_<;>intro hb|refine fd ?_|fail))
   exact kQ _ _ _ ⟨rfl,by simpa [up]using I.c9,by simpa [up]using I.r8,rfl⟩
  ·rintro a rest k b t h J Q' kJ kQ hx hk2 ⟨I,rfl⟩
   rw[Lx]at hk2
   obtain⟨ha,_⟩:=fP _ _ _ _ hx
   rw[atA]at ha
   subst ha
   obtain⟨c1,c6,c7,c9,c10,⟨R8,r8,r8l⟩,ok⟩:=I
   have hok:xN m (s,(k:Int)):=⟨hst.1,hst.2,by simp only;omega,by simp only;omega⟩
   have hlt:=pI hok
   have hp1:=hPl hok H1
   simp only at hp1
   have hd3:((Xh (s,(k:Int)):Int)<(Xr m:Int))=True:=eq_true (by omega)
   have hg:=g2 _ hlt
   unfold Ya at hg
   rw[cK hok]at hg
   have hd2:((k:Int)≤10)=True:=eq_true (by omega)
   have hw2:IntKind.i64.wrap ((k:Int)+1)=((k+1:Nat):Int):=by rw[Ed (by omega) (by omega)];rfl
   obtain⟨r,R7,k1,k2,k3⟩:=vJ g5 (i:=Xh (s,(k:Int))) (X:=[alV m ((Ya E (Xh (s,(k:Int)))).getD [])]) (by rw[acZ,ay2 hlt];rfl)
   obtain⟨u,l1,R10,R11,rfl,w9,w10,rfl⟩:=Oi k2
   obtain⟨rfl,rfl⟩:=fH w10
   unfold Ya at w9
   rw[cK hok]at w9
   have hrow:Qp (H1[pb]?) (Xh (s,(k:Int)))=some [u]:=(xY g4 _).trans k1
   obtain⟨cP,hcP,_⟩:=aiI.1 g4
   have hcP':H1[pb]?=some cP:=hcP
   rw[hcP']at hrow
   generalize hbv:t 8=bv at r8
   have hub:=bkW w9
   have hlu:=bbC w9
   have hlb:=bbC r8
   rw[acE]at hlu hlb
   rw[aiH,amS]at kJ kQ
   cases hT:eM E (s,(k:Int))with
   |none=>
    rw[hT]at hg kJ kQ
    rw[azI]at hg
    (have hb:=trivial;with_reducible repeat' (first|simp only[hb,Vc.down,seval,ac9.down,c1,c6,c7,hbv,c9,c10,hd2,hw2,hqp,hp1,hd3,hcP',hrow,g1,hg,hlu,hlb]|refine Aq ?_ ?_<;>intro hb|refine fd ?_|fail))
    exact Ax (kJ _ _ b ⟨⟨by simp[up,c1],by simp[up,c6],by simp[up,c7],by simp[up,c9],by simp[up],⟨R8,by simpa [up,hbv]using r8,r8l⟩,ok⟩,rfl⟩ (by cases b<;>rfl))
   |some p=>
    rw[hT,al6]at w9 hlu
    rw[hT]at hg kJ kQ
    rw[azK]at hg
    rw[ahZ]at kJ kQ
    have hw9:alV m p=Af 2 false false ((p.map (gS (Dx m))).map scC):=by unfold alV;rw[al3];rfl
    rw[hw9]at w9
    have okp:∀q,some (p.map (gS (Dx m)))=some q→q.length≤88∧∀x∈q,x.1.length≤6:=fun q e=>by
     cases e
     obtain⟨kz,hkz⟩:=apC ((Zb hE).1 hT)
     have h1:=abU hE kz _ hkz
     have h2:=La hm hE
     have h3:=Yg hkz
     simp only at h1
     refine⟨by simp;omega,fun x hx=>?_⟩
     have h4:=(BF.leg hS hE hkz x hx).1
     have h5:=dG hm
     omega
    have hpw:=(okp _ rfl).1
    rw[acE]at hpw
    cases b with
    |none=>
     rw[azI]at c9
     (have hb:=trivial;with_reducible repeat' (first|simp only[hb,Vc.down,seval,ac9.down,c1,c6,c7,hbv,c9,c10,hd2,hw2,hqp,hp1,hd3,hcP',hrow,g1,hg,hlu,hlb]|refine Aq ?_ ?_<;>intro hb|refine fd ?_|fail))
     exact Ax (kJ _ _ (some (p.map (gS (Dx m)))) ⟨⟨by simp[up,c1],by simp[up,c6],by simp[up,c7],by simp[up],by simp[up],⟨R10,by simpa [up]using w9,by simp at k3;omega⟩,okp⟩,rfl⟩ rfl)
    |some q=>
     rw[azK]at c9
     rw[al6]at r8 hlb
     have hqw:=(ok _ rfl).1
     by_cases hl1:p.length<q.length
     ·have hl2:((p.length:Int)<(q.length:Int))=True:=eq_true (by omega)
      have hbet:mW (p.map (gS (Dx m))) q=true:=by unfold mW;simp[hl1]
      (have hb:=trivial;with_reducible repeat' (first|simp only[hb,Vc.down,seval,ac9.down,c1,c6,c7,hbv,c9,c10,hd2,hw2,hqp,hp1,hd3,hcP',hrow,g1,hg,hlu,hlb,hl2]|refine Aq ?_ ?_<;>intro hb|refine fd ?_|fail))
      exact Ax (kJ _ _ (some (p.map (gS (Dx m)))) ⟨⟨by simp[up,c1],by simp[up,c6],by simp[up,c7],by simp[up],by simp[up],⟨R10,by simpa [up]using w9,by simp at k3;omega⟩,okp⟩,rfl⟩ (by show Tu _ _=Tu _ (some (if _ then _ else _));rw[hbet,if_pos rfl]))
     ·have hl2:((p.length:Int)<(q.length:Int))=False:=eq_false (by omega)
      by_cases hl3:p.length=q.length
      ·have hl4:((p.length:Int)==(q.length:Int))=true:=by simp[hl3]
       have hBf:=au3 (nn:=false) (nn':=false) (A:=(p.map (gS (Dx m))).map tsF) (B:=q.map tsF) (by simp;unfold maxLen;omega) (by simp;unfold maxLen;omega) (fun y hy=>by
        obtain⟨x,hx,rfl⟩:=as8.1 hy
        have:=(okp _ rfl).2 x hx
        show x.1.length≤maxLen
        unfold maxLen;omega)
       rw[uE,uE,←alU,ahE,ahE]at hBf
       have hB:=Ys (O:=Dc) (H:=H1) (f:=37) (args:=[u,bv]) (bfV w9 rfl _) (by simp only[Hw,Jk,show tV H1 u=_ from mJ (show 5≤12 by omega) w9,show tV H1 bv=_ from mJ (show 5≤12 by omega) r8,Gi]) (by simp[Uj,acG]) hBf rfl rfl
       rw[hqb]at hB
       cases hbf:ai2 (p.map (gS (Dx m))) q with
       |true=>
        rw[hbf]at hB
        have hbet:mW (p.map (gS (Dx m))) q=true:=by unfold mW;simp[hl3,hbf]
        (have hb:=trivial;with_reducible repeat' (first|simp only[hb,Vc.down,seval,ac9.down,c1,c6,c7,hbv,c9,c10,hd2,hw2,hqp,hp1,hd3,hcP',hrow,g1,hg,hlu,hlb,hl2,hl4,hqb,hB]|refine Aq ?_ ?_<;>intro hb|refine fd ?_|fail))
        exact Ax (kJ _ _ (some (p.map (gS (Dx m)))) ⟨⟨by simp[up,c1],by simp[up,c6],by simp[up,c7],by simp[up],by simp[up],⟨R10,by simpa [up]using w9,by simp at k3;omega⟩,okp⟩,rfl⟩ (by show Tu _ _=Tu _ (some (if _ then _ else _));rw[hbet,if_pos rfl]))
       |false=>
        rw[hbf]at hB
        have hbet:mW (p.map (gS (Dx m))) q=false:=by unfold mW;simp[hl3,hbf]
        (have hb:=trivial;with_reducible repeat' (first|simp only[hb,Vc.down,seval,ac9.down,c1,c6,c7,hbv,c9,c10,hd2,hw2,hqp,hp1,hd3,hcP',hrow,g1,hg,hlu,hlb,hl2,hl4,hqb,hB]|refine Aq ?_ ?_<;>intro hb|refine fd ?_|fail))
        exact Ax (kJ _ _ (some q) ⟨⟨by simp[up,c1],by simp[up,c6],by simp[up,c7],by simp[up,c9],by simp[up],⟨R8,by simpa [up,hbv]using r8,r8l⟩,ok⟩,rfl⟩ (by show Tu _ _=Tu _ (some (if _ then _ else _));rw[hbet,if_neg (by simp)]))
      ·have hl4:((p.length:Int)==(q.length:Int))=false:=by simp;omega
       have hbet:mW (p.map (gS (Dx m))) q=false:=by unfold mW;simp[hl1,hl3]
       (have hb:=trivial;with_reducible repeat' (first|simp only[hb,Vc.down,seval,ac9.down,c1,c6,c7,hbv,c9,c10,hd2,hw2,hqp,hp1,hd3,hcP',hrow,g1,hg,hlu,hlb,hl2,hl4]|refine Aq ?_ ?_<;>intro hb|refine fd ?_|fail))
       exact Ax (kJ _ _ (some q) ⟨⟨by simp[up,c1],by simp[up,c6],by simp[up,c7],by simp[up,c9],by simp[up],⟨R8,by simpa [up,hbv]using r8,r8l⟩,ok⟩,rfl⟩ (by show Tu _ _=Tu _ (some (if _ then _ else _));rw[hbet,if_neg (by simp)]))
  ·exact⟨⟨by simp[up,Eg],by simp[up],by simp[up],by simp[up],by simp[up],⟨[],by simp[up];rfl,by simp⟩,fun q e=>by cases e⟩,rfl⟩
  ·obtain⟨rfl,c9,⟨R8,r8,r8l⟩,rfl⟩:=hk
   generalize hbv:t 8=bv at r8
   have hr:=ag3 (show 5≤6 by omega) r8
   (have hb:=trivial;with_reducible repeat' (first|simp only[hb,Vc.down,seval,ac9.down,c9,hbv]|refine Aq ?_ ?_<;>intro hb|refine fd ?_|fail))
   refine hK _ ?_
   rw[fX]
   have hag:auN=fK 11 0:=rfl
   refine lC (vs:=[bv,.bool (wA (Dx m) E s).isSome]) (by simp only[Vc.down,seval,ac9.down];rfl) (yQ (Oq hr (Oq (R1:=[]) rfl nL)) (by simp;omega) rfl fun outs h' R' k1 k2 k3=>⟨E,outs,R',hE,rfl,k1,by simp at k2;omega,k3⟩)
 obtain⟨o,h',e,E,outs,R,hF,rfl,k1,k2,k3⟩:=key
 exact⟨E,hF,outs,h',R,e,k1,k2,k3⟩
theorem ajY{l:List Int}{nn nn':Bool}(hl:l.length≤maxLen):Dc.call (.fn 31) [Af 1 true nn (l.map iv),Af 1 true nn' (l.map iv)] []=some (.ret (.bool true),[]):=by
 (refine ce Try.func31 ?_;simp only[Try.f31];(have hb:=trivial;with_reducible repeat' (first|simp only[hb,Vc.down,seval,a4N.down,acE,bne,beq_self_eq_true,amP]|refine Aq ?_ ?_<;>intro hb|refine fd ?_|fail)))
 refine Dl (Ss 26 l (fun i (_:Unit) t h=>t 0=Af 1 true nn (l.map iv)∧t 1=Af 1 true nn' (l.map iv)∧t 5=.int .i64 i∧h=[]) (fun rest _=>()) (fun r e t h=>h=[]∧e=.exit 0) ?_ ?_ () _ _ ?_) (fun e t h hk=>?_)
 ·rintro _ t h Q' kQ ⟨c0,c1,c5,rfl⟩
  (have hb:=trivial;with_reducible repeat' (first|simp only[hb,Vc.down,seval,a4N.down,c0,c1,c5,acE,ao3,decide_false]|refine Aq ?_ ?_<;>intro hb|refine fd ?_|fail))
  exact kQ _ _ _ ⟨rfl,rfl⟩
 ·rintro z rest i _ t h J Q' kJ kQ hx hi ⟨c0,c1,c5,rfl⟩
  have hd:((i:Int)<(l.length:Int))=True:=eq_true (by omega)
  have hw:=Av hi hl
  (have hb:=trivial;with_reducible repeat' (first|simp only[hb,Vc.down,seval,a4N.down,c0,c1,c5,hd,hx,hw,iv,bne,beq_self_eq_true,amP,acE]|refine Aq ?_ ?_<;>intro hb|refine fd ?_|fail))
  exact Ax (kJ _ _ () ⟨by simp[up,c0],by simp[up,c1],by simp[up]<;>omega,rfl⟩ rfl)
 ·exact⟨by simp[up,Eg],by simp[up,Eg],by simp[up],rfl⟩
 ·obtain⟨rfl,rfl⟩:=hk
  (have hb:=trivial;with_reducible repeat' (first|simp only[hb,Vc.down,seval,a4N.down]|refine Aq ?_ ?_<;>intro hb|refine fd ?_|fail))
theorem ajO{A B:List Ii}{nn nn':Bool}(hA:A.length≤maxLen)(hAB:A.map prT=B.map prT)(hr:∀y∈A,y.reads.length≤maxLen):Dc.call (.fn 34) [Af 2 false nn (A.map Ii.cells),Af 2 false nn' (B.map Ii.cells)] []=some (.ret (.bool true),[]):=by
 have hlen:B.length=A.length:=by have:=congrArg al9 hAB;simpa using this.symm
 obtain⟨q,hq⟩:∃q,Fn.func 31=q:=⟨_,rfl⟩
 (refine ce Try.func34 ?_;simp only[Try.f34];(have hb:=trivial;with_reducible repeat' (first|simp only[hb,Vc.down,seval,azY.down,acE,hlen,bne,beq_self_eq_true,amP]|refine Aq ?_ ?_<;>intro hb|refine fd ?_|fail)))
 refine Dl (Ss 42 A (fun i (_:Unit) t h=>t 0=Af 2 false nn (A.map Ii.cells)∧t 1=Af 2 false nn' (B.map Ii.cells)∧t 5=.int .i64 i∧h=[]) (fun rest _=>()) (fun r e t h=>h=[]∧e=.exit 0) ?_ ?_ () _ _ ?_) (fun e t h hk=>?_)
 ·rintro _ t h Q' kQ ⟨c0,c1,c5,rfl⟩
  (have hb:=trivial;with_reducible repeat' (first|simp only[hb,Vc.down,seval,azY.down,c0,c1,c5,acE,ao3,decide_false]|refine Aq ?_ ?_<;>intro hb|refine fd ?_|fail))
  exact kQ _ _ _ ⟨rfl,rfl⟩
 ·rintro a rest i _ t h J Q' kJ kQ hx hi ⟨c0,c1,c5,rfl⟩
  have hd:((i:Int)<(A.length:Int))=True:=eq_true (by omega)
  have hw:=Av hi hA
  obtain⟨b,hb1⟩:∃b,B[i]?=some b:=⟨_,al2 (by omega)⟩
  have hab:prT a=prT b:=by
   have h1:=congrArg (·[i]?) hAB
   simp only[acZ,hx,hb1,ahZ,al4.injEq]at h1
   exact h1
  have e1:b.reads=a.reads:=(congrArg Prod.fst hab).symm
  have e2:b.cmd=a.cmd:=(congrArg Prod.snd hab).symm
  have hS:=ajY (l:=a.reads) (nn:=a.nn) (nn':=b.nn) (hr a (al7 hx))
  (have hb:=trivial;with_reducible repeat' (first|simp only[hb,Vc.down,seval,azY.down,c0,c1,c5,hd,hx,hb1,hlen,hw,Ii.cells,e1,e2,hS,bne,beq_self_eq_true,amP,ahZ,acE]|refine Aq ?_ ?_<;>intro hb|refine fd ?_|fail))
  exact Ax (kJ _ _ () ⟨by simp[up,c0],by simp[up,c1],by simp[up]<;>omega,rfl⟩ rfl)
 ·exact⟨by simp[up,Eg],by simp[up,Eg],by simp[up],rfl⟩
 ·obtain⟨rfl,rfl⟩:=hk
  (have hb:=trivial;with_reducible repeat' (first|simp only[hb,Vc.down,seval,azY.down]|refine Aq ?_ ?_<;>intro hb|refine fd ?_|fail))
theorem avJ{m:Ad}(hm:Bh m=true)(h3:m.sens.length≤3):aoD m=((Dx m).length:Int):=by
 have hc:=aE hm
 have hcl:=dV hm
 have hE:∀k,(Ll m k).length≤20001:=fun k=>by
  unfold Ll
  rw[aiK]
  split
  ·simp
  ·have:=azH (fun n=>decide (n∈asY m k)) (fK 20000 (-9999))
   rw[Lx]at this
   omega
 have key:∀d,d≤3→(an5 d).foldl (fun n k=>IntKind.i64.wrap (n*((Ll m k).length:Int))) (IntKind.i64.wrap (m.cmds+1))=(((Jg m d).length*(Ep m).length:Nat):Int)∧(Jg m d).length*(Ep m).length≤5*20001 ^ d:=by
  intro d
  induction d with
  |zero=>
   intro _
   have h1:(Jg m 0).length=1:=by simp[Jg,Zv]
   rw[h1,Nat.one_mul]
   refine⟨?_,by omega⟩
   show IntKind.i64.wrap (m.cmds+1)=_
   rw[Ed (by omega) (by omega)]
   omega
  |succ d ih=>
   intro hd
   obtain⟨i1,i2⟩:=ih (by omega)
   have e1:(Jg m (d+1)).length*(Ep m).length=(Jg m d).length*(Ep m).length*(Ll m d).length:=by
    rw[lS,atB,Nat.mul_comm (Ll m d).length,←atB]
   have e2:(Jg m d).length*(Ep m).length*(Ll m d).length≤5*20001 ^ (d+1):=by
    rw[Nat.pow_succ,←atB]
    exact Nat.mul_le_mul i2 (hE d)
   have e3:5*20001 ^ (d+1)≤5*20001 ^ 3:=Nat.mul_le_mul_left _ (Nat.pow_le_pow_right (by omega) hd)
   have e4:5*20001 ^ 3≤4611686018427387904:=by decide
   rw[List.range_succ,List.foldl_append,i1,e1]
   refine⟨?_,e2⟩
   simp only[List.foldl_cons,List.foldl_nil]
   rw[←Int.natCast_mul,Ed (by omega) (by omega)]
 unfold aoD
 rw[(key m.sens.length h3).1,pP]
theorem asZ{m:Ad}(hm:Bh m=true){n:Nat}(h:jX m (n:Int)=true):(Dx m).length≤n:=by
 unfold jX at h
 rw[hm]at h
 simp only[amP,Bool.false_or,azA,decide_eq_true_eq]at h
 have:=avJ hm h.2.1
 omega
theorem an7{m:Ad}(hm:Bh m=true){D E:List ((Int × Int) × List Nat)}(B:mT m (He m) D)(C:mT m (Dx m) E):Zp m E=Zp m D:=by
 unfold Zp
 refine List.filter_congr fun s _=>?_
 rw[azF]
 unfold eF
 rw[apN,apN]
 have:=awQ (Uh hm) (Ye hm) B C s
 constructor
 ·rintro⟨x,hx,h⟩
  obtain⟨y,hy,h2⟩:=this.2 ⟨x,hx,by simpa using h⟩
  exact⟨y,hy,by simp[h2]⟩
 ·rintro⟨x,hx,h⟩
  obtain⟨y,hy,h2⟩:=this.1 ⟨x,hx,by simpa using h⟩
  exact⟨y,hy,by simp[h2]⟩
theorem aeO{m:Ad}(hm:Bh m=true){D E:List ((Int × Int) × List Nat)}(B:mT m (He m) D)(C:mT m (Dx m) E)(s:Int):wA (Dx m) E s=(jD D s).map fun x=>x.2.map (gS (He m)):=
 ayK (Uh hm) (Ye hm) B C (fun x hx=>by
  obtain⟨_,_,h3,h4⟩:=ahW hm C hx
  have:x.1.2∈fK 11 0:=(mQ _ _ _).2 (by omega)
  exact this) s
theorem akJ{g:HF}{d:Nat}{v:AV}{b:Bool}{R:List Nat}(h:rd (d+1) g v=some (.bool b,R)):v=.bool b:=by
 cases v with
 |bool c=>simp[rd]at h;rw[h.1]
 |slr st c r len=>
  exfalso
  simp only[rd,aiI]at h
  obtain⟨z,_,h⟩:=h
  split at h
  ·cases hz:z.2.1<;>rw[hz]at h<;>simp at h
  ·cases h
 |func f a c=>
  exfalso
  cases a<;>cases c<;>simp[rd]at h
 |_=>simp[rd]at h
theorem zK{m:Ad}(hs:m.small){s:Int}(hn:(jX m 200&&Bh m)=false):Dc.call (.fn 9) [.agg [Af 3 true m.nS (m.sens.map Bz.cells),Af 4 false m.nV (m.votes.map Aj.cells),Af 5 false m.nM (m.moves.map Ap.cells),.int .i64 m.states,.int .i64 m.cmds,.int .i64 m.bgn,Af 1 true m.nO (m.opn.map iv)],.int .i64 s] []=some (.ret (.bool true),[]):=by
 have h1:=apP hs 200
 have h2:=sU m hs
 have hk:=known_ok
 cases c1:jX m 200 with
 |false=>
  rw[c1]at h1
  (refine ce Try.func9 ?_;simp only[Try.f9];(have hb:=trivial;with_reducible repeat' (first|simp only[hb,Vc.down,seval,TY9.down,h1,hk]|refine Aq ?_ ?_<;>intro hb|refine fd ?_|fail)))
 |true=>
  rw[c1]at h1 hn
  cases c2:Bh m with
  |true=>rw[c2]at hn;cases hn
  |false=>
   rw[c2]at h2
   have h3:=axB hs c2
   have h4:=aoK hs (s:=s) (by rw[c2];rfl)
   have hz:IntKind.i64.wrap 0=0:=by decide
   refine ce Try.func9 ?_
   simp only[Try.f9]
   (have hb:=trivial;with_reducible repeat' (first|simp only[hb,Vc.down,seval,TY9.down,h1,h2,h3,h4,hz,hk,beq_self_eq_true,anC]|refine Aq ?_ ?_<;>intro hb|refine fd ?_|fail))
theorem anE{m:Ad}(hs:m.small){s:Int}(c1:jX m 200=true)(hm:Bh m=true):Dc.call (.fn 9) [.agg [Af 3 true m.nS (m.sens.map Bz.cells),Af 4 false m.nV (m.votes.map Aj.cells),Af 5 false m.nM (m.moves.map Ap.cells),.int .i64 m.states,.int .i64 m.cmds,.int .i64 m.bgn,Af 1 true m.nO (m.opn.map iv)],.int .i64 s] []=some (.ret (.bool true),[]):=by
 have h1:=apP hs 200
 have h2:=sU m hs
 have hk:=known_ok
 rw[c1]at h1
 rw[hm]at h2
 have hN:=asZ hm (n:=200) c1
 have hst:=Ie hm
 obtain⟨qR,hqR⟩:∃q,Fn.func 29=q:=⟨_,rfl⟩
 obtain⟨qP,hqP⟩:∃q,Fn.func 30=q:=⟨_,rfl⟩
 obtain⟨qr,hqr⟩:∃q,Fn.func 32=q:=⟨_,rfl⟩
 obtain⟨qp,hqp⟩:∃q,Fn.func 33=q:=⟨_,rfl⟩
 obtain⟨qe,hqe⟩:∃q,Fn.func 31=q:=⟨_,rfl⟩
 obtain⟨qE,hqE⟩:∃q,Fn.func 34=q:=⟨_,rfl⟩
 have hla:∀h:Ab,[AV.agg m.cells].flatMap (Cf 12 (hf h))=[]:=fun h=>by rw[asS,Rj _ (show 8≤12 by omega) (Ob m)];rfl
 obtain⟨D,nR,BD,KR⟩:=aAW hs hm
 obtain⟨outs,es,H1,R,e1,e2,K,r1,r2,r3⟩:=KR.cl (H:=[.live 7 false false [m.cells]]) (args:=[.agg m.cells]) (Xl rfl) (by simp only[Hw,Jk,jP,Gi]) (by simp[Ob,acG])
 rw[hla]at K
 obtain⟨va,o1,Ra,R2,rfl,ra,r4,_⟩:=Oi r1
 obtain⟨ve,o2,Rb,R3,rfl,rb,r5,_⟩:=Oi r4
 obtain⟨rfl,_⟩:=fH r5
 obtain⟨rfl,_⟩:=aiF rb
 have h0:H1[0]?=some (.live 7 false false [m.cells]):=K.same 0 (by simp) (by simp)
 rw[hqR]at e1
 have hPath:∃(po:AV) (pe:Int) (es2:List Ag) (H2:Ab),cl Dc H1 (some (.func qP [] [])) (some [.agg m.cells,.int .i64 s])=some (.ret (.tup [po,.int .i64 pe]),es2)∧Dm H1 es2=H2∧(∀c,c<H1.length→H2[c]?=H1[c]?)∧(∀{d:Nat} {v:AV} {p:AV × List Nat},d≤9→rd d (hf H1) v=some p→rd d (hf H2) v=some p)∧(((0≤s∧s<m.states)∧((pe=5∧po=.nils∧∃D',mT m (He m) D'∧jD D' s=none)∨(pe=0∧∃(PT:List Ii) (Rp:List Nat),rd 6 (hf H2) po=some (Af 2 false false (PT.map Ii.cells),Rp)∧PT.length≤88∧(∀y∈PT,y.reads.length≤6)∧∃D',mT m (He m) D'∧(jD D' s).map (fun x=>x.2.map (gS (He m)))=some (PT.map prT))))∨(¬(0≤s∧s<m.states)∧pe=2∧po=.nils)):=by
  by_cases hin:0≤s∧s<m.states
  ·obtain⟨o,h',hc,D',B',hP⟩:=bg9 hs hm hin
   unfold PaQ at hP
   cases hf:jD D' s with
   |none=>
    rw[hf]at hP
    obtain⟨rfl,rfl⟩:=hP
    have:=Ys (O:=Dc) (H:=H1) (f:=30) (args:=[.agg m.cells,.int .i64 s]) (Xl rfl) (by simp only[Hw,Jk,jP,a39,Gi]) (by simp[Ob,bN,acG]) hc rfl rfl
    rw[hqP]at this
    exact⟨_,_,_,_,this,rfl,fun c _=>rfl,fun _ h=>h,.inl ⟨hin,.inl ⟨rfl,rfl,D',B',hf⟩⟩⟩
   |some z=>
    rw[hf]at hP
    obtain⟨outs,R,rfl,r1,r2,r3⟩:=hP
    have hX:=Uh hm
    have hz:z∈D':=by
     rcases tL hX B' s with⟨h1,_⟩|⟨z',h1,h2,_⟩
     ·rw[hf]at h1;cases h1
     ·rw[hf]at h1;cases h1;exact h2
    obtain⟨kz,hkz⟩:=apC hz
    have hw:=B'.way kz z hkz
    have e1:(z.2.map fun a=>tsc (gS (He m) a)).map prT=z.2.map (gS (He m)):=by rw[al3];rfl
    have KP:RdT Dc 30 [.agg m.cells,.int .i64 s] [Af 2 false false ((z.2.map fun a=>tsc (gS (He m) a)).map Ii.cells),.int .i64 0] 200:=⟨outs,h',R,hc,by rw[al3];exact r1,r2,r3⟩
    obtain⟨outs2,es2,H2,R4,f1,f2,K2,s1,s2,s3⟩:=KP.cl (H:=H1) (args:=[.agg m.cells,.int .i64 s]) (Xl rfl) (by simp only[Hw,Jk,jP,a39,Gi]) (by simp[Ob,bN,acG])
    rw[xZ]at K2
    obtain⟨ov,o1,Rp,R5,rfl,rp,r4,_⟩:=Oi s1
    obtain⟨ve,o2,Rb,R6,rfl,rb,r5,_⟩:=Oi r4
    obtain⟨rfl,_⟩:=fH r5
    obtain⟨rfl,_⟩:=aiF rb
    rw[hqP]at f1
    refine⟨_,_,_,_,f1,f2,fun c hc=>K2.same c hc (by simp),fun hd h=>apG K2 hd h,.inl ⟨hin,.inr ⟨rfl,_,Rp,rp,?_,?_,D',B',by rw[hf,ahZ,e1]⟩⟩⟩
    ·have h1:=abU B' kz z hkz
     have h2:=La hm B'
     have h3:=Yg hkz
     simp;omega
    ·intro y hy
     obtain⟨a,ha,rfl⟩:=as8.1 hy
     have h1:=(hX.leg _ (agY (hw.2 a ha))).1
     have h2:=dG hm
     simp only[tsc];omega
  ·have h3:=aoK hs (s:=s) (by
    rw[hm,Bool.true_and,Ed (by omega) (by omega)]
    simp only[To,Bool.and_eq_false_iff,decide_eq_false_iff_not]
    omega)
   have:=Ys (O:=Dc) (H:=H1) (f:=30) (args:=[.agg m.cells,.int .i64 s]) (Xl rfl) (by simp only[Hw,Jk,jP,a39,Gi]) (by simp[Ob,bN,acG]) h3 rfl rfl
   rw[hqP]at this
   exact⟨_,_,_,_,this,rfl,fun c _=>rfl,fun _ h=>h,.inr ⟨hin,rfl,rfl⟩⟩
 obtain⟨po,pe,es2,H2,f1,f2,kc,kr,hQ⟩:=hPath
 have h02:H2[0]?=some (.live 7 false false [m.cells]):=(kc 0 (An h0)).trans h0
 have ra2:=kr (d:=6) (by omega) ra
 obtain⟨E,nS,CE,KS⟩:=azS hs hm hN
 rw[an7 hm BD CE]at KS
 obtain⟨vb,es3,H3,Rs,g1,g2,K3,t1,t2,t3⟩:=KS.cl (H:=H2) (args:=[.agg m.cells]) (Xl rfl) (by simp only[Hw,Jk,jP,Gi]) (by simp[Ob,acG])
 rw[hla]at K3
 rw[hqr]at g1
 have h03:H3[0]?=some (.live 7 false false [m.cells]):=(K3.same 0 (An h02) (by simp)).trans h02
 have ra3:=apG K3 (by omega) ra2
 have hSm:cl Dc H3 (some (.func qe [] [])) (some [va,vb])=some (.ret (.bool true),[]):=by
  rw[←hqe]
  exact Ys (O:=Dc) (H:=H3) (auA ra3 rfl _) (by simp only[Hw,Jk,a2U ra3,a2U t1,Gi]) (by simp[Uj,acG]) (ajY (l:=Zp m D) (nn:=nR) (nn':=nS) (by have:=aqE m hm D;unfold maxLen;omega)) rfl rfl
 have hz:IntKind.i64.wrap 0=0:=by decide
 rcases hQ with⟨hin,hQ⟩|⟨hin,rfl,rfl⟩
 ·have l1:(s<0)=False:=eq_false (by omega)
  have l2:(m.states≤s)=False:=eq_false (by omega)
  obtain⟨E2,CE2,KP⟩:=bhZ hs hm hN hin
  obtain⟨outs3,es4,H4,R7,i1,i2,K4,u1,u2,u3⟩:=KP.cl (H:=H3) (args:=[.agg m.cells,.int .i64 s]) (Xl rfl) (by simp only[Hw,Jk,jP,a39,Gi]) (by simp[Ob,bN,acG])
  rw[xZ]at K4
  obtain⟨vx,o1,Rx,R8,rfl,rx,r6,_⟩:=Oi u1
  obtain⟨vy,o2,Ry,R9,rfl,ry,r7,_⟩:=Oi r6
  obtain⟨rfl,_⟩:=fH r7
  rw[hqp]at i1
  rcases hQ with⟨rfl,rfl,D',B',hno⟩|⟨rfl,PT,Rp,rp,p1,p2,D',B',hyes⟩
  ·have hps:=aeO hm B' CE2 s
   rw[hno,axV]at hps
   rw[hps]at ry
   have hvy:vy=.bool false:=akJ ry
   subst hvy
   refine ce Try.func9 ?_
   simp only[Try.f9]
   (have hb:=trivial;with_reducible repeat' (first|simp only[hb,Vc.down,seval,TY9.down,h1,h2,h0,h02,h03,hqR,e1,e2,hqP,f1,f2,hqr,g1,g2,hqe,hSm,l1,l2,hqp,i1,i2,hk,hz,beq_self_eq_true,anC]|refine Aq ?_ ?_<;>intro hb|refine fd ?_|fail))
  ·have hps:=aeO hm B' CE2 s
   rw[hyes]at hps
   rw[hps]at ry rx
   have hvy:vy=.bool true:=akJ ry
   subst hvy
   have rp3:=apG K3 (by omega) rp
   have rp4:=apG K4 (by omega) rp3
   have rx':rd 6 (hf H4) vx=some (Af 2 false false (((PT.map prT).map tsF).map Ii.cells),Rx):=by rw[uE];exact rx
   have hSS:cl Dc H4 (some (.func qE [] [])) (some [po,vx])=some (.ret (.bool true),[]):=by
    rw[←hqE]
    exact Ys (O:=Dc) (H:=H4) (auA rp4 rfl _) (by simp only[Hw,Jk,a2U rp4,a2U rx',Gi]) (by simp[Uj,acG]) (ajO (A:=PT) (B:=(PT.map prT).map tsF) (nn:=false) (nn':=false) (by unfold maxLen;omega) (ahE _).symm (fun y hy=>by have:=p2 y hy;unfold maxLen;omega)) rfl rfl
   refine ce Try.func9 ?_
   simp only[Try.f9]
   (have hb:=trivial;with_reducible repeat' (first|simp only[hb,Vc.down,seval,TY9.down,h1,h2,h0,h02,h03,hqR,e1,e2,hqP,f1,f2,hqr,g1,g2,hqe,hSm,l1,l2,hqp,i1,i2,hqE,hSS,hk,hz,beq_self_eq_true,anC]|refine Aq ?_ ?_<;>intro hb|refine fd ?_|fail))
 ·by_cases hs0:s<0
  ·have l1:(s<0)=True:=eq_true hs0
   refine ce Try.func9 ?_
   simp only[Try.f9]
   (have hb:=trivial;with_reducible repeat' (first|simp only[hb,Vc.down,seval,TY9.down,h1,h2,h0,h02,h03,hqR,e1,e2,hqP,f1,f2,hqr,g1,g2,hqe,hSm,l1,hk,hz,beq_self_eq_true,anC]|refine Aq ?_ ?_<;>intro hb|refine fd ?_|fail))
  ·have l1:(s<0)=False:=eq_false hs0
   have l2:(m.states≤s)=True:=eq_true (by omega)
   refine ce Try.func9 ?_
   simp only[Try.f9]
   (have hb:=trivial;with_reducible repeat' (first|simp only[hb,Vc.down,seval,TY9.down,h1,h2,h0,h02,h03,hqR,e1,e2,hqP,f1,f2,hqr,g1,g2,hqe,hSm,l1,l2,hk,hz,beq_self_eq_true,anC]|refine Aq ?_ ?_<;>intro hb|refine fd ?_|fail))
theorem adQ:∀avs,arN Try.prog 7 Try.f9.params.toList avs→Dc.call (.fn 9) avs []=some (.ret (.bool true),[]):=by
 intro avs h
 rw[show Try.f9.params.toList=[27,3]from rfl]at h
 match avs,h with
 | [a,b],h=>
   obtain⟨h1,h2,_⟩:=h
   obtain⟨m,rfl,hs⟩:=aBL h1
   obtain⟨x,rfl,_⟩:=bhT h2
   cases c1:jX m 200 with
   |false=>exact zK hs (by rw[c1];rfl)
   |true=>
    cases c2:Bh m with
    |false=>exact zK hs (by rw[c2];simp)
    |true=>exact anE hs c1 c2
 | [],h=>exact h.elim
 | [_],h=>exact h.2.elim
 |_::_::_::_,h=>exact h.2.2.elim
end Go.Proofs.Ytfkokgjfpojeoaa
