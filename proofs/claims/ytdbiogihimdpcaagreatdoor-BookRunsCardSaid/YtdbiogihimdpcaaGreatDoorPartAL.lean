/- The functions of the layer, walked. -/
import Derived.Test.YtdbiogihimdpcaaGreatDoorPartAK
import Derived.Test.YtdbiogihimdpcaaGreatDoorPartAI
import Derived.Test.YtdbiogihimdpcaaGreatDoorPartAB
import Derived.Test.YtdbiogihimdpcaaGreatDoorPartAH
import Derived.Test.YtdbiogihimdpcaaGreatDoorLibD
open List renaming length_map→aaS,map_nil→aaW,all_cons→abY,all_nil→ab9,length_cons→acF,length_nil→acK,getElem?_append_left→acZ,flatMap_cons→aeH,mem_append_left→aeM,getElem?_eq_getElem→aeP,map_eq_nil_iff→aeW,take_of_length_le→aeZ,all_eq_true→ae6
open Int renaming reduceBEq→aa0
open Bool renaming and_eq_true→aa6,and_false→abB,and_true→abT
open Option renaming map_eq_some_iff→abO,bind_eq_some_iff→adV
set_option linter.unusedSimpArgs false
set_option linter.unusedVariables false
namespace Go.Proofs.YtdbiogihimdpcaaGreatDoor
open Go.Ev Go
set_option maxRecDepth 100000
set_option maxHeartbeats 16000000
theorem awV(H:Ab)(s:Ac):cT H (.agg s.cells)=some (.agg s.cells):=Jk _ (d:=8) (by omega) (by simp[Ac.cells,Ju,Qi,Ej])
theorem ayS(H:Ab)(d:Ap):cT H (.agg d.cells)=some (.agg d.cells):=Jk _ (d:=8) (by omega) (by simp[Ap.cells,Ju,Ej])
theorem ajS(H:Ab)(s:Ac)(d:Ap):Az (cT H) [.agg s.cells,.agg d.cells]=some [.agg s.cells,.agg d.cells]:=by simp only[Qr,Ue,awV,ayS,Oc]
theorem alB(s:Ac)(d:Ap):[AV.agg s.cells,AV.agg d.cells].all (Bj 8)=true:=by simp[Ac.cells,Ap.cells,Ju,Qi,Ej]
theorem abE(g:HF)(s:Ac)(d:Ap):[AV.agg s.cells,AV.agg d.cells].flatMap (Be 12 g)=[]:=by
 rw[aeH,aeH,List.flatMap_nil,Iy (d:=8) (v:=.agg s.cells) _ (by omega) (by simp[Ac.cells,Ju,Qi,Ej]),Iy (d:=8) (v:=.agg d.cells) _ (by omega) (by simp[Ap.cells,Ju,Ej])];rfl
theorem acS.got{s:Ac}{d:Ap}{X Y:AV}(hq:acS s d X Y){H:Ab}{a b:AV}{l:List AV}{R:List Nat}{xs:List AV}(h:Pj (rd 6 (hf H)) (a::b::l)=some (X::Y::xs,R)):
 ∃xc g l' o F R1 R2,a=.agg xc∧Pj (rd 5 (hf H)) xc=some (((Hk s d d.hours.length).as g l' o).cells,R1)∧rd 6 (hf H) b=some (Ao 4 false false (F.map Ov.cells),R2)∧nN s d F∧F.length=d.hours.length∧(∀j∈R1,j∈R)∧(∀j∈R2,j∈R):=by
 obtain⟨g,l',o,F,rfl,rfl,hF,hFl⟩:=hq
 obtain⟨a0,l0,R0,R0',e0,k0,h2,rfl⟩:=Fz h
 obtain⟨a1,l1,R1,R1',e1,k1,h3,rfl⟩:=Fz h2
 cases e0;cases e1
 obtain⟨xc,rfl,hx⟩:=lO k0
 exact⟨xc,g,l',o,F,R0,R1,rfl,hx,k1,hF,hFl,fun j hj=>aeM _ hj,fun j hj=>List.mem_append_right _ (aeM _ hj)⟩
theorem amK{s:Ac}(h1:Es s=true){d:Ap}(h3:Jz s.cons.length d=true){i:Nat}(hi:i<d.hours.length):(xI s d i).wants.length≤maxLen∧(xI s d i).grants.length≤maxLen∧(xI s d i).flows.length≤maxLen∧(xI s d i).refused.length≤maxLen:=by
 have hz:d.hours[i]?=some (hrK d i):=by unfold hrK;rw[aeP hi];rfl
 obtain⟨_,_,W⟩:=bA h1 h3 (pL h1 h3 i (by omega)) hz
 have hl:=(Px h1).len
 have w:=W.len
 have ht:d.trades.length≤50:=by
  have p:=h3
  simp only[Jz,aa6,decide_eq_true_eq]at p;omega
 have ol:=(pL h1 h3 i (by omega)).i.olen
 have hO1:(O1 s (Hk s d i).hour (Hk s d i).gas (Hk s d i).bills (Hk s d i).owed).length≤50:=by
  have:=List.length_filter_le (fun t:Aa=>decide (t.back≠(Hk s d i).hour)) (Hk s d i).owed
  unfold O1
  rw[Ol,List.nil_append];omega
 have t3:=(Rl s.cons (Hk s d i).hour d.trades 0 (G1 s (Hk s d i).hour (Hk s d i).gas (Hk s d i).bills (Hk s d i).owed) _ [] hO1).2.2
 unfold maxLen
 refine⟨?_,?_,?_,?_⟩
 ·show(W3 s d _ _ _ _).length≤_;omega
 ·show(A4 s d _ _ _ _ _).length≤_;omega
 ·show(F5 s d _ _ _ _ _).length≤_;omega
 ·refine Nat.le_trans t3 ?_;simp;omega
theorem aaC{s:Ac}{d:Ap}{H:Ab}{v:AV}{F:List Ov}{R:List Nat}{n i:Nat}(h:rd 6 (hf H) v=some (Ao 4 false false (F.map Ov.cells),R))(hF:nN s d F)(hn:F.length=n)(hi:i<n):
 ∃b x1 x2 x3 x4 f,v=.slr 4 b 0 n∧Pl (H[b]?) i=some [x1,x2,x3,x4]∧(∃w a l r,f=(xI s d i).as w a l r)∧∃R',Pj (rd 5 (hf H)) [x1,x2,x3,x4]=some (f.cells,R'):=by
 rcases uU h with⟨_,h0⟩|⟨b,rows',rfl,hb,_,_,hr⟩
 ·have:=aeW.1 h0
  rw[this]at hn;simp at hn;omega
 ·obtain⟨R',hr⟩:=hr rfl
  have hfi:F[i]?=some (F[i]'(by omega)):=aeP _
  obtain⟨r,R2,k1,k2⟩:=mL (i:=i) (X:=(F[i]'(by omega)).cells) hr (by show(F.map Ov.cells)[i]?=_;rw[List.getElem?_map,hfi];rfl)
  obtain⟨a,b',c,e,rfl,_⟩:=abV k2
  exact⟨b,a,b',c,e,_,by rw[aaS,hn],by rw[aoE hb,k1],hF i _ hfi,R2,k2⟩
theorem pQ{g:HF}{v:AV}{F:List Ov}{R:List Nat}{n:Nat}(h:rd 6 g v=some (Ao 4 false false (F.map Ov.cells),R))(hn:F.length=n):ln Tryz.prog 53 (some v)=some (.ret (.int .i64 (n:Int)),[]):=by
 rcases uU h with⟨rfl,h0⟩|⟨b,rows',rfl,_⟩
 ·have:n=0:=by rw[←hn,aeW.1 h0];rfl
  subst this
  simp only[Vc.down,seval,sG.down]
 ·simp only[Vc.down,seval,sG.down,aaS,hn]
theorem alI(hk:Bi.call (.fn 15) [] []=some (.ret (.bool true),[]))(s:Ac)(hs:s.small)(d:Ap)(hd:d.small)(h:iL s d=true)(v1:Es s=true)(v3:Jz s.cons.length d=true):
 Bi.call (.fn 9) [.agg s.cells,.agg d.cells] []=some (.ret (.bool true),[]):=by
 obtain⟨g1,g2,g3⟩:=kZ h
 have hD:d.hours.length≤48:=by
  have p:=v3
  simp only[Jz,aa6,decide_eq_true_eq]at p;exact p.1.1.1.1.1
 have g3:decide ((12:Int)<(d.hours.length:Int))=false:=by
  rcases g3 with g3|⟨_,g4⟩
  ·exact g3
  ·rw[decide_eq_false_iff_not]at g4;omega
 have hl:=(Px v1).len
 have h1:=kL (nn:=s.nn) hs.cons
 have h2:=aaQ d
 rw[g1]at h1
 rw[g2]at h2
 have c1:=rU s hs
 have c3:=apX d hd s.cons.length
 rw[v1]at c1
 rw[v3]at c3
 obtain⟨X,Y,hq1,K1⟩:=awE hs hd v1 v3
 obtain⟨X',Y',hq2,K2⟩:=avY hs hd v1 v3
 obtain⟨o1,b1,e1,v,rfl,q1⟩:=vY hs v1
 obtain⟨o2,b2,e2,q2⟩:=mT s (by omega)
 have hbl:∀(f:Ag→Int),((s.cons.map f).map iv).length=s.cons.length:=fun f=>by simp
 have htk:∀l:List Int,l.length=s.cons.length→(l.map iv).take s.cons.length=l.map iv:=fun l h=>aeZ (by simp[h])
 have t1:=htk (s.cons.map (·.gas)) (by simp)
 have t2:=htk ((s.cons.map (·.gas)).map fun _=>(0:Int)) (by simp)
 have cS:=fun(a:Bool)=>Vl (hr:=0) (own:=0) (fuel:=0) (G:=s.cons.map (·.gas)) (L:=(s.cons.map (·.gas)).map fun _=>(0:Int)) (O:=[]) (g1:=a) (g2:=a) (l1:=a) (l2:=a) (o1:=false) (o2:=false) (by simp[maxLen];omega) (by simp[maxLen];omega) (by simp)
 have Jn:=pL v1 v3 d.hours.length (Nat.le_refl _)
 have J1:=Jn.i.g.len
 have J2:=Jn.i.l
 have J3:=Jn.i.olen
 have hk':=hk
 obtain⟨qR,hqR⟩:∃q,Fn.func 25=q:=⟨_,rfl⟩
 obtain⟨qS,hqS⟩:∃q,Fn.func 35=q:=⟨_,rfl⟩
 obtain⟨qT,hqT⟩:∃q,Fn.func 27=q:=⟨_,rfl⟩
 obtain⟨qF,hqF⟩:∃q,Fn.func 28=q:=⟨_,rfl⟩
 simp only[Ap.cells]at h2 c3
 refine ce Tryz.func9 ?_
 simp only[Tryz.f9]
 (have hb:=trivial;with_reducible repeat' (first|simp only[hb,Vc.down,seval,sG.down,Ap.cells,h1,h2,g3,hqR,aaS]|refine Af ?_ ?_<;>intro hb|refine fd ?_|fail))
 generalize hE:cl Bi _ (some (.func qR [] [])) (some _)=E
 rw[←hqR]at hE
 obtain⟨outs,es,H1,R,rfl,eh,k1,k2,k3,k4⟩:=K1.at hE rfl (ajS _ s d) (alB s d)
 obtain⟨v1',l1,_,_,rfl,_,k2',_⟩:=Fz k2
 obtain⟨v2',l2,_,_,rfl,_,k2',_⟩:=Fz k2'
 obtain⟨v3',l3,_,_,rfl,k5,k2',_⟩:=Fz k2'
 obtain⟨rfl,_⟩:=fD k2'
 obtain⟨rfl,_⟩:=rQ k5
 obtain⟨xc,g,l,o,F,R1,R2,rfl,hx,hy,hF,hFl,hR1,hR2⟩:=hq1.got k2
 obtain⟨gv,bv,ov,rfl,⟨p1,p1'⟩,⟨p2,p2'⟩,⟨p3,p3'⟩⟩:=Rq hx
 rw[abE]at k1
 have m0:H1[0]?=some (.live 6 false false [s.cells]):=k1.same 0 (by simp) (by simp)
 have m1:H1[1]?=some (.live 3 false false [d.cells]):=k1.same 1 (by simp) (by simp)
 have n0:=Av m0
 have n1:=Av m1
 simp only[Ap.cells]at n1
 rcases q1 with⟨he,ev,rfl⟩|⟨he,ev,rfl⟩<;>rcases q2 with⟨he2,rfl,rfl⟩|⟨he2,rfl,rfl⟩<;>(first|exact absurd he he2|exact absurd he2 he|skip)<;>cases ev
 case' inl.inl.refl=>
  have cb:=cS false
  simp only[he,aaW,Gi]at cb
  (have hb:=trivial;with_reducible repeat' (first|simp only[hb,Vc.down,seval,sG.down,Ap.cells,eh,p1,p2,p3,p1',p2',p3',abT,abB,abY,ab9,c1,c3,e1,e2,cb,n0,n1,hqS,aaS,aa0]|refine Af ?_ ?_<;>intro hb|((refine Dh (H1.length) 1 ?_ ?_);(simp (discharger:=decide) only[Dc,Bq,List.map_cons,aaW,Bf,Db,Dj,Df,Di,Bd,Bo,Br,acF,acK];kernel_rfl);intro _)|refine fdx ?_|fail))
 case' inr.inr.refl=>
  have cb:=cS true
  simp only[An,aaW,Gi]at cb
  (have hb:=trivial;with_reducible repeat' (first|simp only[hb,Vc.down,seval,sG.down,Ap.cells,eh,p1,p2,p3,p1',p2',p3',abT,abB,abY,ab9,c1,c3,e1,e2,cb,n0,n1,hqS,t1,t2,aaS,aa0]|refine Af ?_ ?_<;>intro hb|((refine Dh (H1.length) 1 ?_ ?_);(simp (discharger:=decide) only[Dc,Bq,List.map_cons,aaW,Bf,Db,Dj,Df,Di,Bd,Bo,Br,acF,acK];kernel_rfl);intro _)|refine fdx ?_|fail))
 all_goals
  generalize hE2:cl Bi _ (some (.func qS [] [])) (some _)=E2
  rw[←hqS]at hE2
  obtain⟨outs2,es2,H2,R',rfl,eh2,j1,j2,j3,j4⟩:=K2.at hE2 rfl (ajS _ s d) (alB s d)
  obtain⟨v1',l1,_,_,rfl,_,j2',_⟩:=Fz j2
  obtain⟨v2,l2,_,_,rfl,_,j2',_⟩:=Fz j2'
  obtain⟨rfl,_⟩:=fD j2'
  obtain⟨xc',g',l',o',F',R1',R2'',rfl,hx',hy',hF',hFl',_,_⟩:=hq2.got j2
  obtain⟨gv2,bv2,ov2,rfl,⟨w1,w1'⟩,⟨w2,w2'⟩,⟨w3,w3'⟩⟩:=Rq hx'
  rw[abE]at j1
  have hle:=j1.len
  simp only[List.length_append,acF,acK]at hle
  have x5:H2[H1.length]?=some (.live 6 false true [[.int .i64 ((Hk s d d.hours.length).as g l o).hour,gv,.int .i64 ((Hk s d d.hours.length).as g l o).own,.int .i64 ((Hk s d d.hours.length).as g l o).fuel,bv,ov]]):=(j1.same H1.length (by simp) (by simp)).trans (by rw[List.getElem?_append_right (by omega),Nat.sub_self,List.getElem?_cons_zero])
  have y5:=Av x5
  have hK:∀(j:Nat) z,j<H1.length→(hf H1 j).bind Dl=some z→∀l,(hf (H2++l) j).bind Dl=some z:=fun j z hj hz l=>by
   show((H2++l)[j]?).bind Dl=_
   rw[acZ (by omega)]
   refine(j1.rows j (by simp;omega)).trans ?_
   show((H1++_)[j]?).bind Dl=_
   rw[acZ hj];exact hz
  have hK2:∀(j:Nat) z,j<H2.length→(hf H2 j).bind Dl=some z→∀l,(hf (H2++l) j).bind Dl=some z:=fun j z hj hz l=>by
   show((H2++l)[j]?).bind Dl=_
   rw[acZ hj];exact hz
  have hxl:=fun l=>Wb hx (g':=hf (H2++l)) fun j hj z hz=>hK j z (bF (by omega) hx j hj) hz l
  have hxl':=fun l=>Wb hx' (g':=hf (H2++l)) fun j hj z hz=>hK2 j z (bF (by omega) hx' j hj) hz l
  have hyl:=fun l=>cN hy (g':=hf (H2++l)) fun j hj z hz=>hK j z (kN hz) hz l
  have hyl':=fun l=>cN hy' (g':=hf (H2++l)) fun j hj z hz=>hK2 j z (kN hz) hz l
  (have hb:=trivial;with_reducible repeat' (first|simp only[hb,Vc.down,seval,sG.down,eh2,w1,w2,w3,w1',w2',w3',abT,abB,abY,ab9,y5,hqT,aa0]|refine Af ?_ ?_<;>intro hb|refine fdl ?_|fail))
  generalize hE3:cl Bi _ (some (.func qT [] [])) (some _)=E3
  rw[←hqT]at hE3
  have hS:=hE3.symm.trans (wW (vs:=[.agg ((Hk s d d.hours.length).as g l o).cells,.agg ((Hk s d d.hours.length).as g' l' o').cells]) (v:=.bool true) rfl (by
   simp only[Qr,Ue,cT,Yl (show 6≤12 by omega) (Jg (hxl _)),Yl (show 6≤12 by omega) (Jg (hxl' _)),Oc]) (by simp[Ju,Qi,Ej])
   (Vl (hr:=(Hk s d d.hours.length).hour) (own:=(Hk s d d.hours.length).own) (fuel:=(Hk s d d.hours.length).fuel) (G:=(Hk s d d.hours.length).gas) (L:=(Hk s d d.hours.length).bills) (O:=(Hk s d d.hours.length).owed) (g1:=g) (l1:=l) (o1:=o) (g2:=g') (l2:=l') (o2:=o') (by unfold maxLen;omega) (by unfold maxLen;omega) (by unfold maxLen;omega)) rfl rfl)
  subst hS
  have hn1:=pQ hy hFl
  have hn2:=pQ hy' hFl'
  have hne:(((d.hours.length:Int)==(d.hours.length:Int)))=true:=by simp
  (have hb:=trivial;with_reducible repeat' (first|simp only[hb,Vc.down,seval,sG.down,hn1,hn2,Nw,aa0]|refine Af ?_ ?_<;>intro hb|refine fdl ?_|fail))
  refine Cd (Np 142 d.hours (fun i (_:Unit) t h=>h=H2++[.live 6 false true [[.int .i64 ((Hk s d d.hours.length).as g' l' o').hour,gv2,.int .i64 ((Hk s d d.hours.length).as g' l' o').own,.int .i64 ((Hk s d d.hours.length).as g' l' o').fuel,bv2,ov2]]]∧t 6=v2'∧t 11=v2∧t 12=.int .i64 i) (fun _ _=>()) (fun _ e t h=>e=.exit 0) ?_ ?_ () _ _ ?_) (fun e t h hk=>?_)
  ·rintro _ t h Q' kQ ⟨rfl,h6,h11,h12⟩
   (have hb:=trivial;with_reducible repeat' (first|simp only[hb,Vc.down,seval,sG.down,h6,h12,hn1,Int.lt_irrefl,decide_false]|refine Af ?_ ?_<;>intro hb|refine fd ?_|fail))
   exact kQ _ _ _ rfl
  ·rintro z rest i _ t h J Q' kJ kQ hz hi ⟨rfl,h6,h11,h12⟩
   have hdd:decide ((i:Int)<(d.hours.length:Int))=true:=decide_eq_true (by omega)
   have hw:=Ai hi (by unfold maxLen;omega)
   obtain⟨bo,x1,x2,x3,x4,f1,rfl,r1,a1⟩:=aaC (hyl [.live 6 false true [[.int .i64 ((Hk s d d.hours.length).as g' l' o').hour,gv2,.int .i64 ((Hk s d d.hours.length).as g' l' o').own,.int .i64 ((Hk s d d.hours.length).as g' l' o').fuel,bv2,ov2]]]) hF hFl hi
   obtain⟨bo',y1,y2,y3,y4,f2,rfl,r2,a2⟩:=aaC (hyl' [.live 6 false true [[.int .i64 ((Hk s d d.hours.length).as g' l' o').hour,gv2,.int .i64 ((Hk s d d.hours.length).as g' l' o').own,.int .i64 ((Hk s d d.hours.length).as g' l' o').fuel,bv2,ov2]]]) hF' hFl' hi
   obtain⟨⟨w1,w2,w3,w4,rfl⟩,hr1⟩:=a1
   obtain⟨⟨u1,u2,u3,u4,rfl⟩,hr2⟩:=a2
   have hii:((i:Int)<(d.hours.length:Int))=True:=eq_true (by omega)
   obtain⟨m1,m2,m3,m4⟩:=amK v1 v3 hi
   have qq:=zC (W:=(xI s d i).wants) (A:=(xI s d i).grants) (F:=(xI s d i).flows) (R:=(xI s d i).refused) (w1:=w1) (w2:=u1) (a1:=w2) (a2:=u2) (f1:=w3) (f2:=u3) (r1:=w4) (r2:=u4) m1 m2 m3 m4
   (have hb:=trivial;with_reducible repeat' (first|simp only[hb,Vc.down,seval,sG.down,h6,h11,h12,hn1,hn2,hdd,hw,hii,r1,r2,hFl,hFl',hqF]|refine Af ?_ ?_<;>intro hb|refine fd ?_|fail))
   obtain⟨Q1,hr1⟩:=hr1
   obtain⟨Q2,hr2⟩:=hr2
   generalize hE4:cl Bi _ (some (.func qF [] [])) (some _)=E4
   rw[←hqF]at hE4
   have hS4:=hE4.symm.trans (wW (vs:=[.agg ((xI s d i).as w1 w2 w3 w4).cells,.agg ((xI s d i).as u1 u2 u3 u4).cells]) (v:=.bool true) rfl (by
    simp only[Qr,Ue,cT,Yl (show 6≤12 by omega) (Jg hr1),Yl (show 6≤12 by omega) (Jg hr2),Oc]) (by simp[Ju,Ej]) qq rfl rfl)
   subst hS4
   (have hb:=trivial;with_reducible repeat' (first|simp only[hb,Vc.down,seval,sG.down,hw,h12]|refine Af ?_ ?_<;>intro hb|refine fd ?_|fail))
   exact Ah (kJ _ _ () ⟨rfl,by simp[up,h6],by simp[up,h11],by simp[up]⟩ rfl)
  ·exact⟨rfl,by simp[up],by simp[up],by simp[up]⟩
  ·subst hk
   (have hb:=trivial;with_reducible repeat' (first|simp only[hb,Vc.down,seval,sG.down,hk']|refine Af ?_ ?_<;>intro hb|refine fd ?_|fail))
theorem ajO{n:Nat}{r:List AV}(h:Ty Tryz.prog (n+2) 111 r):∃x:Aa,r=x.cells∧True:=by
 unfold Ty at h
 simp only[Tryz.underlying111,kY]at h
 obtain⟨a,b,rfl,h1,c,d,rfl,h2,e,f,rfl,h3,g,k,rfl,h4,p,q,rfl,h5,rfl⟩:=h
 obtain⟨x,rfl,_⟩:=Ft h1
 obtain⟨y,rfl,_⟩:=Ft h2
 obtain⟨z,rfl,_⟩:=Ft h3
 obtain⟨u,rfl,_⟩:=Ft h4
 obtain⟨v,rfl,_⟩:=Ft h5
 exact⟨⟨x,y,z,u,v⟩,rfl,trivial⟩
theorem ad2{n:Nat}{r:List AV}(h:Ty Tryz.prog (n+3) 46 r):∃(nn:Bool) (l:List Aa),r=[Ao 5 true nn (l.map Aa.cells)]∧l.length≤maxLen:=by
 unfold Ty at h
 simp only[Tryz.underlying46]at h
 obtain⟨nn,rows,rfl,hl,hrows⟩:=h
 obtain⟨l,rfl,_⟩:=bU (fun r hr=>ajO hr) hrows
 have e1:Tryz.prog.cellsOf 111=5:=by kernel_rfl
 have e2:jU Tryz.prog (n+2) 111=true:=by
  simp only[jU,Tryz.underlying111,Tryz.underlying3];rfl
 rw[e1,e2]
 exact⟨nn,l,rfl,by simpa using hl⟩
theorem amJ{n:Nat}{r:List AV}(h:Ty Tryz.prog (n+2) 59 r):∃x:Bc,r=x.cells∧True:=by
 unfold Ty at h
 simp only[Tryz.underlying59,kY]at h
 obtain⟨a,b,rfl,h1,c,d,rfl,h2,e,f,rfl,h3,g,k,rfl,h4,rfl⟩:=h
 obtain⟨x,rfl,_⟩:=Ft h1
 obtain⟨y,rfl,_⟩:=Ft h2
 obtain⟨z,rfl,_⟩:=Ft h3
 obtain⟨u,rfl,_⟩:=Ft h4
 exact⟨⟨x,y,z,u⟩,rfl,trivial⟩
theorem af6{n:Nat}{r:List AV}(h:Ty Tryz.prog (n+3) 44 r):∃(nn:Bool) (l:List Bc),r=[Ao 4 true nn (l.map Bc.cells)]∧l.length≤maxLen:=by
 unfold Ty at h
 simp only[Tryz.underlying44]at h
 obtain⟨nn,rows,rfl,hl,hrows⟩:=h
 obtain⟨l,rfl,_⟩:=bU (fun r hr=>amJ hr) hrows
 have e1:Tryz.prog.cellsOf 59=4:=by kernel_rfl
 have e2:jU Tryz.prog (n+2) 59=true:=by
  simp only[jU,Tryz.underlying59,Tryz.underlying3];rfl
 rw[e1,e2]
 exact⟨nn,l,rfl,by simpa using hl⟩
theorem aqR{av:AV}(h:TyV Tryz.prog 7 48 av):∃d:Ap,av=.agg d.cells∧d.small:=by
 unfold TyV at h
 simp only[Tryz.underlying48]at h
 obtain⟨cs,rfl,h⟩:=h
 unfold Ty at h
 simp only[Tryz.underlying48,kY]at h
 obtain⟨a0,b0,rfl,h0,a1,b1,rfl,h1,a2,b2,rfl,h2,rfl⟩:=h
 obtain⟨nh,hh,rfl,k0⟩:=af6 h0
 obtain⟨nn,n',rfl,k1⟩:=an4 h1
 obtain⟨nt,t,rfl,k2⟩:=ad2 h2
 exact⟨⟨nh,hh,nn,n',nt,t⟩,rfl,k0,k1,k2⟩
theorem alX(hk:Bi.call (.fn 15) [] []=some (.ret (.bool true),[]))(s:Ac)(hs:s.small)(d:Ap)(hd:d.small)(h:iL s d=true)(v1:Es s=true)(v3:Jz s.cons.length d=false):
 Bi.call (.fn 9) [.agg s.cells,.agg d.cells] []=some (.ret (.bool true),[]):=by
 obtain⟨g1,g2,g3⟩:=kZ h
 have hl:=(Px v1).len
 have h1:=kL (nn:=s.nn) hs.cons
 have h2:=aaQ d
 rw[g1]at h1
 rw[g2]at h2
 have c0:=aiQ hs hd (by rw[v3,abB])
 have c1:=rU s hs
 have c3:=apX d hd s.cons.length
 have c4:=tR
 rw[v1]at c1
 rw[v3]at c3
 obtain⟨o1,b1,e1,v,rfl,q1⟩:=vY hs v1
 obtain⟨o2,b2,e2,q2⟩:=mT s (by omega)
 have htk:∀l:List Int,l.length=s.cons.length→(l.map iv).take s.cons.length=l.map iv:=fun l h=>aeZ (by simp[h])
 have t1:=htk (s.cons.map (·.gas)) (by simp)
 have t2:=htk ((s.cons.map (·.gas)).map fun _=>(0:Int)) (by simp)
 have cS:=fun(a:Bool)=>Vl (hr:=0) (own:=0) (fuel:=0) (G:=s.cons.map (·.gas)) (L:=(s.cons.map (·.gas)).map fun _=>(0:Int)) (O:=[]) (g1:=a) (g2:=a) (l1:=a) (l2:=a) (o1:=false) (o2:=false) (by simp[maxLen];omega) (by simp[maxLen];omega) (by simp)
 simp only[Ap.cells]at h2 c3 c0
 simp only[zSt]at c0 c4
 have g4:decide ((12:Int)<(d.hours.length:Int))=false∨decide ((12:Int)<(d.hours.length:Int))=true∧decide ((d.hours.length:Int)≤48)=false:=g3
 rcases q1 with⟨he,ev,rfl⟩|⟨he,ev,rfl⟩<;>rcases q2 with⟨he2,rfl,rfl⟩|⟨he2,rfl,rfl⟩<;>(first|exact absurd he he2|exact absurd he2 he|skip)<;>cases ev<;>rcases g4 with g5|⟨g5,g6⟩
 ·have cb:=cS false
  simp only[he,aaW,Gi]at cb
  (refine ce Tryz.func9 ?_;simp only[Tryz.f9];(have hb:=trivial;with_reducible repeat' (first|simp only[hb,Vc.down,seval,sG.down,Ap.cells,h1,h2,g5,c0,c1,c3,c4,e1,e2,cb,hk,aaS,Nw,aa0]|refine Af ?_ ?_<;>intro hb|refine fdl ?_|fail)))
 ·have cb:=cS false
  simp only[he,aaW,Gi]at cb
  (refine ce Tryz.func9 ?_;simp only[Tryz.f9];(have hb:=trivial;with_reducible repeat' (first|simp only[hb,Vc.down,seval,sG.down,Ap.cells,h1,h2,g5,g6,c0,c1,c3,c4,e1,e2,cb,hk,aaS,Nw,aa0]|refine Af ?_ ?_<;>intro hb|refine fdl ?_|fail)))
 ·have cb:=cS true
  simp only[An,aaW,Gi]at cb
  (refine ce Tryz.func9 ?_;simp only[Tryz.f9];(have hb:=trivial;with_reducible repeat' (first|simp only[hb,Vc.down,seval,sG.down,Ap.cells,h1,h2,g5,c0,c1,c3,c4,e1,e2,cb,t1,t2,hk,aaS,Nw,aa0]|refine Af ?_ ?_<;>intro hb|refine fdl ?_|fail)))
 ·have cb:=cS true
  simp only[An,aaW,Gi]at cb
  (refine ce Tryz.func9 ?_;simp only[Tryz.f9];(have hb:=trivial;with_reducible repeat' (first|simp only[hb,Vc.down,seval,sG.down,Ap.cells,h1,h2,g5,g6,c0,c1,c3,c4,e1,e2,cb,t1,t2,hk,aaS,Nw,aa0]|refine Af ?_ ?_<;>intro hb|refine fdl ?_|fail)))
theorem yW(hk:Bi.call (.fn 15) [] []=some (.ret (.bool true),[]))(s:Ac)(hs:s.small)(d:Ap)(hd:d.small):
 Bi.call (.fn 9) [.agg s.cells,.agg d.cells] []=some (.ret (.bool true),[]):=by
 cases h:iL s d with
 |false=>exact apG hk s hs d h
 |true=>
  cases v1:Es s with
  |false=>exact amV hk s hs d hd h v1
  |true=>
   cases v3:Jz s.cons.length d with
   |false=>exact alX hk s hs d hd h v1 v3
   |true=>exact alI hk s hs d hd h v1 v3
theorem yG(hk:Bi.call (.fn 15) [] []=some (.ret (.bool true),[])):∀avs,zI Tryz.prog 7 Tryz.f9.params.toList avs→Bi.call (.fn 9) avs []=some (.ret (.bool true),[]):=by
 intro avs h
 rw[show Tryz.f9.params.toList=[24,48]from rfl]at h
 match avs,h with
 | [a,c],h=>
   obtain⟨h1,h3,_⟩:=h
   obtain⟨s,rfl,hs⟩:=agF h1
   obtain⟨d,rfl,hd⟩:=aqR h3
   exact yW hk s hs d hd
 | [],h=>exact h.elim
 | [_],h=>exact h.2.elim
 |_::_::_::_,h=>exact h.2.2.elim
def ah6:List AV→Option Bh
 | [.int .i64 a,.int .i64 b,.int .i64 c]=>some ⟨a,b,c⟩
 |_=>none
def dSl{α:Type}(n:Nat)(fl:Bool)(d:List AV→Option α):AV→Option (Bool × List α)
 | .nils=>some (false,[])
 | .imm n' fl' rows=>if n'=n∧fl'=fl then(Az d rows).map fun l=>(true,l)else none
 |_=>none
def aoB:List AV→Option Ag
 | [.bool f,.int .i64 sp,.int .i64 lo,.int .i64 hi,r,.int .i64 g,.int .i64 fx,.int .i64 a,.int .i64 b,.int .i64 c,.int .i64 l]=>(dSl 3 true ah6 r).map fun x=>⟨f,sp,lo,hi,x.1,x.2,g,fx,a,b,c,l⟩
 |_=>none
def yJ:List AV→Option Ac
 | [.int .i64 sp,.int .i64 a,.int .i64 b,.int .i64 l,.int .i64 f,r]=>(dSl 11 false aoB r).map fun x=>⟨sp,a,b,l,f,x.1,x.2⟩
 |_=>none
theorem ai6{cs:List AV}{x:Bh}(h:ah6 cs=some x):cs=x.cells:=by
 unfold ah6 at h
 split at h
 ·cases h;rfl
 ·cases h
theorem wK{α:Type}{d:List AV→Option α}{f:α→List AV}(hd:∀cs x,d cs=some x→cs=f x):∀{rows:List (List AV)} {l:List α},Az d rows=some l→rows=l.map f
 | [],l,h=>by simp[Az]at h;subst h;rfl
 |r::rows,l,h=>by
  simp only[Az,adV,abO]at h
  obtain⟨x,h1,l',h2,rfl⟩:=h
  rw[hd r x h1,wK hd h2];rfl
theorem zP{α:Type}{n:Nat}{fl:Bool}{d:List AV→Option α}{f:α→List AV}(hd:∀cs x,d cs=some x→cs=f x){v:AV}{x:Bool × List α}(h:dSl n fl d v=some x):v=Ao n fl x.1 (x.2.map f):=by
 unfold dSl at h
 split at h
 ·cases h;rfl
 ·split at h
  ·rename_i hq
   obtain⟨rfl,rfl⟩:=hq
   obtain⟨l,h1,rfl⟩:=abO.1 h
   rw[wK hd h1]
   cases l<;>rfl
  ·cases h
 ·cases h
theorem aaN{cs:List AV}{x:Ag}(h:aoB cs=some x):cs=x.cells:=by
 unfold aoB at h
 split at h
 ·obtain⟨y,h1,rfl⟩:=abO.1 h
  rw[zP (fun cs x=>ai6) h1];rfl
 ·cases h
theorem acL{cs:List AV}{x:Ac}(h:yJ cs=some x):cs=x.cells:=by
 unfold yJ at h
 split at h
 ·obtain⟨y,h1,rfl⟩:=abO.1 h
  rw[zP (fun cs x=>aaN) h1]
 ·cases h
def rT(l:List Ag):Bool:=decide (l.length≤1000)&&l.all fun c=>decide (c.rates.length≤1000)
theorem aT{l:List Ag}(h:rT l=true):l.length≤maxLen∧∀c∈l,c.rates.length≤maxLen:=by
 simp only[rT,aa6,decide_eq_true_eq,ae6]at h
 unfold maxLen
 exact⟨by omega,fun c hc=>by have:=h.2 c hc;omega⟩
def ahR:List AV→Ab→Option (Eo × Ab)
 | [.agg cs],[]=>(yJ cs).bind fun s=>if rT s.cons=true then some (.ret (.bool (Es s)),[])else none
 |_,_=>none
def ahL(l:List Ag):Bool:=l.all fun c=> !c.rates.isEmpty&&decide (c.rates.length≤6)
def aqA:List AV→Ab→Option (Eo × Ab)
 | [v,.int .i64 h],[]=>(dSl 11 false aoB v).bind fun x=>if(rT x.2&&ahL x.2)=true then(match Rn h x.2 (0,0)with|(a,b)=>some (.ret (.tup [.int .i64 a,.int .i64 b]),[]))else none
 |_,_=>none
def pr2:Qk:=⟨fun f=>if f=49 then some ahR else if f=68 then some aqA else pr f,pr.md⟩
theorem asB:∀f p,pr2 f=some p→∀a h r,p a h=some r→Bi.call (.fn f) a h=some r:=by
 intro f p hp a h r hr
 simp only[pr2]at hp
 split at hp
 ·rename_i hf
  subst hf
  cases hp
  unfold ahR at hr
  split at hr
  ·rename_i cs
   obtain⟨s,h1,h2⟩:=adV.1 hr
   split at h2
   ·rename_i hs
    cases h2
    rw[acL h1]
    exact eU s ⟨(aT hs).1,(aT hs).2⟩
   ·cases h2
  ·cases hr
 ·split at hp
  ·rename_i hf
   subst hf
   cases hp
   unfold aqA at hr
   split at hr
   ·rename_i v hour
    obtain⟨x,h1,h2⟩:=adV.1 hr
    split at h2
    ·rename_i hs
     simp only[aa6]at hs
     cases h2
     rw[zP (fun cs x=>aaN) h1]
     exact afQ hour (aT hs.1).1 (fun c hc=>by
      have:=ae6.1 hs.2 c hc
      simp only[aa6,decide_eq_true_eq,Bool.not_eq_eq_eq_not,Bool.not_true,List.isEmpty_eq_false_iff]at this
      exact this)
    ·cases h2
   ·cases hr
  ·exact amX hp hr
theorem adH:(Xe Tryz.prog pr2 100).call (.fn 15) [] []=some (.ret (.bool true),[]):=by kernel_rfl
theorem aiU:Bi.call (.fn 15) [] []=some (.ret (.bool true),[]):=afZ (pr:=pr) (pr2:=pr2) rfl (fun f hf=>by
 simp only[pr2]at hf
 split at hf
 ·cases hf
 ·split at hf
  ·cases hf
  ·exact hf) asB adH
end Go.Proofs.YtdbiogihimdpcaaGreatDoor
