/- The functions of the layer, walked. -/
import Derived.Test.YtfkokgjfpojeoaaPartAE
import Derived.Test.YtfkokgjfpojeoaaLibF
open List renaming length_map→aaA,mem_map→aaK,getElem?_set_self→aa0,length_cons→aa3,getElem?_append_left→aa9,getElem?_set_ne→abO,length_nil→acM,mem_append→adV,replicate→ae2,getElem?_append_right→ae4,getElem?_eq_some_iff→ae7,map_cons→afR,getElem?_eq_getElem→af4,any_eq_true→af6,map_nil→af7,mem_flatMap→af9,mem_cons→agB,not_mem_nil→aiO,drop_eq_nil_of_le→ajM,getElem?_eq_none→aj8,foldl_cons→alV,all_eq_true→alY,getElem?_of_mem→alZ,mem_range→al0,mem_of_getElem?→al1
open Eq renaming trans→acI
open Bool renaming and_eq_true→acY,or_eq_true→af5
open Option renaming bind_some→af8
open Nat renaming lt_of_lt_of_le→agA,add_sub_cancel_left→alX
open Int renaming lt_irrefl→ai2
set_option linter.unusedSimpArgs false
set_option linter.unusedVariables false
namespace Go.Proofs.Ytfkokgjfpojeoaa
open Go.Ev Go Go.Ev.Bfs
set_option maxRecDepth 100000
set_option maxHeartbeats 16000000
theorem aeE{m:Ac}(hm:Be m=true):Dh m≠[]:=fun e=>by
 have hc:=Ye hm
 obtain⟨b,hb,_⟩:=(Sm hm).rep (ae2 m.sens.length (-10000),-1) ⟨by simp,fun n hn=>by have:=List.eq_of_mem_replicate hn;omega,by simp,by simp only;omega⟩
 rw[e]at hb;cases hb
theorem gX:Ah .nilm=[.nilm]:=acI rfl rfl
theorem gK:AV.flat .nilm=false:=acI rfl rfl
theorem fY:AV.isCell .nilm=true:=acI rfl rfl
theorem gQ(b:Nat):Ah (.mapr b)=[.mapr b]:=acI rfl rfl
theorem gG(b:Nat):AV.flat (.mapr b)=false:=acI rfl rfl
theorem fW(b:Nat):AV.isCell (.mapr b)=true:=acI rfl rfl
def ScR(m:Ac)(H:Aa)(o:Dk)(G:Aa):Prop:=∃lv b x rows Ro,o=.ret (.tup [lv,.slr 2 b 0 (Dh m).length])∧mC 2 (H.length+8) lv G rows ((Dh m).map fun x=>(tsc x).cells) Ro∧rows.length=(Dh m).length∧G[b]?=some (.live 2 true x ((Dh m).map (zZ m)))∧H.length≤b∧Hv H G∧Am G=true∧∀c,c<H.length→Dm H G c
def aV(m:Ac)(p:Nat)(x:Bool):Aa:=[.live 7 false false [m.cells],.live 1 false false [[.nils]],.live 1 false false [[.nils]],Dc [],.live 1 false x [[.mapr (p+3)]],.live 1 true false (ae2 m.sens.length [.int .i64 0]),.live 1 false x [[.slr 1 (p+5) 0 m.sens.length]],.live 1 false x [[.func (.func 78) [] (scA p)]]]
theorem aoA{m:Ac}(hs:m.small)(hm:Be m=true){H:Aa}(hq:Am H=true):kZ Bh 54 [.agg m.cells] H (ScR m H):=by
 have hn6:=bV hm
 have hms:((m.sens.length:Int)≤(m.sens.length:Int)∧(m.sens.length:Int)≤1099511627776)=True:=eq_true (by omega)
 refine We rfl Try.func54 rfl rfl ?_
 simp only[Try.f54]
 (have hb:=trivial;with_reducible repeat' (first|simp only[hb,Vc.down,seval,awK.down,gX,gK,fY,gQ,gG,fW,hms,aaA]|refine An ?_ ?_<;>intro hb|refine fd ?_|fail))
 obtain⟨p,hp⟩:∃p,H.length=p:=⟨_,rfl⟩
 have hcl:Df (H++aV m p true)=Df H++aV m p false:=by simp[Df,aV,CB.clean,Dc]
 have hqb:Am (H++aV m p true)=true:=Ax hq rfl
 have gb:∀k,(H++aV m p true)[p+k]?=(aV m p true)[k]?:=fun k=>by
  rw[ae4 (by omega)];congr 1;omega
 have F0:dY m p [] [] (ae2 m.sens.length 0) .nils .nils [] [] (H++aV m p true):=by
  refine⟨⟨false,gb 0⟩,⟨false,gb 1⟩,⟨false,gb 2⟩,gb 3,⟨true,gb 4⟩,⟨false,?_⟩,⟨true,?_⟩,⟨true,gb 7⟩,?_,.inl ⟨rfl,rfl⟩,rfl⟩
  ·rw[gb 5];simp[aV,iv]
  ·rw[gb 6];simp[aV]
  ·exact mC.none
 obtain⟨o,G,es,M,e1,e2,⟨rfl,now',l',SL⟩,e3,e4,e5⟩:=Ll (O:=Bh) (H:=H++aV m p true) (f:=78) (args:=.int .i64 0::scA p) (Q:=fun o G=>o=.ret (.tup [])∧∃now',now'.length=m.sens.length∧ScL m p (Rw m 0 m.sens.length (ae2 m.sens.length 0) ([],[])).1 (Dh m) now' .nils .nils (Df (H++aV m p true)) G) hqb (by
  obtain⟨o,G,c,rfl,now',x1,_,SL⟩:=ar4 hs hm m.sens.length 0 [] [] (ae2 m.sens.length 0) .nils .nils [] [] (Df (H++aV m p true)) (Ej hqb) (F0.cl (Ed _).symm) (Few.start m) (by simp) (by omega)
  rw[lI]at SL
  exact⟨_,G,c,⟨rfl,now',by rw[x1];simp,SL⟩,SL.w,SL.q⟩)
 have smH:∀c,c<H.length→Dm H M c:=fun c hc=>by
  have e:Dm (Df (H++aV m p true)) G c:=SL.k c (by rw[Bg];simp;omega) (by simp[Zp,Jg];omega)
  exact((((Dm.refl H c).app hc _).eqR (Ed _).symm).trans e).eqR e3.symm
 obtain⟨⟨lv,sv,rows,Ro,F,_⟩,_,_,_⟩:=SL
 have F:=F.cl e3.symm
 obtain⟨x1,m1⟩:=F.h1
 obtain⟨x2,m2⟩:=F.h2
 rcases F.S with⟨h,_⟩|⟨b,x,rfl,kb,kp,_⟩
 ·exact absurd h (aeE hm)
 have wH:Hv H M:=((Hv.refl H).app _).trans e4
 have hL:=F.L
 have hl:=F.len
 have e0:((0:Nat):Int)=0:=rfl
 rw[hcl]at e1
 simp only[aV,scA,Dc]at e1 e2
 rw[hp,e1]
 subst hp
 (have hb:=trivial;with_reducible repeat' (first|simp only[hb,Vc.down,seval,awK.down,e2,m1,m2]|refine An ?_ ?_<;>intro hb|refine fd ?_|fail))
 exact⟨lv,b,x,rows,Ro,rfl,hL,hl,kb,by omega,wH,e5,smH⟩
def Vv(v:Int × Int):List AV:=[.int .i64 v.1,.int .i64 v.2]
def QN(v:AV)(q:List (Int × Int))(H:Aa)(p:Nat):Prop:=
 (v=.nils∧q=[])∨∃b w rows r,v=.slr 2 b r q.length∧H[b]?=some (.live 2 true w rows)∧b≠p∧rows.drop r=q.map Vv∧r+q.length=rows.length
theorem QN.sm{v:AV}{q:List (Int × Int)}{H G:Aa}{p:Nat}(h:QN v q H p)(k:∀b∈Jg v,Dm H G b):QN v q G p:=by
 rcases h with h|⟨b,w,rows,r,rfl,h2,h3⟩
 ·exact .inl h
 ·obtain⟨x,h4⟩:=(k b (by simp[Jg])).live ⟨w,h2⟩
  exact .inr ⟨b,x,rows,r,rfl,h4,h3⟩
theorem QN.lt{v:AV}{q:List (Int × Int)}{H:Aa}{p:Nat}(h:QN v q H p):∀b∈Jg v,b<H.length∧b≠p:=by
 rcases h with⟨rfl,_⟩|⟨b,w,rows,r,rfl,h2,h3,_⟩
 ·intro b hb1;simp[Jg]at hb1
 ·intro b' hb1;simp[Jg]at hb1;subst hb1;exact⟨Ap h2,h3⟩
theorem aqM{H:Aa}{p:Nat}{w:Bool}{v:AV}{q:List (Int × Int)}(x:Int × Int)(hq:Am H=true)(hp:H[p]?=some (.live 1 false w [[v]]))(hQ:QN v q H p)(hl:q.length≤100000000):
 kZ Bh 135 [.ptr p 0 0,.agg [.int .i64 x.1,.int .i64 x.2]] H fun o G=>(o=.ret (.tup [])∧(∃v',G[p]?=some (.live 1 false true [[v']])∧QN v' (q++[x]) G p∧∀b∈Jg v',H.length≤b)∧∀c,c<H.length→c≠p→c∉Jg v→Dm H G c)∧Hv H G∧Am G=true:=by
 have hpl:=Ap hp
 refine We rfl Try.func135 rfl rfl ?_
 simp only[Try.f135]
 have hA:=Ab hp
 have hS:=Gj hpl
 rcases hQ with⟨rfl,rfl⟩|⟨b,w',rows,r,rfl,hrb,hbp,hd,hl2⟩
 ·obtain⟨sf,s1,sn,sk⟩:∃sf:Nat→Nat,sf p=1∧sf H.length=10∧∀k,sf (H.length+k)=k+10:=⟨fun b=>if H.length≤b then b-H.length+10 else 1,by simp;omega,by simp,fun k=>by simp⟩
  (have hb:=trivial;with_reducible repeat' (first|simp only[hb,Vc.down,seval,aqP.down,hp,hA,hS]|refine An ?_ ?_<;>intro hb|((refine Zv (aG (sf) ?_) ?_);(simp (discharger:=decide) only[Uu,Pn,afR,af7,Jk,Qn,Us,Ry,Vg,La,Pl,aa3,acM,s1,sn,sk];kernel_rfl);intro _)|refine fdq ?_|fail))
  refine⟨⟨⟨.slr 2 (H.length+2) 0 1,?_,.inr ⟨H.length+2,false,[Vv x],0,rfl,?_,by omega,rfl,rfl⟩,fun c hc=>by simp[Jg]at hc;omega⟩,fun c hc hn _=>((Dm.refl H c).set (fun e=>hn e.symm) _).app (by simpa using hc) _⟩,((Hv.refl H).put hp 1 false _).app _,Ax (Bj hq _ rfl) rfl⟩
  ·rw[aa9 (by simpa using hpl),aa0 hpl]
  ·rw[Ei];rfl
 ·have hbl:=Ap hrb
  have hB:=Ab hrb
  have hSb:=Gj hbl
  have h39:(q.length+1≤549755813888)=True:=eq_true (by omega)
  have hg:∀l,(H.set b .dead++l)[p]?=some (.live 1 false w [[.slr 2 b r q.length]]):=fun l=>by
   rw[aa9 (by simpa using hpl),abO hbp];exact hp
  have hg2:∀l c,(H.set b .dead++l).set p c=(H.set b .dead).set p c++l:=fun l c=>Gj (by simpa using hpl) l c
  obtain⟨sf,s1,s2,sn,sk⟩:∃sf:Nat→Nat,sf p=1∧sf b=2∧sf H.length=10∧∀k,sf (H.length+k)=k+10:=⟨fun c=>if H.length≤c then c-H.length+10 else if c=b then 2 else 1,by show(if _ then _ else _)=_;rw[if_neg (by omega),if_neg (fun e=>hbp e.symm)],by show(if _ then _ else _)=_;rw[if_neg (by omega),if_pos rfl],by simp,fun k=>by simp⟩
  (have hb:=trivial;with_reducible repeat' (first|simp only[hb,Vc.down,seval,aqP.down,hp,hA,hS,hrb,hB,hSb,hd,hl2,h39,hg,hg2,Gp,Ei,List.length_set,aaA]|refine An ?_ ?_<;>intro hb|((refine Zv (aG (sf) ?_) ?_);(simp (discharger:=decide) only[Uu,Pn,afR,af7,Jk,Qn,Us,Ry,Vg,La,Pl,aa3,acM,s1,s2,sn,sk];kernel_rfl);intro _)|refine fdq ?_|fail))
  have hsl:((H.set b CB.dead).set p (CB.live 1 false true [[AV.slr 2 (H.length+2) 0 (q.length+1)]])).length=H.length:=by simp
  refine⟨⟨⟨.slr 2 (H.length+2) 0 (q.length+1),?_,.inr ⟨H.length+2,false,(q++[x]).map Vv,0,by simp,?_,by omega,rfl,by simp⟩,fun c hc=>by simp[Jg]at hc;omega⟩,fun c hc hn hn2=>(((Dm.refl H c).set (fun e=>hn2 (by simp[Jg,e])) _).set (fun e=>hn e.symm) _).app (by simpa using hc) _⟩,(((Hv.refl H).kill hrb).put (by rw[abO hbp];exact hp) 1 false _).app _,Ax (Bj (Bj hq _ rfl) _ rfl) rfl⟩
  ·rw[aa9 (by omega),aa0 (by simpa using hpl)]
  ·rw[ae4 (by omega),hsl,alX];simp[Vv]
theorem an0(b r k:Nat):slx Try.prog 99 (some (.slr 2 b r (k+1))) (some (some (.int .i64 1))) (some none)=some (.ret (.slr 2 b (r+1) k),[]):=by
 have hz:Po Try.prog 86=some 2:=by kernel_rfl
 simp only[slx,af8,cJ,Try.underlying99,hz,Iw]
 simp[Iw,r1]
 omega
theorem ap3{H:Aa}{p:Nat}{w:Bool}{v:AV}(hq:Am H=true)(hp:H[p]?=some (.live 1 false w [[v]]))(hQ:QN v [] H p):
 kZ Bh 136 [.ptr p 0 0] H fun o G=>(o=.ret (.tup [.agg [.int .i64 0,.int .i64 0],.bool false])∧∀c,c<H.length→Dm H G c)∧Hv H G∧Am G=true:=by
 have hA:=Ab hp
 have hpl:=Ap hp
 rcases hQ with⟨rfl,_⟩|⟨b,w',rows,r,rfl,hrb,hbp,hd,hl⟩
 ·refine We rfl Try.func136 rfl rfl ?_
  simp only[Try.f136]
  (have hb:=trivial;with_reducible repeat' (first|simp only[hb,Vc.down,seval,ag4.down,hp,hA]|refine An ?_ ?_<;>intro hb|refine fd ?_|fail))
  exact⟨fun c hc=>(Dm.refl H c).app hc _,(Hv.refl H).app _,Ax hq rfl⟩
 ·simp only[acM]at hp hA
  refine We rfl Try.func136 rfl rfl ?_
  simp only[Try.f136]
  (have hb:=trivial;with_reducible repeat' (first|simp only[hb,Vc.down,seval,ag4.down,hp,hA]|refine An ?_ ?_<;>intro hb|refine fd ?_|fail))
  exact⟨fun c hc=>(Dm.refl H c).app hc _,(Hv.refl H).app _,Ax hq rfl⟩
theorem abJ{H:Aa}{p:Nat}{w:Bool}{v:AV}{x:Int × Int}{q:List (Int × Int)}(hq:Am H=true)(hp:H[p]?=some (.live 1 false w [[v]]))(hQ:QN v (x::q) H p)(hl:q.length≤100000000):
 kZ Bh 136 [.ptr p 0 0] H fun o G=>(o=.ret (.tup [.agg [.int .i64 x.1,.int .i64 x.2],.bool true])∧(∃v',G[p]?=some (.live 1 false true [[v']])∧QN v' q G p∧Jg v'=Jg v)∧∀c,c<H.length→c≠p→Dm H G c)∧Hv H G∧Am G=true:=by
 have hpl:=Ap hp
 rcases hQ with⟨_,h⟩|⟨b,w',rows,r,rfl,hrb,hbp,hd,hl2⟩
 ·cases h
 have hr0:rows[r]?=some [.int .i64 x.1,.int .i64 x.2]:=by
  have:=congrArg (·[0]?) hd
  simpa [Vv]using this
 have hd2:rows.drop (r+1)=q.map Vv:=by
  have:=congrArg (·.drop 1) hd
  simpa [List.drop_drop]using this
 simp only[aa3]at hl2 hp
 have h1:decide (((q.length+1:Nat):Int)=0)=false:=decide_eq_false (by omega)
 have h2:((((q.length+1:Nat):Int))==0)=false:=by simp;omega
 have h3:((0:Int)<((q.length+1:Nat):Int))=True:=eq_true (by omega)
 have h4:((1:Int)≤((q.length+1:Nat):Int))=True:=eq_true (by omega)
 have hA:=Ab hp
 have hB:=Ab hrb
 have hS:=Gj hpl
 have gs0:∀(c d:CB) (l:Aa),(H.set p c++l).set H.length d=H.set p c++l.set 0 d:=fun c d l=>by
  rw[List.set_append_right _ _ (by simp)];simp
 refine We rfl Try.func136 rfl rfl ?_
 simp only[Try.f136]
 (have hb:=trivial;with_reducible repeat' (first|simp only[hb,Vc.down,seval,ag4.down,hp,hA,hB,hS,hrb,hr0,h1,h2,h3,h4,an0,Gp,Ei,gs0]|refine An ?_ ?_<;>intro hb|refine fd ?_|fail))
 refine⟨⟨⟨.slr 2 b (r+1) q.length,?_,.inr ⟨b,w',rows,r+1,rfl,?_,hbp,hd2,by omega⟩,rfl⟩,fun c hc hn=>((Dm.refl H c).set (fun e=>hn e.symm) _).app (by simpa using hc) _⟩,((Hv.refl H).put hp 1 false _).app _,Ax (Bj hq _ rfl) rfl⟩
 ·rw[aa9 (by simpa using hpl),aa0 hpl]
 ·rw[aa9 (by simpa using Ap hrb),abO (fun e=>hbp e.symm)];exact hrb
def kN(v:Int × Int):AV:=.agg [.int .i64 v.1,.int .i64 v.2]
theorem an9(x y x' y':Int):Vs Try.prog 12 86 (.agg [.int .i64 x,.int .i64 y]) (.agg [.int .i64 x',.int .i64 y'])=(some (x==x')).bind fun r=>if r then((some (y==y')).bind fun r=>if r then some true else some false)else some false:=by kernel_rfl
theorem wJ:fR Try.prog 86 kN (fun _=>True):=⟨fun a _=>by
 obtain⟨x,y⟩:=a
 show qU Try.prog 86 (.agg [.int .i64 x,.int .i64 y])=true
 kernel_rfl,fun a b _ _=>by
 obtain⟨x,y⟩:=a
 obtain⟨x',y'⟩:=b
 show Vs Try.prog 12 86 (.agg [.int .i64 x,.int .i64 y]) (.agg [.int .i64 x',.int .i64 y'])=_
 rw[an9]
 by_cases e1:x=x'
 ·subst e1
  by_cases e2:y=y'
  ·subst e2;simp
  ·simp[e2]
 ·simp[e1],fun a _=>by
 simp[kN,AV.sameKey,AV.same]⟩
def xF(m:Ac)(v:Int × Int):Prop:=0≤v.1∧v.1<m.states∧0≤v.2∧v.2≤10
theorem Ob{m:Ac}(h:Be m=true):1≤m.states∧m.states≤8∧0≤m.bgn∧m.bgn<m.states:=by
 simp only[Be,Lj,acY]at h
 have h1:=h.1.1.1.1.1.1.1.2
 have h2:=h.1.1.1.1.1.2
 simp only[Ie,acY,decide_eq_true_eq]at h1 h2
 rw[Du (by omega) (by omega)]at h2
 omega
theorem aoP{m:Ac}(h:Be m=true){x:Ai}(hx:x∈m.moves):0≤x.to∧x.to<m.states:=by
 have hs:=Ob h
 simp only[Be,acY,alY]at h
 have h2:=h.1.2 x hx
 simp only[Is,acY,Ie,decide_eq_true_eq]at h2
 have h3:=h2.1.1.1.2
 rw[Du (by omega) (by omega)]at h3
 omega
theorem an2{a:Int}(h0:0≤a)(h1:a≤10):0≤mQ a∧mQ a≤10:=by
 unfold mQ
 rw[Du (by omega) (by omega)]
 split<;>omega
theorem vS{m:Ac}{st ag bits com:Int}(hv:xF m (st,ag)):∀(l:List Ai),(∀x∈l,0≤x.to∧x.to<m.states)→xF m (Ij st ag bits com l)
 | [],_=>⟨hv.1,hv.2.1,an2 hv.2.2.1 hv.2.2.2⟩
 |x::l,h=>by
  unfold Ij
  split
  ·exact⟨(h x (by simp)).1,(h x (by simp)).2,by simp,by simp⟩
  ·exact vS hv l fun y hy=>h y (by simp[hy])
theorem jA{m:Ac}(hm:Be m=true){v:Int × Int}(hv:xF m v)(a:List Int × Int):xF m (stp m v a):=vS hv _ fun _ hx=>aoP hm hx
theorem agN{m:Ac}(hm:Be m=true){X:List (List Int × Int)}{D:List ((Int × Int) × List Nat)}{i j:Nat}(B:BF (fun v i=>stp m v (gS X i)) X.length (m.bgn,0) D i j){x:(Int × Int) × List Nat}(hx:x∈D):xF m x.1:=by
 obtain⟨k,hk⟩:=alZ hx
 have h:=(B.way k x hk).1
 rw[←h]
 have hs:=Ob hm
 have h0:xF m (m.bgn,0):=⟨hs.2.2.1,hs.2.2.2,by simp,by simp⟩
 have key:∀(w:List Nat) (v:Int × Int),xF m v→xF m (run (fun v i=>stp m v (gS X i)) v w):=by
  intro w
  induction w with
  |nil=>intro v hv;exact hv
  |cons a w ih=>intro v hv;exact ih _ (jA hm hv _)
 exact key _ _ h0
def agF(m:Ac):List (Int × Int):=(List.range m.states.toNat).flatMap fun(s:Nat)=>(List.range 11).map fun(a:Nat)=>((s:Int),(a:Int))
theorem vB{m:Ac}{v:Int × Int}(h:xF m v):v∈agF m:=by
 obtain⟨h1,h2,h3,h4⟩:=h
 refine af9.2 ⟨v.1.toNat,al0.2 (by omega),aaK.2 ⟨v.2.toNat,al0.2 (by omega),?_⟩⟩
 exact Prod.ext (by simp;omega) (by simp;omega)
theorem sB(m:Ac):(agF m).length=m.states.toNat*11:=by
 unfold agF
 rw[List.length_flatMap]
 have key:∀l:List Nat,(l.map fun _=>11).sum=l.length*11:=fun l=>by
  induction l with
  |nil=>rfl
  |cons a l ih=>rw[afR,List.sum_cons,ih,aa3];omega
 simp[key]
theorem axM{V:Type}{step:V→Nat→V}{n:Nat}{v0:V}{D:List (V × List Nat)}{i j:Nat}(B:BF step n v0 D i j):(D.map (·.1)).Nodup:=by
 unfold List.Nodup
 rw[List.pairwise_iff_getElem]
 intro a b ha hb hab e
 simp only[aaA]at ha hb
 simp only[List.getElem_map]at e
 have:=B.nd a b _ _ (af4 ha) (af4 hb) e
 omega
theorem asT{m:Ac}(hm:Be m=true){X:List (List Int × Int)}{D:List ((Int × Int) × List Nat)}{i j:Nat}(B:BF (fun v i=>stp m v (gS X i)) X.length (m.bgn,0) D i j):D.length≤m.states.toNat*11:=by
 have:=Px (axM B) (k:=agF m) fun v hv=>by
  obtain⟨x,hx,rfl⟩:=aaK.1 hv
  exact vB (agN hm B hx)
 rw[sB]at this
 simpa using this
theorem Sv{m:Ac}(hm:Be m=true){X:List (List Int × Int)}{D:List ((Int × Int) × List Nat)}{i j:Nat}(B:BF (fun v i=>stp m v (gS X i)) X.length (m.bgn,0) D i j):D.length≤88:=by
 have h1:=asT hm B
 have h2:=Ob hm
 omega
def cmC(m:Ac)(X:List (List Int × Int))(x:(Int × Int) × List Nat):AV:=match x.2.getLast? with
 |none=>.agg [.int .i64 x.1.1,.int .i64 x.1.2,.int .i64 (-1)]
 |some a=>let u:=run (fun v i=>stp m v (gS X i)) (m.bgn,0) x.2.dropLast
  .agg [.int .i64 u.1,.int .i64 u.2,.int .i64 a]
def mkI(P:Program)(ty:TypeId)(x:Option AV):OE:=x.bind fun a=>match P.underlying ty with
 |some (.interface _)=>none
 |some _=>some (.ret (.iface ty a),[])
 |none=>none
theorem wR{O:Ea}{P:Program}(t:List AV)(h:Aa)(ty:TypeId)(x:Operand):Dl O P t h (.makeInterface ty x)=mkI P ty (Ae t x):=by
 rw[Bz _ _ _ rfl]
 simp only[exec,mkI]
 cases Ae t x with
 |none=>rfl
 |some a=>
  simp only[af8]
  cases P.underlying ty with
  |none=>rfl
  |some u=>cases u<;>rfl
theorem tK(a:AV):mkI Try.prog 133 (some a)=some (.ret (.iface 133 a),[]):=by
 have:Try.prog.underlying 133=some (.pointer 135):=Try.underlying133
 simp only[mkI,af8,this]
theorem Xb:bB Try.prog 133 "saltdome/trip.put" =some 135:=by kernel_rfl
theorem To:bB Try.prog 133 "saltdome/trip.take" =some 136:=by kernel_rfl
structure xE(m:Ac)(X:List (List Int × Int))(H:Aa)(D:List ((Int × Int) × List Nat))(i j nb:Nat)(u:Int × Int)(q:List (Int × Int))(ov:AV)(O:List (Int × Int))(h:Aa):Prop where
 B:BF (fun v i=>stp m v (gS X i)) X.length (m.bgn,0) D i j
 m0:∃x,h[H.length]?=some (.live 7 false x [m.cells])
 mp:∃y,h[H.length+2]?=some (Dc (Np kN y (D.map (·.1))))∧∀x∈D,y x.1=cmC m X x
 nd:∃x,h[nb]?=some (.live 2 true x [Vv u])
 ln:∃x v,h[H.length+3]?=some (.live 1 false x [[v]])∧QN v q h (H.length+3)∧∀b∈Jg v,H.length+4≤b∧b≠nb∧b∉Jg ov
 or_:(ov=.nils∧O=[])∨∃b x,ov=.slr 2 b 0 O.length∧h[b]?=some (.live 2 true x (O.map Vv))∧H.length+4≤b∧b≠nb
 nbl:H.length+4≤nb
 w:Hv H h
 q:Am h=true
 k:∀c,c<H.length→Dm H h c
def FdR(m:Ac)(X:List (List Int × Int))(H:Aa)(o:Dk)(G:Aa):Prop:=∃D ob ox mb y,o=.ret (.tup [.slr 2 ob 0 D.length,.mapr mb])∧Fnd m X D∧G[ob]?=some (.live 2 true ox (D.map fun x=>Vv x.1))∧H.length≤ob∧G[mb]?=some (Dc (Np kN y (D.map (·.1))))∧(∀x∈D,y x.1=cmC m X x)∧H.length≤mb∧Hv H G∧Am G=true∧∀c,c<H.length→Dm H G c
theorem xE.app{m:Ac}{X:List (List Int × Int)}{H:Aa}{D:List ((Int × Int) × List Nat)}{i j nb:Nat}{u:Int × Int}{q:List (Int × Int)}{ov:AV}{O:List (Int × Int)}{h:Aa}(F:xE m X H D i j nb u q ov O h){l:Aa}(hl:Am l=true):xE m X H D i j nb u q ov O (h++l):=by
 obtain⟨B,⟨x0,m0⟩,⟨y,mp,my⟩,⟨x1,nd⟩,⟨x2,v,l1,l2,l3⟩,or_,nbl,w,q',k⟩:=F
 refine⟨B,⟨x0,Ab m0 l⟩,⟨y,Ab mp l,my⟩,⟨x1,Ab nd l⟩,⟨x2,v,Ab l1 l,l2.sm fun b hb=>(Dm.refl h b).app (l2.lt b hb).1 l,l3⟩,?_,nbl,w.app l,Ax q' hl,fun c hc=>(k c hc).app (agA hc w.1) l⟩
 rcases or_ with h1|⟨b,x,h1,h2,h3⟩
 ·exact .inl h1
 ·exact .inr ⟨b,x,h1,Ab h2 l,h3⟩
theorem xE.own{m:Ac}{X:List (List Int × Int)}{H:Aa}{D:List ((Int × Int) × List Nat)}{i j nb:Nat}{u:Int × Int}{q:List (Int × Int)}{ov:AV}{O:List (Int × Int)}{h:Aa}(F:xE m X H D i j nb u q ov O h):Sj 0 2 true (O.map Vv) ov h:=by
 rcases F.or_ with⟨rfl,rfl⟩|⟨b,x,rfl,h2,_⟩
 ·exact Sj.nil _ _ _ _
 ·exact Sj.blk h2 rfl (by simp)
theorem xE.ord{m:Ac}{X:List (List Int × Int)}{H:Aa}{D:List ((Int × Int) × List Nat)}{i j nb:Nat}{u:Int × Int}{q:List (Int × Int)}{ov:AV}{O:List (Int × Int)}{h:Aa}(F:xE m X H D i j nb u q ov O h):xE m X H D i j nb u q (.slr 2 (h.length+1) 0 (O.length+1)) (O++[u]) (kl 0 ov h++[.live 2 true false [Vv u],.live 2 true false ((O++[u]).map Vv)]):=by
 have hkl:(kl 0 ov h).length=h.length∧Am (kl 0 ov h)=true∧Hv H (kl 0 ov h)∧∀c,c∉Jg ov→Dm h (kl 0 ov h) c:=by
  rcases F.or_ with⟨rfl,rfl⟩|⟨b,x,rfl,h2,_⟩
  ·exact⟨rfl,F.q,F.w,fun c _=>Dm.refl h c⟩
  ·exact⟨by simp[kl],Bj F.q b rfl,F.w.kill h2,fun c hc=>(Dm.refl h c).set (fun e=>hc (by simp[Jg];omega)) _⟩
 have hov:∀b∈Jg ov,H.length+4≤b∧b≠nb:=fun b hb=>by
  rcases F.or_ with⟨rfl,rfl⟩|⟨b',x,rfl,h2,h3,h4⟩
  ·simp[Jg]at hb
  ·simp[Jg]at hb;subst hb;exact⟨h3,h4⟩
 obtain⟨k1,k2,k3,k4⟩:=hkl
 have hlo:H.length≤h.length:=F.w.1
 obtain⟨B,m0,⟨y,mp,my⟩,nd,⟨x2,v,l1,l2,l3⟩,or_,nbl,w,q',k⟩:=F
 have hnb:nb<h.length:=by obtain⟨_,nd⟩:=nd;exact Ap nd
 have sm:∀c,c<h.length→c∉Jg ov→Dm h (kl 0 ov h++[.live 2 true false [Vv u],.live 2 true false ((O++[u]).map Vv)]) c:=fun c c1 c2=>(k4 c c2).app (by omega) _
 have l4:=Ap l1
 refine⟨B,(sm _ (by omega) fun hb=>by have:=(hov _ hb).1;omega).live m0,⟨y,(sm _ (by omega) fun hb=>by have:=(hov _ hb).1;omega).map mp,my⟩,(sm _ hnb fun hb=>(hov _ hb).2 rfl).live nd,?_,.inr ⟨h.length+1,false,by simp,?_,by omega,by omega⟩,nbl,k3.app _,Ax k2 rfl,fun c hc=>(k c hc).trans (sm c (by omega) fun hb=>by have:=(hov _ hb).1;omega)⟩
 ·obtain⟨z,g⟩:=(sm (H.length+3) l4 fun hb=>by have:=(hov _ hb).1;omega).live ⟨x2,l1⟩
  refine⟨z,v,g,l2.sm fun b hb=>sm b (l2.lt b hb).1 (l3 b hb).2.2,fun b hb=>⟨(l3 b hb).1,(l3 b hb).2.1,?_⟩⟩
  have:=(l2.lt b hb).1
  simp[Jg];omega
 ·rw[ae4 (by omega),k1,alX];rfl
theorem xE.next{m:Ac}{X:List (List Int × Int)}{H:Aa}{D:List ((Int × Int) × List Nat)}{i nb:Nat}{u:Int × Int}{q:List (Int × Int)}{ov:AV}{O:List (Int × Int)}{h':Aa}(F:xE m X H D i X.length nb u q ov O h'){M:Aa}{q2:List (Int × Int)}(u2:Int × Int)(sm:∀c,c<h'.length→c≠H.length+3→Dm h' M c)(hl:∃x v,M[H.length+3]?=some (.live 1 false x [[v]])∧QN v q2 M (H.length+3)∧∀b∈Jg v,H.length+4≤b∧b≠h'.length∧b∉Jg ov)(hn:∃x r,M[h'.length]?=some (.live 2 true x r))(w:Hv h' M)(hq:Am M=true):xE m X H D (i+1) 0 h'.length u2 q2 ov O (M.set h'.length (.live 2 true true [Vv u2])):=by
 have hlo:H.length≤h'.length:=F.w.1
 obtain⟨B,m0,⟨y,mp,my⟩,nd,⟨x2,v,l1,l2,l3⟩,or_,nbl,w0,q',k⟩:=F
 obtain⟨xn,r,hn⟩:=hn
 obtain⟨xl,v2,n1,n2,n3⟩:=hl
 have hp3:=Ap l1
 have sm2:∀c,c<h'.length→c≠H.length+3→Dm h' (M.set h'.length (.live 2 true true [Vv u2])) c:=fun c c1 c2=>(sm c c1 c2).set (by omega) _
 have hm0:H.length<h'.length:=by obtain⟨_,g⟩:=m0;exact Ap g
 refine⟨B.next,(sm2 _ hm0 (by omega)).live m0,⟨y,(sm2 _ (Ap mp) (by omega)).map mp,my⟩,⟨true,aa0 (Ap hn)⟩,⟨xl,v2,by rw[abO (by omega)];exact n1,n2.sm fun b hb=>(Dm.refl M b).set (fun e=>(n3 b hb).2.1 e.symm) _,n3⟩,?_,by omega,w0.trans (w.hi (Nat.le_refl _) _),Bj hq _ rfl,fun c hc=>(k c hc).trans (sm2 c (by omega) (by omega))⟩
 rcases or_ with h1|⟨b,z,h1,h2,h3,h4⟩
 ·exact .inl h1
 ·obtain⟨z',g⟩:=(sm2 b (Ap h2) (by omega)).live ⟨z,h2⟩
  exact .inr ⟨b,z',h1,g,h3,by have:=Ap h2;omega⟩
def fd4(m:Ac)(x:Bool):Aa:=[.live 7 false false [m.cells],.live 2 true x [[.int .i64 m.bgn,.int .i64 0]],Dc [.agg [.int .i64 m.bgn,.int .i64 0],.agg [.int .i64 m.bgn,.int .i64 0,.int .i64 (-1)]],.live 1 false false [[.nils]]]
theorem akL{α:Type}{l:List α}{k:Nat}{x:α}(h:l[k]?=some x)(l2:List α):(l++l2)[k]?=some x:=by
 rw[aa9 (ae7.1 h).1];exact h
theorem aoE{m:Ac}(hs:m.small)(hm:Be m=true){X:List (List Int × Int)}(hX:X.length≤2000){H:Aa}(hq:Am H=true){sb:Nat}{x:Bool}(hsb:H[sb]?=some (.live 2 true x (X.map (zZ m)))):
 kZ Bh 55 [.agg m.cells,.slr 2 sb 0 X.length] H (FdR m X H):=by
 obtain⟨p,hp⟩:∃p,H.length=p:=⟨_,rfl⟩
 have hms0:=fun(h:Aa) (b:Nat) (g:h[b]?=some (Dc [])) (c:AV)=>wJ.ms_new (ty:=100) (v:=fun _=>AV.nils) (L:=[]) Try.underlying100 g (fun _ h=>(by cases h)) (s:=(m.bgn,0)) trivial (by simp) c
 have hms:=hms0 (H++[.live 7 false false [m.cells],.live 2 true true [[.int .i64 m.bgn,.int .i64 0]],Dc []]) (H.length+2) (by simp) (.agg [.int .i64 m.bgn,.int .i64 0,.int .i64 (-1)])
 have hkv:Np kN (fun y=>if y=(m.bgn,(0:Int))then AV.agg [.int .i64 m.bgn,.int .i64 0,.int .i64 (-1)]else .nils) ([]++[(m.bgn,0)])=[.agg [.int .i64 m.bgn,.int .i64 0],.agg [.int .i64 m.bgn,.int .i64 0,.int .i64 (-1)]]:=by simp[Np,kN]
 rw[hkv]at hms
 simp only[kN,Dc]at hms
 refine We rfl Try.func55 rfl rfl ?_
 simp only[Try.f55]
 (have hb:=trivial;with_reducible repeat' (first|simp only[hb,Vc.down,seval,mH.down,Jh.down,hms,wR,tK,Xb,To,gX,gK,fY,gQ,gG,fW,aaA]|refine An ?_ ?_<;>intro hb|refine fd ?_|fail))
 have hcl:Df (H++fd4 m true)=Df H++fd4 m false:=by simp[Df,fd4,CB.clean,Dc]
 have hqb:Am (H++fd4 m true)=true:=Ax hq (by
  simp only[fd4,Am,List.all_cons,List.all_nil,Bool.and_true,acY]
  refine⟨rfl,rfl,Xd _ fun x hx=>?_,rfl⟩
  simp only[agB,aiO,or_false]at hx
  rcases hx with rfl|rfl<;>simp[AV.sameKey,AV.same])
 have gb:∀k,(H++fd4 m true)[p+k]?=(fd4 m true)[k]?:=fun k=>by
  rw[ae4 (by omega)];congr 1;omega
 obtain⟨o,G1,es1,M1,a1,a2,⟨rfl,⟨v1,a7,a8,a9⟩,a10⟩,a4,a5,a6⟩:=Ll (O:=Bh) (H:=H++fd4 m true) (f:=135) (args:=[.ptr (p+3) 0 0,.agg [.int .i64 m.bgn,.int .i64 0]]) hqb (aqM (m.bgn,0) (Ej hqb) (Fh (gb 3)) (.inl ⟨rfl,rfl⟩) (by simp))
 have sm1:∀c,c<p+4→c≠p+3→Dm (H++fd4 m true) M1 c:=fun c c1 c2=>((((Dm.refl _ c).eqR (Ed _).symm).trans (a10 c (by rw[Bg];simp[fd4];omega) c2 (by simp[Jg])))).eqR a4.symm
 obtain⟨x1,k1⟩:=Fq a4.symm ⟨_,a7⟩
 have QN1:QN v1 ([]++[(m.bgn,0)]) M1 (p+3):=a8.sm fun b _=>(Dm.refl G1 b).eqR a4.symm
 obtain⟨o,G2,es2,M2,b1,b2,⟨rfl,⟨v2,b7,b8,b9⟩,b10⟩,b4,b5,b6⟩:=Ll (O:=Bh) (H:=M1) (f:=136) (args:=[.ptr (p+3) 0 0]) a6 (abJ (q:=[]) (Ej a6) (Fh k1) (QN1.sm fun b _=>(Dm.refl M1 b).eqR (Ed M1).symm) (by simp))
 obtain⟨x2,k2⟩:=Fq b4.symm ⟨_,b7⟩
 have QN2:QN v2 [] M2 (p+3):=b8.sm fun b _=>(Dm.refl G2 b).eqR b4.symm
 have hM1:p+4≤M1.length:=by have:=a5.1;simp[fd4]at this;omega
 have sm2:∀c,c<p+4→c≠p+3→Dm (H++fd4 m true) M2 c:=fun c c1 c2=>(sm1 c c1 c2).trans ((((Dm.refl _ c).eqR (Ed _).symm).trans (b10 c (by rw[Bg];omega) c2)).eqR b4.symm)
 have hM2:M1.length≤M2.length:=b5.1
 have st0:xE m X H [((m.bgn,0),[])] 0 0 M2.length (m.bgn,0) [] .nils [] (M2++[.live 2 true true [Vv (m.bgn,0)]]):=by
  refine⟨BF.start _ _ _,?_,⟨fun _=>.agg [.int .i64 m.bgn,.int .i64 0,.int .i64 (-1)],?_,?_⟩,⟨true,by simp⟩,⟨x2,v2,?_,by rw[hp];exact QN2.sm fun b hb=>(Dm.refl M2 b).app (QN2.lt b hb).1 _,fun b hb=>?_⟩,.inl ⟨rfl,rfl⟩,by omega,?_,Ax b6 rfl,fun c hc=>?_⟩
  ·obtain⟨z,g⟩:=(sm2 p (by omega) (by omega)).live ⟨false,gb 0⟩
   exact⟨z,Ab (by rw[hp];exact g) _⟩
  ·rw[hp];exact Ab ((sm2 (p+2) (by omega) (by omega)).map (gb 2)) _
  ·intro x hx;simp at hx;subst hx;rfl
  ·rw[hp];exact Ab k2 _
  ·have h1:=b9▸hb
   have h2:=a9 b h1
   have h3:=(QN2.lt b hb).1
   rw[Bg]at h2
   simp[fd4]at h2
   exact⟨by omega,by omega,by simp[Jg]⟩
  ·exact((((Hv.refl H).app _).trans a5).trans b5).app _
  ·exact((((Dm.refl H c).app hc _).trans (sm2 c (by omega) (by omega)))).app (by omega) _
 rw[hcl]at a1
 simp only[fd4,Dc]at a1 a2
 rw[hp,a1]
 subst hp
 (have hb:=trivial;with_reducible repeat' (first|simp only[hb,Vc.down,seval,mH.down,Jh.down,a2,b1,b2,wR,tK,Xb,To,gX,gK,fY,gQ,gG,fW,aaA]|refine An ?_ ?_<;>intro hb|refine fd ?_|fail))
 refine Ci (cnt 77 (fun n (_:Unit) t h=>∃D i nb u ov,n+i=89∧i≤D.length∧t 1=.slr 2 sb 0 X.length∧t 2=.ptr H.length 0 0∧t 7=.mapr (H.length+2)∧t 8=ov∧t 9=.iface 133 (.ptr (H.length+3) 0 0)∧t 10=.ptr nb 0 0∧t 11=.bool (decide (i<D.length))∧xE m X H D i 0 nb u ((D.drop (i+1)).map (·.1)) ov ((D.take i).map (·.1)) h∧∀x,D[i]?=some x→u=x.1) (fun _ _=>()) (fun _ e t h=>e=.exit 0∧∃D nb u ov,t 8=ov∧t 7=.mapr (H.length+2)∧xE m X H D D.length 0 nb u [] ov (D.map (·.1)) h) ?_ ?_ 89 () _ _ ?_) (fun e t h hk=>?_)
 ·rintro _ t h Q' kQ ⟨D,i,nb,u,ov,hni,hiD,_,_,_,_,_,_,_,F,_⟩
  have:=Sv hm F.B
  omega
 ·rintro n _ t h J Q' kJ kQ ⟨D,i,nb,u,ov,hni,hiD,g1,g2,g7,g8,g9,g10,g11,F,hu⟩
  by_cases hlt:i<D.length
  ·obtain⟨⟨u',pth⟩,hDi⟩:∃z,D[i]?=some z:=⟨_,af4 hlt⟩
   obtain rfl:u=u':=hu _ hDi
   rw[decide_eq_true hlt]at g11
   obtain⟨xn,hnd⟩:=F.nd
   have own':=F.own
   have hap:=fun(q:Aa) (r:List AV)=>zU own' (pre:=[]) rfl q r [] (by have:=Sv hm F.B;simp;omega)
   have hhp:=fun(q:Aa) (r:List (List AV)) (ba:Nat)=>vY own' (pre:=[]) rfl q 2 true r ba
   simp only[List.nil_append]at hap hhp
   (have hb:=trivial;with_reducible repeat' (first|simp only[hb,Vc.down,seval,mH.down,Jh.down,g1,g2,g7,g8,g9,g10,g11,hnd,Vv,hap,hhp,aaA]|refine An ?_ ?_<;>intro hb|refine fd ?_|fail))
   have st1:=F.ord
   have hO:((D.take i).map (·.1)).length=i:=by simp;omega
   have hO1:(D.take i).map (·.1)++[u]=(D.take (i+1)).map (·.1):=by rw[List.take_add_one,hDi];simp
   rw[hO,hO1]at st1
   refine Ci (Lp 77 X (fun j (_:Unit) t h'=>∃D,i<D.length∧(∃pth,D[i]?=some (u,pth))∧t 1=.slr 2 sb 0 X.length∧t 2=.ptr H.length 0 0∧t 7=.mapr (H.length+2)∧t 8=.slr 2 (h.length+1) 0 (i+1)∧t 9=.iface 133 (.ptr (H.length+3) 0 0)∧t 10=.ptr nb 0 0∧t 46=.slr 2 sb 0 X.length∧t 47=.int .i64 X.length∧t 48=.int .i64 j∧xE m X H D i j nb u ((D.drop (i+1)).map (·.1)) (.slr 2 (h.length+1) 0 (i+1)) ((D.take (i+1)).map (·.1)) h') (fun _ _=>()) (fun _ e t h'=>e=.exit 2∧∃D,i<D.length∧(∃pth,D[i]?=some (u,pth))∧t 1=.slr 2 sb 0 X.length∧t 2=.ptr H.length 0 0∧t 7=.mapr (H.length+2)∧t 8=.slr 2 (h.length+1) 0 (i+1)∧t 9=.iface 133 (.ptr (H.length+3) 0 0)∧t 10=.ptr nb 0 0∧xE m X H D i X.length nb u ((D.drop (i+1)).map (·.1)) (.slr 2 (h.length+1) 0 (i+1)) ((D.take (i+1)).map (·.1)) h') ?_ ?_ () _ _ ?_) (fun e t h' hk=>?_)
   ·rintro _ t h' Q2 kQ2 ⟨D,c1,c2,c3,c4,c5,c6,c7,c8,c9,c10,c11,c12⟩
    (have hb:=trivial;with_reducible repeat' (first|simp only[hb,Vc.down,seval,mH.down,Jh.down,c9,c10,c11,ai2,decide_false]|refine An ?_ ?_<;>intro hb|refine fd ?_|fail))
    exact kQ2 _ _ _ ⟨rfl,D,c1,c2,by simp[up,c3],by simp[up,c4],by simp[up,c5],by simp[up,c6],by simp[up,c7],by simp[up,c8],c12⟩
   ·rintro sx rest j _ t h' J2 Q2 kJ2 kQ2 hx hj ⟨D,c1,⟨pth,c2⟩,c3,c4,c5,c6,c7,c8,c9,c10,c11,F2⟩
    obtain⟨xm,hm0⟩:=F2.m0
    obtain⟨y,mp,my⟩:=F2.mp
    obtain⟨xn2,nd⟩:=F2.nd
    obtain⟨xs,hsg⟩:=(F2.k sb (Ap hsb)).live ⟨x,hsb⟩
    obtain⟨xl,v,ln1,ln2,ln3⟩:=F2.ln
    have hpl3:=Ap ln1
    have hst:=jB m u.1 u.2 (Dx m sx.1) sx.2 hs (fun x hx w hw=>(cI hm x hx w hw).1)
    obtain⟨v',hv'⟩:∃v',stp m u sx=v':=⟨_,rfl⟩
    have hv2:Ij u.1 u.2 (Dx m sx.1) sx.2 m.moves=v':=hv'
    rw[hv2]at hst
    have hgj:stp m u (gS X j)=v':=by rw[rS hx];exact hv'
    have hw:=Aq hj (show X.length≤maxLen by unfold maxLen;omega)
    have hd:((j:Int)<(X.length:Int))=True:=eq_true (by omega)
    have hd2:decide ((j:Int)<(X.length:Int))=true:=decide_eq_true (by omega)
    by_cases hin:v'∈D.map (·.1)
    ·obtain⟨z,hz,hz1⟩:=aaK.1 hin
     have hyz:=my z hz
     rw[hz1]at hyz
     obtain⟨c0,e1,e2,hcm⟩:∃c0 e1 e2,y v'=.agg [.int .i64 c0,.int .i64 e1,.int .i64 e2]:=by
      rw[hyz];unfold cmC;split<;>exact⟨_,_,_,rfl⟩
     have hlk:=fun l=>wJ.lk_yes (ty:=100) (z:=.agg [.int .i64 0,.int .i64 0,.int .i64 0]) Try.underlying100 (by kernel_rfl) (Ab mp l) (fun _ _=>trivial) hin true
     simp only[cond_true,hcm,kN]at hlk
     (have hb:=trivial;with_reducible repeat' (first|simp only[hb,Vc.down,seval,mH.down,Jh.down,c3,c4,c5,c6,c7,c8,c9,c10,c11,hm0,Ab hm0,nd,Ab nd,hsg,Ab hsg,Vv,zZ,hx,hst,hlk,hd,hd2,hw,aaA]|refine An ?_ ?_<;>intro hb|refine fd ?_|fail))
     obtain⟨kz,hkz⟩:=alZ hz
     refine Av (kJ2 _ _ () ⟨D,c1,⟨pth,c2⟩,by simp[up,c3],by simp[up,c4],by simp[up,c5],by simp[up,c6],by simp[up,c7],by simp[up,c8],by simp[up,c9],by simp[up,c10],by simp[up]<;>omega,?_⟩ rfl)
     exact { F2.app (by rfl)with B:=F2.B.old c2 hkz (hz1.trans hgj.symm) }
    ·have hlk:=fun l=>wJ.lk_no (ty:=100) (z:=.agg [.int .i64 0,.int .i64 0,.int .i64 0]) Try.underlying100 (by kernel_rfl) (Ab mp l) (fun _ _=>trivial) trivial hin true
     have hms:=fun l=>wJ.ms_new (ty:=100) Try.underlying100 (Ab mp l) (fun _ _=>trivial) trivial hin (.agg [.int .i64 u.1,.int .i64 u.2,.int .i64 (j:Int)])
     obtain⟨mv,hmv⟩:∃mv,Np kN (fun w=>if w=v' then AV.agg [.int .i64 u.1,.int .i64 u.2,.int .i64 (j:Int)]else y w) (D.map (·.1)++[v'])=mv:=⟨_,rfl⟩
     rw[hmv]at hms
     simp only[cond_true,kN]at hlk hms
     have hsa:=Gj (Ap mp)
     have hmq:(Dc mv).quiet (Dc mv).clean=true:=Xd _ fun a ha=>by
      rw[←hmv]at ha
      unfold Np at ha
      obtain⟨w,hw,ha⟩:=af9.1 ha
      simp only[agB,aiO,or_false]at ha
      rcases ha with rfl|rfl
      ·simp[kN,AV.sameKey,AV.same]
      ·by_cases e:w=v'
       ·simp[e,AV.sameKey,AV.same]
       ·rw[if_neg e]
        rcases adV.1 hw with hw|hw
        ·obtain⟨z,hz,rfl⟩:=aaK.1 hw
         rw[my z hz];unfold cmC;split<;>simp[AV.sameKey,AV.same]
        ·simp at hw;exact absurd hw e
     obtain⟨l3,hl3⟩:∃l3:Aa,[CB.live 2 true true [[.int .i64 (Dx m sx.1),.int .i64 sx.2]],.live 2 true true [[.int .i64 v'.1,.int .i64 v'.2]],.live 3 true true [[.int .i64 0,.int .i64 0,.int .i64 0]]]=l3:=⟨_,rfl⟩
     have hcl:Df (h'.set (H.length+2) (Dc mv)++l3)=Df (h'.set (H.length+2) (Dc mv))++[.live 2 true false [[.int .i64 (Dx m sx.1),.int .i64 sx.2]],.live 2 true false [[.int .i64 v'.1,.int .i64 v'.2]],.live 3 true false [[.int .i64 0,.int .i64 0,.int .i64 0]]]:=by rw[←hl3];simp[Df,CB.clean]
     have hqK:Am (h'.set (H.length+2) (Dc mv)++l3)=true:=Ax (Bj F2.q _ hmq) (by rw[←hl3];rfl)
     have smK:∀c,c<h'.length→c≠H.length+2→Dm h' (h'.set (H.length+2) (Dc mv)++l3) c:=fun c hc hn=>((Dm.refl h' c).set (fun e=>hn e.symm) _).app (by simpa using hc) _
     obtain⟨xl2,hK3⟩:=(smK (H.length+3) hpl3 (by omega)).live ⟨xl,ln1⟩
     have QNK:=ln2.sm fun b hb=>smK b (ln2.lt b hb).1 (by have:=(ln3 b hb).1;omega)
     have h88:=Sv hm F2.B
     obtain⟨o,G,es,M,a1,a2,⟨rfl,⟨v2,a7,a8,a9⟩,a10⟩,a4,a5,a6⟩:=Ll (O:=Bh) (f:=135) (args:=[.ptr (H.length+3) 0 0,.agg [.int .i64 v'.1,.int .i64 v'.2]]) hqK (aqM v' (Ej hqK) (Fh hK3) (QNK.sm fun b _=>(Dm.refl _ b).eqR (Ed _).symm) (by simp;omega))
     have sm:∀c,c<h'.length→c≠H.length+2→c≠H.length+3→c∉Jg v→Dm h' M c:=fun c c1 c2 c3 c4=>(smK c c1 c2).trans ((((Dm.refl _ c).eqR (Ed _).symm).trans (a10 c (by rw[Bg];simp;omega) c3 c4)).eqR a4.symm)
     obtain⟨xl3,k7⟩:=Fq a4.symm ⟨_,a7⟩
     have mM:M[H.length+2]?=some (Dc mv):=by
      have e:(h'.set (H.length+2) (Dc mv)++l3)[H.length+2]?=some (Dc mv):=by
       rw[aa9 (by simpa using Ap mp),aa0 (Ap mp)]
      exact((((Dm.refl _ _).eqR (Ed _).symm).trans (a10 (H.length+2) (by rw[Bg];exact Ap e) (by omega) (fun hb=>by have:=(ln3 _ hb).1;omega))).eqR a4.symm).map e
     rw[hcl]at a1
     subst hl3
     (have hb:=trivial;with_reducible repeat' (first|simp only[hb,Vc.down,seval,mH.down,Jh.down,c3,c4,c5,c6,c7,c8,c9,c10,c11,hm0,Ab hm0,nd,Ab nd,hsg,Ab hsg,Vv,zZ,hx,hst,hlk,hms,hsa,hd,hd2,hw,Gp,Ei,a1,a2,wR,tK,Xb,To,aaA]|refine An ?_ ?_<;>intro hb|refine fd ?_|fail))
     have hdrop:(D++[(v',pth++[j])]).drop (i+1)=D.drop (i+1)++[(v',pth++[j])]:=List.drop_append_of_le_length (by omega)
     have htake:(D++[(v',pth++[j])]).take (i+1)=D.take (i+1):=List.take_append_of_le_length (by omega)
     have hmap:(D++[(v',pth++[j])]).map (·.1)=D.map (·.1)++[v']:=by simp
     have hovl:∀b∈Jg (.slr 2 (h.length+1) 0 (i+1)),H.length+4≤b∧b<h'.length:=fun b hb=>by
      rcases F2.or_ with⟨h1,_⟩|⟨b',z,h1,h2,h3,_⟩
      ·cases h1
      ·have eb:b'=h.length+1:=by simp only[AV.slr.injEq]at h1;omega
       simp[Jg]at hb;subst hb;rw[←eb];exact⟨h3,Ap h2⟩
     refine Av (kJ2 _ _ () ⟨D++[(v',pth++[j])],by simp;omega,⟨pth,akL c2 _⟩,by simp[up,c3],by simp[up,c4],by simp[up,c5],by simp[up,c6],by simp[up,c7],by simp[up,c8],by simp[up,c9],by simp[up,c10],by simp[up]<;>omega,?_⟩ rfl)
     have hnbl:=F2.nbl
     rw[hdrop,htake,List.map_append]
     refine⟨?_,(sm _ (Ap hm0) (by omega) (by omega) fun hb=>by have:=(ln3 _ hb).1;omega).live ⟨xm,hm0⟩,⟨fun w=>if w=v' then AV.agg [.int .i64 u.1,.int .i64 u.2,.int .i64 (j:Int)]else y w,by rw[hmap,hmv];exact mM,fun z hz=>?_⟩,(sm nb (Ap nd) (by omega) (by omega) fun hb=>(ln3 _ hb).2.1 rfl).live ⟨xn2,nd⟩,⟨xl3,v2,k7,a8.sm fun b _=>(Dm.refl G b).eqR a4.symm,fun b hb=>?_⟩,?_,hnbl,(F2.w.trans (((Hv.refl h').map mp mv).app _)).trans a5,a6,fun c hc=>(F2.k c hc).trans (sm c (agA hc F2.w.1) (by omega) (by omega) fun hb=>by have:=(ln3 _ hb).1;omega)⟩
     ·have:=F2.B.new c2 hj (fun k z hz e=>hin (by rw[hgj]at e;exact aaK.2 ⟨z,al1 hz,e⟩))
      rwa[hgj]at this
     ·rcases adV.1 hz with hz|hz
      ·have hne:z.1≠v':=fun e=>hin (aaK.2 ⟨z,hz,e⟩)
       simp only[if_neg hne];exact my z hz
      ·simp at hz;subst hz
       have hway:=(F2.B.way i _ c2).1
       simp only at hway
       simp[cmC,hway]
     ·have h1:=a9 b hb
      rw[Bg]at h1
      simp at h1
      refine⟨by omega,fun e=>by have:=Ap nd;omega,fun h2=>by have:=(hovl b h2).2;omega⟩
     ·rcases F2.or_ with⟨h1,_⟩|⟨b',z,h1,h2,h3,h4⟩
      ·cases h1
      ·obtain⟨z',g⟩:=(sm b' (Ap h2) (by omega) (by omega) fun hb=>(ln3 _ hb).2.2 (by rw[h1];simp[Jg])).live ⟨z,h2⟩
       exact .inr ⟨b',z',h1,g,h3,h4⟩
   ·exact⟨D,hlt,⟨pth,hDi⟩,by simp[up,g1],by simp[up,g2],by simp[up,g7],by simp[up];omega,by simp[up,g9],by simp[up,g10],by simp[up],by simp[up],by simp[up],by rw[show((D.take i).map (·.1)).map Vv++[[.int .i64 u.1,.int .i64 u.2]]=((D.take (i+1)).map (·.1)).map Vv from by rw[←hO1];simp[Vv]];exact st1⟩
   obtain⟨rfl,D,c1,⟨pth,c2⟩,c3,c4,c5,c6,c7,c8,F2⟩:=hk
   obtain⟨xn3,nd⟩:=F2.nd
   obtain⟨xl,v,ln1,ln2,ln3⟩:=F2.ln
   obtain⟨K2,hK2⟩:∃K2,h'++[CB.live 2 true true [[.int .i64 u.1,.int .i64 u.2]]]=K2:=⟨_,rfl⟩
   have hcl:Df (h'++[CB.live 2 true true [[.int .i64 u.1,.int .i64 u.2]]])=Df h'++[CB.live 2 true false [[.int .i64 u.1,.int .i64 u.2]]]:=by simp[Df,CB.clean]
   have hqK:Am K2=true:=by rw[←hK2];exact Ax F2.q rfl
   have hp3:=Ap ln1
   have k3:K2[H.length+3]?=some (.live 1 false xl [[v]]):=by rw[←hK2];exact Ab ln1 _
   have QK:QN v ((D.drop (i+1)).map (·.1)) K2 (H.length+3):=by rw[←hK2];exact ln2.sm fun b hb=>(Dm.refl h' b).app (ln2.lt b hb).1 _
   have kn:K2[h'.length]?=some (.live 2 true true [[.int .i64 u.1,.int .i64 u.2]]):=by rw[←hK2];simp
   have smK:∀c,c<h'.length→Dm h' K2 c:=fun c hc=>by rw[←hK2];exact(Dm.refl h' c).app hc _
   have wK:Hv h' K2:=by rw[←hK2];exact(Hv.refl h').app _
   have hKl:K2.length=h'.length+1:=by rw[←hK2];simp
   have h88:=Sv hm F2.B
   by_cases hend:i+1<D.length
   ·obtain⟨z,hz⟩:∃z,D[i+1]?=some z:=⟨_,af4 hend⟩
    have hdr:(D.drop (i+1)).map (·.1)=z.1::(D.drop (i+1+1)).map (·.1):=by
     obtain⟨q1,q2⟩:=ae7.1 hz
     rw[List.drop_eq_getElem_cons q1,q2];rfl
    rw[hdr]at QK
    obtain⟨o,G,es,M,a1,a2,⟨rfl,⟨v2,a7,a8,a9⟩,a10⟩,a4,a5,a6⟩:=Ll (O:=Bh) (H:=K2) (f:=136) (args:=[.ptr (H.length+3) 0 0]) hqK (abJ (Ej hqK) (Fh k3) (QK.sm fun b _=>(Dm.refl _ b).eqR (Ed _).symm) (by simp;omega))
    have sm:∀c,c<K2.length→c≠H.length+3→Dm K2 M c:=fun c c1 c2=>(((Dm.refl _ c).eqR (Ed _).symm).trans (a10 c (by rw[Bg];exact c1) c2)).eqR a4.symm
    obtain⟨xl3,k7⟩:=Fq a4.symm ⟨_,a7⟩
    obtain⟨xn4,kn2⟩:=(sm h'.length (by omega) (by omega)).live ⟨_,kn⟩
    have F3:=F2.next (q2:=(D.drop (i+1+1)).map (·.1)) z.1 (fun c c1 c2=>(smK c c1).trans (sm c (by omega) c2)) ⟨xl3,v2,k7,a8.sm fun b _=>(Dm.refl G b).eqR a4.symm,fun b hb=>by
     rw[a9]at hb
     have:=ln3 b hb
     have:=(ln2.lt b hb).1
     exact⟨by omega,by omega,(ln3 b hb).2.2⟩⟩ ⟨_,_,kn2⟩ (wK.trans a5) a6
    have hKe:=hK2
    rw[←hK2,hcl]at a1
    rw[←hK2]at a2
    (have hb:=trivial;with_reducible repeat' (first|simp only[hb,Vc.down,seval,mH.down,Jh.down,c3,c4,c5,c6,c7,c8,nd,Vv,a1,a2,kn2,wR,tK,Xb,To,aaA]|refine An ?_ ?_<;>intro hb|refine fd ?_|fail))
    exact Av (kJ _ _ () ⟨D,i+1,h'.length,z.1,_,by omega,by omega,by simp[up,c3],by simp[up,c4],by simp[up,c5],rfl,by simp[up,c7],by simp[up],by simp[up,hend],by simpa [up,c6,Vv]using F3,fun w hw=>by rw[hz]at hw;cases hw;rfl⟩ rfl)
   ·have hdr:(D.drop (i+1)).map (·.1)=[]:=by rw[ajM (by omega)];rfl
    have hdr2:(D.drop (i+1+1)).map (·.1)=[]:=by rw[ajM (by omega)];rfl
    rw[hdr]at QK
    obtain⟨o,G,es,M,a1,a2,⟨rfl,a10⟩,a4,a5,a6⟩:=Ll (O:=Bh) (H:=K2) (f:=136) (args:=[.ptr (H.length+3) 0 0]) hqK (ap3 (Ej hqK) (Fh k3) (QK.sm fun b _=>(Dm.refl _ b).eqR (Ed _).symm))
    have sm:∀c,c<K2.length→Dm K2 M c:=fun c c1=>(((Dm.refl _ c).eqR (Ed _).symm).trans (a10 c (by rw[Bg];exact c1))).eqR a4.symm
    obtain⟨xl3,k7⟩:=(sm _ (Ap k3)).live ⟨_,k3⟩
    obtain⟨xn4,kn2⟩:=(sm h'.length (by omega)).live ⟨_,kn⟩
    have F3:=F2.next (q2:=(D.drop (i+1+1)).map (·.1)) (0,0) (fun c c1 c2=>(smK c c1).trans (sm c (by omega))) ⟨xl3,v,k7,by rw[hdr2];exact QK.sm fun b hb=>sm b (QK.lt b hb).1,fun b hb=>by
     have:=ln3 b hb
     have:=(ln2.lt b hb).1
     exact⟨by omega,by omega,(ln3 b hb).2.2⟩⟩ ⟨_,_,kn2⟩ (wK.trans a5) a6
    have hKe:=hK2
    rw[←hK2,hcl]at a1
    rw[←hK2]at a2
    (have hb:=trivial;with_reducible repeat' (first|simp only[hb,Vc.down,seval,mH.down,Jh.down,c3,c4,c5,c6,c7,c8,nd,Vv,a1,a2,kn2,wR,tK,Xb,To,aaA]|refine An ?_ ?_<;>intro hb|refine fd ?_|fail))
    exact Av (kJ _ _ () ⟨D,i+1,h'.length,(0,0),_,by omega,by omega,by simp[up,c3],by simp[up,c4],by simp[up,c5],rfl,by simp[up,c7],by simp[up],by simp[up,hend],by simpa [up,c6,Vv]using F3,fun w hw=>by rw[aj8 (by omega)]at hw;cases hw⟩ rfl)
  ·have hDl:i=D.length:=by omega
   rw[decide_eq_false hlt]at g11
   subst hDl
   have hdr:D.drop (D.length+1)=[]:=ajM (by omega)
   rw[hdr,List.take_length]at F
   (have hb:=trivial;with_reducible repeat' (first|simp only[hb,Vc.down,seval,mH.down,Jh.down,g11]|refine An ?_ ?_<;>intro hb|refine fd ?_|fail))
   exact kQ _ _ _ ⟨rfl,D,nb,u,ov,by simp[up,g8],by simp[up,g7],F⟩
 ·exact⟨_,0,M2.length,(m.bgn,0),.nils,rfl,by simp,by simp[up,Cj],by simp[up],by simp[up],by simp[up],by simp[up],by simp[up],by simp[up],st0,fun x hx=>by simp at hx;rw[←hx]⟩
 ·obtain⟨rfl,D,nb,u,ov,g8,g7,F⟩:=hk
  have hne:D≠[]:=fun e=>by have:=F.B.hd;rw[e]at this;simp at this
  rcases F.or_ with⟨_,h2⟩|⟨b,x1,rfl,h2,h3,_⟩
  ·exact absurd (List.map_eq_nil_iff.1 h2) hne
  ·obtain⟨y,mp,my⟩:=F.mp
   (have hb:=trivial;with_reducible repeat' (first|simp only[hb,Vc.down,seval,mH.down,Jh.down,g7,g8]|refine An ?_ ?_<;>intro hb|refine fd ?_|fail))
   exact⟨D,b,x1,H.length+2,y,by simp,F.B,by rw[List.map_map]at h2;exact h2,by omega,mp,my,by omega,F.w,F.q,F.k⟩
theorem oZ{m:Ac}(hm:Be m=true):(Dh m).length≤320:=by
 rw[←lI m []]
 have:Few m (Rw m 0 m.sens.length [] ([],[])):=by unfold Rw;exact cK hm _ (Few.start m)
 exact this.le hm
theorem ao1{m:Ac}(hs:m.small)(hm:Be m=true){H:Aa}(hq:Am H=true):∃lv b x rows Ro es M,yK H (Bh.call (.sh 54) [.agg m.cells] (Df H))=some (.ret (.tup [lv,.slr 2 b 0 (Dh m).length]),es)∧Bo H es=M∧mC 2 (H.length+8) lv M rows ((Dh m).map fun x=>(tsc x).cells) Ro∧rows.length=(Dh m).length∧M[b]?=some (.live 2 true x ((Dh m).map (zZ m)))∧H.length≤b∧Hv H M∧Am M=true∧∀c,c<H.length→Dm H M c:=by
 obtain⟨o,G,es,M,a1,a2,⟨lv,b,x,rows,Ro,rfl,s1,s2,s3,s4,_,_,s5⟩,a4,a5,a6⟩:=Ll (O:=Bh) (H:=H) (f:=54) (args:=[.agg m.cells]) (Q:=ScR m (Df H)) hq (by
  obtain⟨o,G,c,lv,b,x,rows,Ro,r,s1,s2,s3,s4,s5,s6,s7⟩:=aoA hs hm (Ej hq)
  exact⟨o,G,c,⟨lv,b,x,rows,Ro,r,s1,s2,s3,s4,s5,s6,s7⟩,s5,s6⟩)
 obtain⟨z,g⟩:=Fq a4.symm ⟨x,s3⟩
 rw[Bg]at s1 s4 s5
 exact⟨lv,b,z,rows,Ro,es,M,a1,a2,s1.cl a4.symm,s2,g,s4,a5,a6,fun c hc=>(((Dm.refl H c).eqR (Ed H).symm).trans (s5 c hc)).eqR a4.symm⟩
theorem am3{m:Ac}(hs:m.small)(hm:Be m=true){X:List (List Int × Int)}(hX:X.length≤2000){H:Aa}(hq:Am H=true){sb:Nat}{x:Bool}(hsb:H[sb]?=some (.live 2 true x (X.map (zZ m)))):∃D ob ox mb y es M,yK H (Bh.call (.sh 55) [.agg m.cells,.slr 2 sb 0 X.length] (Df H))=some (.ret (.tup [.slr 2 ob 0 D.length,.mapr mb]),es)∧Bo H es=M∧Fnd m X D∧M[ob]?=some (.live 2 true ox (D.map fun x=>Vv x.1))∧H.length≤ob∧M[mb]?=some (Dc (Np kN y (D.map (·.1))))∧(∀x∈D,y x.1=cmC m X x)∧H.length≤mb∧Hv H M∧Am M=true∧∀c,c<H.length→Dm H M c:=by
 obtain⟨o,G,es,M,a1,a2,⟨D,ob,ox,mb,y,rfl,s1,s2,s3,s4,s5,s6,_,_,s7⟩,a4,a5,a6⟩:=Ll (O:=Bh) (H:=H) (f:=55) (args:=[.agg m.cells,.slr 2 sb 0 X.length]) (Q:=FdR m X (Df H)) hq (by
  obtain⟨o,G,c,D,ob,ox,mb,y,r,s1,s2,s3,s4,s5,s6,s7,s8,s9⟩:=aoE hs hm hX (Ej hq) (Fh hsb)
  exact⟨o,G,c,⟨D,ob,ox,mb,y,r,s1,s2,s3,s4,s5,s6,s7,s8,s9⟩,s7,s8⟩)
 obtain⟨z,g⟩:=Fq a4.symm ⟨ox,s2⟩
 rw[Bg]at s3 s6 s7
 exact⟨D,ob,z,mb,y,es,M,a1,a2,s1,g,s3,zX a4.symm s4,s5,s6,a5,a6,fun c hc=>(((Dm.refl H c).eqR (Ed H).symm).trans (s7 c hc)).eqR a4.symm⟩
theorem rV:∀(d:Nat) (n:Int) (i:Nat) (x:Int),(vC d n)[i]?=some x→x=n+i∧i<d
 |0,n,i,x,h=>by simp[vC]at h
 |d+1,n,0,x,h=>by simp[vC]at h;omega
 |d+1,n,i+1,x,h=>by
  simp only[vC,List.getElem?_cons_succ]at h
  have:=rV d (n+1) i x h
  omega
theorem bD:∀(d:Nat) (n:Int),(vC d n).length=d
 |0,_=>rfl
 |d+1,n=>by simp[vC,bD d]
theorem amB{α:Type}{l:List α}{k:Nat}{x:α}(h:l[k]?=some x):k<l.length:=(ae7.1 h).1
theorem an7{x y:List Af × List Bf}(f:Nat→Nat)(h:Il x y=true):Uw ([.all],[.all]) (y.1.map fun e=>Vq f e.foot,y.2.map (Vq f))=true:=by
 simp only[Il,af5,af6,adV,aaK]at h
 simp only[Uw,List.any_cons,List.any_nil,Bool.or_false,af5,af6,adV,aaK]
 rcases h with⟨_,_,b,hb,_⟩|⟨_,⟨e,he,rfl⟩,b,hb,hm⟩
 ·refine .inl ⟨Vq f b,?_,by cases b<;>rfl⟩
  rcases hb with⟨e',he',rfl⟩|hb
  ·exact .inl ⟨e',he',rfl⟩
  ·exact .inr ⟨b,hb,rfl⟩
 ·exact .inr ⟨_,⟨e,he,rfl⟩,by generalize Vq f e.foot=z;cases z<;>rfl⟩
theorem aoF{x y:List Af × List Bf}(f:Nat→Nat)(h:Il x y=true):Uw (x.1.map fun e=>Vq f e.foot,x.2.map (Vq f)) ([.all],[.all])=true:=by
 simp only[Il,af5,af6,adV,aaK]at h
 simp only[Uw,List.any_cons,List.any_nil,Bool.or_false,af5,af6,adV,aaK]
 rcases h with⟨_,⟨e,he,rfl⟩,_⟩|⟨_,_,b,hb,_⟩
 ·exact .inl ⟨_,⟨e,he,rfl⟩,.all,by simp,by generalize Vq f e.foot=z;cases z<;>rfl⟩
 ·exact .inr ⟨Vq f b,⟨b,hb,rfl⟩,by cases b<;>rfl⟩
theorem apZ(f:Nat→Nat)(k:Nat){ops:List Oper}{log:Qy}(h:eV ops ((rX f log).set k ([.all],[.all]))=true):Dp ops log=true:=by
 simp only[eV,Dp,alY]at h ⊢
 rintro⟨i,j⟩ hij
 have:=h (i,j) hij
 simp only at this ⊢
 cases hi:log[i]? with
 |none=>
  have hl:log.length≤i:=by simpa using hi
  have h2:((rX f log).set k ([Bf.all],[Bf.all]))[i]?=none:=aj8 (by simp[rX];exact hl)
  rw[h2]at this;simp at this
 |some x=>
  cases hj:log[j]? with
  |none=>
   have hl:log.length≤j:=by simpa using hj
   have h2:((rX f log).set k ([Bf.all],[Bf.all]))[j]?=none:=aj8 (by simp[rX];exact hl)
   rw[h2]at this
   revert this
   cases((rX f log).set k ([Bf.all],[Bf.all]))[i]?<;>simp
  |some y=>
   have hil:i<log.length:=(ae7.1 hi).1
   have hjl:j<log.length:=(ae7.1 hj).1
   have gi:((rX f log).set k ([Bf.all],[Bf.all]))[i]?=some (if k=i then([.all],[.all])else(x.1.map fun e=>Vq f e.foot,x.2.map (Vq f))):=by
    by_cases e:k=i
    ·rw[if_pos e,e,aa0 (by simp[rX];exact hil)]
    ·rw[if_neg e,abO e];simp[rX,hi]
   have gj:((rX f log).set k ([Bf.all],[Bf.all]))[j]?=some (if k=j then([.all],[.all])else(y.1.map fun e=>Vq f e.foot,y.2.map (Vq f))):=by
    by_cases e:k=j
    ·rw[if_pos e,e,aa0 (by simp[rX];exact hjl)]
    ·rw[if_neg e,abO e];simp[rX,hj]
   rw[gi,gj]at this
   simp only[Bool.not_eq_true']at this ⊢
   cases hc:Il x y with
   |false=>rfl
   |true=>
    exfalso
    by_cases e1:k=i
    ·by_cases e2:k=j
     ·rw[if_pos e1,if_pos e2]at this
      simp[Uw,Bf.meets]at this
     ·rw[if_pos e1,if_neg e2,an7 f hc]at this;cases this
    ·by_cases e2:k=j
     ·rw[if_neg e1,if_pos e2,aoF f hc]at this;cases this
     ·rw[if_neg e1,if_neg e2,tN f x y hc]at this;cases this
structure RB where
 sf:Nat
 kb:Nat
 eb:Nat
 sg:Nat
 vb:Nat
 fb:Nat
 mx:Nat
 mp:Nat
 si:Nat
def RB.caps(b:RB):List AV:=[.ptr b.sf 0 0,.ptr b.kb 0 0,.ptr b.eb 0 0,.ptr b.sg 0 0,.ptr b.vb 0 0,.ptr b.fb 0 0,.ptr b.mx 0 0]
def vN(s:DS (Int × Int))(g:Int × Int):AV:=.int .i64 (s.val g)
structure rY(m:Ac)(X:List (List Int × Int))(vt:Nat)(nn:Bool)(sl:List Int)(b:RB)(s:DS (Int × Int))(h:Aa):Prop where
 h1:∃x,h[b.sf]?=some (.live 1 false x [[Ad 1 true nn (sl.map iv)]])
 h2:∃x,h[b.kb]?=some (.live 1 false x [[.mapr b.mp]])
 h3:∃x,h[b.eb]?=some (.live 1 true x [[.bool s.e]])
 h4:∃x,h[b.sg]?=some (.live 1 false x [[.slr 2 b.si 0 X.length]])
 h5:∃x,h[b.vb]?=some (.live 1 true x [[.int .i64 (vt:Int)]])
 h6:∃x,h[b.fb]?=some (.live 1 false x [[.func (.func 56) [] b.caps]])
 h7:∃x,h[b.mx]?=some (.live 7 false x [m.cells])
 h8:h[b.mp]?=some (Dc (Np kN (vN s) s.W))
 h9:∃x,h[b.si]?=some (.live 2 true x (X.map (zZ m)))
theorem rY.sm{m:Ac}{X:List (List Int × Int)}{vt:Nat}{nn:Bool}{sl:List Int}{b:RB}{s:DS (Int × Int)}{h G:Aa}(R:rY m X vt nn sl b s h)(k:∀c,c<h.length→Dm h G c):rY m X vt nn sl b s G:=by
 have l:=fun {c st:Nat} {fl:Bool} {r:List (List AV)} (g:∃x,h[c]?=some (.live st fl x r))=>(k c (by obtain⟨_,g⟩:=g;exact Ap g)).live g
 exact⟨l R.h1,l R.h2,l R.h3,l R.h4,l R.h5,l R.h6,l R.h7,(k _ (Ap R.h8)).map R.h8,l R.h9⟩
theorem rY.app{m:Ac}{X:List (List Int × Int)}{vt:Nat}{nn:Bool}{sl:List Int}{b:RB}{s:DS (Int × Int)}{h:Aa}(R:rY m X vt nn sl b s h)(l:Aa):rY m X vt nn sl b s (h++l):=R.sm fun c hc=>(Dm.refl h c).app hc l
theorem abM{h:Aa}{b:Nat}{s:DS (Int × Int)}(hb:h[b]?=some (Dc (Np kN (vN s) s.W)))(hn:s.W.Nodup)(v:Int × Int)(x:Int):ms Try.prog h 103 (some (.mapr b)) (some (kN v)) (some (.int .i64 x))=some (.ret (.tup []),[.put b (Dc (Np kN (vN (s.put v x)) (s.put v x).W))]):=by
 have e:vN (s.put v x)=fun y=>if y=v then AV.int .i64 x else vN s y:=by
  funext y
  show AV.int .i64 (if y=v then x else s.val y)=_
  by_cases h:y=v<;>simp[h,vN]
 rw[e]
 by_cases hv:v∈s.W
 ·have:=wJ.ms_old (ty:=103) Try.underlying103 hb (fun _ _=>trivial) hn hv (.int .i64 x)
  rw[this]
  simp[DS.put,hv]
 ·have:=wJ.ms_new (ty:=103) Try.underlying103 hb (fun _ _=>trivial) trivial hv (.int .i64 x)
  rw[this]
  simp[DS.put,hv]
theorem alP(W:List (Int × Int))(s:DS (Int × Int)):(Dc (Np kN (vN s) W)).quiet (Dc (Np kN (vN s) W)).clean=true:=Xd _ fun a ha=>by
 unfold Np at ha
 obtain⟨w,hw,ha⟩:=af9.1 ha
 simp only[agB,aiO,or_false]at ha
 rcases ha with rfl|rfl<;>simp[kN,vN,AV.sameKey,AV.same]
def aC(n:Int):Int:=IntKind.i64.wrap (n+1)
def Qd(m:Ac)(vt:Nat)(a:List Int × Int):Bool:=Gs (Dx m a.1) (vt:Int)
def Qk(sl:List Int)(v:Int × Int):Bool:=sl.any fun x=>v.1==x
abbrev cO(m:Ac)(X:List (List Int × Int))(vt:Nat)(sl:List Int):=zW (Qk sl) aC (Qd m vt) (stp m) X
theorem rY.put{m:Ac}{X:List (List Int × Int)}{vt:Nat}{nn:Bool}{sl:List Int}{b:RB}{s:DS (Int × Int)}{h:Aa}(R:rY m X vt nn sl b s h)(v:Int × Int)(x:Int):rY m X vt nn sl b (s.put v x) (h.set b.mp (Dc (Np kN (vN (s.put v x)) (s.put v x).W))):=by
 have l:=fun {c st:Nat} {fl:Bool} {r:List (List AV)} (g:∃x,h[c]?=some (.live st fl x r))=>((Dm.refl h c).set (show b.mp≠c from fun e=>by obtain⟨_,g⟩:=g;rw[←e,R.h8]at g;cases g) (Dc (Np kN (vN (s.put v x)) (s.put v x).W))).live g
 exact⟨l R.h1,l R.h2,l R.h3,l R.h4,l R.h5,l R.h6,l R.h7,aa0 (Ap R.h8),l R.h9⟩
theorem rY.en{m:Ac}{X:List (List Int × Int)}{vt:Nat}{nn:Bool}{sl:List Int}{b:RB}{s:DS (Int × Int)}{h:Aa}(R:rY m X vt nn sl b s h)(e':Bool):rY m X vt nn sl b ⟨s.W,s.val,e'⟩ (h.set b.eb (.live 1 true true [[.bool e']])):=by
 obtain⟨z,h3⟩:=R.h3
 have l:=fun {c st:Nat} {fl:Bool} {r:List (List AV)} (g:∃x,h[c]?=some (.live st fl x r)) (hn:∀x,CB.live st fl x r≠.live 1 true z [[.bool s.e]])=>((Dm.refl h c).set (show b.eb≠c from fun e=>by obtain⟨x,g⟩:=g;rw[←e,h3]at g;cases g;exact hn _ rfl) (.live 1 true true [[.bool e']])).live g
 refine⟨l R.h1 (fun x e=>by cases e),l R.h2 (fun x e=>by cases e),⟨true,aa0 (Ap h3)⟩,l R.h4 (fun x e=>by cases e),l R.h5 (fun x e=>by cases e),l R.h6 (fun x e=>by cases e),l R.h7 (fun x e=>by cases e),?_,l R.h9 (fun x e=>by simp at e)⟩
 rw[abO (fun e=>by rw[e,R.h8]at h3;cases h3)];exact R.h8
structure LpI(m:Ac)(X:List (List Int × Int))(vt:Nat)(nn:Bool)(sl:List Int)(b:RB)(H:Aa)(v:Int × Int)(k:Nat)(r:Int × DS (Int × Int))(h:Aa):Prop where
 R:rY m X vt nn sl b r.2 h
 W:DW (xF m) r.2
 l:k≤r.2.W.length
 nd:∃x,h[H.length]?=some (.live 2 true x [Vv v])
 w:Hv H h
 q:Am h=true
 k:∀c,c<H.length→c≠b.mp→c≠b.eb→Dm H h c
theorem LpI.app{m:Ac}{X:List (List Int × Int)}{vt:Nat}{nn:Bool}{sl:List Int}{b:RB}{H:Aa}{v:Int × Int}{k:Nat}{r:Int × DS (Int × Int)}{h:Aa}(I:LpI m X vt nn sl b H v k r h){l:Aa}(hl:Am l=true):LpI m X vt nn sl b H v k r (h++l):=by
 obtain⟨R,W,l1,⟨x,nd⟩,w,q,k⟩:=I
 exact⟨R.app l,W,l1,⟨x,Ab nd l⟩,w.app l,Ax q hl,fun c c1 c2 c3=>(k c c1 c2 c3).app (agA c1 w.1) l⟩
theorem auW{m:Ac}(hs:m.small)(hm:Be m=true){X:List (List Int × Int)}(hX:X.length≤2000){vt:Nat}(hvt:vt<m.votes.length){nn:Bool}{sl:List Int}(hsl:sl.length≤maxLen){b:RB}:∀(f:Nat) (v:Int × Int) (s:DS (Int × Int)) (H:Aa),xF m v→DW (xF m) s→88<s.W.length+f→Am H=true→rY m X vt nn sl b s H→
 kZ Bh 56 (.agg [.int .i64 v.1,.int .i64 v.2]::b.caps) H fun o G=>((o=.ret (.int .i64 (cO m X vt sl f v s).1)∧rY m X vt nn sl b (cO m X vt sl f v s).2 G)∧∀c,c<H.length→c≠b.mp→c≠b.eb→Dm H G c)∧Hv H G∧Am G=true:=by
 intro f
 induction f with
 |zero=>
  intro v s H hv hw hf
  have h1:=Px hw.1 (k:=agF m) fun g hg=>vB (hw.2 g hg)
  have h2:=Ob hm
  rw[sB]at h1
  omega
 |succ f ih=>
  intro v s H hv hw hf hq R
  obtain⟨x1,h1⟩:=R.h1
  obtain⟨x2,h2⟩:=R.h2
  obtain⟨x3,h3⟩:=R.h3
  obtain⟨x4,h4⟩:=R.h4
  have h8:=R.h8
  have hct:=lO (l:=sl) (nn:=nn) v.1 hsl
  have e1:cO m X vt sl (f+1) v s=_:=vD (safe:=Qk sl) aC (Qd m vt) (stp m) X f v s
  rw[e1]
  cases hsf:Qk sl v with
  |true=>
   rw[if_pos rfl]
   have hsf':(sl.any fun x=>v.1==x)=true:=hsf
   rw[hsf']at hct
   refine We rfl Try.func56 rfl rfl ?_
   simp only[Try.f56,RB.caps]
   (have hb:=trivial;with_reducible repeat' (first|simp only[hb,Vc.down,seval,rM.down,Jh.down,Ab h1,hct,aaA]|refine An ?_ ?_<;>intro hb|refine fd ?_|fail))
   exact⟨⟨R.app _,fun c hc _ _=>(Dm.refl H c).app hc _⟩,(Hv.refl H).app _,Ax hq rfl⟩
  |false=>
   rw[if_neg (by simp)]
   have hsf':(sl.any fun x=>v.1==x)=false:=hsf
   rw[hsf']at hct
   by_cases hin:v∈s.W
   ·rw[if_pos hin]
    have hlk:=fun l=>wJ.lk_yes (ty:=103) (z:=.int .i64 0) Try.underlying103 (by kernel_rfl) (Ab h8 l) (fun _ _=>trivial) hin true
    simp only[cond_true,kN,vN]at hlk
    have hS:=Gj (Ap h3)
    cases he:s.e with
    |true=>
     rw[he]at h3
     refine We rfl Try.func56 rfl rfl ?_
     simp only[Try.f56,RB.caps]
     (have hb:=trivial;with_reducible repeat' (first|simp only[hb,Vc.down,seval,rM.down,Jh.down,Ab h1,hct,Ab h2,Ab h3,hS,hlk,aaA]|refine An ?_ ?_<;>intro hb|refine fd ?_|fail))
     exact⟨⟨(R.en true).app _,fun c hc _ n2=>((Dm.refl H c).set (fun e=>n2 e.symm) _).app (by simpa using hc) _⟩,((Hv.refl H).put h3 1 true _).app _,Ax (Bj hq _ rfl) rfl⟩
    |false=>
     rw[he]at h3
     refine We rfl Try.func56 rfl rfl ?_
     simp only[Try.f56,RB.caps]
     (have hb:=trivial;with_reducible repeat' (first|simp only[hb,Vc.down,seval,rM.down,Jh.down,Ab h1,hct,Ab h2,Ab h3,hS,hlk,aaA]|refine An ?_ ?_<;>intro hb|refine fd ?_|fail))
     exact⟨⟨(R.en (decide (s.val v<0))).app _,fun c hc _ n2=>((Dm.refl H c).set (fun e=>n2 e.symm) _).app (by simpa using hc) _⟩,((Hv.refl H).put h3 1 true _).app _,Ax (Bj hq _ rfl) rfl⟩
   ·rw[if_neg hin]
    have hlk:=fun l=>wJ.lk_no (ty:=103) (z:=.int .i64 0) Try.underlying103 (by kernel_rfl) (Ab h8 l) (fun _ _=>trivial) trivial hin true
    have hms:=fun l=>abM (Ab h8 l) hw.1 v (-1)
    obtain⟨mv,hmv⟩:∃mv,Np kN (vN (s.put v (-1))) (s.put v (-1)).W=mv:=⟨_,rfl⟩
    rw[hmv]at hms
    simp only[cond_true,kN]at hlk hms
    have hS:=Gj (Ap h8)
    have ne4:b.mp≠b.sg:=fun e=>by rw[←e,h8]at h4;cases h4
    have s4:=fun c l=>Ja (b:=b.mp) c ne4 h4 l
    refine We rfl Try.func56 rfl rfl ?_
    simp only[Try.f56,RB.caps]
    (have hb:=trivial;with_reducible repeat' (first|simp only[hb,Vc.down,seval,rM.down,Jh.down,Ab h1,hct,Ab h2,Ab h4,hS,s4,hlk,hms,aaA]|refine An ?_ ?_<;>intro hb|refine fd ?_|fail))
    have hne3:b.eb≠H.length:=fun e=>by have:=Ap h3;omega
    have hmpl:=Ap h8
    have I0:LpI m X vt nn sl b H v (s.put v (-1)).W.length (0,s.put v (-1)) (H.set b.mp (Dc mv)++[.live 2 true false [Vv v]]):=by
     refine⟨?_,(hw.put hv (-1)).1,Nat.le_refl _,⟨false,by rw[ae4 (by simp)];simp⟩,((Hv.refl H).map h8 mv).app _,Ax (Bj hq _ ?_) rfl,fun c c1 c2 _=>((Dm.refl H c).set (fun e=>c2 e.symm) _).app (by simpa using c1) _⟩
     ·have:=(R.put v (-1)).app [.live 2 true false [Vv v]]
      rw[hmv]at this;exact this
     ·rw[←hmv];exact alP _ _
    have hWl:(s.put v (-1)).W.length=s.W.length+1:=by simp[DS.put,hin]
    refine Ci (Lp 65 X (fun i (r:Int × DS (Int × Int)) t h=>t 2=.ptr b.kb 0 0∧t 3=.ptr b.eb 0 0∧t 5=.ptr b.vb 0 0∧t 6=.ptr b.fb 0 0∧t 7=.ptr b.mx 0 0∧t 8=.ptr H.length 0 0∧t 12=.int .i64 r.1∧t 34=.slr 2 b.si 0 X.length∧t 35=.int .i64 X.length∧t 36=.int .i64 i∧LpI m X vt nn sl b H v (s.put v (-1)).W.length r h) (fun rest r=>rest.foldl (Xk (Qk sl) aC (Qd m vt) (stp m) X f v) r) (fun r e t h=>e=.exit 0∧t 2=.ptr b.kb 0 0∧t 8=.ptr H.length 0 0∧t 12=.int .i64 r.1∧LpI m X vt nn sl b H v (s.put v (-1)).W.length r h) ?_ ?_ (0,s.put v (-1)) _ _ ?_) (fun e t h hk=>?_)
    ·rintro r t h Q' kQ ⟨c2,c3,c5,c6,c7,c8,c12,c34,c35,c36,I⟩
     (have hb:=trivial;with_reducible repeat' (first|simp only[hb,Vc.down,seval,rM.down,Jh.down,c34,c35,c36,ai2,decide_false]|refine An ?_ ?_<;>intro hb|refine fd ?_|fail))
     exact kQ _ _ _ ⟨rfl,by simp[up,c2],by simp[up,c8],by simp[up,c12],I⟩
    ·rintro sx rest i r t h J Q' kJ kQ hx hi ⟨c2,c3,c5,c6,c7,c8,c12,c34,c35,c36,I⟩
     obtain⟨y3,g3⟩:=I.R.h3
     obtain⟨y5,g5⟩:=I.R.h5
     obtain⟨y6,g6⟩:=I.R.h6
     obtain⟨y7,g7⟩:=I.R.h7
     obtain⟨y9,g9⟩:=I.R.h9
     obtain⟨yn,gn⟩:=I.nd
     have hd:((i:Int)<(X.length:Int))=True:=eq_true (by omega)
     have hww:=Aq hi (show X.length≤maxLen by unfold maxLen;omega)
     cases hdn:Qd m vt sx with
     |false=>
      have hbt:(adM (vL (Dx m sx.1) vt)==1)=false:=by rw[←hdn];simp[Qd,Gs]
      have hG:Xk (Qk sl) aC (Qd m vt) (stp m) X f v r sx=r:=by simp[Xk,hdn]
      (have hb:=trivial;with_reducible repeat' (first|simp only[hb,Vc.down,seval,rM.down,Jh.down,c2,c3,c5,c6,c7,c8,c12,c34,c35,c36,Ab g3,Ab g5,g9,hx,zZ,hd,hww,hbt,aaA]|refine An ?_ ?_<;>intro hb|refine fd ?_|fail))
      exact Av (kJ _ _ r ⟨by simp[up,c2],by simp[up,c3],by simp[up,c5],by simp[up,c6],by simp[up,c7],by simp[up,c8],by simp[up,c12],by simp[up,c34],by simp[up,c35],by simp[up]<;>omega,I.app rfl⟩ (by rw[alV,hG]))
     |true=>
      have hbt:(adM (vL (Dx m sx.1) vt)==1)=true:=by rw[←hdn];simp[Qd,Gs]
      cases hre:r.2.e with
      |true=>
       rw[hre]at g3
       have hG:Xk (Qk sl) aC (Qd m vt) (stp m) X f v r sx=r:=by simp[Xk,hre]
       (have hb:=trivial;with_reducible repeat' (first|simp only[hb,Vc.down,seval,rM.down,Jh.down,c2,c3,c5,c6,c7,c8,c12,c34,c35,c36,Ab g3,Ab g5,g9,hx,zZ,hd,hww,hbt,aaA]|refine An ?_ ?_<;>intro hb|refine fd ?_|fail))
       exact Av (kJ _ _ r ⟨by simp[up,c2],by simp[up,c3],by simp[up,c5],by simp[up,c6],by simp[up,c7],by simp[up,c8],by simp[up,c12],by simp[up,c34],by simp[up,c35],by simp[up]<;>omega,I.app rfl⟩ (by rw[alV,hG]))
      |false=>
       rw[hre]at g3
       have hG:Xk (Qk sl) aC (Qd m vt) (stp m) X f v r sx=(max r.1 (cO m X vt sl f (stp m v sx) r.2).1,(cO m X vt sl f (stp m v sx) r.2).2):=by simp[Xk,hdn,hre]
       have hst:=jB m v.1 v.2 (Dx m sx.1) sx.2 hs (fun x hx w hw=>(cI hm x hx w hw).1)
       obtain⟨v',hv'⟩:∃v',stp m v sx=v':=⟨_,rfl⟩
       have hv2:Ij v.1 v.2 (Dx m sx.1) sx.2 m.moves=v':=hv'
       rw[hv2]at hst
       obtain⟨K2,hK2⟩:∃K2,h++[CB.live 2 true true [[.int .i64 (Dx m sx.1),.int .i64 sx.2]]]=K2:=⟨_,rfl⟩
       have hcl2:Df (h++[CB.live 2 true true [[.int .i64 (Dx m sx.1),.int .i64 sx.2]]])=Df h++[CB.live 2 true false [[.int .i64 (Dx m sx.1),.int .i64 sx.2]]]:=by simp[Df,CB.clean]
       have IK:LpI m X vt nn sl b H v (s.put v (-1)).W.length r K2:=by rw[←hK2];exact I.app rfl
       obtain⟨o,G,es,M,d1,d2,⟨⟨rfl,dR⟩,dk⟩,d4,d5,d6⟩:=Ll (O:=Bh) (H:=K2) IK.q (ih v' r.2 (Df K2) (hv'▸jA hm hv sx) I.W (by have:=I.l;omega) (Ej IK.q) (IK.R.sm fun c _=>(Dm.refl K2 c).eqR (Ed K2).symm))
       simp only[RB.caps]at d1
       rw[←hK2,hcl2]at d1
       rw[←hK2]at d2
       have hml:=Ap g7
       have hfl:=Ap g6
       have hnl:=Ap gn
       obtain⟨sf,s1,s2,s3,sn⟩:∃sf:Nat→Nat,sf b.fb=1∧sf b.mx=1∧sf H.length=1∧sf h.length=10:=⟨fun c=>if h.length≤c then 10 else 1,by simp;omega,by simp;omega,by simp;omega,by simp⟩
       (have hb:=trivial;with_reducible repeat' (first|simp only[hb,Vc.down,seval,rM.down,Jh.down,c2,c3,c5,c6,c7,c8,c12,c34,c35,c36,Ab g3,Ab g5,Ab g6,RB.caps,Ab g7,Ab gn,Vv,g9,hx,zZ,hd,hww,hbt,hst,d1,d2,aaA]|refine An ?_ ?_<;>intro hb|((refine Zv (apZ (sf) 6 ?_) ?_);(simp (discharger:=decide) only[Uu,Pn,afR,af7,Jk,Qn,Us,Ry,Vg,La,Pl,aa3,acM,s1,s2,s3,sn];kernel_rfl);intro _)|refine fdx ?_|fail))
       have smK:∀c,c<K2.length→c≠b.mp→c≠b.eb→Dm K2 M c:=fun c k1 k2 k3=>(((Dm.refl K2 c).eqR (Ed K2).symm).trans (dk c (by rw[Bg];exact k1) k2 k3)).eqR d4.symm
       have hHK:H.length<K2.length:=by obtain⟨_,g⟩:=IK.nd;exact Ap g
       have dw:=aqV (safe:=Qk sl) (P:=xF m) (inc:=aC) (dng:=Qd m vt) (stp:=stp m) (fun v a hv=>jA hm hv a) X f v' r.2 (hv'▸jA hm hv sx) I.W
       rw[hv']at hG
       refine Av (kJ _ _ (max r.1 (cO m X vt sl f v' r.2).1,(cO m X vt sl f v' r.2).2) ⟨by simp[up,c2],by simp[up,c3],by simp[up,c5],by simp[up,c6],by simp[up,c7],by simp[up,c8],?_,by simp[up,c34],by simp[up,c35],by simp[up]<;>omega,?_⟩ (by rw[alV,hG]))
       ·simp only[up,if_true]
        simp
        split<;>omega
       ·exact⟨dR.sm fun c _=>(Dm.refl G c).eqR d4.symm,dw.1,Nat.le_trans I.l dw.2,(smK H.length hHK (by omega) (fun e=>hne3 e.symm)).live IK.nd,IK.w.trans d5,d6,fun c k1 k2 k3=>(IK.k c k1 k2 k3).trans (smK c (by omega) k2 k3)⟩
    ·exact⟨by simp[up,Cj],by simp[up,Cj],by simp[up,Cj],by simp[up,Cj],by simp[up,Cj],by simp[up],by simp[up],by simp[up],by simp[up],by simp[up],I0⟩
    ·generalize hr:X.foldl (Xk (Qk sl) aC (Qd m vt) (stp m) X f v) (0,s.put v (-1))=r at hk ⊢
     obtain⟨rfl,c2,c8,c12,I⟩:=hk
     obtain⟨y2,g2⟩:=I.R.h2
     obtain⟨yn,gn⟩:=I.nd
     have hmf:=abM I.R.h8 I.W.1 v (aC r.1)
     have hic:IntKind.i64.wrap (r.1+1)=aC r.1:=rfl
     simp only[kN]at hmf
     (have hb:=trivial;with_reducible repeat' (first|simp only[hb,Vc.down,seval,rM.down,Jh.down,c2,c8,c12,g2,gn,Vv,hmf,hic,aaA]|refine An ?_ ?_<;>intro hb|refine fd ?_|fail))
     exact⟨⟨I.R.put v (aC r.1),fun c k1 k2 k3=>(I.k c k1 k2 k3).set (fun e=>k2 e.symm) _⟩,I.w.map I.R.h8 _,Bj I.q _ (alP _ _)⟩
def anL(m:Ac)(vote:Int)(sl:List Int):Bool:=Be m&&Ie vote 0 (IntKind.i64.wrap (m.votes.length-1))&&Hf m.states sl none
abbrev lA(m:Ac)(vt:Nat)(sl:List Int):=iD (Qk sl) aC (Qd m vt) (stp m) (Dh m) 89
def RpO:Option Int→Dk
 |some N=>.ret (.tup [.int .i64 N,.int .i64 0])
 |none=>.ret (.tup [.int .i64 0,.int .i64 5])
theorem zN{m:Ac}(hs:m.small){vt:Nat}{nn:Bool}{sl:List Int}(hsl:sl.length≤maxLen)(hm:anL m vt sl=true):ClQ Bh 21 [.agg m.cells,.int .i64 (vt:Int),Ad 1 true nn (sl.map iv)] [] fun o h'=>h'=[]∧∃D,Fnd m (Dh m) D∧o=RpO (lA m vt sl (D.map (·.1)) 0 DS.none):=by
 have h1:=bL m hs
 have h2:=Pj (nn:=nn) m.states hsl
 unfold anL at hm
 simp only[acY]at hm
 obtain⟨⟨c1,c2⟩,c3⟩:=hm
 have hm:=c1
 rw[c1]at h1
 rw[c3]at h2
 have hvt:vt<m.votes.length:=by
  have h6:=Nq hm
  have:=c2
  rw[Du (by omega) (by omega)]at this
  simp[Ie]at this;omega
 obtain⟨lv,sb,x,rows,Ro,es1,M1,a1,a2,aL,aR,a3,a4,a5,a6,a7⟩:=ao1 hs hm (H:=[.live 7 false false [m.cells],.live 1 true false [[.int .i64 (vt:Int)]],.live 1 false false [[Ad 1 true nn (sl.map iv)]]]) rfl
 rw[show Df [CB.live 7 false false [m.cells],.live 1 true false [[.int .i64 (vt:Int)]],.live 1 false false [[Ad 1 true nn (sl.map iv)]]]=[.live 7 false false [m.cells],.live 1 true false [[.int .i64 (vt:Int)]],.live 1 false false [[Ad 1 true nn (sl.map iv)]]]from rfl]at a1
 have hq1:Am (M1++[.live 1 false true [[.slr 2 sb 0 (Dh m).length]]])=true:=Ax a6 rfl
 obtain⟨D,ob,ox,mb,y,es2,M2,b1,b2,b3,b4,b5,_,_,_,b7,b8,b9⟩:=am3 hs hm (X:=Dh m) (by have:=oZ hm;omega) hq1 (Ab a3 _)
 have hcl:Df (M1++[.live 1 false true [[.slr 2 sb 0 (Dh m).length]]])=Df M1++[.live 1 false false [[.slr 2 sb 0 (Dh m).length]]]:=by simp[Df,CB.clean]
 rw[hcl]at b1
 have l3:=a5.1
 simp only[aa3,acM]at l3
 have l4:=b7.1
 simp only[List.length_append,aa3,acM]at l4
 obtain⟨xm,hm0⟩:=(a7 0 (by simp)).live (st:=7) (fl:=false) (rows:=[m.cells]) ⟨false,rfl⟩
 obtain⟨xm2,hm2⟩:=(b9 0 (by simp)).live ⟨_,Ab hm0 _⟩
 obtain⟨xs,hs1⟩:=(b9 M1.length (by simp)).live (st:=1) (fl:=false) (rows:=[[.slr 2 sb 0 (Dh m).length]]) ⟨true,by simp⟩
 have R0:rY m (Dh m) vt nn sl ⟨2,M2.length+1,M2.length+2,M1.length,1,M2.length+3,0,M2.length,sb⟩ DS.none (M2++[Dc [],.live 1 false true [[.mapr M2.length]],.live 1 true true [[.bool false]],.live 1 false true [[.func (.func 56) [] (RB.caps ⟨2,M2.length+1,M2.length+2,M1.length,1,M2.length+3,0,M2.length,sb⟩)]]]):=by
  obtain⟨z1,g1⟩:=(a7 1 (by simp)).live (st:=1) (fl:=true) (rows:=[[.int .i64 (vt:Int)]]) ⟨false,rfl⟩
  obtain⟨z2,g2⟩:=(a7 2 (by simp)).live (st:=1) (fl:=false) (rows:=[[Ad 1 true nn (sl.map iv)]]) ⟨false,rfl⟩
  obtain⟨z3,g3⟩:=(b9 1 (by simp;omega)).live ⟨_,Ab g1 _⟩
  obtain⟨z4,g4⟩:=(b9 2 (by simp;omega)).live ⟨_,Ab g2 _⟩
  obtain⟨z5,g5⟩:=(b9 sb (by have:=Ap a3;simp;omega)).live ⟨_,Ab a3 _⟩
  exact⟨⟨z4,Ab g4 _⟩,⟨true,by simp⟩,⟨true,by simp[DS.none]⟩,⟨xs,Ab hs1 _⟩,⟨z3,Ab g3 _⟩,⟨true,by simp⟩,⟨xm2,Ab hm2 _⟩,by simp[DS.none,Np],⟨z5,Ab g5 _⟩⟩
 refine sO rfl Try.func21 rfl rfl ?_
 simp only[Try.f21]
 (have hb:=trivial;with_reducible repeat' (first|simp only[hb,Vc.down,seval,aeT.down,Jh.down,h1,Nj,c2,h2,a1,a2,hm0,Ab hm0,hm2,Ab hm2,hs1,Ab hs1,b1,b2,gX,gK,fY,gQ,gG,fW,aaA]|refine An ?_ ?_<;>intro hb|refine fd ?_|fail))
 have h88:=Sv hm b3
 obtain⟨b,hb9⟩:∃b:RB,(⟨2,M2.length+1,M2.length+2,M1.length,1,M2.length+3,0,M2.length,sb⟩:RB)=b:=⟨_,rfl⟩
 have heb:b.eb=M2.length+2:=by rw[←hb9]
 have hfb:b.fb=M2.length+3:=by rw[←hb9]
 have hmp:b.mp=M2.length:=by rw[←hb9]
 have hobl:=Ap b4
 refine Ci (Lp 64 D (fun k (r:Int × DS (Int × Int)) t h=>t 13=.ptr b.eb 0 0∧t 14=.ptr b.fb 0 0∧t 15=.int .i64 r.1∧t 50=.slr 2 ob 0 D.length∧t 51=.int .i64 D.length∧t 52=.int .i64 k∧rY m (Dh m) vt nn sl b r.2 h∧DW (xF m) r.2∧(∃x,h[ob]?=some (.live 2 true x (D.map fun x=>Vv x.1)))∧Am h=true) (fun rest r=>lA m vt sl (rest.map (·.1)) r.1 r.2) (fun r e t h=>match r with
  |some N=>e=.exit 0∧t 15=.int .i64 N
  |none=>e=.ret∧t 6=.int .i64 0∧t 7=.int .i64 5) ?_ ?_ (0,DS.none) _ _ ?_) (fun e t h hk=>?_)
 ·rintro r t h Q' kQ ⟨c13,c14,c15,c50,c51,c52,R,W,_,hqq⟩
  (have hb:=trivial;with_reducible repeat' (first|simp only[hb,Vc.down,seval,aeT.down,Jh.down,c50,c51,c52,ai2,decide_false]|refine An ?_ ?_<;>intro hb|refine fd ?_|fail))
  exact kQ _ _ _ (by simp[iD,up,c15])
 ·rintro z rest k r t h J Q' kJ kQ hx hk2 ⟨c13,c14,c15,c50,c51,c52,R,W,⟨xo,ho⟩,hqq⟩
  have hd2:((k:Int)<(D.length:Int))=True:=eq_true (by omega)
  have hw2:=Aq hk2 (show D.length≤maxLen by unfold maxLen;omega)
  have hz:xF m z.1:=agN hm b3 (al1 hx)
  obtain⟨y6,g6⟩:=R.h6
  obtain⟨K2,hK2⟩:∃K2,h++[CB.live 2 true true [[.int .i64 z.1.1,.int .i64 z.1.2]]]=K2:=⟨_,rfl⟩
  have hcl2:Df (h++[CB.live 2 true true [[.int .i64 z.1.1,.int .i64 z.1.2]]])=Df h++[CB.live 2 true false [[.int .i64 z.1.1,.int .i64 z.1.2]]]:=by simp[Df,CB.clean]
  have hqK:Am K2=true:=by rw[←hK2];exact Ax hqq rfl
  have RK:rY m (Dh m) vt nn sl b r.2 K2:=by rw[←hK2];exact R.app _
  obtain⟨o,G,es,M,d1,d2,⟨⟨rfl,dR⟩,dk⟩,d4,d5,d6⟩:=Ll (O:=Bh) (H:=K2) hqK (auW hs hm (by have:=oZ hm;omega) hvt hsl 89 z.1 r.2 (Df K2) hz W (by omega) (Ej hqK) (RK.sm fun c _=>(Dm.refl K2 c).eqR (Ed K2).symm))
  have RM:=dR.sm fun c _=>(Dm.refl G c).eqR d4.symm
  have dw:=aqV (safe:=Qk sl) (P:=xF m) (inc:=aC) (dng:=Qd m vt) (stp:=stp m) (fun v a hv=>jA hm hv a) (Dh m) 89 z.1 r.2 hz W
  have hoM:∃x,M[ob]?=some (.live 2 true x (D.map fun x=>Vv x.1)):=by
   have e1:Dm h K2 ob:=by rw[←hK2];exact(Dm.refl h ob).app (Ap ho) _
   exact(e1.trans ((((Dm.refl K2 ob).eqR (Ed K2).symm).trans (dk ob (by rw[Bg,←hK2];have:=Ap ho;simp;omega) (by omega) (by omega))).eqR d4.symm)).live ⟨_,ho⟩
  obtain⟨y3,g3⟩:=RM.h3
  have hF:lA m vt sl ((z::rest).map (·.1)) r.1 r.2=if(cO m (Dh m) vt sl 89 z.1 r.2).2.e=true then none else lA m vt sl (rest.map (·.1)) (max r.1 (cO m (Dh m) vt sl 89 z.1 r.2).1) (cO m (Dh m) vt sl 89 z.1 r.2).2:=rfl
  rw[hF]at kJ kQ
  rw[←hK2,hcl2]at d1
  rw[←hK2]at d2
  cases he:(cO m (Dh m) vt sl 89 z.1 r.2).2.e with
  |true=>
   rw[he]at g3
   rw[he,if_pos rfl]at kQ
   (have hb:=trivial;with_reducible repeat' (first|simp only[hb,Vc.down,seval,aeT.down,Jh.down,c13,c14,c15,c50,c51,c52,ho,hx,Vv,hd2,hw2,Ab g6,d1,d2,g3,aaA]|refine An ?_ ?_<;>intro hb|refine fd ?_|fail))
   exact kQ _ _ _ ⟨rfl,by simp[up],by simp[up]⟩
  |false=>
   rw[he]at g3
   rw[he,if_neg (by simp)]at kJ
   (have hb:=trivial;with_reducible repeat' (first|simp only[hb,Vc.down,seval,aeT.down,Jh.down,c13,c14,c15,c50,c51,c52,ho,hx,Vv,hd2,hw2,Ab g6,d1,d2,g3,aaA]|refine An ?_ ?_<;>intro hb|refine fd ?_|fail))
   refine Av (kJ _ _ (max r.1 (cO m (Dh m) vt sl 89 z.1 r.2).1,(cO m (Dh m) vt sl 89 z.1 r.2).2) ⟨by simp[up,c13],by simp[up,c14],?_,by simp[up,c50],by simp[up,c51],by simp[up]<;>omega,RM,dw.1,hoM,d6⟩ rfl)
   simp only[up,if_true]
   simp
   split<;>omega
 ·exact⟨by simp[up,heb],by simp[up,hfb],by simp[up],by simp[up],by simp[up],by simp[up],by rw[←hb9];exact R0,⟨List.nodup_nil,fun _ h=>by cases h⟩,⟨ox,Ab b4 _⟩,Ax b8 rfl⟩
 ·cases hr:lA m vt sl (D.map (·.1)) 0 DS.none with
  |none=>
   rw[hr]at hk
   obtain⟨rfl,g6,g7⟩:=hk
   (have hb:=trivial;with_reducible repeat' (first|simp only[hb,Vc.down,seval,aeT.down,Jh.down,g6,g7]|refine An ?_ ?_<;>intro hb|refine fd ?_|fail))
   exact⟨D,b3,by rw[hr];rfl⟩
  |some N=>
   rw[hr]at hk
   obtain⟨rfl,g15⟩:=hk
   (have hb:=trivial;with_reducible repeat' (first|simp only[hb,Vc.down,seval,aeT.down,Jh.down,g15]|refine An ?_ ?_<;>intro hb|refine fd ?_|fail))
   exact⟨D,b3,by rw[hr];rfl⟩
end Go.Proofs.Ytfkokgjfpojeoaa
