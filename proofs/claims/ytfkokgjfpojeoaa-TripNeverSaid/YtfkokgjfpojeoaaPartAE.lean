/- The functions of the layer, walked. -/
import Derived.Test.YtfkokgjfpojeoaaPartAD
open List renaming length_map→aa9,getElem?_set_self→adE,getElem?_set_ne→adJ,length_cons→aeU,getElem?_append_left→aiZ,getElem?_append_right→ajP,getElem?_of_mem→ajS,mem_of_getElem?→akQ,mem_map→alW,getElem?_eq_getElem→am1,map_cons→anK,length_nil→anU,nil_append→as6,map_nil→at6,mem_append→au3,mem_cons→awE,getElem?_eq_some_iff→awM,drop_eq_nil_of_le→awY,getElem?_eq_none→ayB,cons_append→ayC,mem_flatMap→ayR,mem_range→ayS,not_mem_nil→ayY,take_add_one→azA,take_length→azC
open Nat renaming add_sub_cancel_left→arO,add_right_cancel_iff→ayE,lt_of_lt_of_le→ayU
open Bool renaming and_eq_true→arP
open Option renaming bind_some→auT
set_option linter.unusedSimpArgs false
set_option linter.unusedVariables false
namespace Go.Proofs.Ytfkokgjfpojeoaa
open Go.Ev Go Go.Ev.Bfs
set_option maxRecDepth 100000
set_option maxHeartbeats 16000000
def nvN(v:Int × Int):List AV:=[.int .i64 v.1,.int .i64 v.2]
def QN(v:AV)(q:List (Int × Int))(H:aaL)(p:Nat):Prop:=
 (v=.nils∧q=[])∨∃b w rows r,v=.slr 2 b r q.length∧H[b]?=some (.live 2 true w rows)∧b≠p∧rows.drop r=q.map nvN∧r+q.length=rows.length
theorem QN.sm{v:AV}{q:List (Int × Int)}{H G:aaL}{p:Nat}(h:QN v q H p)(k:∀b∈scB v,SmB H G b):QN v q G p:=by
 rcases h with h|⟨b,w,rows,r,rfl,h2,h3⟩
 ·exact .inl h
 ·obtain⟨x,h4⟩:=(k b (by simp[scB])).live ⟨w,h2⟩
  exact .inr ⟨b,x,rows,r,rfl,h4,h3⟩
theorem QN.lt{v:AV}{q:List (Int × Int)}{H:aaL}{p:Nat}(h:QN v q H p):∀b∈scB v,b<H.length∧b≠p:=by
 rcases h with⟨rfl,_⟩|⟨b,w,rows,r,rfl,h2,h3,_⟩
 ·intro b hb1;simp[scB]at hb1
 ·intro b' hb1;simp[scB]at hb1;subst hb1;exact⟨adM h2,h3⟩
theorem a9V{H:aaL}{p:Nat}{w:Bool}{v:AV}{q:List (Int × Int)}(x:Int × Int)(hq:adK H=true)(hp:H[p]?=some (.live 1 false w [[v]]))(hQ:QN v q H p)(hl:q.length≤100000000):
 ShQ om' 135 [.ptr p 0 0,.agg [.int .i64 x.1,.int .i64 x.2]] H fun o G=>(o=.ret (.tup [])∧(∃v',G[p]?=some (.live 1 false true [[v']])∧QN v' (q++[x]) G p∧∀b∈scB v',H.length≤b)∧∀c,c<H.length→c≠p→c∉scB v→SmB H G c)∧Wst H G∧adK G=true:=by
 have hpl:=adM hp
 refine aDP rfl Try.func135 rfl rfl ?_
 simp only[Try.f135]
 have hA:=aaO hp
 have hS:=au8 hpl
 rcases hQ with⟨rfl,rfl⟩|⟨b,w',rows,r,rfl,hrb,hbp,hd,hl2⟩
 ·obtain⟨sf,s1,sn,sk⟩:∃sf:Nat→Nat,sf p=1∧sf H.length=10∧∀k,sf (H.length+k)=k+10:=⟨fun b=>if H.length≤b then b-H.length+10 else 1,by simp;omega,by simp,fun k=>by simp⟩
  (have hb:=trivial;with_reducible repeat' (first|simp only[hb,Vc.down,seval,a9K.down,hp,hA,hS]|refine fsp ?_ ?_<;>intro hb|((refine aHI (aDC (sf) ?_) ?_);(simp (discharger:=decide) only[aHT,aDI,anK,at6,aAP,aGA,aG9,aHO,aAS,aeU,anU,s1,sn,sk];kernel_rfl);intro _)|refine fdq ?_|fail))
  refine⟨⟨⟨.slr 2 (H.length+2) 0 1,?_,.inr ⟨H.length+2,false,[nvN x],0,rfl,?_,by omega,rfl,rfl⟩,fun c hc=>by simp[scB]at hc;omega⟩,fun c hc hn _=>((SmB.refl H c).set (fun e=>hn e.symm) _).app (by simpa using hc) _⟩,((Wst.refl H).put hp 1 false _).app _,adY (aeX hq _ rfl) rfl⟩
  ·rw[aiZ (by simpa using hpl),adE hpl]
  ·rw[arQ];rfl
 ·have hbl:=adM hrb
  have hB:=aaO hrb
  have hSb:=au8 hbl
  have h39:(q.length+1≤549755813888)=True:=eq_true (by omega)
  have hg:∀l,(H.set b .dead++l)[p]?=some (.live 1 false w [[.slr 2 b r q.length]]):=fun l=>by
   rw[aiZ (by simpa using hpl),adJ hbp];exact hp
  have hg2:∀l c,(H.set b .dead++l).set p c=(H.set b .dead).set p c++l:=fun l c=>au8 (by simpa using hpl) l c
  obtain⟨sf,s1,s2,sn,sk⟩:∃sf:Nat→Nat,sf p=1∧sf b=2∧sf H.length=10∧∀k,sf (H.length+k)=k+10:=⟨fun c=>if H.length≤c then c-H.length+10 else if c=b then 2 else 1,by show(if _ then _ else _)=_;rw[if_neg (by omega),if_neg (fun e=>hbp e.symm)],by show(if _ then _ else _)=_;rw[if_neg (by omega),if_pos rfl],by simp,fun k=>by simp⟩
  (have hb:=trivial;with_reducible repeat' (first|simp only[hb,Vc.down,seval,a9K.down,hp,hA,hS,hrb,hB,hSb,hd,hl2,h39,hg,hg2,avH,arQ,List.length_set,aa9]|refine fsp ?_ ?_<;>intro hb|((refine aHI (aDC (sf) ?_) ?_);(simp (discharger:=decide) only[aHT,aDI,anK,at6,aAP,aGA,aG9,aHO,aAS,aeU,anU,s1,s2,sn,sk];kernel_rfl);intro _)|refine fdq ?_|fail))
  have hsl:((H.set b CB.dead).set p (CB.live 1 false true [[AV.slr 2 (H.length+2) 0 (q.length+1)]])).length=H.length:=by simp
  refine⟨⟨⟨.slr 2 (H.length+2) 0 (q.length+1),?_,.inr ⟨H.length+2,false,(q++[x]).map nvN,0,by simp,?_,by omega,rfl,by simp⟩,fun c hc=>by simp[scB]at hc;omega⟩,fun c hc hn hn2=>(((SmB.refl H c).set (fun e=>hn2 (by simp[scB,e])) _).set (fun e=>hn e.symm) _).app (by simpa using hc) _⟩,(((Wst.refl H).kill hrb).put (by rw[adJ hbp];exact hp) 1 false _).app _,adY (aeX (aeX hq _ rfl) _ rfl) rfl⟩
  ·rw[aiZ (by omega),adE (by simpa using hpl)]
  ·rw[ajP (by omega),hsl,arO];simp[nvN]
theorem a5H(b r k:Nat):slx Try.prog 99 (some (.slr 2 b r (k+1))) (some (some (.int .i64 1))) (some none)=some (.ret (.slr 2 b (r+1) k),[]):=by
 have hz:szT Try.prog 86=some 2:=by kernel_rfl
 simp only[slx,auT,aBH,Try.underlying99,hz,asX]
 simp[asX,r1]
 omega
theorem a5Z{H:aaL}{p:Nat}{w:Bool}{v:AV}(hq:adK H=true)(hp:H[p]?=some (.live 1 false w [[v]]))(hQ:QN v [] H p):
 ShQ om' 136 [.ptr p 0 0] H fun o G=>(o=.ret (.tup [.agg [.int .i64 0,.int .i64 0],.bool false])∧∀c,c<H.length→SmB H G c)∧Wst H G∧adK G=true:=by
 have hA:=aaO hp
 have hpl:=adM hp
 rcases hQ with⟨rfl,_⟩|⟨b,w',rows,r,rfl,hrb,hbp,hd,hl⟩
 ·refine aDP rfl Try.func136 rfl rfl ?_
  simp only[Try.f136]
  (have hb:=trivial;with_reducible repeat' (first|simp only[hb,Vc.down,seval,a1B.down,hp,hA]|refine fsp ?_ ?_<;>intro hb|refine fd ?_|fail))
  exact⟨fun c hc=>(SmB.refl H c).app hc _,(Wst.refl H).app _,adY hq rfl⟩
 ·simp only[anU]at hp hA
  refine aDP rfl Try.func136 rfl rfl ?_
  simp only[Try.f136]
  (have hb:=trivial;with_reducible repeat' (first|simp only[hb,Vc.down,seval,a1B.down,hp,hA]|refine fsp ?_ ?_<;>intro hb|refine fd ?_|fail))
  exact⟨fun c hc=>(SmB.refl H c).app hc _,(Wst.refl H).app _,adY hq rfl⟩
theorem aWO{H:aaL}{p:Nat}{w:Bool}{v:AV}{x:Int × Int}{q:List (Int × Int)}(hq:adK H=true)(hp:H[p]?=some (.live 1 false w [[v]]))(hQ:QN v (x::q) H p)(hl:q.length≤100000000):
 ShQ om' 136 [.ptr p 0 0] H fun o G=>(o=.ret (.tup [.agg [.int .i64 x.1,.int .i64 x.2],.bool true])∧(∃v',G[p]?=some (.live 1 false true [[v']])∧QN v' q G p∧scB v'=scB v)∧∀c,c<H.length→c≠p→SmB H G c)∧Wst H G∧adK G=true:=by
 have hpl:=adM hp
 rcases hQ with⟨_,h⟩|⟨b,w',rows,r,rfl,hrb,hbp,hd,hl2⟩
 ·cases h
 have hr0:rows[r]?=some [.int .i64 x.1,.int .i64 x.2]:=by
  have:=congrArg (·[0]?) hd
  simpa [nvN]using this
 have hd2:rows.drop (r+1)=q.map nvN:=by
  have:=congrArg (·.drop 1) hd
  simpa [List.drop_drop]using this
 simp only[aeU]at hl2 hp
 have h1:decide (((q.length+1:Nat):Int)=0)=false:=decide_eq_false (by omega)
 have h2:((((q.length+1:Nat):Int))==0)=false:=by simp;omega
 have h3:((0:Int)<((q.length+1:Nat):Int))=True:=eq_true (by omega)
 have h4:((1:Int)≤((q.length+1:Nat):Int))=True:=eq_true (by omega)
 have hA:=aaO hp
 have hB:=aaO hrb
 have hS:=au8 hpl
 have gs0:∀(c d:CB) (l:aaL),(H.set p c++l).set H.length d=H.set p c++l.set 0 d:=fun c d l=>by
  rw[List.set_append_right _ _ (by simp)];simp
 refine aDP rfl Try.func136 rfl rfl ?_
 simp only[Try.f136]
 (have hb:=trivial;with_reducible repeat' (first|simp only[hb,Vc.down,seval,a1B.down,hp,hA,hB,hS,hrb,hr0,h1,h2,h3,h4,a5H,avH,arQ,gs0]|refine fsp ?_ ?_<;>intro hb|refine fd ?_|fail))
 refine⟨⟨⟨.slr 2 b (r+1) q.length,?_,.inr ⟨b,w',rows,r+1,rfl,?_,hbp,hd2,by omega⟩,rfl⟩,fun c hc hn=>((SmB.refl H c).set (fun e=>hn e.symm) _).app (by simpa using hc) _⟩,((Wst.refl H).put hp 1 false _).app _,adY (aeX hq _ rfl) rfl⟩
 ·rw[aiZ (by simpa using hpl),adE hpl]
 ·rw[aiZ (by simpa using adM hrb),adJ (fun e=>hbp e.symm)];exact hrb
def aRR:List Int→List Int→Option Bool
 |a::p,b::q=>if a=b then aRR p q else some (decide (a<b))
 |_,_=>none
def aZM:List (List Int × Int)→List (List Int × Int)→Bool
 |a::p,b::q=>match aRR a.1 b.1 with
  |some r=>r
  |none=>if a.2=b.2 then aZM p q else decide (a.2<b.2)
 |_,_=>false
theorem aNM:∀{p q:List Int},p.length=q.length→(aRR p q=none∧p=q)∨(aRR p q=some true∧ltR p q)∨(aRR p q=some false∧ltR q p)
 | [],[],_=>.inl ⟨rfl,rfl⟩
 | [],_::_,h=>by simp at h
 |_::_,[],h=>by simp at h
 |a::p,b::q,h=>by
  simp only[aeU,ayE]at h
  unfold aRR
  by_cases e:a=b
  ·subst e
   rw[if_pos rfl]
   rcases aNM h with⟨h1,rfl⟩|⟨h1,h2⟩|⟨h1,h2⟩
   ·exact .inl ⟨h1,rfl⟩
   ·exact .inr (.inl ⟨h1,.inr ⟨rfl,h2⟩⟩)
   ·exact .inr (.inr ⟨h1,.inr ⟨rfl,h2⟩⟩)
  ·rw[if_neg e]
   by_cases h1:a<b
   ·exact .inr (.inl ⟨by rw[decide_eq_true h1],.inl h1⟩)
   ·exact .inr (.inr ⟨by rw[decide_eq_false h1],.inl (by omega)⟩)
def a92(N:Nat)(l:List (List Int × Int)):Prop:=∀a∈l,a.1.length=N
theorem aM5{N:Nat}:∀{p q:List (List Int × Int)},p.length=q.length→a92 N p→a92 N q→(aZM p q=true∧aIQ ltS p q∧p≠q)∨(aZM p q=false∧aIQ ltS q p)
 | [],[],_,_,_=>.inr ⟨rfl,trivial⟩
 | [],_::_,h,_,_=>by simp at h
 |_::_,[],h,_,_=>by simp at h
 |a::p,b::q,h,hp,hq=>by
  simp only[aeU,ayE]at h
  have ih:=aM5 (N:=N) h (fun x hx=>hp x (by simp[hx])) (fun x hx=>hq x (by simp[hx]))
  have hne:∀{p q:List (List Int × Int)} {a b:List Int × Int},ltS a b→a::p≠b::q:=fun hl e=>by
   simp only[List.cons.injEq]at e
   rw[e.1]at hl
   exact aDO.irr _ hl
  unfold aZM
  rcases aNM (p:=a.1) (q:=b.1) (by rw[hp a (by simp),hq b (by simp)])with⟨h1,h2⟩|⟨h1,h2⟩|⟨h1,h2⟩
  ·rw[h1]
   simp only
   by_cases e:a.2=b.2
   ·have eab:a=b:=Prod.ext h2 e
    subst eab
    rw[if_pos rfl]
    rcases ih with⟨i1,i2,i3⟩|⟨i1,i2⟩
    ·exact .inl ⟨i1,.inr ⟨rfl,i2⟩,fun e=>i3 (List.cons.inj e).2⟩
    ·exact .inr ⟨i1,.inr ⟨rfl,i2⟩⟩
   ·rw[if_neg e]
    by_cases hl:a.2<b.2
    ·exact .inl ⟨decide_eq_true hl,.inl (.inr ⟨h2,hl⟩),hne (.inr ⟨h2,hl⟩)⟩
    ·exact .inr ⟨decide_eq_false hl,.inl (.inr ⟨h2.symm,by omega⟩)⟩
  ·rw[h1]
   exact .inl ⟨rfl,.inl (.inl h2),hne (.inl h2)⟩
  ·rw[h1]
   exact .inr ⟨rfl,.inl (.inl h2)⟩
theorem a0W(p:List (List Int × Int)):leA ltS p p:=.inr ⟨rfl,aMJ p⟩
def aHJ(D:List ((Int × Int) × List Nat))(s:Int):Option ((Int × Int) × List Nat):=D.find? fun x=>x.1.1==s
theorem aNZ{m:aaW}{X:List (List Int × Int)}(hX:aw4 m X){D:List ((Int × Int) × List Nat)}(B:Fnd m X D)(s:Int):
 (aHJ D s=none∧∀x∈D,x.1.1≠s)∨∃x,aHJ D s=some x∧x∈D∧x.1.1=s∧∀y∈D,y.1.1=s→leA ltS (x.2.map (gS X)) (y.2.map (gS X)):=by
 unfold aHJ
 cases hf:D.find? fun x=>x.1.1==s with
 |none=>
  refine .inl ⟨rfl,fun x hx e=>?_⟩
  have:=List.find?_eq_none.1 hf x hx
  simp[e]at this
 |some x=>
  obtain⟨h1,as_,bs_,h2,h3⟩:=List.find?_eq_some_iff_append.1 hf
  refine .inr ⟨x,rfl,by rw[h2];simp,by simpa using h1,fun y hy e=>?_⟩
  have hxk:D[as_.length]?=some x:=by rw[h2];simp
  rw[h2]at hy
  rcases au3.1 hy with hy|hy
  ·have:=h3 y hy
   simp[e]at this
  ·rcases awE.1 hy with rfl|hy
   ·exact a0W _
   ·obtain⟨j,hj⟩:=ajS hy
    have hyk:D[as_.length+(j+1)]?=some y:=by
     rw[h2,ajP (by omega),arO];simpa using hj
    exact aU8 hX.inc (B.way _ _ hyk).2 (B.srt _ _ _ _ (by omega) hxk hyk).1
theorem a3D{m:aaW}{X Y:List (List Int × Int)}(hX:aw4 m X)(hY:aw4 m Y){D E:List ((Int × Int) × List Nat)}(B:Fnd m X D)(C:Fnd m Y E)(s:Int):(∃x∈D,x.1.1=s)↔∃y∈E,y.1.1=s:=by
 constructor
 ·rintro⟨x,hx,h⟩
  obtain⟨k,hk⟩:=ajS hx
  obtain⟨k',y,h1,h2,_⟩:=Fnd.eq hX hY B C hk
  exact⟨y,akQ h1,by rw[h2];exact h⟩
 ·rintro⟨x,hx,h⟩
  obtain⟨k,hk⟩:=ajS hx
  obtain⟨k',y,h1,h2,_⟩:=Fnd.eq hY hX C B hk
  exact⟨y,akQ h1,by rw[h2];exact h⟩
def kN(v:Int × Int):AV:=.agg [.int .i64 v.1,.int .i64 v.2]
theorem a6Q(x y x' y':Int):aEq Try.prog 12 86 (.agg [.int .i64 x,.int .i64 y]) (.agg [.int .i64 x',.int .i64 y'])=(some (x==x')).bind fun r=>if r then((some (y==y')).bind fun r=>if r then some true else some false)else some false:=by kernel_rfl
theorem aZ8:aLU Try.prog 86 kN (fun _=>True):=⟨fun a _=>by
 obtain⟨x,y⟩:=a
 show aO0 Try.prog 86 (.agg [.int .i64 x,.int .i64 y])=true
 kernel_rfl,fun a b _ _=>by
 obtain⟨x,y⟩:=a
 obtain⟨x',y'⟩:=b
 show aEq Try.prog 12 86 (.agg [.int .i64 x,.int .i64 y]) (.agg [.int .i64 x',.int .i64 y'])=_
 rw[a6Q]
 by_cases e1:x=x'
 ·subst e1
  by_cases e2:y=y'
  ·subst e2;simp
  ·simp[e2]
 ·simp[e1],fun a _=>by
 simp[kN,AV.sameKey,AV.same]⟩
def okN(m:aaW)(v:Int × Int):Prop:=0≤v.1∧v.1<m.states∧0≤v.2∧v.2≤10
theorem asZ{m:aaW}(h:adZ m=true):1≤m.states∧m.states≤8∧0≤m.bgn∧m.bgn<m.states:=by
 simp only[adZ,aw0,arP]at h
 have h1:=h.1.1.1.1.1.1.1.2
 have h2:=h.1.1.1.1.1.2
 simp only[inB,arP,decide_eq_true_eq]at h1 h2
 rw[ajR (by omega) (by omega)]at h2
 omega
theorem a8Q{m:aaW}(h:adZ m=true){x:ac4}(hx:x∈m.moves):0≤x.to∧x.to<m.states:=by
 have hs:=asZ h
 simp only[adZ,arP,List.all_eq_true]at h
 have h2:=h.1.2 x hx
 simp only[avG,arP,inB,decide_eq_true_eq]at h2
 have h3:=h2.1.1.1.2
 rw[ajR (by omega) (by omega)]at h3
 omega
theorem a56{a:Int}(h0:0≤a)(h1:a≤10):0≤aL0 a∧aL0 a≤10:=by
 unfold aL0
 rw[ajR (by omega) (by omega)]
 split<;>omega
theorem aSJ{m:aaW}{st ag bits com:Int}(hv:okN m (st,ag)):∀(l:List ac4),(∀x∈l,0≤x.to∧x.to<m.states)→okN m (axD st ag bits com l)
 | [],_=>⟨hv.1,hv.2.1,a56 hv.2.2.1 hv.2.2.2⟩
 |x::l,h=>by
  unfold axD
  split
  ·exact⟨(h x (by simp)).1,(h x (by simp)).2,by simp,by simp⟩
  ·exact aSJ hv l fun y hy=>h y (by simp[hy])
theorem aGQ{m:aaW}(hm:adZ m=true){v:Int × Int}(hv:okN m v)(a:List Int × Int):okN m (stp m v a):=aSJ hv _ fun _ hx=>a8Q hm hx
theorem bbZ{m:aaW}(hm:adZ m=true){X:List (List Int × Int)}{D:List ((Int × Int) × List Nat)}{i j:Nat}(B:BF (fun v i=>stp m v (gS X i)) X.length (m.bgn,0) D i j){x:(Int × Int) × List Nat}(hx:x∈D):okN m x.1:=by
 obtain⟨k,hk⟩:=ajS hx
 have h:=(B.way k x hk).1
 rw[←h]
 have hs:=asZ hm
 have h0:okN m (m.bgn,0):=⟨hs.2.2.1,hs.2.2.2,by simp,by simp⟩
 have key:∀(w:List Nat) (v:Int × Int),okN m v→okN m (run (fun v i=>stp m v (gS X i)) v w):=by
  intro w
  induction w with
  |nil=>intro v hv;exact hv
  |cons a w ih=>intro v hv;exact ih _ (aGQ hm hv _)
 exact key _ _ h0
def a85(m:aaW):List (Int × Int):=(List.range m.states.toNat).flatMap fun(s:Nat)=>(List.range 11).map fun(a:Nat)=>((s:Int),(a:Int))
theorem a07{m:aaW}{v:Int × Int}(h:okN m v):v∈a85 m:=by
 obtain⟨h1,h2,h3,h4⟩:=h
 refine ayR.2 ⟨v.1.toNat,ayS.2 (by omega),alW.2 ⟨v.2.toNat,ayS.2 (by omega),?_⟩⟩
 exact Prod.ext (by simp;omega) (by simp;omega)
theorem aZ4(m:aaW):(a85 m).length=m.states.toNat*11:=by
 unfold a85
 rw[List.length_flatMap]
 have key:∀l:List Nat,(l.map fun _=>11).sum=l.length*11:=fun l=>by
  induction l with
  |nil=>rfl
  |cons a l ih=>rw[anK,List.sum_cons,ih,aeU];omega
 simp[key]
theorem bgK{V:Type}{step:V→Nat→V}{n:Nat}{v0:V}{D:List (V × List Nat)}{i j:Nat}(B:BF step n v0 D i j):(D.map (·.1)).Nodup:=by
 unfold List.Nodup
 rw[List.pairwise_iff_getElem]
 intro a b ha hb hab e
 simp only[aa9]at ha hb
 simp only[List.getElem_map]at e
 have:=B.nd a b _ _ (am1 ha) (am1 hb) e
 omega
theorem bbE{m:aaW}(hm:adZ m=true){X:List (List Int × Int)}{D:List ((Int × Int) × List Nat)}{i j:Nat}(B:BF (fun v i=>stp m v (gS X i)) X.length (m.bgn,0) D i j):D.length≤m.states.toNat*11:=by
 have:=aMM (bgK B) (k:=a85 m) fun v hv=>by
  obtain⟨x,hx,rfl⟩:=alW.1 hv
  exact a07 (bbZ hm B hx)
 rw[aZ4]at this
 simpa using this
theorem aw9{m:aaW}(hm:adZ m=true){X:List (List Int × Int)}{D:List ((Int × Int) × List Nat)}{i j:Nat}(B:BF (fun v i=>stp m v (gS X i)) X.length (m.bgn,0) D i j):D.length≤88:=by
 have h1:=bbE hm B
 have h2:=asZ hm
 omega
def cmC(m:aaW)(X:List (List Int × Int))(x:(Int × Int) × List Nat):AV:=match x.2.getLast? with
 |none=>.agg [.int .i64 x.1.1,.int .i64 x.1.2,.int .i64 (-1)]
 |some a=>let u:=run (fun v i=>stp m v (gS X i)) (m.bgn,0) x.2.dropLast
  .agg [.int .i64 u.1,.int .i64 u.2,.int .i64 a]
def mkI(P:Program)(ty:TypeId)(x:Option AV):OE:=x.bind fun a=>match P.underlying ty with
 |some (.interface _)=>none
 |some _=>some (.ret (.iface ty a),[])
 |none=>none
theorem aRI{O:Orc}{P:Program}(t:List AV)(h:aaL)(ty:TypeId)(x:Operand):amG O P t h (.makeInterface ty x)=mkI P ty (abO t x):=by
 rw[ai1 _ _ _ rfl]
 simp only[exec,mkI]
 cases abO t x with
 |none=>rfl
 |some a=>
  simp only[auT]
  cases P.underlying ty with
  |none=>rfl
  |some u=>cases u<;>rfl
theorem aSL(a:AV):mkI Try.prog 133 (some a)=some (.ret (.iface 133 a),[]):=by
 have:Try.prog.underlying 133=some (.pointer 135):=Try.underlying133
 simp only[mkI,auT,this]
theorem aB5:aEV Try.prog 133 "saltdome/trip.put" =some 135:=by kernel_rfl
theorem aAO:aEV Try.prog 133 "saltdome/trip.take" =some 136:=by kernel_rfl
structure FdS(m:aaW)(X:List (List Int × Int))(H:aaL)(D:List ((Int × Int) × List Nat))(i j nb:Nat)(u:Int × Int)(q:List (Int × Int))(ov:AV)(O:List (Int × Int))(h:aaL):Prop where
 B:BF (fun v i=>stp m v (gS X i)) X.length (m.bgn,0) D i j
 m0:∃x,h[H.length]?=some (.live 7 false x [m.cells])
 mp:∃y,h[H.length+2]?=some (amD (kvG kN y (D.map (·.1))))∧∀x∈D,y x.1=cmC m X x
 nd:∃x,h[nb]?=some (.live 2 true x [nvN u])
 ln:∃x v,h[H.length+3]?=some (.live 1 false x [[v]])∧QN v q h (H.length+3)∧∀b∈scB v,H.length+4≤b∧b≠nb∧b∉scB ov
 or_:(ov=.nils∧O=[])∨∃b x,ov=.slr 2 b 0 O.length∧h[b]?=some (.live 2 true x (O.map nvN))∧H.length+4≤b∧b≠nb
 nbl:H.length+4≤nb
 w:Wst H h
 q:adK h=true
 k:∀c,c<H.length→SmB H h c
def FdR(m:aaW)(X:List (List Int × Int))(H:aaL)(o:Out)(G:aaL):Prop:=∃D ob ox mb y,o=.ret (.tup [.slr 2 ob 0 D.length,.mapr mb])∧Fnd m X D∧G[ob]?=some (.live 2 true ox (D.map fun x=>nvN x.1))∧H.length≤ob∧G[mb]?=some (amD (kvG kN y (D.map (·.1))))∧(∀x∈D,y x.1=cmC m X x)∧H.length≤mb∧Wst H G∧adK G=true∧∀c,c<H.length→SmB H G c
theorem FdS.app{m:aaW}{X:List (List Int × Int)}{H:aaL}{D:List ((Int × Int) × List Nat)}{i j nb:Nat}{u:Int × Int}{q:List (Int × Int)}{ov:AV}{O:List (Int × Int)}{h:aaL}(F:FdS m X H D i j nb u q ov O h){l:aaL}(hl:adK l=true):FdS m X H D i j nb u q ov O (h++l):=by
 obtain⟨B,⟨x0,m0⟩,⟨y,mp,my⟩,⟨x1,nd⟩,⟨x2,v,l1,l2,l3⟩,or_,nbl,w,q',k⟩:=F
 refine⟨B,⟨x0,aaO m0 l⟩,⟨y,aaO mp l,my⟩,⟨x1,aaO nd l⟩,⟨x2,v,aaO l1 l,l2.sm fun b hb=>(SmB.refl h b).app (l2.lt b hb).1 l,l3⟩,?_,nbl,w.app l,adY q' hl,fun c hc=>(k c hc).app (ayU hc w.1) l⟩
 rcases or_ with h1|⟨b,x,h1,h2,h3⟩
 ·exact .inl h1
 ·exact .inr ⟨b,x,h1,aaO h2 l,h3⟩
theorem FdS.own{m:aaW}{X:List (List Int × Int)}{H:aaL}{D:List ((Int × Int) × List Nat)}{i j nb:Nat}{u:Int × Int}{q:List (Int × Int)}{ov:AV}{O:List (Int × Int)}{h:aaL}(F:FdS m X H D i j nb u q ov O h):aAA 0 2 true (O.map nvN) ov h:=by
 rcases F.or_ with⟨rfl,rfl⟩|⟨b,x,rfl,h2,_⟩
 ·exact aAA.nil _ _ _ _
 ·exact aAA.blk h2 rfl (by simp)
theorem FdS.ord{m:aaW}{X:List (List Int × Int)}{H:aaL}{D:List ((Int × Int) × List Nat)}{i j nb:Nat}{u:Int × Int}{q:List (Int × Int)}{ov:AV}{O:List (Int × Int)}{h:aaL}(F:FdS m X H D i j nb u q ov O h):FdS m X H D i j nb u q (.slr 2 (h.length+1) 0 (O.length+1)) (O++[u]) (kl 0 ov h++[.live 2 true false [nvN u],.live 2 true false ((O++[u]).map nvN)]):=by
 have hkl:(kl 0 ov h).length=h.length∧adK (kl 0 ov h)=true∧Wst H (kl 0 ov h)∧∀c,c∉scB ov→SmB h (kl 0 ov h) c:=by
  rcases F.or_ with⟨rfl,rfl⟩|⟨b,x,rfl,h2,_⟩
  ·exact⟨rfl,F.q,F.w,fun c _=>SmB.refl h c⟩
  ·exact⟨by simp[kl],aeX F.q b rfl,F.w.kill h2,fun c hc=>(SmB.refl h c).set (fun e=>hc (by simp[scB];omega)) _⟩
 have hov:∀b∈scB ov,H.length+4≤b∧b≠nb:=fun b hb=>by
  rcases F.or_ with⟨rfl,rfl⟩|⟨b',x,rfl,h2,h3,h4⟩
  ·simp[scB]at hb
  ·simp[scB]at hb;subst hb;exact⟨h3,h4⟩
 obtain⟨k1,k2,k3,k4⟩:=hkl
 have hlo:H.length≤h.length:=F.w.1
 obtain⟨B,m0,⟨y,mp,my⟩,nd,⟨x2,v,l1,l2,l3⟩,or_,nbl,w,q',k⟩:=F
 have hnb:nb<h.length:=by obtain⟨_,nd⟩:=nd;exact adM nd
 have sm:∀c,c<h.length→c∉scB ov→SmB h (kl 0 ov h++[.live 2 true false [nvN u],.live 2 true false ((O++[u]).map nvN)]) c:=fun c c1 c2=>(k4 c c2).app (by omega) _
 have l4:=adM l1
 refine⟨B,(sm _ (by omega) fun hb=>by have:=(hov _ hb).1;omega).live m0,⟨y,(sm _ (by omega) fun hb=>by have:=(hov _ hb).1;omega).map mp,my⟩,(sm _ hnb fun hb=>(hov _ hb).2 rfl).live nd,?_,.inr ⟨h.length+1,false,by simp,?_,by omega,by omega⟩,nbl,k3.app _,adY k2 rfl,fun c hc=>(k c hc).trans (sm c (by omega) fun hb=>by have:=(hov _ hb).1;omega)⟩
 ·obtain⟨z,g⟩:=(sm (H.length+3) l4 fun hb=>by have:=(hov _ hb).1;omega).live ⟨x2,l1⟩
  refine⟨z,v,g,l2.sm fun b hb=>sm b (l2.lt b hb).1 (l3 b hb).2.2,fun b hb=>⟨(l3 b hb).1,(l3 b hb).2.1,?_⟩⟩
  have:=(l2.lt b hb).1
  simp[scB];omega
 ·rw[ajP (by omega),k1,arO];rfl
theorem FdS.next{m:aaW}{X:List (List Int × Int)}{H:aaL}{D:List ((Int × Int) × List Nat)}{i nb:Nat}{u:Int × Int}{q:List (Int × Int)}{ov:AV}{O:List (Int × Int)}{h':aaL}(F:FdS m X H D i X.length nb u q ov O h'){M:aaL}{q2:List (Int × Int)}(u2:Int × Int)(sm:∀c,c<h'.length→c≠H.length+3→SmB h' M c)(hl:∃x v,M[H.length+3]?=some (.live 1 false x [[v]])∧QN v q2 M (H.length+3)∧∀b∈scB v,H.length+4≤b∧b≠h'.length∧b∉scB ov)(hn:∃x r,M[h'.length]?=some (.live 2 true x r))(w:Wst h' M)(hq:adK M=true):FdS m X H D (i+1) 0 h'.length u2 q2 ov O (M.set h'.length (.live 2 true true [nvN u2])):=by
 have hlo:H.length≤h'.length:=F.w.1
 obtain⟨B,m0,⟨y,mp,my⟩,nd,⟨x2,v,l1,l2,l3⟩,or_,nbl,w0,q',k⟩:=F
 obtain⟨xn,r,hn⟩:=hn
 obtain⟨xl,v2,n1,n2,n3⟩:=hl
 have hp3:=adM l1
 have sm2:∀c,c<h'.length→c≠H.length+3→SmB h' (M.set h'.length (.live 2 true true [nvN u2])) c:=fun c c1 c2=>(sm c c1 c2).set (by omega) _
 have hm0:H.length<h'.length:=by obtain⟨_,g⟩:=m0;exact adM g
 refine⟨B.next,(sm2 _ hm0 (by omega)).live m0,⟨y,(sm2 _ (adM mp) (by omega)).map mp,my⟩,⟨true,adE (adM hn)⟩,⟨xl,v2,by rw[adJ (by omega)];exact n1,n2.sm fun b hb=>(SmB.refl M b).set (fun e=>(n3 b hb).2.1 e.symm) _,n3⟩,?_,by omega,w0.trans (w.hi (Nat.le_refl _) _),aeX hq _ rfl,fun c hc=>(k c hc).trans (sm2 c (by omega) (by omega))⟩
 rcases or_ with h1|⟨b,z,h1,h2,h3,h4⟩
 ·exact .inl h1
 ·obtain⟨z',g⟩:=(sm2 b (adM h2) (by omega)).live ⟨z,h2⟩
  exact .inr ⟨b,z',h1,g,h3,by have:=adM h2;omega⟩
def fd4(m:aaW)(x:Bool):aaL:=[.live 7 false false [m.cells],.live 2 true x [[.int .i64 m.bgn,.int .i64 0]],amD [.agg [.int .i64 m.bgn,.int .i64 0],.agg [.int .i64 m.bgn,.int .i64 0,.int .i64 (-1)]],.live 1 false false [[.nils]]]
theorem a39{α:Type}{l:List α}{k:Nat}{x:α}(h:l[k]?=some x)(l2:List α):(l++l2)[k]?=some x:=by
 rw[aiZ (awM.1 h).1];exact h
theorem a8A{m:aaW}(hs:m.small)(hm:adZ m=true){X:List (List Int × Int)}(hX:X.length≤2000){H:aaL}(hq:adK H=true){sb:Nat}{x:Bool}(hsb:H[sb]?=some (.live 2 true x (X.map (sgC m)))):
 ShQ om' 55 [.agg m.cells,.slr 2 sb 0 X.length] H (FdR m X H):=by
 obtain⟨p,hp⟩:∃p,H.length=p:=⟨_,rfl⟩
 have hms0:=fun(h:aaL) (b:Nat) (g:h[b]?=some (amD [])) (c:AV)=>aZ8.ms_new (ty:=100) (v:=fun _=>AV.nils) (L:=[]) Try.underlying100 g (fun _ h=>(by cases h)) (s:=(m.bgn,0)) trivial (by simp) c
 have hms:=hms0 (H++[.live 7 false false [m.cells],.live 2 true true [[.int .i64 m.bgn,.int .i64 0]],amD []]) (H.length+2) (by simp) (.agg [.int .i64 m.bgn,.int .i64 0,.int .i64 (-1)])
 have hkv:kvG kN (fun y=>if y=(m.bgn,(0:Int))then AV.agg [.int .i64 m.bgn,.int .i64 0,.int .i64 (-1)]else .nils) ([]++[(m.bgn,0)])=[.agg [.int .i64 m.bgn,.int .i64 0],.agg [.int .i64 m.bgn,.int .i64 0,.int .i64 (-1)]]:=by simp[kvG,kN]
 rw[hkv]at hms
 simp only[kN,amD]at hms
 refine aDP rfl Try.func55 rfl rfl ?_
 simp only[Try.f55]
 (have hb:=trivial;with_reducible repeat' (first|simp only[hb,Vc.down,seval,aL2.down,auO.down,hms,aRI,aSL,aB5,aAO,aI0,aI2,aJC,aI4,aJD,aIY,aa9]|refine fsp ?_ ?_<;>intro hb|refine fd ?_|fail))
 have hcl:clH (H++fd4 m true)=clH H++fd4 m false:=by simp[clH,fd4,CB.clean,amD]
 have hqb:adK (H++fd4 m true)=true:=adY hq (by
  simp only[fd4,adK,List.all_cons,List.all_nil,Bool.and_true,arP]
  refine⟨rfl,rfl,aE1 _ fun x hx=>?_,rfl⟩
  simp only[awE,ayY,or_false]at hx
  rcases hx with rfl|rfl<;>simp[AV.sameKey,AV.same])
 have gb:∀k,(H++fd4 m true)[p+k]?=(fd4 m true)[k]?:=fun k=>by
  rw[ajP (by omega)];congr 1;omega
 obtain⟨o,G1,es1,M1,a1,a2,⟨rfl,⟨v1,a7,a8,a9⟩,a10⟩,a4,a5,a6⟩:=avT (O:=om') (H:=H++fd4 m true) (f:=135) (args:=[.ptr (p+3) 0 0,.agg [.int .i64 m.bgn,.int .i64 0]]) hqb (a9V (m.bgn,0) (ak1 hqb) (auJ (gb 3)) (.inl ⟨rfl,rfl⟩) (by simp))
 have sm1:∀c,c<p+4→c≠p+3→SmB (H++fd4 m true) M1 c:=fun c c1 c2=>((((SmB.refl _ c).eqR (ak3 _).symm).trans (a10 c (by rw[aeL];simp[fd4];omega) c2 (by simp[scB])))).eqR a4.symm
 obtain⟨x1,k1⟩:=an0 a4.symm ⟨_,a7⟩
 have QN1:QN v1 ([]++[(m.bgn,0)]) M1 (p+3):=a8.sm fun b _=>(SmB.refl G1 b).eqR a4.symm
 obtain⟨o,G2,es2,M2,b1,b2,⟨rfl,⟨v2,b7,b8,b9⟩,b10⟩,b4,b5,b6⟩:=avT (O:=om') (H:=M1) (f:=136) (args:=[.ptr (p+3) 0 0]) a6 (aWO (q:=[]) (ak1 a6) (auJ k1) (QN1.sm fun b _=>(SmB.refl M1 b).eqR (ak3 M1).symm) (by simp))
 obtain⟨x2,k2⟩:=an0 b4.symm ⟨_,b7⟩
 have QN2:QN v2 [] M2 (p+3):=b8.sm fun b _=>(SmB.refl G2 b).eqR b4.symm
 have hM1:p+4≤M1.length:=by have:=a5.1;simp[fd4]at this;omega
 have sm2:∀c,c<p+4→c≠p+3→SmB (H++fd4 m true) M2 c:=fun c c1 c2=>(sm1 c c1 c2).trans ((((SmB.refl _ c).eqR (ak3 _).symm).trans (b10 c (by rw[aeL];omega) c2)).eqR b4.symm)
 have hM2:M1.length≤M2.length:=b5.1
 have st0:FdS m X H [((m.bgn,0),[])] 0 0 M2.length (m.bgn,0) [] .nils [] (M2++[.live 2 true true [nvN (m.bgn,0)]]):=by
  refine⟨BF.start _ _ _,?_,⟨fun _=>.agg [.int .i64 m.bgn,.int .i64 0,.int .i64 (-1)],?_,?_⟩,⟨true,by simp⟩,⟨x2,v2,?_,by rw[hp];exact QN2.sm fun b hb=>(SmB.refl M2 b).app (QN2.lt b hb).1 _,fun b hb=>?_⟩,.inl ⟨rfl,rfl⟩,by omega,?_,adY b6 rfl,fun c hc=>?_⟩
  ·obtain⟨z,g⟩:=(sm2 p (by omega) (by omega)).live ⟨false,gb 0⟩
   exact⟨z,aaO (by rw[hp];exact g) _⟩
  ·rw[hp];exact aaO ((sm2 (p+2) (by omega) (by omega)).map (gb 2)) _
  ·intro x hx;simp at hx;subst hx;rfl
  ·rw[hp];exact aaO k2 _
  ·have h1:=b9▸hb
   have h2:=a9 b h1
   have h3:=(QN2.lt b hb).1
   rw[aeL]at h2
   simp[fd4]at h2
   exact⟨by omega,by omega,by simp[scB]⟩
  ·exact((((Wst.refl H).app _).trans a5).trans b5).app _
  ·exact((((SmB.refl H c).app hc _).trans (sm2 c (by omega) (by omega)))).app (by omega) _
 rw[hcl]at a1
 simp only[fd4,amD]at a1 a2
 rw[hp,a1]
 subst hp
 (have hb:=trivial;with_reducible repeat' (first|simp only[hb,Vc.down,seval,aL2.down,auO.down,a2,b1,b2,aRI,aSL,aB5,aAO,aI0,aI2,aJC,aI4,aJD,aIY,aa9]|refine fsp ?_ ?_<;>intro hb|refine fd ?_|fail))
 refine ahX (cnt 77 (fun n (_:Unit) t h=>∃D i nb u ov,n+i=89∧i≤D.length∧t 1=.slr 2 sb 0 X.length∧t 2=.ptr H.length 0 0∧t 7=.mapr (H.length+2)∧t 8=ov∧t 9=.iface 133 (.ptr (H.length+3) 0 0)∧t 10=.ptr nb 0 0∧t 11=.bool (decide (i<D.length))∧FdS m X H D i 0 nb u ((D.drop (i+1)).map (·.1)) ov ((D.take i).map (·.1)) h∧∀x,D[i]?=some x→u=x.1) (fun _ _=>()) (fun _ e t h=>e=.exit 0∧∃D nb u ov,t 8=ov∧t 7=.mapr (H.length+2)∧FdS m X H D D.length 0 nb u [] ov (D.map (·.1)) h) ?_ ?_ 89 () _ _ ?_) (fun e t h hk=>?_)
 ·rintro _ t h Q' kQ ⟨D,i,nb,u,ov,hni,hiD,_,_,_,_,_,_,_,F,_⟩
  have:=aw9 hm F.B
  omega
 ·rintro n _ t h J Q' kJ kQ ⟨D,i,nb,u,ov,hni,hiD,g1,g2,g7,g8,g9,g10,g11,F,hu⟩
  by_cases hlt:i<D.length
  ·obtain⟨⟨u',pth⟩,hDi⟩:∃z,D[i]?=some z:=⟨_,am1 hlt⟩
   obtain rfl:u=u':=hu _ hDi
   rw[decide_eq_true hlt]at g11
   obtain⟨xn,hnd⟩:=F.nd
   have own':=F.own
   have hap:=fun(q:aaL) (r:List AV)=>aPP own' (pre:=[]) rfl q r [] (by have:=aw9 hm F.B;simp;omega)
   have hhp:=fun(q:aaL) (r:List (List AV)) (ba:Nat)=>aLK own' (pre:=[]) rfl q 2 true r ba
   simp only[as6]at hap hhp
   (have hb:=trivial;with_reducible repeat' (first|simp only[hb,Vc.down,seval,aL2.down,auO.down,g1,g2,g7,g8,g9,g10,g11,hnd,nvN,hap,hhp,aa9]|refine fsp ?_ ?_<;>intro hb|refine fd ?_|fail))
   have st1:=F.ord
   have hO:((D.take i).map (·.1)).length=i:=by simp;omega
   have hO1:(D.take i).map (·.1)++[u]=(D.take (i+1)).map (·.1):=by rw[azA,hDi];simp
   rw[hO,hO1]at st1
   refine ahX (lst 77 X (fun j (_:Unit) t h'=>∃D,i<D.length∧(∃pth,D[i]?=some (u,pth))∧t 1=.slr 2 sb 0 X.length∧t 2=.ptr H.length 0 0∧t 7=.mapr (H.length+2)∧t 8=.slr 2 (h.length+1) 0 (i+1)∧t 9=.iface 133 (.ptr (H.length+3) 0 0)∧t 10=.ptr nb 0 0∧t 46=.slr 2 sb 0 X.length∧t 47=.int .i64 X.length∧t 48=.int .i64 j∧FdS m X H D i j nb u ((D.drop (i+1)).map (·.1)) (.slr 2 (h.length+1) 0 (i+1)) ((D.take (i+1)).map (·.1)) h') (fun _ _=>()) (fun _ e t h'=>e=.exit 2∧∃D,i<D.length∧(∃pth,D[i]?=some (u,pth))∧t 1=.slr 2 sb 0 X.length∧t 2=.ptr H.length 0 0∧t 7=.mapr (H.length+2)∧t 8=.slr 2 (h.length+1) 0 (i+1)∧t 9=.iface 133 (.ptr (H.length+3) 0 0)∧t 10=.ptr nb 0 0∧FdS m X H D i X.length nb u ((D.drop (i+1)).map (·.1)) (.slr 2 (h.length+1) 0 (i+1)) ((D.take (i+1)).map (·.1)) h') ?_ ?_ () _ _ ?_) (fun e t h' hk=>?_)
   ·rintro _ t h' Q2 kQ2 ⟨D,c1,c2,c3,c4,c5,c6,c7,c8,c9,c10,c11,c12⟩
    (have hb:=trivial;with_reducible repeat' (first|simp only[hb,Vc.down,seval,aL2.down,auO.down,c9,c10,c11,Int.lt_irrefl,decide_false]|refine fsp ?_ ?_<;>intro hb|refine fd ?_|fail))
    exact kQ2 _ _ _ ⟨rfl,D,c1,c2,by simp[up,c3],by simp[up,c4],by simp[up,c5],by simp[up,c6],by simp[up,c7],by simp[up,c8],c12⟩
   ·rintro sx rest j _ t h' J2 Q2 kJ2 kQ2 hx hj ⟨D,c1,⟨pth,c2⟩,c3,c4,c5,c6,c7,c8,c9,c10,c11,F2⟩
    obtain⟨xm,hm0⟩:=F2.m0
    obtain⟨y,mp,my⟩:=F2.mp
    obtain⟨xn2,nd⟩:=F2.nd
    obtain⟨xs,hsg⟩:=(F2.k sb (adM hsb)).live ⟨x,hsb⟩
    obtain⟨xl,v,ln1,ln2,ln3⟩:=F2.ln
    have hpl3:=adM ln1
    have hst:=aPC m u.1 u.2 (aq2 m sx.1) sx.2 hs (fun x hx w hw=>(aNX hm x hx w hw).1)
    obtain⟨v',hv'⟩:∃v',stp m u sx=v':=⟨_,rfl⟩
    have hv2:axD u.1 u.2 (aq2 m sx.1) sx.2 m.moves=v':=hv'
    rw[hv2]at hst
    have hgj:stp m u (gS X j)=v':=by rw[aJ6 hx];exact hv'
    have hw:=adL hj (show X.length≤maxLen by unfold maxLen;omega)
    have hd:((j:Int)<(X.length:Int))=True:=eq_true (by omega)
    have hd2:decide ((j:Int)<(X.length:Int))=true:=decide_eq_true (by omega)
    by_cases hin:v'∈D.map (·.1)
    ·obtain⟨z,hz,hz1⟩:=alW.1 hin
     have hyz:=my z hz
     rw[hz1]at hyz
     obtain⟨c0,e1,e2,hcm⟩:∃c0 e1 e2,y v'=.agg [.int .i64 c0,.int .i64 e1,.int .i64 e2]:=by
      rw[hyz];unfold cmC;split<;>exact⟨_,_,_,rfl⟩
     have hlk:=fun l=>aZ8.lk_yes (ty:=100) (z:=.agg [.int .i64 0,.int .i64 0,.int .i64 0]) Try.underlying100 (by kernel_rfl) (aaO mp l) (fun _ _=>trivial) hin true
     simp only[cond_true,hcm,kN]at hlk
     (have hb:=trivial;with_reducible repeat' (first|simp only[hb,Vc.down,seval,aL2.down,auO.down,c3,c4,c5,c6,c7,c8,c9,c10,c11,hm0,aaO hm0,nd,aaO nd,hsg,aaO hsg,nvN,sgC,hx,hst,hlk,hd,hd2,hw,aa9]|refine fsp ?_ ?_<;>intro hb|refine fd ?_|fail))
     obtain⟨kz,hkz⟩:=ajS hz
     refine adW (kJ2 _ _ () ⟨D,c1,⟨pth,c2⟩,by simp[up,c3],by simp[up,c4],by simp[up,c5],by simp[up,c6],by simp[up,c7],by simp[up,c8],by simp[up,c9],by simp[up,c10],by simp[up]<;>omega,?_⟩ rfl)
     exact { F2.app (by rfl)with B:=F2.B.old c2 hkz (hz1.trans hgj.symm) }
    ·have hlk:=fun l=>aZ8.lk_no (ty:=100) (z:=.agg [.int .i64 0,.int .i64 0,.int .i64 0]) Try.underlying100 (by kernel_rfl) (aaO mp l) (fun _ _=>trivial) trivial hin true
     have hms:=fun l=>aZ8.ms_new (ty:=100) Try.underlying100 (aaO mp l) (fun _ _=>trivial) trivial hin (.agg [.int .i64 u.1,.int .i64 u.2,.int .i64 (j:Int)])
     obtain⟨mv,hmv⟩:∃mv,kvG kN (fun w=>if w=v' then AV.agg [.int .i64 u.1,.int .i64 u.2,.int .i64 (j:Int)]else y w) (D.map (·.1)++[v'])=mv:=⟨_,rfl⟩
     rw[hmv]at hms
     simp only[cond_true,kN]at hlk hms
     have hsa:=au8 (adM mp)
     have hmq:(amD mv).quiet (amD mv).clean=true:=aE1 _ fun a ha=>by
      rw[←hmv]at ha
      unfold kvG at ha
      obtain⟨w,hw,ha⟩:=ayR.1 ha
      simp only[awE,ayY,or_false]at ha
      rcases ha with rfl|rfl
      ·simp[kN,AV.sameKey,AV.same]
      ·by_cases e:w=v'
       ·simp[e,AV.sameKey,AV.same]
       ·rw[if_neg e]
        rcases au3.1 hw with hw|hw
        ·obtain⟨z,hz,rfl⟩:=alW.1 hw
         rw[my z hz];unfold cmC;split<;>simp[AV.sameKey,AV.same]
        ·simp at hw;exact absurd hw e
     obtain⟨l3,hl3⟩:∃l3:aaL,[CB.live 2 true true [[.int .i64 (aq2 m sx.1),.int .i64 sx.2]],.live 2 true true [[.int .i64 v'.1,.int .i64 v'.2]],.live 3 true true [[.int .i64 0,.int .i64 0,.int .i64 0]]]=l3:=⟨_,rfl⟩
     have hcl:clH (h'.set (H.length+2) (amD mv)++l3)=clH (h'.set (H.length+2) (amD mv))++[.live 2 true false [[.int .i64 (aq2 m sx.1),.int .i64 sx.2]],.live 2 true false [[.int .i64 v'.1,.int .i64 v'.2]],.live 3 true false [[.int .i64 0,.int .i64 0,.int .i64 0]]]:=by rw[←hl3];simp[clH,CB.clean]
     have hqK:adK (h'.set (H.length+2) (amD mv)++l3)=true:=adY (aeX F2.q _ hmq) (by rw[←hl3];rfl)
     have smK:∀c,c<h'.length→c≠H.length+2→SmB h' (h'.set (H.length+2) (amD mv)++l3) c:=fun c hc hn=>((SmB.refl h' c).set (fun e=>hn e.symm) _).app (by simpa using hc) _
     obtain⟨xl2,hK3⟩:=(smK (H.length+3) hpl3 (by omega)).live ⟨xl,ln1⟩
     have QNK:=ln2.sm fun b hb=>smK b (ln2.lt b hb).1 (by have:=(ln3 b hb).1;omega)
     have h88:=aw9 hm F2.B
     obtain⟨o,G,es,M,a1,a2,⟨rfl,⟨v2,a7,a8,a9⟩,a10⟩,a4,a5,a6⟩:=avT (O:=om') (f:=135) (args:=[.ptr (H.length+3) 0 0,.agg [.int .i64 v'.1,.int .i64 v'.2]]) hqK (a9V v' (ak1 hqK) (auJ hK3) (QNK.sm fun b _=>(SmB.refl _ b).eqR (ak3 _).symm) (by simp;omega))
     have sm:∀c,c<h'.length→c≠H.length+2→c≠H.length+3→c∉scB v→SmB h' M c:=fun c c1 c2 c3 c4=>(smK c c1 c2).trans ((((SmB.refl _ c).eqR (ak3 _).symm).trans (a10 c (by rw[aeL];simp;omega) c3 c4)).eqR a4.symm)
     obtain⟨xl3,k7⟩:=an0 a4.symm ⟨_,a7⟩
     have mM:M[H.length+2]?=some (amD mv):=by
      have e:(h'.set (H.length+2) (amD mv)++l3)[H.length+2]?=some (amD mv):=by
       rw[aiZ (by simpa using adM mp),adE (adM mp)]
      exact((((SmB.refl _ _).eqR (ak3 _).symm).trans (a10 (H.length+2) (by rw[aeL];exact adM e) (by omega) (fun hb=>by have:=(ln3 _ hb).1;omega))).eqR a4.symm).map e
     rw[hcl]at a1
     subst hl3
     (have hb:=trivial;with_reducible repeat' (first|simp only[hb,Vc.down,seval,aL2.down,auO.down,c3,c4,c5,c6,c7,c8,c9,c10,c11,hm0,aaO hm0,nd,aaO nd,hsg,aaO hsg,nvN,sgC,hx,hst,hlk,hms,hsa,hd,hd2,hw,avH,arQ,a1,a2,aRI,aSL,aB5,aAO,aa9]|refine fsp ?_ ?_<;>intro hb|refine fd ?_|fail))
     have hdrop:(D++[(v',pth++[j])]).drop (i+1)=D.drop (i+1)++[(v',pth++[j])]:=List.drop_append_of_le_length (by omega)
     have htake:(D++[(v',pth++[j])]).take (i+1)=D.take (i+1):=List.take_append_of_le_length (by omega)
     have hmap:(D++[(v',pth++[j])]).map (·.1)=D.map (·.1)++[v']:=by simp
     have hovl:∀b∈scB (.slr 2 (h.length+1) 0 (i+1)),H.length+4≤b∧b<h'.length:=fun b hb=>by
      rcases F2.or_ with⟨h1,_⟩|⟨b',z,h1,h2,h3,_⟩
      ·cases h1
      ·have eb:b'=h.length+1:=by simp only[AV.slr.injEq]at h1;omega
       simp[scB]at hb;subst hb;rw[←eb];exact⟨h3,adM h2⟩
     refine adW (kJ2 _ _ () ⟨D++[(v',pth++[j])],by simp;omega,⟨pth,a39 c2 _⟩,by simp[up,c3],by simp[up,c4],by simp[up,c5],by simp[up,c6],by simp[up,c7],by simp[up,c8],by simp[up,c9],by simp[up,c10],by simp[up]<;>omega,?_⟩ rfl)
     have hnbl:=F2.nbl
     rw[hdrop,htake,List.map_append]
     refine⟨?_,(sm _ (adM hm0) (by omega) (by omega) fun hb=>by have:=(ln3 _ hb).1;omega).live ⟨xm,hm0⟩,⟨fun w=>if w=v' then AV.agg [.int .i64 u.1,.int .i64 u.2,.int .i64 (j:Int)]else y w,by rw[hmap,hmv];exact mM,fun z hz=>?_⟩,(sm nb (adM nd) (by omega) (by omega) fun hb=>(ln3 _ hb).2.1 rfl).live ⟨xn2,nd⟩,⟨xl3,v2,k7,a8.sm fun b _=>(SmB.refl G b).eqR a4.symm,fun b hb=>?_⟩,?_,hnbl,(F2.w.trans (((Wst.refl h').map mp mv).app _)).trans a5,a6,fun c hc=>(F2.k c hc).trans (sm c (ayU hc F2.w.1) (by omega) (by omega) fun hb=>by have:=(ln3 _ hb).1;omega)⟩
     ·have:=F2.B.new c2 hj (fun k z hz e=>hin (by rw[hgj]at e;exact alW.2 ⟨z,akQ hz,e⟩))
      rwa[hgj]at this
     ·rcases au3.1 hz with hz|hz
      ·have hne:z.1≠v':=fun e=>hin (alW.2 ⟨z,hz,e⟩)
       simp only[if_neg hne];exact my z hz
      ·simp at hz;subst hz
       have hway:=(F2.B.way i _ c2).1
       simp only at hway
       simp[cmC,hway]
     ·have h1:=a9 b hb
      rw[aeL]at h1
      simp at h1
      refine⟨by omega,fun e=>by have:=adM nd;omega,fun h2=>by have:=(hovl b h2).2;omega⟩
     ·rcases F2.or_ with⟨h1,_⟩|⟨b',z,h1,h2,h3,h4⟩
      ·cases h1
      ·obtain⟨z',g⟩:=(sm b' (adM h2) (by omega) (by omega) fun hb=>(ln3 _ hb).2.2 (by rw[h1];simp[scB])).live ⟨z,h2⟩
       exact .inr ⟨b',z',h1,g,h3,h4⟩
   ·exact⟨D,hlt,⟨pth,hDi⟩,by simp[up,g1],by simp[up,g2],by simp[up,g7],by simp[up];omega,by simp[up,g9],by simp[up,g10],by simp[up],by simp[up],by simp[up],by rw[show((D.take i).map (·.1)).map nvN++[[.int .i64 u.1,.int .i64 u.2]]=((D.take (i+1)).map (·.1)).map nvN from by rw[←hO1];simp[nvN]];exact st1⟩
   obtain⟨rfl,D,c1,⟨pth,c2⟩,c3,c4,c5,c6,c7,c8,F2⟩:=hk
   obtain⟨xn3,nd⟩:=F2.nd
   obtain⟨xl,v,ln1,ln2,ln3⟩:=F2.ln
   obtain⟨K2,hK2⟩:∃K2,h'++[CB.live 2 true true [[.int .i64 u.1,.int .i64 u.2]]]=K2:=⟨_,rfl⟩
   have hcl:clH (h'++[CB.live 2 true true [[.int .i64 u.1,.int .i64 u.2]]])=clH h'++[CB.live 2 true false [[.int .i64 u.1,.int .i64 u.2]]]:=by simp[clH,CB.clean]
   have hqK:adK K2=true:=by rw[←hK2];exact adY F2.q rfl
   have hp3:=adM ln1
   have k3:K2[H.length+3]?=some (.live 1 false xl [[v]]):=by rw[←hK2];exact aaO ln1 _
   have QK:QN v ((D.drop (i+1)).map (·.1)) K2 (H.length+3):=by rw[←hK2];exact ln2.sm fun b hb=>(SmB.refl h' b).app (ln2.lt b hb).1 _
   have kn:K2[h'.length]?=some (.live 2 true true [[.int .i64 u.1,.int .i64 u.2]]):=by rw[←hK2];simp
   have smK:∀c,c<h'.length→SmB h' K2 c:=fun c hc=>by rw[←hK2];exact(SmB.refl h' c).app hc _
   have wK:Wst h' K2:=by rw[←hK2];exact(Wst.refl h').app _
   have hKl:K2.length=h'.length+1:=by rw[←hK2];simp
   have h88:=aw9 hm F2.B
   by_cases hend:i+1<D.length
   ·obtain⟨z,hz⟩:∃z,D[i+1]?=some z:=⟨_,am1 hend⟩
    have hdr:(D.drop (i+1)).map (·.1)=z.1::(D.drop (i+1+1)).map (·.1):=by
     obtain⟨q1,q2⟩:=awM.1 hz
     rw[List.drop_eq_getElem_cons q1,q2];rfl
    rw[hdr]at QK
    obtain⟨o,G,es,M,a1,a2,⟨rfl,⟨v2,a7,a8,a9⟩,a10⟩,a4,a5,a6⟩:=avT (O:=om') (H:=K2) (f:=136) (args:=[.ptr (H.length+3) 0 0]) hqK (aWO (ak1 hqK) (auJ k3) (QK.sm fun b _=>(SmB.refl _ b).eqR (ak3 _).symm) (by simp;omega))
    have sm:∀c,c<K2.length→c≠H.length+3→SmB K2 M c:=fun c c1 c2=>(((SmB.refl _ c).eqR (ak3 _).symm).trans (a10 c (by rw[aeL];exact c1) c2)).eqR a4.symm
    obtain⟨xl3,k7⟩:=an0 a4.symm ⟨_,a7⟩
    obtain⟨xn4,kn2⟩:=(sm h'.length (by omega) (by omega)).live ⟨_,kn⟩
    have F3:=F2.next (q2:=(D.drop (i+1+1)).map (·.1)) z.1 (fun c c1 c2=>(smK c c1).trans (sm c (by omega) c2)) ⟨xl3,v2,k7,a8.sm fun b _=>(SmB.refl G b).eqR a4.symm,fun b hb=>by
     rw[a9]at hb
     have:=ln3 b hb
     have:=(ln2.lt b hb).1
     exact⟨by omega,by omega,(ln3 b hb).2.2⟩⟩ ⟨_,_,kn2⟩ (wK.trans a5) a6
    have hKe:=hK2
    rw[←hK2,hcl]at a1
    rw[←hK2]at a2
    (have hb:=trivial;with_reducible repeat' (first|simp only[hb,Vc.down,seval,aL2.down,auO.down,c3,c4,c5,c6,c7,c8,nd,nvN,a1,a2,kn2,aRI,aSL,aB5,aAO,aa9]|refine fsp ?_ ?_<;>intro hb|refine fd ?_|fail))
    exact adW (kJ _ _ () ⟨D,i+1,h'.length,z.1,_,by omega,by omega,by simp[up,c3],by simp[up,c4],by simp[up,c5],rfl,by simp[up,c7],by simp[up],by simp[up,hend],by simpa [up,c6,nvN]using F3,fun w hw=>by rw[hz]at hw;cases hw;rfl⟩ rfl)
   ·have hdr:(D.drop (i+1)).map (·.1)=[]:=by rw[awY (by omega)];rfl
    have hdr2:(D.drop (i+1+1)).map (·.1)=[]:=by rw[awY (by omega)];rfl
    rw[hdr]at QK
    obtain⟨o,G,es,M,a1,a2,⟨rfl,a10⟩,a4,a5,a6⟩:=avT (O:=om') (H:=K2) (f:=136) (args:=[.ptr (H.length+3) 0 0]) hqK (a5Z (ak1 hqK) (auJ k3) (QK.sm fun b _=>(SmB.refl _ b).eqR (ak3 _).symm))
    have sm:∀c,c<K2.length→SmB K2 M c:=fun c c1=>(((SmB.refl _ c).eqR (ak3 _).symm).trans (a10 c (by rw[aeL];exact c1))).eqR a4.symm
    obtain⟨xl3,k7⟩:=(sm _ (adM k3)).live ⟨_,k3⟩
    obtain⟨xn4,kn2⟩:=(sm h'.length (by omega)).live ⟨_,kn⟩
    have F3:=F2.next (q2:=(D.drop (i+1+1)).map (·.1)) (0,0) (fun c c1 c2=>(smK c c1).trans (sm c (by omega))) ⟨xl3,v,k7,by rw[hdr2];exact QK.sm fun b hb=>sm b (QK.lt b hb).1,fun b hb=>by
     have:=ln3 b hb
     have:=(ln2.lt b hb).1
     exact⟨by omega,by omega,(ln3 b hb).2.2⟩⟩ ⟨_,_,kn2⟩ (wK.trans a5) a6
    have hKe:=hK2
    rw[←hK2,hcl]at a1
    rw[←hK2]at a2
    (have hb:=trivial;with_reducible repeat' (first|simp only[hb,Vc.down,seval,aL2.down,auO.down,c3,c4,c5,c6,c7,c8,nd,nvN,a1,a2,kn2,aRI,aSL,aB5,aAO,aa9]|refine fsp ?_ ?_<;>intro hb|refine fd ?_|fail))
    exact adW (kJ _ _ () ⟨D,i+1,h'.length,(0,0),_,by omega,by omega,by simp[up,c3],by simp[up,c4],by simp[up,c5],rfl,by simp[up,c7],by simp[up],by simp[up,hend],by simpa [up,c6,nvN]using F3,fun w hw=>by rw[ayB (by omega)]at hw;cases hw⟩ rfl)
  ·have hDl:i=D.length:=by omega
   rw[decide_eq_false hlt]at g11
   subst hDl
   have hdr:D.drop (D.length+1)=[]:=awY (by omega)
   rw[hdr,azC]at F
   (have hb:=trivial;with_reducible repeat' (first|simp only[hb,Vc.down,seval,aL2.down,auO.down,g11]|refine fsp ?_ ?_<;>intro hb|refine fd ?_|fail))
   exact kQ _ _ _ ⟨rfl,D,nb,u,ov,by simp[up,g8],by simp[up,g7],F⟩
 ·exact⟨_,0,M2.length,(m.bgn,0),.nils,rfl,by simp,by simp[up,ent],by simp[up],by simp[up],by simp[up],by simp[up],by simp[up],by simp[up],st0,fun x hx=>by simp at hx;rw[←hx]⟩
 ·obtain⟨rfl,D,nb,u,ov,g8,g7,F⟩:=hk
  have hne:D≠[]:=fun e=>by have:=F.B.hd;rw[e]at this;simp at this
  rcases F.or_ with⟨_,h2⟩|⟨b,x1,rfl,h2,h3,_⟩
  ·exact absurd (List.map_eq_nil_iff.1 h2) hne
  ·obtain⟨y,mp,my⟩:=F.mp
   (have hb:=trivial;with_reducible repeat' (first|simp only[hb,Vc.down,seval,aL2.down,auO.down,g7,g8]|refine fsp ?_ ?_<;>intro hb|refine fd ?_|fail))
   exact⟨D,b,x1,H.length+2,y,by simp,F.B,by rw[List.map_map]at h2;exact h2,by omega,mp,my,by omega,F.w,F.q,F.k⟩
theorem aMK{m:aaW}(hm:adZ m=true):(am6 m).length≤320:=by
 rw[←aLC m []]
 have:Few m (azQ m 0 m.sens.length [] ([],[])):=by unfold azQ;exact aHA hm _ (Few.start m)
 exact this.le hm
theorem aVA{m:aaW}(hs:m.small)(hm:adZ m=true){H:aaL}(hq:adK H=true):∃lv b x rows Ro es M,shK H (om'.call (.sh 54) [.agg m.cells] (clH H))=some (.ret (.tup [lv,.slr 2 b 0 (am6 m).length]),es)∧agN H es=M∧LLG 2 (H.length+8) lv M rows ((am6 m).map fun x=>(tsc x).cells) Ro∧rows.length=(am6 m).length∧M[b]?=some (.live 2 true x ((am6 m).map (sgC m)))∧H.length≤b∧Wst H M∧adK M=true∧∀c,c<H.length→SmB H M c:=by
 obtain⟨o,G,es,M,a1,a2,⟨lv,b,x,rows,Ro,rfl,s1,s2,s3,s4,_,_,s5⟩,a4,a5,a6⟩:=avT (O:=om') (H:=H) (f:=54) (args:=[.agg m.cells]) (Q:=ScR m (clH H)) hq (by
  obtain⟨o,G,c,lv,b,x,rows,Ro,r,s1,s2,s3,s4,s5,s6,s7⟩:=a5O hs hm (ak1 hq)
  exact⟨o,G,c,⟨lv,b,x,rows,Ro,r,s1,s2,s3,s4,s5,s6,s7⟩,s5,s6⟩)
 obtain⟨z,g⟩:=an0 a4.symm ⟨x,s3⟩
 rw[aeL]at s1 s4 s5
 exact⟨lv,b,z,rows,Ro,es,M,a1,a2,s1.cl a4.symm,s2,g,s4,a5,a6,fun c hc=>(((SmB.refl H c).eqR (ak3 H).symm).trans (s5 c hc)).eqR a4.symm⟩
theorem aVM{m:aaW}(hs:m.small)(hm:adZ m=true){X:List (List Int × Int)}(hX:X.length≤2000){H:aaL}(hq:adK H=true){sb:Nat}{x:Bool}(hsb:H[sb]?=some (.live 2 true x (X.map (sgC m)))):∃D ob ox mb y es M,shK H (om'.call (.sh 55) [.agg m.cells,.slr 2 sb 0 X.length] (clH H))=some (.ret (.tup [.slr 2 ob 0 D.length,.mapr mb]),es)∧agN H es=M∧Fnd m X D∧M[ob]?=some (.live 2 true ox (D.map fun x=>nvN x.1))∧H.length≤ob∧M[mb]?=some (amD (kvG kN y (D.map (·.1))))∧(∀x∈D,y x.1=cmC m X x)∧H.length≤mb∧Wst H M∧adK M=true∧∀c,c<H.length→SmB H M c:=by
 obtain⟨o,G,es,M,a1,a2,⟨D,ob,ox,mb,y,rfl,s1,s2,s3,s4,s5,s6,_,_,s7⟩,a4,a5,a6⟩:=avT (O:=om') (H:=H) (f:=55) (args:=[.agg m.cells,.slr 2 sb 0 X.length]) (Q:=FdR m X (clH H)) hq (by
  obtain⟨o,G,c,D,ob,ox,mb,y,r,s1,s2,s3,s4,s5,s6,s7,s8,s9⟩:=a8A hs hm hX (ak1 hq) (auJ hsb)
  exact⟨o,G,c,⟨D,ob,ox,mb,y,r,s1,s2,s3,s4,s5,s6,s7,s8,s9⟩,s7,s8⟩)
 obtain⟨z,g⟩:=an0 a4.symm ⟨ox,s2⟩
 rw[aeL]at s3 s6 s7
 exact⟨D,ob,z,mb,y,es,M,a1,a2,s1,g,s3,aWK a4.symm s4,s5,s6,a5,a6,fun c hc=>(((SmB.refl H c).eqR (ak3 H).symm).trans (s7 c hc)).eqR a4.symm⟩
def aBU(D:List ((Int × Int) × List Nat))(s:Int):Bool:=D.any fun x=>x.1.1==s
def au6(m:aaW)(D:List ((Int × Int) × List Nat)):List Int:=(upN m.states.toNat 0).filter (aBU D)
theorem aJA:∀(d:Nat) (n:Int) (i:Nat) (x:Int),(upN d n)[i]?=some x→x=n+i∧i<d
 |0,n,i,x,h=>by simp[upN]at h
 |d+1,n,0,x,h=>by simp[upN]at h;omega
 |d+1,n,i+1,x,h=>by
  simp only[upN,List.getElem?_cons_succ]at h
  have:=aJA d (n+1) i x h
  omega
theorem aw2:∀(d:Nat) (n:Int),(upN d n).length=d
 |0,_=>rfl
 |d+1,n=>by simp[upN,aw2 d]
def ReI(D:List ((Int × Int) × List Nat))(ob:Nat)(O:List Int)(v:AV)(h:aaL):Prop:=(∃x,h[ob]?=some (.live 2 true x (D.map fun x=>nvN x.1)))∧aAA 0 1 true (O.map iv) v h∧∀a b r n,v=.slr a b r n→b≠ob
theorem ReI.app{D:List ((Int × Int) × List Nat)}{ob:Nat}{O:List Int}{v:AV}{h:aaL}(I:ReI D ob O v h)(l:aaL):ReI D ob O v (h++l):=by
 obtain⟨⟨x,h1⟩,h2,h3⟩:=I
 exact⟨⟨x,aaO h1 l⟩,h2.app l,h3⟩
theorem ReI.snoc{D:List ((Int × Int) × List Nat)}{ob:Nat}{O:List Int}{v:AV}{h:aaL}(I:ReI D ob O v h)(s:Int)(l:aaL){n:Nat}(hn:n=h.length+l.length):ReI D ob (O++[s]) (.slr 1 n 0 (O.length+1)) (kl 0 v h++(l++[.live 1 true false (O.map iv++[[.int .i64 s]])])):=by
 obtain⟨⟨x,h1⟩,h2,h3⟩:=I
 have hkl:(kl 0 v h).length=h.length:=auK ..
 have h1l:=adM h1
 refine⟨⟨x,?_⟩,aAA.blk (b:=n) (w:=false) ?_ (by omega) (by simp),fun a b r k e=>by cases e;omega⟩
 ·rw[aiZ (by omega)]
  rcases h2 with⟨_,rfl⟩|⟨b,w,rfl,h2⟩
  ·exact h1
  ·simp only[kl]
   rw[adJ (fun e=>h3 _ _ _ _ rfl (by omega))];exact h1
 ·rw[ajP (by omega),ajP (by omega),hkl,show n-h.length-l.length=0 by omega]
  simp[iv]
theorem a87{m:aaW}(hs:m.small)(hm:adZ m=true):∃D nn,Fnd m (am6 m) D∧RdT om' 29 [.agg m.cells] [slv 1 true nn ((au6 m D).map iv),.int .i64 0] 10:=by
 have key:ClQ om' 29 [.agg m.cells] [] fun o h'=>∃D nn outs R,Fnd m (am6 m) D∧o=.ret (.tup outs)∧rdL (rd 6 (hf h')) outs=some ([slv 1 true nn ((au6 m D).map iv),.int .i64 0],R)∧R.length≤10∧∀c∈h',Rnm c:=by
  have h1:=aFV m hs
  rw[hm]at h1
  have hst:=asZ hm
  obtain⟨lv,sb,x,rows,Ro,es1,M1,a1,a2,_,_,a3,a4,a5,a6,a7⟩:=aVA hs hm (H:=[.live 7 false false [m.cells]]) rfl
  rw[show clH [CB.live 7 false false [m.cells]]=[CB.live 7 false false [m.cells]]from rfl]at a1
  obtain⟨D,ob,ox,mb,y,es2,M2,b1,b2,b3,b4,b5,_,_,_,b6,b7,b8⟩:=aVM hs hm (X:=am6 m) (by have:=aMK hm;omega) a6 a3
  obtain⟨xm,hm0⟩:=(a7 0 (by simp)).live ⟨false,rfl⟩
  obtain⟨xm2,hm2⟩:=(b8 0 (adM hm0)).live ⟨_,hm0⟩
  refine aTO rfl Try.func29 rfl rfl ?_
  simp only[Try.f29]
  refine hid (fun K iN hK=>?_)
  (have hb:=trivial;with_reducible repeat' (first|simp only[hb,Vc.down,seval,aLT.down,auO.down,h1,a1,a2,hm0,b1,b2,hm2,aa9]|refine fsp ?_ ?_<;>intro hb|refine fd ?_|fail))
  refine ahX (lst 48 (upN m.states.toNat 0) (fun i (_:Unit) t h=>∃v,t 6=.slr 2 ob 0 D.length∧t 8=v∧t 27=.int .i64 m.states∧t 28=.int .i64 i∧ReI D ob (((upN m.states.toNat 0).take i).filter (aBU D)) v h) (fun _ _=>()) (fun _ e t h=>e=.exit 0∧∃v,t 8=v∧ReI D ob (au6 m D) v h) ?_ ?_ () _ _ ?_) (fun e t h hk=>?_)
  ·rintro _ t h Q' kQ ⟨v,g6,g8,g27,g28,I⟩
   rw[aw2]at g28
   have hd:((m.states.toNat:Int)<m.states)=False:=eq_false (by omega)
   rw[azC]at I
   (have hb:=trivial;with_reducible repeat' (first|simp only[hb,Vc.down,seval,aLT.down,auO.down,g27,g28,hd]|refine fsp ?_ ?_<;>intro hb|refine fd ?_|fail))
   exact kQ _ _ _ ⟨rfl,v,by simp[up,g8],I⟩
  ·rintro s rest i _ t h J Q' kJ kQ hx hi ⟨v,g6,g8,g27,g28,I⟩
   rw[aw2]at hi
   obtain⟨hs0,_⟩:=aJA _ _ _ _ hx
   rw[Int.zero_add]at hs0
   have hd:((i:Int)<m.states)=True:=eq_true (by omega)
   have hw:=adL hi (show m.states.toNat≤maxLen by unfold maxLen;omega)
   have htk:((upN m.states.toNat 0).take (i+1)).filter (aBU D)=((upN m.states.toNat 0).take i).filter (aBU D)++if aBU D s=true then [s]else []:=by
    rw[azA,hx,List.filter_append]
    congr 1
    cases hh:aBU D s<;>simp[hh]
   generalize hO:((upN m.states.toNat 0).take i).filter (aBU D)=O at I htk
   have hOl:O.length≤8:=by
    rw[←hO]
    refine Nat.le_trans (List.length_filter_le _ _) ?_
    rw[List.length_take,aw2];omega
   subst hs0
   (have hb:=trivial;with_reducible repeat' (first|simp only[hb,Vc.down,seval,aLT.down,auO.down,g6,g8,g27,g28,hd]|refine fsp ?_ ?_<;>intro hb|refine fd ?_|fail))
   obtain⟨c,hc⟩:∃c:Int,(i:Int)=c:=⟨_,rfl⟩
   refine ahX (lst 48 D (fun k (_:Unit) t h'=>t 6=.slr 2 ob 0 D.length∧t 8=v∧t 9=.int .i64 (i:Int)∧t 27=.int .i64 m.states∧t 28=.int .i64 i∧t 31=.slr 2 ob 0 D.length∧t 32=.int .i64 D.length∧t 33=.int .i64 k∧ReI D ob O v h') (fun rest _=>aBU rest (i:Int)) (fun r e t h'=>t 6=.slr 2 ob 0 D.length∧t 27=.int .i64 m.states∧t 28=.int .i64 i∧((r=true∧e=.exit 1∧∃v',t 8=v'∧ReI D ob (O++[(i:Int)]) v' h')∨(r=false∧e=.exit 2∧t 8=v∧ReI D ob O v h'))) ?_ ?_ () _ _ ?_) (fun e t h' hk=>?_)
   ·rintro _ t h' Q2 kQ2 ⟨c6,c8,c9,c27,c28,c31,c32,c33,I2⟩
    (have hb:=trivial;with_reducible repeat' (first|simp only[hb,Vc.down,seval,aLT.down,auO.down,c31,c32,c33,Int.lt_irrefl,decide_false]|refine fsp ?_ ?_<;>intro hb|refine fd ?_|fail))
    exact kQ2 _ _ _ ⟨by simp[up,c6],by simp[up,c27],by simp[up,c28],.inr ⟨rfl,rfl,by simp[up,c8],I2⟩⟩
   ·rintro x rest k _ t h' J2 Q2 kJ2 kQ2 hx2 hk2 ⟨c6,c8,c9,c27,c28,c31,c32,c33,I2⟩
    obtain⟨⟨xo,ho⟩,own',hne⟩:=id I2
    have hd2:((k:Int)<(D.length:Int))=True:=eq_true (by omega)
    have hw2:=adL hk2 (show D.length≤maxLen by unfold maxLen;have:=aw9 hm b3;omega)
    have hap:=fun(q:aaL) (r:List AV)=>aPP own' (pre:=[]) rfl q r [] (by simp;omega)
    have hhp:=fun(q:aaL) (r:List (List AV)) (ba:Nat)=>aLK own' (pre:=[]) rfl q 1 true r ba
    simp only[as6]at hap hhp
    cases hp:(x.1.1==(i:Int))with
    |true=>
     (have hb:=trivial;with_reducible repeat' (first|simp only[hb,Vc.down,seval,aLT.down,auO.down,c6,c8,c9,c27,c28,c31,c32,c33,ho,hx2,nvN,hd2,hw2,hp,hap,hhp,aa9]|refine fsp ?_ ?_<;>intro hb|refine fd ?_|fail))
     exact kQ2 _ _ _ ⟨by simp[up,c6],by simp[up,c27],by simp[up,c28],.inl ⟨by simp[aBU,hp],rfl,.slr 1 (h'.length+2) 0 (O.length+1),by simp[up],I2.snoc (i:Int) [.live 2 true true [[.int .i64 x.1.1,.int .i64 x.1.2]],.live 1 true false [[.int .i64 (i:Int)]]] (by simp)⟩⟩
    |false=>
     (have hb:=trivial;with_reducible repeat' (first|simp only[hb,Vc.down,seval,aLT.down,auO.down,c6,c8,c9,c27,c28,c31,c32,c33,ho,hx2,nvN,hd2,hw2,hp,hap,hhp,aa9]|refine fsp ?_ ?_<;>intro hb|refine fd ?_|fail))
     exact adW (kJ2 _ _ () ⟨by simp[up,c6],by simp[up,c8],by simp[up,c9],by simp[up,c27],by simp[up,c28],by simp[up,c31],by simp[up,c32],by simp[up]<;>omega,I2.app _⟩ (by simp[aBU,hp]))
   ·exact⟨by simp[up,g6],by simp[up,g8],by simp[up],by simp[up,g27],by simp[up,g28],by simp[up],by simp[up],by simp[up],I⟩
   obtain⟨c6,c27,c28,⟨hr,rfl,v',c8,I2⟩|⟨hr,rfl,c8,I2⟩⟩:=hk
   ·rw[hr,if_pos rfl]at htk
    (have hb:=trivial;with_reducible repeat' (first|simp only[hb,Vc.down,seval,aLT.down,auO.down,c6,c8,c27,c28,hw]|refine fsp ?_ ?_<;>intro hb|refine fd ?_|fail))
    exact adW (kJ _ _ () ⟨v',by simp[up,c6],by simp[up,c8],by simp[up,c27],by simp[up]<;>omega,by rw[htk];exact I2⟩ rfl)
   ·rw[hr,if_neg (by simp),List.append_nil]at htk
    (have hb:=trivial;with_reducible repeat' (first|simp only[hb,Vc.down,seval,aLT.down,auO.down,c6,c8,c27,c28,hw]|refine fsp ?_ ?_<;>intro hb|refine fd ?_|fail))
    exact adW (kJ _ _ () ⟨v,by simp[up,c6],by simp[up,c8],by simp[up,c27],by simp[up]<;>omega,by rw[htk];exact I2⟩ rfl)
  ·exact⟨.nils,by simp[up],by simp[up],by simp[up],by simp[up],⟨ox,b4⟩,aAA.nil _ _ _ _,fun a b r n e=>by cases e⟩
  ·obtain⟨rfl,v,g8,⟨_,own,_⟩⟩:=hk
   obtain⟨nn,R,hR⟩:=aO1 own
   (have hb:=trivial;with_reducible repeat' (first|simp only[hb,Vc.down,seval,aLT.down,auO.down,g8]|refine fsp ?_ ?_<;>intro hb|refine fd ?_|fail))
   refine hK _ ?_
   rw[aKK]
   refine aPW (vs:=[v,.int .i64 0]) (by simp only[Vc.down,seval,aLT.down]) (aWJ (aC0 (hR 5).1 (aC0 (aV2 ..) aU5)) (by have:=(hR 5).2;simp;omega) rfl fun outs h' R' k1 k2 k3=>⟨D,nn,outs,R',b3,rfl,k1,by have:=(hR 5).2;simp at k2;omega,k3⟩)
 obtain⟨o,h',e,D,nn,outs,R,hF,rfl,k1,k2,k3⟩:=key
 exact⟨D,nn,hF,outs,h',R,e,k1,k2,k3⟩
structure PtH(m:aaW)(X:List (List Int × Int))(D:List ((Int × Int) × List Nat))(kb lb:Nat)(h:aaL):Prop where
 kb_:∃x mb,h[kb]?=some (.live 1 false x [[.mapr mb]])∧∃y,h[mb]?=some (amD (kvG kN y (D.map (·.1))))∧∀x∈D,y x.1=cmC m X x
 lb_:∃x lv,h[lb]?=some (.live 1 false x [[lv]])∧∃lo rows Ro,LLG 2 lo lv h rows (X.map fun x=>(tsc x).cells) Ro∧rows.length=X.length
theorem PtH.app{m:aaW}{X:List (List Int × Int)}{D:List ((Int × Int) × List Nat)}{kb lb:Nat}{h:aaL}(P:PtH m X D kb lb h){G:aaL}(hl:h.length≤G.length)(k:∀c,c<h.length→SmB h G c):PtH m X D kb lb G:=by
 obtain⟨⟨x,mb,h1,y,h2,h3⟩,⟨x',lv,h4,lo,rows,Ro,h5,h6⟩⟩:=P
 obtain⟨z,g⟩:=(k kb (adM h1)).live ⟨x,h1⟩
 obtain⟨z',g'⟩:=(k lb (adM h4)).live ⟨x',h4⟩
 exact⟨⟨z,mb,g,y,(k mb (adM h2)).map h2,h3⟩,⟨z',lv,g',lo,rows,Ro,h5.sm hl fun b _ hb=>k b hb,h6⟩⟩
theorem Leg.len{m:aaW}{X:List (List Int × Int)}(hX:aw4 m X){x:List Int × Int}(hx:x∈X):x.1.length=m.sens.length:=(hX.leg x hx).1
theorem bdW{X:List (List Int × Int)}{lo:Nat}{lv:AV}{h:aaL}{rows:List (List AV)}{Ro:List Nat}(L:LLG 2 lo lv h rows (X.map fun x=>(tsc x).cells) Ro)(hr:rows.length=X.length){a:Nat}{x:List Int × Int}(hx:X[a]?=some x):
 ∃b c w ob,lv=.slr 2 ob 0 X.length∧h[ob]?=some (.live 2 false w rows)∧rows[a]?=some [.slr 1 b 0 x.1.length,.int .i64 x.2]∧h[b]?=some c∧ae0 c=some (1,true,x.1.map iv):=by
 have hX:rows≠[]:=fun e=>by rw[e]at hr;have:=List.length_eq_zero_iff.1 hr.symm;subst this;simp at hx
 rcases L.own with⟨h1,_⟩|⟨ob,w,rfl,h2⟩
 ·exact absurd h1 hX
 obtain⟨r,R,r1,r2⟩:=aBK L.q (i:=a) (X:=(tsc x).cells) (by simp only[List.getElem?_map,hx];rfl)
 obtain⟨v0,l1,R1,R2,rfl,r3,r4,_⟩:=av7 (show rdL (rd 5 (hf h)) r=some (slv 1 true true (x.1.map iv)::[.int .i64 x.2],R)from r2)
 obtain⟨v1,l2,R3,R4,rfl,r5,r6,_⟩:=av7 r4
 obtain⟨rfl,_⟩:=aER r6
 obtain⟨rfl,_⟩:=aLB r5
 rcases aAC r3 with⟨rfl,e⟩|⟨b,rows',rfl,e2,e3,e4,_⟩
 ·rw[e]at r3
  simp[rd,slv]at r3
 ·obtain⟨c,c1,c2⟩:=Option.bind_eq_some_iff.1 e2
  rw[e4 rfl]at c2
  exact⟨b,c,w,ob,by rw[hr,Nat.add_zero],h2,by simpa using r1,c1,c2⟩
def PtR(m:aaW)(X:List (List Int × Int))(z:(Int × Int) × List Nat)(H:aaL)(o:Out)(G:aaL):Prop:=
 (z.2=[]∧o=.ret (.tup [.agg [.int .i64 z.1.1,.int .i64 z.1.2],.agg [.nils,.int .i64 0],.bool false]))∨
 ∃p a x cb w,z.2=p++[a]∧X[a]?=some x∧let u:=run (fun v i=>stp m v (gS X i)) (m.bgn,0) p
  o=.ret (.tup [.agg [.int .i64 u.1,.int .i64 u.2],.agg [.slr 1 cb 0 x.1.length,.int .i64 x.2],.bool true])∧G[cb]?=some (.live 1 true w (x.1.map iv))∧H.length≤cb
theorem aWE{m:aaW}(hm:adZ m=true){X:List (List Int × Int)}(hX:aw4 m X){D:List ((Int × Int) × List Nat)}(B:Fnd m X D){H:aaL}(hq:adK H=true){kb lb:Nat}(P:PtH m X D kb lb H){z:(Int × Int) × List Nat}(hz:z∈D):
 ShQ om' 64 [.agg [.int .i64 z.1.1,.int .i64 z.1.2],.ptr kb 0 0,.ptr lb 0 0] H fun o G=>(PtR m X z H o G∧∀c,c<H.length→SmB H G c)∧Wst H G∧adK G=true:=by
 obtain⟨⟨x1,mb,k1,y,k2,k3⟩,⟨x2,lv,k4,lo,rows,Ro,L,hr⟩⟩:=P
 have hin:z.1∈D.map (·.1):=alW.2 ⟨z,hz,rfl⟩
 have hlk:=fun l=>aZ8.lk_yes (ty:=100) (z:=.agg [.int .i64 0,.int .i64 0,.int .i64 0]) Try.underlying100 (by kernel_rfl) (aaO k2 l) (fun _ _=>trivial) hin false
 rw[k3 z hz]at hlk
 obtain⟨kz,hkz⟩:=ajS hz
 rcases List.eq_nil_or_concat z.2 with hw|⟨p,a,hw⟩
 ·have hc:cmC m X z=.agg [.int .i64 z.1.1,.int .i64 z.1.2,.int .i64 (-1)]:=by simp[cmC,hw]
  rw[hc]at hlk
  simp only[cond_false,kN]at hlk
  refine aDP rfl Try.func64 rfl rfl ?_
  simp only[Try.f64,ayC,as6]
  (have hb:=trivial;with_reducible repeat' (first|simp only[hb,Vc.down,seval,bc5.down,auO.down,aaO k1,hlk]|refine fsp ?_ ?_<;>intro hb|refine fd ?_|fail))
  exact⟨⟨.inl ⟨hw,rfl⟩,fun c hc=>(SmB.refl H c).app hc _⟩,(Wst.refl H).app _,adY hq rfl⟩
 ·rw[List.concat_eq_append]at hw
  have ha:=(B.way kz z hkz).2 a (by rw[hw];simp)
  obtain⟨x,hx⟩:∃x,X[a]?=some x:=⟨_,am1 ha⟩
  have hc:cmC m X z=.agg [.int .i64 (run (fun v i=>stp m v (gS X i)) (m.bgn,0) p).1,.int .i64 (run (fun v i=>stp m v (gS X i)) (m.bgn,0) p).2,.int .i64 (a:Int)]:=by simp[cmC,hw]
  rw[hc]at hlk
  obtain⟨u,hu⟩:∃u,run (fun v i=>stp m v (gS X i)) (m.bgn,0) p=u:=⟨_,rfl⟩
  rw[hu]at hlk
  simp only[cond_false,kN]at hlk
  have hlt:decide ((a:Int)<0)=false:=decide_eq_false (by omega)
  have hlt2:((a:Int)<0)=False:=eq_false (by omega)
  have hal:((a:Int)<(X.length:Int))=True:=eq_true (by omega)
  have ha0:((0:Int)≤(a:Int))=True:=eq_true (by omega)
  have hx6:x.1.length≤1000:=by have:=Leg.len hX (akQ hx);have:=aC8 hm;omega
  have hcl:=aQK x.1 hx6
  rw[aw6]at hcl
  obtain⟨b,c,w,ob,rfl,g1,g2,g3,g4⟩:=bdW L hr hx
  have htk:List.take x.1.length (x.1.map iv)=x.1.map iv:=List.take_of_length_le (by simp)
  have hbl:=adM g3
  obtain⟨sf,s1,sn,sk⟩:∃sf:Nat→Nat,sf b=1∧sf H.length=10∧∀k,sf (H.length+k)=k+10:=⟨fun b=>if H.length≤b then b-H.length+10 else 1,by simp;omega,by simp,fun k=>by simp⟩
  cases c with
  |live st fl w2 rs=>
   simp only[ae0,Option.some.injEq,Prod.mk.injEq]at g4
   obtain⟨rfl,rfl,rfl⟩:=g4
   refine aDP rfl Try.func64 rfl rfl ?_
   simp only[Try.f64,ayC,as6]
   (have hb:=trivial;with_reducible repeat' (first|simp only[hb,Vc.down,seval,bc5.down,auO.down,aaO k1,aaO k4,hlk,hlt,hlt2,hal,ha0,aaO g1,g2,aaO g3,hcl,htk,aa9]|refine fsp ?_ ?_<;>intro hb|((refine aHI (aDC (sf) ?_) ?_);(simp (discharger:=decide) only[aHT,aDI,anK,at6,aAP,aGA,aG9,aHO,aAS,aeU,anU,s1,sn,sk];kernel_rfl);intro _)|refine fdq ?_|fail))
   refine⟨⟨.inr ⟨p,a,x,H.length+5,false,hw,hx,?_,?_,by omega⟩,fun c hc=>(SmB.refl H c).app hc _⟩,(Wst.refl H).app _,adY hq rfl⟩
   ·rw[hu]
   ·rw[ajP (by omega),arO];rfl
  |frz st fl rs=>
   simp only[ae0,Option.some.injEq,Prod.mk.injEq]at g4
   obtain⟨rfl,rfl,rfl⟩:=g4
   refine aDP rfl Try.func64 rfl rfl ?_
   simp only[Try.f64,ayC,as6]
   (have hb:=trivial;with_reducible repeat' (first|simp only[hb,Vc.down,seval,bc5.down,auO.down,aaO k1,aaO k4,hlk,hlt,hlt2,hal,ha0,aaO g1,g2,aaO g3,hcl,htk,aa9]|refine fsp ?_ ?_<;>intro hb|((refine aHI (aDC (sf) ?_) ?_);(simp (discharger:=decide) only[aHT,aDI,anK,at6,aAP,aGA,aG9,aHO,aAS,aeU,anU,s1,sn,sk];kernel_rfl);intro _)|refine fdq ?_|fail))
   refine⟨⟨.inr ⟨p,a,x,H.length+5,false,hw,hx,?_,?_,by omega⟩,fun c hc=>(SmB.refl H c).app hc _⟩,(Wst.refl H).app _,adY hq rfl⟩
   ·rw[hu]
   ·rw[ajP (by omega),arO];rfl
  |_=>simp[ae0]at g4
def rwQ(q:AV × AV):List AV:=[q.1,q.2]
def Rv{A:Type}(i:Nat)(L Q:List A):Prop:=L.length=Q.length∧∀k,k<Q.length→L[k]?=if k<i∨Q.length<i+k+1 then Q[Q.length-1-k]? else Q[k]?
theorem Rv.start{A:Type}(Q:List A):Rv 0 Q Q:=⟨rfl,fun k hk=>by rw[if_neg (by omega)]⟩
theorem Rv.fin{A:Type}{i j:Nat}{L Q:List A}(h:Rv i L Q)(hij:i+j+1=Q.length)(hle:j≤i):L=Q.reverse:=by
 apply List.ext_getElem?
 intro k
 by_cases hk:k<Q.length
 ·rw[h.2 k hk,List.getElem?_reverse hk]
  split
  ·rfl
  ·congr 1;omega
 ·rw[ayB (by rw[h.1];omega),ayB (by simp;omega)]
theorem Rv.step{A:Type}{i j:Nat}{L Q:List A}(h:Rv i L Q)(hij:i+j+1=Q.length)(hlt:i<j){a b:A}(ha:L[i]?=some a)(hb:L[j]?=some b):Rv (i+1) ((L.set i b).set j a) Q:=by
 refine⟨by simp[h.1],fun k hk=>?_⟩
 have hi:=h.2 i (by omega)
 have hj:=h.2 j (by omega)
 rw[if_neg (by omega)]at hi hj
 by_cases e1:k=j
 ·subst e1
  rw[adE (by simp[h.1];omega),if_pos (by omega),←ha,hi]
  congr 1;omega
 ·rw[adJ (fun e=>e1 e.symm)]
  by_cases e2:k=i
  ·subst e2
   rw[adE (by rw[h.1];omega),if_pos (by omega),←hb,hj]
   congr 1;omega
  ·rw[adJ (fun e=>e2 e.symm),h.2 k hk]
   by_cases e3:k<i∨Q.length<i+k+1
   ·rw[if_pos e3,if_pos (by omega)]
   ·rw[if_neg e3,if_neg (by omega)]
theorem aW8{H:aaL}(hq:adK H=true){b:Nat}{w:Bool}{Q:List (AV × AV)}(hB:H[b]?=some (.live 2 false w (Q.map rwQ)))(hc:∀q∈Q,q.1.isCell=true∧q.2.isCell=true)(h1:1≤Q.length)(h2:Q.length≤1000):
 ShQ om' 83 [.slr 2 b 0 Q.length] H fun o G=>((o=.ret (.tup [])∧∃w',G[b]?=some (.live 2 false w' (Q.reverse.map rwQ)))∧∀c,c<H.length→c≠b→SmB H G c)∧Wst H G∧adK G=true:=by
 have hbl:=adM hB
 refine aDP rfl Try.func83 rfl rfl ?_
 simp only[Try.f83]
 have hw1:IntKind.i64.wrap ((Q.length:Int)-1)=((Q.length-1:Nat):Int):=by rw[ajR (by omega) (by omega)];omega
 (have hb:=trivial;with_reducible repeat' (first|simp only[hb,Vc.down,seval,aUP.down,hw1,aa9]|refine fsp ?_ ?_<;>intro hb|refine fd ?_|fail))
 refine ahX (cnt 28 (fun n (_:Unit) t h=>∃i j L w',n+i=Q.length∧i+j+1=Q.length∧Rv i L Q∧t 0=.slr 2 b 0 Q.length∧t 2=.int .i64 i∧t 3=.int .i64 j∧h[b]?=some (.live 2 false w' (L.map rwQ))∧(∀c,c≠b→h[c]?=H[c]?)∧h.length=H.length∧Wst H h∧adK h=true) (fun _ _=>()) (fun _ e t h=>e=.exit 0∧(∃w',h[b]?=some (.live 2 false w' (Q.reverse.map rwQ)))∧(∀c,c≠b→h[c]?=H[c]?)∧Wst H h∧adK h=true) ?_ ?_ Q.length () _ _ ?_) (fun e t h hk=>?_)
 ·rintro _ t h Q' kQ ⟨i,j,L,w',c1,c2,_⟩
  omega
 ·rintro n _ t h J Q' kJ kQ ⟨i,j,L,w',c1,c2,c3,c4,c5,c6,c7,c8,c9,c10,c11⟩
  by_cases hij:i<j
  ·have hd:((i:Int)<(j:Int))=True:=eq_true (by omega)
   have hil:((i:Int)<(Q.length:Int))=True:=eq_true (by omega)
   have hjl:((j:Int)<(Q.length:Int))=True:=eq_true (by omega)
   obtain⟨⟨a1,a2⟩,hai⟩:∃a,L[i]?=some a:=⟨_,am1 (by rw[c3.1];omega)⟩
   obtain⟨⟨b1,b2⟩,hbj⟩:∃a,L[j]?=some a:=⟨_,am1 (by rw[c3.1];omega)⟩
   have hmem:∀q∈L,q.1.isCell=true∧q.2.isCell=true:=fun q hq=>by
    obtain⟨k,hk⟩:=ajS hq
    have hkl:=(awM.1 hk).1
    rw[c3.2 k (by rw[←c3.1];exact hkl)]at hk
    split at hk<;>exact hc q (akQ hk)
   obtain⟨ca1,ca2⟩:=hmem _ (akQ hai)
   obtain⟨cb1,cb2⟩:=hmem _ (akQ hbj)
   simp only at ca1 ca2 cb1 cb2
   have hs1:(L.map rwQ).set i [b1,b2]=(L.set i (b1,b2)).map rwQ:=by rw[List.map_set];rfl
   have hs2:((L.set i (b1,b2)).map rwQ).set j [a1,a2]=((L.set i (b1,b2)).set j (a1,a2)).map rwQ:=(List.map_set (f:=rwQ) (l:=L.set i (b1,b2)) (i:=j) (a:=(a1,a2))).symm
   have hbl2:=adM c7
   have hgs:∀c:CB,(h.set b c)[b]?=some c:=fun c=>adE hbl2
   have hgj:(L.set i (b1,b2))[j]?=some (b1,b2):=by rw[adJ (by omega)];exact hbj
   have hwi:IntKind.i64.wrap ((i:Int)+1)=((i+1:Nat):Int):=by rw[ajR (by omega) (by omega)];omega
   have hwj:IntKind.i64.wrap ((j:Int)-1)=((j-1:Nat):Int):=by rw[ajR (by omega) (by omega)];omega
   (have hb:=trivial;with_reducible repeat' (first|simp only[hb,Vc.down,seval,aUP.down,c4,c5,c6,c7,hd,hil,hjl,hai,hbj,rwQ,ca1,ca2,cb1,cb2,hs1,hs2,hgs,hgj,hwi,hwj,aa9]|refine fsp ?_ ?_<;>intro hb|refine fd ?_|fail))
   refine adW (kJ _ _ () ⟨i+1,j-1,(L.set i (b1,b2)).set j (a1,a2),true,by omega,by omega,c3.step c2 hij hai hbj,by simp[up,c4],by simp[up],by simp[up],adE (by simpa using hbl2),fun c hc=>?_,by simp[c9],?_,aeX (aeX c11 _ rfl) _ rfl⟩ rfl)
   ·rw[adJ (fun e=>hc e.symm),adJ (fun e=>hc e.symm),c8 c hc]
   ·exact(c10.put c7 2 false _).put (adE hbl2) 2 false _
  ·have hd:((i:Int)<(j:Int))=False:=eq_false (by omega)
   (have hb:=trivial;with_reducible repeat' (first|simp only[hb,Vc.down,seval,aUP.down,c4,c5,c6,hd]|refine fsp ?_ ?_<;>intro hb|refine fd ?_|fail))
   exact kQ _ _ _ ⟨rfl,⟨w',by rw[←c3.fin c2 (by omega)];exact c7⟩,c8,c10,c11⟩
 ·exact⟨0,Q.length-1,Q,w,by omega,by omega,Rv.start Q,by simp[up,ent],by simp[up],by simp[up],hB,fun _ _=>rfl,rfl,Wst.refl H,hq⟩
 ·obtain⟨rfl,hw',c8,c10,c11⟩:=hk
  (have hb:=trivial;with_reducible repeat' (first|simp only[hb,Vc.down,seval,aUP.down]|refine fsp ?_ ?_<;>intro hb|refine fd ?_|fail))
  exact⟨⟨hw',fun c _ hc=>SmB.of (c8 c hc)⟩,c10,c11⟩
end Go.Proofs.Ytfkokgjfpojeoaa
