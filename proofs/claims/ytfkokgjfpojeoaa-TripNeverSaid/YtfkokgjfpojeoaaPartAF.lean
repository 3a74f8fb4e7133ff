/- The functions of the layer, walked. -/
import Derived.Test.YtfkokgjfpojeoaaPartAE
import Derived.Test.YtfkokgjfpojeoaaLibE
import Derived.Test.YtfkokgjfpojeoaaPartAC
open List renaming length_map→aa9,getElem?_append_right→adJ,mem_of_getElem?→aeU,length_set→ajP,getElem?_of_mem→ajS,foldl_cons→akQ,length_cons→alW,length_take→am1,append_nil→anK,length_zip→anU,length_eq_zero_iff→arO,mem_cons→arP,length_append→as6,all_eq_true→at6,mem_map→auT,any_eq_true→au3,reverse_cons→awE,mem_append→awM,getElem?_eq_some_iff→awY,getElem?_append_left→ayB,map_append→ayC,find?_cons→ayE,mem_cons_of_mem→ayR,flatMap_cons→ayS,take_add_one→ayU,length_nil→ayY,mem_filter→azA,length_filter_le→azC,getElem?_eq_getElem→azS,zip_cons_cons→aBS,length_range→aFX
open Int renaming lt_irrefl→adE
open Bool renaming and_eq_true→aiZ
open Nat renaming min_eq_left→aBT,min_eq_right→aDB
set_option linter.unusedSimpArgs false
set_option linter.unusedVariables false
namespace Go.Proofs.Ytfkokgjfpojeoaa
open Go.Ev Go Go.Ev.Bfs
set_option maxRecDepth 100000
set_option maxHeartbeats 16000000
theorem aK6{f:AV→Option (AV × List Nat)}:∀{l:List (List AV)} {p:List (List AV) × List Nat},ah6 f l=some p→∃R',ah6 f l.reverse=some (p.1.reverse,R')∧(∀b,b∈R'→b∈p.2)∧R'.length=p.2.length
 | [],p,h=>by simp[ah6]at h;subst h;exact⟨[],rfl,by simp,rfl⟩
 |r::l,p,h=>by
  simp only[ah6,Option.bind_eq_some_iff,Option.map_eq_some_iff]at h
  obtain⟨q,hq,s,hs,rfl⟩:=h
  obtain⟨R',k1,k2,k3⟩:=aK6 hs
  refine⟨R'++q.2,by rw[awE,aC3 k1 hq];simp,fun b hb=>?_,by simp[k3];omega⟩
  rcases awM.1 hb with hb|hb
  ·exact List.mem_append_right _ (k2 b hb)
  ·exact List.mem_append_left _ hb
theorem aUW:om'.call (.fn 83) [.nils] []=some (.ret (.tup []),[]):=by
 have hwm:IntKind.i64.wrap (0-1)= -1:=by decide
 have hwm2:IntKind.i64.wrap (-1)= -1:=by decide
 (refine ce Try.func83 ?_;simp only[Try.f83];(have hb:=trivial;with_reducible repeat' (first|simp only[hb,Vc.down,seval,aUP.down,hwm,hwm2]|refine fsp ?_ ?_<;>intro hb|refine fd ?_|fail)))
 refine ahX (lst 28 ([]:List Unit) (fun i (_:Unit) t h=>t 2=.int .i64 0∧t 3=.int .i64 (-1)∧h=[]) (fun _ _=>()) (fun _ e t h=>e=.exit 0∧h=[]) ?_ ?_ () _ _ ?_) (fun e t h hk=>?_)
 ·rintro _ t h Q' kQ ⟨c2,c3,rfl⟩
  (have hb:=trivial;with_reducible repeat' (first|simp only[hb,Vc.down,seval,aUP.down,c2,c3]|refine fsp ?_ ?_<;>intro hb|refine fd ?_|fail))
  exact kQ _ _ _ ⟨rfl,rfl⟩
 ·rintro x rest i _ t h J Q' kJ kQ hx
  simp at hx
 ·exact⟨by simp[up],by simp[up],rfl⟩
 ·obtain⟨rfl,rfl⟩:=hk
  (have hb:=trivial;with_reducible repeat' (first|simp only[hb,Vc.down,seval,aUP.down]|refine fsp ?_ ?_<;>intro hb|refine fd ?_|fail))
theorem aJH{α:Type}{l:List α}{k:Nat}{x:α}(h:l[k]?=some x):k<l.length:=(awY.1 h).1
theorem aU7{V:Type}{step:V→Nat→V}{n:Nat}{v0:V}{D:List (V × List Nat)}{i j:Nat}(B:BF step n v0 D i j):∀(k:Nat) (x:V × List Nat),D[k]?=some x→x.2.length≤k:=by
 intro k
 induction k using Nat.strongRecOn with
 |_ k ih=>
  intro x hx
  by_cases h0:k=0
  ·subst h0;rw[B.hd]at hx;cases hx;simp
  ·obtain⟨k',u,p,a,h1,h2,rfl,_,_⟩:=B.par k x hx h0
   have:=ih k' h1 _ h2
   simp only at this
   simp;omega
structure BkI(m:aaW)(X:List (List Int × Int))(D:List ((Int × Int) × List Nat))(kb lb:Nat)(H:aaL)(z0 z:(Int × Int) × List Nat)(r:List Nat)(ov:AV)(h:aaL):Prop where
 zD:z∈D
 zr:z0.2=z.2++r
 nd:∃x,h[H.length]?=some (.live 2 true x [nvN z.1])
 L:∃(Q:List (AV × AV)) (Ro:List Nat),LLG 2 (H.length+1) ov h (Q.map rwQ) (r.reverse.map fun a=>(tsc (gS X a)).cells) Ro∧(Q.length=r.length∧Ro.length≤r.length)∧∀q∈Q,q.1.isCell=true∧q.2.isCell=true
 w:Wst H h
 q:adK h=true
 k:∀c,c<H.length→SmB H h c
def BkR(m:aaW)(X:List (List Int × Int))(H:aaL)(w:List Nat)(o:Out)(G:aaL):Prop:=∃(ov:AV) (Q:List (AV × AV)) (Ro:List Nat),o=.ret ov∧LLG 2 (H.length+1) ov G (Q.map rwQ) (w.map fun a=>(tsc (gS X a)).cells) Ro∧Q.length=w.length∧Ro.length≤w.length
theorem baN{m:aaW}(hm:adZ m=true){X:List (List Int × Int)}(hX:aw4 m X){D:List ((Int × Int) × List Nat)}(B:Fnd m X D){H:aaL}(hq:adK H=true){kb lb:Nat}(P:PtH m X D kb lb H){z0:(Int × Int) × List Nat}(hz0:z0∈D):
 ShQ om' 63 [.agg [.int .i64 z0.1.1,.int .i64 z0.1.2],.func (.func 64) [] [.ptr kb 0 0,.ptr lb 0 0]] H fun o G=>(BkR m X H z0.2 o G∧∀c,c<H.length→SmB H G c)∧Wst H G∧adK G=true:=by
 refine aDP rfl Try.func63 rfl rfl ?_
 simp only[Try.f63]
 (have hb:=trivial;with_reducible repeat' (first|simp only[hb,Vc.down,seval,a06.down,auO.down,aa9]|refine fsp ?_ ?_<;>intro hb|refine fd ?_|fail))
 have st0:BkI m X D kb lb H z0 z0 [] .nils (H++[.live 2 true false [nvN z0.1]]):=⟨hz0,by simp,⟨false,by simp⟩,⟨[],[],LLG.none,⟨rfl,by simp⟩,by simp⟩,(Wst.refl H).app _,adY hq rfl,fun c hc=>(SmB.refl H c).app hc _⟩
 refine ahX (cnt 26 (fun n (_:Unit) t h=>∃z r ov,z.2.length=n∧t 1=.func (.func 64) [] [.ptr kb 0 0,.ptr lb 0 0]∧t 2=.ptr H.length 0 0∧t 5=ov∧BkI m X D kb lb H z0 z r ov h) (fun _ _=>()) (fun _ e t h=>e=.ret∧BkR m X H z0.2 (.ret (t 4)) h∧(∀c,c<H.length→SmB H h c)∧Wst H h∧adK h=true) ?_ ?_ z0.2.length () _ _ ?_) (fun e t h hk=>?_)
 ·rintro _ t h Q' kQ ⟨z,r,ov,hn,g1,g2,g5,I⟩
  have hz2:z.2=[]:=arO.1 hn
  obtain⟨xn,nd⟩:=I.nd
  obtain⟨o,G,es,M,a1,a2,⟨hR,sm⟩,a4,a5,a6⟩:=avT (O:=om') (H:=h) I.q (aWE hm hX B (ak1 I.q) (P.app (by rw[aeL];exact I.w.1) fun c hc=>(I.k c hc).eqR (ak3 h).symm) I.zD)
  have ho:o=.ret (.tup [.agg [.int .i64 z.1.1,.int .i64 z.1.2],.agg [.nils,.int .i64 0],.bool false]):=by
   rcases hR with⟨_,h⟩|⟨p,a,x,cb,w,e,_⟩
   ·exact h
   ·rw[hz2]at e;simp at e
  subst ho
  have smM:∀c,c<h.length→SmB h M c:=fun c hc=>(((SmB.refl h c).eqR (ak3 h).symm).trans (sm c (by rw[aeL];exact hc))).eqR a4.symm
  obtain⟨Q,Ro,L,⟨hQ,hRl⟩,hcell⟩:=I.L
  have LM:=L.sm a5.1 fun b _ hb=>smM b hb
  have hzr:z0.2=r:=by rw[I.zr,hz2];rfl
  have hlo:H.length≤h.length:=I.w.1
  rcases LM.own with⟨h1,rfl⟩|⟨b,wb,rfl,hb⟩
  ·have hQ0:Q=[]:=List.map_eq_nil_iff.1 h1
   subst hQ0
   have hr0:r=[]:=arO.1 hQ.symm
   have hrv:=aUW
   (have hb:=trivial;with_reducible repeat' (first|simp only[hb,Vc.down,seval,a06.down,auO.down,g1,g2,g5,nd,nvN,a1,a2,hrv,aa9]|refine fsp ?_ ?_<;>intro hb|refine fd ?_|fail))
   refine kQ _ _ _ ⟨rfl,⟨.nils,[],[],by simp[up],by rw[hzr,hr0];exact LLG.none,by rw[hzr,hr0];rfl,by simp⟩,fun c hc=>((I.k c hc).trans (smM c (by omega))).app (by have:=a5.1;omega) _,(I.w.trans a5).app _,adY a6 rfl⟩
  ·rw[aa9]at *
   have hQ1:1≤Q.length:=by
    rcases Nat.eq_zero_or_pos Q.length with h0|h0
    ·have:=LM.nil (by rw[arO.1 h0];rfl);cases this
    ·exact h0
   have hl9:z0.2.length≤1000:=by
    have:=aw9 hm B
    obtain⟨k0,hk0⟩:=ajS hz0
    have:=aU7 B k0 z0 hk0
    have:=aJH hk0
    omega
   obtain⟨K2,hK2⟩:∃K2,M++[CB.live 2 true true [[.int .i64 z.1.1,.int .i64 z.1.2]],.live 2 false true [[.nils,.int .i64 0]]]=K2:=⟨_,rfl⟩
   have hcl:clH (M++[CB.live 2 true true [[.int .i64 z.1.1,.int .i64 z.1.2]],.live 2 false true [[.nils,.int .i64 0]]])=clH M++[CB.live 2 true false [[.int .i64 z.1.1,.int .i64 z.1.2]],.live 2 false false [[.nils,.int .i64 0]]]:=by simp[clH,CB.clean]
   have hqK:adK K2=true:=by rw[←hK2];exact adY a6 rfl
   have kb2:K2[b]?=some (.live 2 false wb (Q.map rwQ)):=by rw[←hK2];exact aaO hb _
   obtain⟨o,G3,es3,M3,b1,b2,⟨⟨rfl,w3,b7⟩,b8⟩,b4,b5,b6⟩:=avT (O:=om') (H:=K2) (f:=83) (args:=[.slr 2 b 0 Q.length]) hqK (aW8 (ak1 hqK) (auJ kb2) hcell hQ1 (by rw[hQ,←hzr];exact hl9))
   obtain⟨w4,b9⟩:=an0 b4.symm ⟨_,b7⟩
   have sm3:∀c,c<M.length→c≠b→SmB M M3 c:=fun c c1 c2=>by
    have e1:SmB M K2 c:=by rw[←hK2];exact(SmB.refl M c).app c1 _
    exact(e1.trans ((((SmB.refl _ c).eqR (ak3 _).symm).trans (b8 c (by rw[aeL,←hK2];simp;omega) c2)))).eqR b4.symm
   obtain⟨d1,d2,d3⟩:=LM.dov _ _ _ _ rfl
   obtain⟨R',r1,r2,r3⟩:=aK6 (ay1 (g':=hf M3) LM.q fun j hj zz hz=>(sm3 j (aAG (by omega) LM.q j hj) (fun e=>d2 (e▸hj))).rows hz)
   rw[←hK2,hcl]at b1
   rw[←hK2]at b2
   (have hb:=trivial;with_reducible repeat' (first|simp only[hb,Vc.down,seval,a06.down,auO.down,g1,g2,g5,nd,nvN,a1,a2,b1,b2,aa9]|refine fsp ?_ ?_<;>intro hb|refine fd ?_|fail))
   refine kQ _ _ _ ⟨rfl,⟨.slr 2 b 0 Q.length,Q.reverse,R',by simp[up],⟨aAA.blk b9 rfl (by simp),fun e=>by simp at e;rw[e]at hQ1;simp at hQ1,?_,fun c hc=>LM.dx c (r2 c hc),fun a' b' r' n' e=>by cases e;exact⟨d1,fun hb=>d2 (r2 _ hb),adM b9⟩⟩,by rw[hzr];simp[hQ],by rw[hzr,r3];exact hRl⟩,fun c hc=>((I.k c hc).trans (smM c (by omega))).trans (sm3 c (by have:=a5.1;omega) (by omega)),((I.w.trans a5).app _).trans (by rw[hK2];exact b5),b6⟩
   rw[hzr,List.map_reverse (f:=rwQ)]
   rw[show r.map (fun a=>(tsc (gS X a)).cells)=(r.reverse.map fun a=>(tsc (gS X a)).cells).reverse from by simp]
   exact r1
 ·rintro n _ t h J Q' kJ kQ ⟨z,r,ov,hn,g1,g2,g5,I⟩
  obtain⟨xn,nd⟩:=I.nd
  obtain⟨o,G,es,M,a1,a2,⟨hR,sm⟩,a4,a5,a6⟩:=avT (O:=om') (H:=h) I.q (aWE hm hX B (ak1 I.q) (P.app (by rw[aeL];exact I.w.1) fun c hc=>(I.k c hc).eqR (ak3 h).symm) I.zD)
  rcases hR with⟨e,_⟩|⟨p,a,x,cb,w,e,hx,rfl,hcb,hcl⟩
  ·rw[e]at hn;simp at hn
  obtain⟨u,hu⟩:∃u,run (fun v i=>stp m v (gS X i)) (m.bgn,0) p=u:=⟨_,rfl⟩
  rw[hu]at a1
  have smM:∀c,c<h.length→SmB h M c:=fun c hc=>(((SmB.refl h c).eqR (ak3 h).symm).trans (sm c (by rw[aeL];exact hc))).eqR a4.symm
  obtain⟨Q,Ro,L,⟨hQ,hRl⟩,hcell⟩:=I.L
  have LM:=L.sm a5.1 fun b _ hb=>smM b hb
  have hlo:H.length<h.length:=adM nd
  have hMl:=a5.1
  have hl9:r.length≤100:=by
   obtain⟨k0,hk0⟩:=ajS hz0
   have:=aU7 B k0 z0 hk0
   have:=aJH hk0
   have:=aw9 hm B
   have h1:z0.2.length=z.2.length+r.length:=by rw[I.zr];simp
   omega
  obtain⟨w5,hcb2⟩:=an0 a4.symm ⟨_,hcb⟩
  rw[aeL]at hcl
  have own':=LM.own
  have hap:=fun(q:aaL) (r:List AV)=>aPP own' (pre:=[]) rfl q r [] (by simp;omega)
  have hhp:=fun(q:aaL) (r:List (List AV)) (ba:Nat)=>aLK own' (pre:=[]) rfl q 2 false r ba
  simp only[List.nil_append]at hap hhp
  obtain⟨xp,ndM⟩:=(smM H.length hlo).live ⟨_,nd⟩
  have hdov:∀a b r n,ov=.slr a b r n→H.length<b:=fun a b r n e=>(LM.dov a b r n e).1
  have hkg:∀l,(kl 0 ov M++l)[H.length]?=some (.live 2 true xp [nvN z.1]):=fun l=>by
   rw[ayB (by rw[auK];omega)]
   rcases own' with⟨_,rfl⟩|⟨b,wb,rfl,hb⟩
   ·exact ndM
   ·simp only[kl]
    rw[List.getElem?_set_ne (fun e=>by have:=hdov _ _ _ _ rfl;omega)];exact ndM
  have hks:∀l c,(kl 0 ov M++l).set H.length c=(kl 0 ov M).set H.length c++l:=fun l c=>au8 (by rw[auK];omega) l c
  have hkM:∀(l:aaL) (k:Nat),(kl 0 ov M++l)[M.length+k]?=l[k]?:=fun l k=>by
   rw[adJ (by rw[auK];omega),auK,Nat.add_sub_cancel_left]
  have hkM0:∀(l:aaL),(kl 0 ov M++l)[M.length]?=l[0]?:=fun l=>hkM l 0
  have F:∀l:aaL,l.length=3→adK l=true→BkI m X D kb lb H z0 (u,p) (a::r) (.slr 2 (M.length+3) 0 (Q.length+1)) ((kl 0 ov M).set H.length (.live 2 true true [nvN u])++(l++[.live 2 false false (Q.map rwQ++[[.slr 1 cb 0 x.1.length,.int .i64 x.2]])])):=fun l hl hlq=>by
   have hkl:Wst H (kl 0 ov M)∧∀c,c<M.length→c∉scB ov→SmB M (kl 0 ov M) c:=by
    rcases own' with⟨_,rfl⟩|⟨b,wb,rfl,hb⟩
    ·exact⟨I.w.trans a5,fun c _ _=>SmB.refl M c⟩
    ·exact⟨(I.w.trans a5).kill hb,fun c _ hc=>(SmB.refl M c).set (fun e=>hc (by simp[scB];omega)) _⟩
   have hkp:(kl 0 ov M)[H.length]?=some (.live 2 true xp [nvN z.1]):=by
    have:=hkg []
    simpa [nvN]using this
   have hsc:∀b∈scB ov,H.length<b:=fun b hb=>by
    rcases own' with⟨_,rfl⟩|⟨b',wb,rfl,hb'⟩
    ·simp[scB]at hb
    ·have:=hdov _ _ _ _ rfl
     simp[scB]at hb;omega
   have hRo:∀j∈Ro,j∉scB ov:=fun j hj hb=>by
    rcases own' with⟨_,rfl⟩|⟨b',wb,rfl,hb'⟩
    ·simp[scB]at hb
    ·have:=(LM.dov _ _ _ _ rfl).2.1
     simp[scB]at hb
     exact this (by rw[Nat.add_zero,←hb];exact hj)
   have smG:∀c,c<M.length→c≠H.length→c∉scB ov→SmB M ((kl 0 ov M).set H.length (.live 2 true true [nvN u])++(l++[.live 2 false false (Q.map rwQ++[[.slr 1 cb 0 x.1.length,.int .i64 x.2]])])) c:=fun c c1 c2 c3=>((hkl.2 c c1 c3).set (fun e=>c2 e.symm) _).app (by simp[auK];omega) _
   have hcbM:cb<M.length:=adM hcb2
   obtain⟨kz,hkz⟩:=ajS I.zD
   obtain⟨k',u',q1,q2,q3,q4⟩:=B.pre (v:=z.1) (p:=p) (a:=a) (by rw[hkz,←e])
   have hu':u'=u:=by have:=(B.way _ _ q2).1;simp only at this;rw[←this,hu]
   subst hu'
   have hgs:gS X a=x:=aJ6 hx
   have hcbs:cb∉scB ov:=fun hb=>by
    rcases L.own with⟨_,rfl⟩|⟨b',wb,rfl,hb'⟩
    ·simp[scB]at hb
    ·have:=(L.dov _ _ _ _ rfl).2.2
     simp[scB]at hb;omega
   obtain⟨w6,gcb⟩:=(smG cb hcbM (by omega) hcbs).live ⟨_,hcb2⟩
   have gnew:((kl 0 ov M).set H.length (.live 2 true true [nvN u'])++(l++[.live 2 false false (Q.map rwQ++[[.slr 1 cb 0 x.1.length,.int .i64 x.2]])]))[M.length+3]?=some (.live 2 false false (Q.map rwQ++[[.slr 1 cb 0 x.1.length,.int .i64 x.2]])):=by
    rw[adJ (by simp[auK]),adJ (by simp[auK];omega)]
    simp[auK,hl]
   have hrd:rdL (rd 5 (hf ((kl 0 ov M).set H.length (.live 2 true true [nvN u'])++(l++[.live 2 false false (Q.map rwQ++[[.slr 1 cb 0 x.1.length,.int .i64 x.2]])])))) [.slr 1 cb 0 x.1.length,.int .i64 x.2]=some ((tsc x).cells,[cb]):=by
    have:=aC0 (f:=rd 5 (hf ((kl 0 ov M).set H.length (.live 2 true true [nvN u'])++(l++[.live 2 false false (Q.map rwQ++[[.slr 1 cb 0 x.1.length,.int .i64 x.2]])])))) (a9J (d:=4) (st:=1) (b:=cb) (n:=x.1.length) (rows:=x.1.map iv) (by show(Option.bind _ ae0)=_;rw[show hf _ cb=_ from gcb];rfl) (by simp)) (aC0 (aV2 (d:=4) .i64 x.2) aU5)
    simpa [aeH.cells,tsc,aw6]using this
   refine⟨aeU q2,by rw[I.zr,e];simp,⟨true,?_⟩,⟨Q++[(.slr 1 cb 0 x.1.length,.int .i64 x.2)],Ro++[cb],?_,⟨by simp[hQ],by simp;omega⟩,fun q hq2=>?_⟩,((hkl.1.put hkp 2 true _).app _),adY (aeX (aWY a6) _ rfl) (adY hlq rfl),fun c hc=>((I.k c hc).trans (smM c (by omega))).trans (smG c (by omega) (by omega) fun hb=>by have:=hsc c hb;omega)⟩
   ·rw[ayB (by simp[auK];omega),List.getElem?_set_self (by simp[auK];omega)]
   ·have:=LM.step gnew (fun j hj zz hz=>(smG j (aAG (by omega) LM.q j hj) (by have:=LM.dx j hj;omega) (hRo j hj)).rows hz) hrd (fun b hb=>by simp at hb;subst hb;exact⟨by omega,by omega⟩) (show H.length+1≤M.length+3 by omega) (fun hb=>by have:=aAG (by omega) LM.q _ hb;omega) (n:=Q.length+1) (by simp)
    rw[ayC,awE,ayC]
    simpa [rwQ,hgs]using this
   ·rcases awM.1 hq2 with hq2|hq2
    ·exact hcell q hq2
    ·simp at hq2;subst hq2;exact⟨rfl,rfl⟩
  simp only[nvN]at hkg
  (have hb:=trivial;with_reducible repeat' (first|simp only[hb,Vc.down,seval,a06.down,auO.down,g1,g2,g5,nd,nvN,a1,a2,hap,hhp,hkg,hks,hkM,hkM0,aa9]|refine fsp ?_ ?_<;>intro hb|refine fd ?_|fail))
  exact adW (kJ _ _ () ⟨(u,p),a::r,.slr 2 (M.length+3) 0 (Q.length+1),by rw[e]at hn;simpa using hn,by simp[up,g1],by simp[up,g2],by simp[up],F [.live 2 true true [[.int .i64 u.1,.int .i64 u.2]],.live 2 false true [[.slr 1 cb 0 x.1.length,.int .i64 x.2]],.live 2 false false [[.slr 1 cb 0 x.1.length,.int .i64 x.2]]] rfl rfl⟩ rfl)
 ·exact⟨z0,[],.nils,rfl,by simp[up,ent],by simp[up],by simp[up],st0⟩
 ·obtain⟨rfl,hR,k1,k2,k3⟩:=hk
  (have hb:=trivial;with_reducible repeat' (first|simp only[hb,Vc.down,seval,a06.down,auO.down]|refine fsp ?_ ?_<;>intro hb|refine fd ?_|fail))
  exact⟨⟨hR,k1⟩,k2,k3⟩
def PaQ(m:aaW)(D:List ((Int × Int) × List Nat))(s:Int)(o:Out)(h':aaL):Prop:=match aHJ D s with
 |none=>o=.ret (.tup [.nils,.int .i64 5])∧h'=[]
 |some z=>∃outs R,o=.ret (.tup outs)∧rdL (rd 6 (hf h')) outs=some ([slv 2 false false (z.2.map fun a=>(tsc (gS (am6 m) a)).cells),.int .i64 0],R)∧R.length≤200∧∀c∈h',Rnm c
theorem a4X{m:aaW}(hs:m.small)(hm:adZ m=true){s:Int}(hst:0≤s∧s<m.states):ClQ om' 30 [.agg m.cells,.int .i64 s] [] fun o h'=>∃D,Fnd m (am6 m) D∧PaQ m D s o h':=by
 have h1:=aFV m hs
 rw[hm]at h1
 have hin:inB s 0 (IntKind.i64.wrap (m.states-1))=true:=by
  have:=asZ hm
  rw[ajR (by omega) (by omega)];simp[inB];omega
 obtain⟨lv,sb,x,rows,Ro,es1,M1,a1,a2,aL,aR,a3,a4,a5,a6,a7⟩:=aVA hs hm (H:=[.live 7 false false [m.cells]]) rfl
 rw[show clH [CB.live 7 false false [m.cells]]=[CB.live 7 false false [m.cells]]from rfl]at a1
 have hlvc:abZ lv=[lv]∧lv.flat=false∧lv.isCell=true:=by
  rcases aL.own with⟨_,rfl⟩|⟨b,w,rfl,_⟩
  ·exact⟨rfl,rfl,rfl⟩
  ·exact⟨rfl,rfl,rfl⟩
 obtain⟨l1,l2,l3⟩:=hlvc
 have hq1:adK (M1++[.live 1 false true [[lv]]])=true:=adY a6 rfl
 obtain⟨D,ob,ox,mb,y,es2,M2,b1,b2,b3,b4,b5,b6,b6',b6'',b7,b8,b9⟩:=aVM hs hm (X:=am6 m) (by have:=aMK hm;omega) hq1 (aaO a3 _)
 have hcl:clH (M1++[.live 1 false true [[lv]]])=clH M1++[.live 1 false false [[lv]]]:=by simp[clH,CB.clean]
 rw[hcl]at b1
 obtain⟨xm,hm0⟩:=(a7 0 (by simp)).live ⟨false,rfl⟩
 obtain⟨xm2,hm2⟩:=(b9 0 (adM (aaO hm0 _))).live ⟨_,aaO hm0 _⟩
 have hX:=av6 hm
 have PH:PtH m (am6 m) D M2.length M1.length (M2++[.live 1 false true [[.mapr mb]]]):=by
  have hM:=b7.1
  simp at hM
  refine⟨⟨true,mb,by simp,y,aaO b6 _,b6'⟩,?_⟩
  obtain⟨z,g⟩:=(b9 M1.length (by simp)).live (st:=1) (fl:=false) (rows:=[[lv]]) ⟨true,by simp⟩
  exact⟨z,lv,aaO g _,_,rows,Ro,aL.sm (by simp;omega) fun c _ hc=>(((SmB.refl M1 c).app hc _).trans (b9 c (by simp;omega))).app (by omega) _,aR⟩
 refine aTO rfl Try.func30 rfl rfl ?_
 simp only[Try.f30]
 refine hid (fun K iN hK=>?_)
 (have hb:=trivial;with_reducible repeat' (first|simp only[hb,Vc.down,seval,aR0.down,auO.down,h1,axB,hin,a1,a2,hm0,aaO hm0,l1,l2,l3,b1,b2,hm2,aaO hm2,aI0,aI2,aJC,aI4,aJD,aIY,aa9]|refine fsp ?_ ?_<;>intro hb|refine fd ?_|fail))
 have h88:=aw9 hm b3
 refine ahX (lst 48 D (fun k (_:Unit) t h=>t 1=.int .i64 s∧t 6=.ptr M1.length 0 0∧t 9=.ptr M2.length 0 0∧t 34=.slr 2 ob 0 D.length∧t 35=.int .i64 D.length∧t 36=.int .i64 k∧PtH m (am6 m) D M2.length M1.length h∧(∃x,h[ob]?=some (.live 2 true x (D.map fun x=>nvN x.1)))∧adK h=true) (fun rest _=>aHJ rest s) (fun r e t h=>match r with
  |none=>e=.exit 0
  |some z=>e=.ret∧t 5=.int .i64 0∧∃H',BkR m (am6 m) H' z.2 (.ret (t 4)) h) ?_ ?_ () _ _ ?_) (fun e t h hk=>?_)
 ·rintro _ t h Q' kQ ⟨c1,c6,c9,c34,c35,c36,c7,c8,c10⟩
  (have hb:=trivial;with_reducible repeat' (first|simp only[hb,Vc.down,seval,aR0.down,auO.down,c34,c35,c36,adE,decide_false]|refine fsp ?_ ?_<;>intro hb|refine fd ?_|fail))
  exact kQ _ _ _ (by simp[aHJ])
 ·rintro z rest k _ t h J Q' kJ kQ hx hk2 ⟨c1,c6,c9,c34,c35,c36,c7,⟨xo,c8⟩,c10⟩
  have hd2:((k:Int)<(D.length:Int))=True:=eq_true (by omega)
  have hw2:=adL hk2 (show D.length≤maxLen by unfold maxLen;omega)
  have hzD:z∈D:=aeU hx
  cases hp:(z.1.1==s)with
  |false=>
   have hf:aHJ (z::rest) s=aHJ rest s:=by simp[aHJ,ayE,hp]
   rw[hf]at kJ kQ
   (have hb:=trivial;with_reducible repeat' (first|simp only[hb,Vc.down,seval,aR0.down,auO.down,c1,c6,c9,c34,c35,c36,c8,hx,nvN,hd2,hw2,hp,aa9]|refine fsp ?_ ?_<;>intro hb|refine fd ?_|fail))
   exact adW (kJ _ _ () ⟨by simp[up,c1],by simp[up,c6],by simp[up,c9],by simp[up,c34],by simp[up,c35],by simp[up]<;>omega,c7.app (by simp) (fun c hc=>(SmB.refl h c).app hc _),⟨xo,aaO c8 _⟩,adY c10 rfl⟩ rfl)
  |true=>
   have hf:aHJ (z::rest) s=some z:=by simp[aHJ,ayE,hp]
   rw[hf]at kQ
   obtain⟨K2,hK2⟩:∃K2,h++[CB.live 2 true true [[.int .i64 z.1.1,.int .i64 z.1.2]]]=K2:=⟨_,rfl⟩
   have hcl2:clH (h++[CB.live 2 true true [[.int .i64 z.1.1,.int .i64 z.1.2]]])=clH h++[CB.live 2 true false [[.int .i64 z.1.1,.int .i64 z.1.2]]]:=by simp[clH,CB.clean]
   have hqK:adK K2=true:=by rw[←hK2];exact adY c10 rfl
   have PK:PtH m (am6 m) D M2.length M1.length (clH K2):=c7.app (by rw[aeL,←hK2];simp) fun c hc=>by rw[←hK2];exact((SmB.refl h c).app hc _).eqR (ak3 _).symm
   obtain⟨o,G,es,M,d1,d2,⟨⟨ov,Q,Ro,rfl,dL,dQ,dR⟩,_⟩,d4,d5,d6⟩:=avT (O:=om') (H:=K2) hqK (baN hm hX b3 (ak1 hqK) PK hzD)
   rw[←hK2,hcl2]at d1
   rw[←hK2]at d2
   (have hb:=trivial;with_reducible repeat' (first|simp only[hb,Vc.down,seval,aR0.down,auO.down,c1,c6,c9,c34,c35,c36,c8,hx,nvN,hd2,hw2,hp,d1,d2,aa9]|refine fsp ?_ ?_<;>intro hb|refine fd ?_|fail))
   exact kQ _ _ _ ⟨rfl,by simp[up],clH K2,ov,Q,Ro,by simp[up],dL.cl d4.symm,dQ,dR⟩
 ·exact⟨by simp[up,ent],by simp[up],by simp[up],by simp[up],by simp[up],by simp[up],PH,⟨ox,aaO b4 _⟩,adY b8 rfl⟩
 ·cases hr:aHJ D s with
  |none=>
   rw[hr]at hk
   obtain rfl:=hk
   (have hb:=trivial;with_reducible repeat' (first|simp only[hb,Vc.down,seval,aR0.down,auO.down]|refine fsp ?_ ?_<;>intro hb|refine fd ?_|fail))
   refine hK _ ?_
   (have hb:=trivial;with_reducible repeat' (first|simp only[hb,Vc.down,seval,aR0.down,auO.down]|refine fsp ?_ ?_<;>intro hb|refine fd ?_|fail))
   exact⟨D,b3,by unfold PaQ;rw[hr];exact⟨rfl,rfl⟩⟩
  |some z=>
   rw[hr]at hk
   obtain⟨rfl,g5,H',ov,Q,Ro,g4,L,hQ,hR⟩:=hk
   (have hb:=trivial;with_reducible repeat' (first|simp only[hb,Vc.down,seval,aR0.down,auO.down,g5]|refine fsp ?_ ?_<;>intro hb|refine fd ?_|fail))
   obtain⟨R,r1,_,r2⟩:=L.read
   have g4':t 4=ov:=by simpa using g4
   have hzl:z.2.length≤88:=by
    obtain⟨k0,hk0⟩:=ajS (List.mem_of_find?_eq_some hr)
    have:=aU7 b3 k0 z hk0
    have:=aJH hk0
    omega
   refine hK _ ?_
   rw[aKK]
   refine aPW (vs:=[ov,.int .i64 0]) (by simp only[Vc.down,seval,aR0.down,g4',g5]) (aWJ (aC0 r1 (aC0 (aV2 ..) aU5)) (by simp;omega) rfl fun outs h' R' k1 k2 k3=>⟨D,b3,by unfold PaQ;rw[hr];exact⟨outs,R',rfl,k1,by simp at k2;omega,k3⟩⟩)
end Go.Proofs.Ytfkokgjfpojeoaa
namespace Go.Proofs.Ytfkokgjfpojeoaa
open Go.Ev Go
set_option maxRecDepth 100000
set_option maxHeartbeats 16000000
theorem aA0{α:Type}{f:α→List AV}{p:List AV→Prop}{q:α→Prop}(hf:∀r,p r→∃x,r=f x∧q x):∀{rows:List (List AV)},(∀r∈rows,p r)→∃l:List α,rows=l.map f∧∀x∈l,q x
 | [],_=>⟨[],rfl,fun x hx=>by simp at hx⟩
 |r::rows,h=>by
  obtain⟨x,rfl,hx⟩:=hf r (h r (List.mem_cons_self ..))
  obtain⟨l,rfl,hl⟩:=aA0 hf (fun r hr=>h r (ayR _ hr))
  exact⟨x::l,rfl,fun y hy=>by
   rcases arP.1 hy with rfl|hy
   ·exact hx
   ·exact hl y hy⟩
def i64(n:Int):Prop:= -9223372036854775808≤n∧n≤9223372036854775807
theorem awP{n:Nat}{r:List AV}(h:Ty Try.prog (n+1) 3 r):∃x,r=[.int .i64 x]∧i64 x:=by
 simp only[Ty,Try.underlying3]at h
 obtain⟨x,rfl,h1,h2⟩:=h
 exact⟨x,rfl,h1,h2⟩
theorem aO7{n:Nat}{r:List AV}(h:Ty Try.prog (n+1) 4 r):∃x,r=[.bool x]:=by
 simp only[Ty,Try.underlying4]at h
 exact h
theorem aPQ{n:Nat}{r:List AV}(h:Ty Try.prog (n+2) 25 r):∃(nn:Bool) (l:List Int),r=[slv 1 true nn (l.map iv)]∧l.length≤maxLen∧∀x∈l,i64 x:=by
 unfold Ty at h
 simp only[Try.underlying25]at h
 obtain⟨nn,rows,rfl,hl,hrows⟩:=h
 obtain⟨l,rfl,hi⟩:=aA0 (f:=iv) (q:=i64) (fun r hr=>by obtain⟨x,rfl,hx⟩:=awP hr;exact⟨x,rfl,hx⟩) hrows
 have e1:Try.prog.cellsOf 3=1:=by kernel_rfl
 have e2:flT Try.prog (n+1) 3=true:=by
  simp only[flT,Try.underlying3]
 rw[e1,e2]
 exact⟨nn,l,rfl,by simpa using hl,hi⟩
theorem bdE{n:Nat}{r:List AV}(h:Ty Try.prog (n+2) 50 r):∃x:ad1,r=x.cells∧True:=by
 unfold Ty at h
 simp only[Try.underlying50,aPE]at h
 obtain⟨a0,b0,rfl,h0,a1,b1,rfl,h1,a2,b2,rfl,h2,rfl⟩:=h
 obtain⟨x0,rfl,_⟩:=awP h0
 obtain⟨x1,rfl,_⟩:=awP h1
 obtain⟨x2,rfl⟩:=aO7 h2
 exact⟨⟨x0,x1,x2⟩,rfl,trivial⟩
theorem a6W{n:Nat}{r:List AV}(h:Ty Try.prog (n+2) 56 r):∃x:acI,r=x.cells∧True:=by
 unfold Ty at h
 simp only[Try.underlying56,aPE]at h
 obtain⟨a0,b0,rfl,h0,a1,b1,rfl,h1,rfl⟩:=h
 obtain⟨x0,rfl,_⟩:=awP h0
 obtain⟨x1,rfl⟩:=aO7 h1
 exact⟨⟨x0,x1⟩,rfl,trivial⟩
theorem a6Y{n:Nat}{r:List AV}(h:Ty Try.prog (n+3) 48 r):∃x:abT,r=x.cells∧x.sens.length≤maxLen:=by
 unfold Ty at h
 simp only[Try.underlying48,aPE]at h
 obtain⟨a0,b0,rfl,h0,a1,b1,rfl,h1,a2,b2,rfl,h2,a3,b3,rfl,h3,rfl⟩:=h
 obtain⟨nn,l,rfl,hl,_⟩:=aPQ h0
 obtain⟨x1,rfl,_⟩:=awP h1
 obtain⟨x2,rfl,_⟩:=awP h2
 obtain⟨x3,rfl⟩:=aO7 h3
 exact⟨⟨nn,l,x1,x2,x3⟩,rfl,hl⟩
theorem a8E{n:Nat}{r:List AV}(h:Ty Try.prog (n+4) 59 r):∃x:ac4,r=x.cells∧x.wants.length≤maxLen:=by
 unfold Ty at h
 simp only[Try.underlying59,aPE]at h
 obtain⟨a0,b0,rfl,h0,a1,b1,rfl,h1,a2,b2,rfl,h2,a3,b3,rfl,h3,a4,b4,rfl,h4,rfl⟩:=h
 obtain⟨x0,rfl,_⟩:=awP h0
 obtain⟨x1,rfl,_⟩:=awP h1
 obtain⟨x3,rfl,_⟩:=awP h3
 obtain⟨x4,rfl,_⟩:=awP h4
 unfold Ty at h2
 simp only[Try.underlying57]at h2
 obtain⟨nn,rows,rfl,hl,hrows⟩:=h2
 obtain⟨l,rfl,_⟩:=aA0 (fun r hr=>a6W hr) hrows
 have e1:Try.prog.cellsOf 56=2:=by kernel_rfl
 have e2:flT Try.prog (n+2) 56=true:=by
  simp only[flT,Try.underlying56,Try.underlying3,Try.underlying4];rfl
 rw[e1,e2]
 exact⟨⟨x0,x1,nn,l,x3,x4⟩,rfl,by simpa using hl⟩
theorem a50{n:Nat}{r:List AV}(h:Ty Try.prog (n+6) 27 r):∃m:aaW,r=m.cells∧m.small:=by
 unfold Ty at h
 simp only[Try.underlying27,aPE]at h
 obtain⟨a0,b0,rfl,h0,a1,b1,rfl,h1,a2,b2,rfl,h2,a3,b3,rfl,h3,a4,b4,rfl,h4,a5,b5,rfl,h5,a6,b6,rfl,h6,rfl⟩:=h
 obtain⟨x3,rfl,_⟩:=awP h3
 obtain⟨x4,rfl,_⟩:=awP h4
 obtain⟨x5,rfl,_⟩:=awP h5
 obtain⟨n6,l6,rfl,hl6,_⟩:=aPQ h6
 unfold Ty at h0 h1 h2
 simp only[Try.underlying22]at h0
 simp only[Try.underlying23]at h1
 simp only[Try.underlying24]at h2
 obtain⟨n0,rows0,rfl,hl0,hrows0⟩:=h0
 obtain⟨n1,rows1,rfl,hl1,hrows1⟩:=h1
 obtain⟨n2,rows2,rfl,hl2,hrows2⟩:=h2
 obtain⟨l0,rfl,_⟩:=aA0 (fun r hr=>bdE hr) hrows0
 obtain⟨l1,rfl,hv⟩:=aA0 (fun r hr=>a6Y hr) hrows1
 obtain⟨l2,rfl,hm⟩:=aA0 (fun r hr=>a8E hr) hrows2
 have e0:Try.prog.cellsOf 50=3:=by kernel_rfl
 have e1:Try.prog.cellsOf 48=4:=by kernel_rfl
 have e2:Try.prog.cellsOf 59=5:=by kernel_rfl
 have f0:flT Try.prog (n+4) 50=true:=by
  simp only[flT,Try.underlying50,Try.underlying3,Try.underlying4];rfl
 have f1:flT Try.prog (n+4) 48=false:=by
  simp only[flT,Try.underlying48,Try.underlying25];simp
 have f2:flT Try.prog (n+4) 59=false:=by
  simp only[flT,Try.underlying59,Try.underlying57];simp
 rw[e0,e1,e2,f0,f1,f2]
 exact⟨⟨n0,l0,n1,l1,n2,l2,x3,x4,x5,n6,l6⟩,rfl,⟨by simpa using hl0,by simpa using hl1,by simpa using hl2,hl6,hv,hm⟩⟩
theorem a64{n:Nat}{r:List AV}(h:Ty Try.prog (n+3) 29 r):∃x:aeH,r=x.cells∧x.reads.length≤maxLen:=by
 unfold Ty at h
 simp only[Try.underlying29,aPE]at h
 obtain⟨a0,b0,rfl,h0,a1,b1,rfl,h1,rfl⟩:=h
 obtain⟨nn,l,rfl,hl,_⟩:=aPQ h0
 obtain⟨x1,rfl,_⟩:=awP h1
 exact⟨⟨nn,l,x1⟩,rfl,hl⟩
theorem a6V{av:AV}(h:TyV Try.prog 7 27 av):∃m:aaW,av=.agg m.cells∧m.small:=by
 unfold TyV at h
 simp only[Try.underlying27]at h
 obtain⟨cs,rfl,h⟩:=h
 obtain⟨s,rfl,hs⟩:=a50 h
 exact⟨s,rfl,hs⟩
theorem bcD{av:AV}(h:TyV Try.prog 7 3 av):∃x,av=.int .i64 x∧i64 x:=by
 unfold TyV at h
 simp only[Try.underlying3]at h
 obtain⟨x,hx,hi⟩:=awP h
 simp only[List.cons.injEq,and_true]at hx
 exact⟨x,hx,hi⟩
theorem a17{av:AV}(h:TyV Try.prog 7 66 av):∃(nn:Bool) (l:List aeH),av=slv 2 false nn (l.map aeH.cells)∧l.length≤maxLen∧∀x∈l,x.reads.length≤maxLen:=by
 unfold TyV at h
 simp only[Try.underlying66]at h
 unfold Ty at h
 simp only[Try.underlying66]at h
 obtain⟨nn,rows,hx,hl,hrows⟩:=h
 obtain⟨l,rfl,hm⟩:=aA0 (fun r hr=>a64 (n:=3) hr) hrows
 have e1:Try.prog.cellsOf 29=2:=by kernel_rfl
 have e2:flT Try.prog 6 29=false:=by
  simp only[flT,Try.underlying29,Try.underlying25];simp
 rw[e1,e2]at hx
 simp only[List.cons.injEq,and_true]at hx
 exact⟨nn,l,hx,by simpa using hl,hm⟩
theorem a7L{m:aaW}(h:adZ m=true):1≤m.states∧m.states≤8:=by
 simp only[adZ,aw0,aiZ,decide_eq_true_eq,inB]at h
 omega
theorem aFN(a:Int):(a==a)=true:=by simp
theorem aOL{m:aaW}{st ag:Int}{y:aeH}(h1:adZ m=true)(h0:0≤st)(h2:st<m.states)(h3:0≤ag)(h4:ag≤10)(h5:av2 m y=true):okB m st ag y=true:=by
 have:=a7L h1
 simp only[okB,h1,h5,Bool.true_and,Bool.and_true]
 rw[ajR (by omega) (by omega)]
 simp only[inB,aiZ,decide_eq_true_eq]
 omega
end Go.Proofs.Ytfkokgjfpojeoaa
namespace Go.Proofs.Ytfkokgjfpojeoaa
open Go.Ev Go Go.Ev.Bfs
set_option maxRecDepth 100000
set_option maxHeartbeats 16000000
structure EnI(m:aaW)(s:ad1)(A O:List Int)(a o:Nat)(h:aaL):Prop where
 h0:∃x,h[0]?=some (.live 7 false x [m.cells])
 h1:∃x,h[1]?=some (.live 3 true x [s.cells])
 ha:∃x,h[a]?=some (.live 1 true x (A.map iv))
 ho:∃x,h[o]?=some (.live 1 true x (O.map iv))
 ne:a≠o
 a2:2≤a
 o2:2≤o
theorem EnI.app{m:aaW}{s:ad1}{A O:List Int}{a o:Nat}{h:aaL}(I:EnI m s A O a o h)(l:aaL):EnI m s A O a o (h++l):=by
 obtain⟨⟨x0,h0⟩,⟨x1,h1⟩,⟨x2,ha⟩,⟨x3,ho⟩,ne,a2,o2⟩:=I
 exact⟨⟨x0,aaO h0 l⟩,⟨x1,aaO h1 l⟩,⟨x2,aaO ha l⟩,⟨x3,aaO ho l⟩,ne,a2,o2⟩
theorem EnI.snocA{m:aaW}{s:ad1}{A O:List Int}{a o:Nat}{h:aaL}(I:EnI m s A O a o h)(n:Int)(l:aaL){k:Nat}(hk:k=h.length+l.length):EnI m s (A++[n]) O k o (h.set a .dead++(l++[.live 1 true false (A.map iv++[[.int .i64 n]])])):=by
 obtain⟨⟨x0,h0⟩,⟨x1,h1⟩,⟨x2,ha⟩,⟨x3,ho⟩,ne,a2,o2⟩:=I
 have l3:=adM ho
 refine⟨⟨x0,aw3 _ (by omega) h0 _⟩,⟨x1,aw3 _ (by omega) h1 _⟩,⟨false,?_⟩,⟨x3,aw3 _ ne ho _⟩,by omega,by omega,o2⟩
 subst hk
 rw[adJ (by simp),adJ (by simp)]
 simp[iv]
theorem EnI.snocO{m:aaW}{s:ad1}{A O:List Int}{a o:Nat}{h:aaL}(I:EnI m s A O a o h)(n:Int)(l:aaL){k:Nat}(hk:k=h.length+l.length):EnI m s A (O++[n]) a k (h.set o .dead++(l++[.live 1 true false (O.map iv++[[.int .i64 n]])])):=by
 obtain⟨⟨x0,h0⟩,⟨x1,h1⟩,⟨x2,ha⟩,⟨x3,ho⟩,ne,a2,o2⟩:=I
 have l3:=adM ha
 refine⟨⟨x0,aw3 _ (by omega) h0 _⟩,⟨x1,aw3 _ (by omega) h1 _⟩,⟨x2,aw3 _ (fun e=>ne e.symm) ha _⟩,⟨false,?_⟩,by omega,a2,by omega⟩
 subst hk
 rw[adJ (by simp),adJ (by simp)]
 simp[iv]
def ayN(s:ad1)(v:abT):List Int:=if s.lo<(if v.above=true then v.level else v.level+1)∧(if v.above=true then v.level else v.level+1)≤s.hi then [if v.above=true then v.level else v.level+1]else []
def aMA(n:Int)(O:List Int)(a:Int):List Int:=if a=n∧O.getLast?≠some n then O++[n]else O
theorem aN5(n:Int):∀(L O:List Int),O.getLast?≠some n→L.foldl (aMA n) O=if n∈L then O++[n]else O
 | [],O,_=>by simp
 |a::L,O,h=>by
  rw[akQ]
  by_cases e:a=n
  ·subst e
   have e1:aMA a O a=O++[a]:=if_pos ⟨rfl,h⟩
   rw[e1,if_pos (by simp)]
   have key:∀L:List Int,L.foldl (aMA a) (O++[a])=O++[a]:=by
    intro L
    induction L with
    |nil=>rfl
    |cons b L ih=>
     rw[akQ]
     have:aMA a (O++[a]) b=O++[a]:=if_neg (by simp)
     rw[this,ih]
   exact key L
  ·have e1:aMA n O a=O:=if_neg (fun h=>e h.1)
   rw[e1,aN5 n L O h]
   have:n∈a::L↔n∈L:=⟨fun h=>(arP.1 h).resolve_left fun h=>e h.symm,fun h=>ayR _ h⟩
   by_cases hm:n∈L
   ·rw[if_pos hm,if_pos (this.2 hm)]
   ·rw[if_neg hm,if_neg (fun h=>hm (this.1 h))]
theorem bcY{m:aaW}(hs:m.small)(hm:adZ m=true){k:Nat}(hk:k<m.sens.length):∃nn,RdV om' 77 [.agg m.cells,.int .i64 (k:Int)] (slv 1 true nn ((aH4 m k).map iv)) 2:=by
 have key:ClQ om' 77 [.agg m.cells,.int .i64 (k:Int)] [] fun o h'=>∃v nn R,o=.ret v∧rd 6 (hf h') v=some (slv 1 true nn ((aH4 m k).map iv),R)∧R.length≤2∧∀c∈h',Rnm c:=by
  obtain⟨q1,q2,q3⟩:=aJT hm (aWP hk)
  have hgk:=aA3 (m:=m) (k:=(k:Int)) (by simpa using hk)
  simp only[Int.toNat_natCast]at hgk
  have hv6:=aDA hm
  have hkl:((k:Int)<(m.sens.length:Int))=True:=eq_true (by omega)
  have hE:aH4 m k= -10000::if(sAt m k).byp=true then []else(upN 20000 (-9999)).filter fun n=>decide (n∈bbH m k):=rfl
  have hA:bbH m k=[(sAt m k).lo,(sAt m k).hi+1]++m.votes.flatMap (ayN (sAt m k)):=rfl
  rw[hE,hA]
  generalize sAt m k=s at *
  have hw1:IntKind.i64.wrap (s.hi+1)=s.hi+1:=ajR (by omega) (by omega)
  cases hby:s.byp with
  |true=>
   refine aTO rfl Try.func77 rfl rfl ?_
   simp only[Try.f77]
   refine hid (fun K iN hK=>?_)
   (have hb:=trivial;with_reducible repeat' (first|simp only[hb,Vc.down,seval,aAE.down,hgk,hkl,hby,ad1.cells,aa9]|refine fsp ?_ ?_<;>intro hb|refine fd ?_|fail))
   obtain⟨nn,R,hR⟩:=aO1 (n:=1) (rows:=[-10000].map iv) (v:=.slr 1 2 0 1) (H:=[.live 7 false false [m.cells],.live 3 true true [[.int .i64 s.lo,.int .i64 s.hi,.bool true]],.live 1 true false [[.int .i64 (-10000)]]]) (aAA.blk (b:=2) (w:=false) rfl rfl rfl)
   refine hK _ ?_
   rw[aKK]
   refine aPW (vs:=[.slr 1 2 0 1]) (by simp only[Vc.down,seval,aAE.down]) (aRW (hR 5).1 (by have:=(hR 5).2;omega) fun v h' R' k1 k2 k3=>⟨v,nn,R',rfl,k1,by have:=(hR 5).2;omega,k3⟩)
  |false=>
   refine aTO rfl Try.func77 rfl rfl ?_
   simp only[Try.f77]
   refine hid (fun K iN hK=>?_)
   (have hb:=trivial;with_reducible repeat' (first|simp only[hb,Vc.down,seval,aAE.down,hgk,hkl,hby,hw1,ad1.cells,aa9]|refine fsp ?_ ?_<;>intro hb|refine fd ?_|fail))
   have I0:EnI m s [s.lo,s.hi+1] [-10000] 4 2 [.live 7 false false [m.cells],.live 3 true true [[.int .i64 s.lo,.int .i64 s.hi,.bool false]],.live 1 true false [[.int .i64 (-10000)]],.live 1 true false [[.int .i64 s.lo],[.int .i64 (s.hi+1)]],.live 1 true false [[.int .i64 s.lo],[.int .i64 (s.hi+1)]]]:=⟨⟨false,rfl⟩,⟨true,by simp[ad1.cells,hby]⟩,⟨false,rfl⟩,⟨false,rfl⟩,by omega,by omega,by omega⟩
   have hfl:∀v,(ayN s v).length≤1:=fun v=>by
    have:∀(p:Prop) [Decidable p] (n:Int),(if p then [n]else []).length≤1:=fun p _ n=>by split<;>simp
    exact this _ _
   have hfm:∀l:List abT,(l.flatMap (ayN s)).length≤l.length:=fun l=>by
    induction l with
    |nil=>simp
    |cons v l ih=>rw[ayS,as6,alW];have:=hfl v;omega
   refine ahX (lst 94 m.votes (fun i (_:Unit) t h=>∃a,t 2=.ptr 0 0 0∧t 5=.ptr 1 0 0∧t 6=.slr 1 2 0 1∧t 7=.slr 1 a 0 ([s.lo,s.hi+1]++(m.votes.take i).flatMap (ayN s)).length∧t 8=.int .i64 i∧EnI m s ([s.lo,s.hi+1]++(m.votes.take i).flatMap (ayN s)) [-10000] a 2 h) (fun _ _=>()) (fun _ e t h=>e=.exit 0∧∃a,t 6=.slr 1 2 0 1∧t 7=.slr 1 a 0 ([s.lo,s.hi+1]++m.votes.flatMap (ayN s)).length∧EnI m s ([s.lo,s.hi+1]++m.votes.flatMap (ayN s)) [-10000] a 2 h) ?_ ?_ () _ _ ?_) (fun e t h hk=>?_)
   ·rintro _ t h Q' kQ ⟨a,c2,c5,c6,c7,c8,I⟩
    obtain⟨x0,h0⟩:=I.h0
    rw[List.take_length]at c7 I
    (have hb:=trivial;with_reducible repeat' (first|simp only[hb,Vc.down,seval,aAE.down,c2,c8,h0,adE,decide_false,aa9]|refine fsp ?_ ?_<;>intro hb|refine fd ?_|fail))
    exact kQ _ _ _ ⟨rfl,a,by simp[up,c6],by simp[up,c7],I⟩
   ·rintro v rest i _ t h J Q' kJ kQ hx hi ⟨a,c2,c5,c6,c7,c8,I⟩
    obtain⟨x0,h0⟩:=I.h0
    obtain⟨x1,h1⟩:=I.h1
    obtain⟨x2,ha⟩:=I.ha
    obtain⟨lv1,lv2⟩:=aR8 hm (aeU hx)
    have hd:((i:Int)<(m.votes.length:Int))=True:=eq_true (by omega)
    have hw:=adL hi hs.votes
    have hw2:IntKind.i64.wrap (v.level+1)=v.level+1:=ajR (by omega) (by omega)
    have htk:(m.votes.take (i+1)).flatMap (ayN s)=(m.votes.take i).flatMap (ayN s)++ayN s v:=by rw[ayU,hx,List.flatMap_append];simp
    generalize hAA:[s.lo,s.hi+1]++(m.votes.take i).flatMap (ayN s)=AA at c7 I ha
    have htk2:[s.lo,s.hi+1]++(m.votes.take (i+1)).flatMap (ayN s)=AA++ayN s v:=by rw[htk,←hAA,List.append_assoc]
    have hAl:AA.length≤20:=by
     rw[←hAA]
     have:=hfm (m.votes.take i)
     have:(m.votes.take i).length≤6:=by rw[am1];omega
     rw[as6];simp only[alW,ayY];omega
    have hB:=aaO ha
    have hSb:=au8 (adM ha)
    have h39:(AA.length+1≤549755813888)=True:=eq_true (by omega)
    cases hab:v.above with
    |true=>
     have hnn:(if v.above=true then v.level else v.level+1)=v.level:=by rw[hab];rfl
     have hV0:ayN s v=if s.lo<v.level∧v.level≤s.hi then [v.level]else []:=by unfold ayN;rw[hnn]
     by_cases g1:s.lo<v.level
     ·by_cases g2:v.level≤s.hi
      ·have hV:ayN s v=[v.level]:=by rw[hV0,if_pos ⟨g1,g2⟩]
       have g1:=eq_true g1
       have g2:=eq_true g2
       (have hb:=trivial;with_reducible repeat' (first|simp only[hb,Vc.down,seval,aAE.down,c2,c5,c6,c7,c8,h0,aaO h0,h1,aaO h1,hab,hd,hx,hw,hw2,g1,g2,hB,hSb,h39,ad1.cells,abT.cells,hby,avH,arQ,ajP,aa9]|refine fsp ?_ ?_<;>intro hb|refine fd ?_|fail))
       exact adW (kJ _ _ () ⟨h.length+2,by simp[up,c2],by simp[up,c5],by simp[up,c6],by rw[htk2,hV];simp[up],by simp[up]<;>omega,by rw[htk2,hV];exact I.snocA (k:=h.length+2) (v.level) [.live 4 false true [[slv 1 true v.nn (v.sens.map iv),.int .i64 v.need,.int .i64 v.level,.bool true]],.live 1 true false [[.int .i64 (v.level)]]] (by simp)⟩ rfl)
      ·have hV:ayN s v=[]:=by rw[hV0,if_neg (fun h=>g2 h.2)]
       have g1:=eq_true g1
       have g2:=eq_false g2
       (have hb:=trivial;with_reducible repeat' (first|simp only[hb,Vc.down,seval,aAE.down,c2,c5,c6,c7,c8,h0,aaO h0,h1,aaO h1,hab,hd,hx,hw,hw2,g1,g2,hB,hSb,h39,ad1.cells,abT.cells,hby,avH,arQ,ajP,aa9]|refine fsp ?_ ?_<;>intro hb|refine fd ?_|fail))
       exact adW (kJ _ _ () ⟨a,by simp[up,c2],by simp[up,c5],by simp[up,c6],by simp[up,c7,htk2,hV],by simp[up]<;>omega,by rw[htk2,hV,anK];exact I.app _⟩ rfl)
     ·have hV:ayN s v=[]:=by rw[hV0,if_neg (fun h=>g1 h.1)]
      have g1:=eq_false g1
      have g2:=True.intro
      (have hb:=trivial;with_reducible repeat' (first|simp only[hb,Vc.down,seval,aAE.down,c2,c5,c6,c7,c8,h0,aaO h0,h1,aaO h1,hab,hd,hx,hw,hw2,g1,g2,hB,hSb,h39,ad1.cells,abT.cells,hby,avH,arQ,ajP,aa9]|refine fsp ?_ ?_<;>intro hb|refine fd ?_|fail))
      exact adW (kJ _ _ () ⟨a,by simp[up,c2],by simp[up,c5],by simp[up,c6],by simp[up,c7,htk2,hV],by simp[up]<;>omega,by rw[htk2,hV,anK];exact I.app _⟩ rfl)
    |false=>
     have hnn:(if v.above=true then v.level else v.level+1)=v.level+1:=by rw[hab];rfl
     have hV0:ayN s v=if s.lo<v.level+1∧v.level+1≤s.hi then [v.level+1]else []:=by unfold ayN;rw[hnn]
     by_cases g1:s.lo<v.level+1
     ·by_cases g2:v.level+1≤s.hi
      ·have hV:ayN s v=[v.level+1]:=by rw[hV0,if_pos ⟨g1,g2⟩]
       have g1:=eq_true g1
       have g2:=eq_true g2
       (have hb:=trivial;with_reducible repeat' (first|simp only[hb,Vc.down,seval,aAE.down,c2,c5,c6,c7,c8,h0,aaO h0,h1,aaO h1,hab,hd,hx,hw,hw2,g1,g2,hB,hSb,h39,ad1.cells,abT.cells,hby,avH,arQ,ajP,aa9]|refine fsp ?_ ?_<;>intro hb|refine fd ?_|fail))
       exact adW (kJ _ _ () ⟨h.length+2,by simp[up,c2],by simp[up,c5],by simp[up,c6],by rw[htk2,hV];simp[up],by simp[up]<;>omega,by rw[htk2,hV];exact I.snocA (k:=h.length+2) (v.level+1) [.live 4 false true [[slv 1 true v.nn (v.sens.map iv),.int .i64 v.need,.int .i64 v.level,.bool false]],.live 1 true false [[.int .i64 (v.level+1)]]] (by simp)⟩ rfl)
      ·have hV:ayN s v=[]:=by rw[hV0,if_neg (fun h=>g2 h.2)]
       have g1:=eq_true g1
       have g2:=eq_false g2
       (have hb:=trivial;with_reducible repeat' (first|simp only[hb,Vc.down,seval,aAE.down,c2,c5,c6,c7,c8,h0,aaO h0,h1,aaO h1,hab,hd,hx,hw,hw2,g1,g2,hB,hSb,h39,ad1.cells,abT.cells,hby,avH,arQ,ajP,aa9]|refine fsp ?_ ?_<;>intro hb|refine fd ?_|fail))
       exact adW (kJ _ _ () ⟨a,by simp[up,c2],by simp[up,c5],by simp[up,c6],by simp[up,c7,htk2,hV],by simp[up]<;>omega,by rw[htk2,hV,anK];exact I.app _⟩ rfl)
     ·have hV:ayN s v=[]:=by rw[hV0,if_neg (fun h=>g1 h.1)]
      have g1:=eq_false g1
      have g2:=True.intro
      (have hb:=trivial;with_reducible repeat' (first|simp only[hb,Vc.down,seval,aAE.down,c2,c5,c6,c7,c8,h0,aaO h0,h1,aaO h1,hab,hd,hx,hw,hw2,g1,g2,hB,hSb,h39,ad1.cells,abT.cells,hby,avH,arQ,ajP,aa9]|refine fsp ?_ ?_<;>intro hb|refine fd ?_|fail))
      exact adW (kJ _ _ () ⟨a,by simp[up,c2],by simp[up,c5],by simp[up,c6],by simp[up,c7,htk2,hV],by simp[up]<;>omega,by rw[htk2,hV,anK];exact I.app _⟩ rfl)
   ·exact⟨4,by simp[up,ent],by simp[up],by simp[up],by simp[up],by simp[up],by simpa using I0⟩
   ·obtain⟨rfl,a,c6,c7,I⟩:=hk
    (have hb:=trivial;with_reducible repeat' (first|simp only[hb,Vc.down,seval,aAE.down]|refine fsp ?_ ?_<;>intro hb|refine fd ?_|fail))
    generalize hAA:[s.lo,s.hi+1]++m.votes.flatMap (ayN s)=AA at c7 I ⊢
    have hAl:AA.length≤20:=by
     rw[←hAA]
     have:=hfm m.votes
     rw[as6];simp only[alW,ayY];omega
    have hlast0:∀i,∀z∈(-10000::((upN 20000 (-9999)).take i).filter fun n=>decide (n∈AA)),z < -9999+(i:Int):=fun i z hz=>by
     rcases arP.1 hz with rfl|hz
     ·omega
     ·obtain⟨j,hj⟩:=ajS (azA.1 hz).1
      have hjl:=(awY.1 hj).1
      rw[List.getElem?_take_of_lt (by rw[am1]at hjl;omega)]at hj
      have:=aJA _ _ _ _ hj
      rw[am1]at hjl
      omega
    refine ahX (lst 94 (upN 20000 (-9999)) (fun i (_:Unit) t h=>∃O o,O=(-10000::((upN 20000 (-9999)).take i).filter fun n=>decide (n∈AA))∧t 6=.slr 1 o 0 O.length∧t 7=.slr 1 a 0 AA.length∧t 11=.int .i64 (-9999+(i:Int))∧EnI m s AA O a o h) (fun _ _=>()) (fun _ e t h=>e=.exit 2∧∃o,t 6=.slr 1 o 0 (-10000::(upN 20000 (-9999)).filter fun n=>decide (n∈AA)).length∧EnI m s AA (-10000::(upN 20000 (-9999)).filter fun n=>decide (n∈AA)) a o h) ?_ ?_ () _ _ ?_) (fun e t h hk=>?_)
    ·rintro _ t h Q' kQ ⟨O,o,hO,c6,c7,c11,I⟩
     rw[aw2]at c11
     rw[List.take_of_length_le (by rw[aw2];omega)]at hO
     subst hO
     have hd:((-9999+((20000:Nat):Int))≤10000)=False:=eq_false (by omega)
     (have hb:=trivial;with_reducible repeat' (first|simp only[hb,Vc.down,seval,aAE.down,c11,hd]|refine fsp ?_ ?_<;>intro hb|refine fd ?_|fail))
     exact kQ _ _ _ ⟨rfl,o,by simp[up,c6],I⟩
    ·rintro n rest i _ t h J Q' kJ kQ hx hi ⟨O,o,hO,c6,c7,c11,I⟩
     rw[aw2]at hi
     obtain⟨hn,_⟩:=aJA _ _ _ _ hx
     rw[←hn]at c11
     have hd:(n≤10000)=True:=eq_true (by omega)
     have hw:IntKind.i64.wrap (n+1)= -9999+((i+1:Nat):Int):=by rw[ajR (by omega) (by omega)];omega
     have hOl:O.length≤20001:=by
      rw[hO,alW]
      have:=azC (fun n=>decide (n∈AA)) ((upN 20000 (-9999)).take i)
      rw[am1,aw2]at this
      omega
     have hgl:O.getLast?≠some n:=fun e=>by
      have:=hlast0 i n (by rw[←hO];exact List.mem_of_getLast? e)
      omega
     have hnext:AA.foldl (aMA n) O=(-10000::((upN 20000 (-9999)).take (i+1)).filter fun n=>decide (n∈AA)):=by
      rw[aN5 n AA O hgl,ayU,hx,List.filter_append,hO]
      by_cases hm:n∈AA
      ·rw[if_pos hm];simp[hm]
      ·rw[if_neg hm];simp[hm]
     (have hb:=trivial;with_reducible repeat' (first|simp only[hb,Vc.down,seval,aAE.down,c7,c11,hd]|refine fsp ?_ ?_<;>intro hb|refine fd ?_|fail))
     refine ahX (lst 94 AA (fun j (O:List Int) t h=>∃o,1≤O.length∧O.length≤20001+j∧t 6=.slr 1 o 0 O.length∧t 7=.slr 1 a 0 AA.length∧t 11=.int .i64 n∧t 12=.int .i64 j∧EnI m s AA O a o h) (fun rest O=>rest.foldl (aMA n) O) (fun O e t h=>e=.exit 4∧∃o,t 6=.slr 1 o 0 O.length∧t 7=.slr 1 a 0 AA.length∧t 11=.int .i64 n∧EnI m s AA O a o h) ?_ ?_ O _ _ ?_) (fun e t h' hk=>?_)
     ·rintro O t h Q2 kQ2 ⟨o,l1,l2,d6,d7,d11,d12,I⟩
      (have hb:=trivial;with_reducible repeat' (first|simp only[hb,Vc.down,seval,aAE.down,d7,d12,adE,decide_false]|refine fsp ?_ ?_<;>intro hb|refine fd ?_|fail))
      exact kQ2 _ _ _ ⟨rfl,o,by simp[up,d6],by simp[up,d7],by simp[up,d11],I⟩
     ·rintro z rest j O t h J2 Q2 kJ2 kQ2 hx2 hj ⟨o,l1,l2,d6,d7,d11,d12,I⟩
      obtain⟨x2,ha⟩:=I.ha
      obtain⟨x3,ho⟩:=I.ho
      have hdj:((j:Int)<(AA.length:Int))=True:=eq_true (by omega)
      have hwj:=adL hj (show AA.length≤maxLen by unfold maxLen;omega)
      cases hz:(z==n)with
      |false=>
       have hG:aMA n O z=O:=if_neg fun h=>by rw[h.1]at hz;simp at hz
       (have hb:=trivial;with_reducible repeat' (first|simp only[hb,Vc.down,seval,aAE.down,d6,d7,d11,d12,ha,hx2,iv,hdj,hwj,hz,aa9]|refine fsp ?_ ?_<;>intro hb|refine fd ?_|fail))
       exact adW (kJ2 _ _ O ⟨o,l1,by omega,by simp[up,d6],by simp[up,d7],by simp[up,d11],by simp[up]<;>omega,I⟩ (by rw[akQ,hG]))
      |true=>
       obtain⟨y,hy⟩:∃y,O[O.length-1]?=some y:=⟨_,azS (by omega)⟩
       have hyl:O.getLast?=some y:=by rw[List.getLast?_eq_getElem?];exact hy
       have hw1:IntKind.i64.wrap ((O.length:Int)-1)=((O.length-1:Nat):Int):=by rw[ajR (by omega) (by omega)];omega
       have hlo:(((O.length-1:Nat):Int)<(O.length:Int))=True:=eq_true (by omega)
       have hzn:z=n:=by simpa using hz
       cases hyn:(y==n)with
       |true=>
        have hG:aMA n O z=O:=if_neg fun h=>h.2 (by rw[hyl];congr 1;simpa using hyn)
        (have hb:=trivial;with_reducible repeat' (first|simp only[hb,Vc.down,seval,aAE.down,d6,d7,d11,d12,ha,ho,hx2,iv,hdj,hwj,hz,hy,hyn,hw1,hlo,aa9]|refine fsp ?_ ?_<;>intro hb|refine fd ?_|fail))
        exact adW (kJ2 _ _ O ⟨o,l1,by omega,by simp[up,d6],by simp[up,d7],by simp[up,d11],by simp[up]<;>omega,I⟩ (by rw[akQ,hG]))
       |false=>
        have hG:aMA n O z=O++[n]:=if_pos ⟨hzn,fun h=>by rw[hyl]at h;cases h;simp at hyn⟩
        have hB:=aaO ho
        have hSb:=au8 (adM ho)
        have h39:(O.length+1≤549755813888)=True:=eq_true (by omega)
        (have hb:=trivial;with_reducible repeat' (first|simp only[hb,Vc.down,seval,aAE.down,d6,d7,d11,d12,ha,ho,hx2,iv,hdj,hwj,hz,hy,hyn,hw1,hlo,hB,hSb,h39,avH,arQ,ajP,aa9]|refine fsp ?_ ?_<;>intro hb|refine fd ?_|fail))
        exact adW (kJ2 _ _ (O++[n]) ⟨h.length+1,by simp,by simp;omega,by simp[up],by simp[up,d7],by simp[up,d11],by simp[up]<;>omega,I.snocO (k:=h.length+1) n [.live 1 true false [[.int .i64 n]]] (by simp)⟩ (by rw[akQ,hG]))
     ·exact⟨o,by rw[hO];simp,by omega,by simp[up,c6],by simp[up,c7],by simp[up,c11],by simp[up],I⟩
     ·rw[hnext]at hk
      obtain⟨rfl,o',d6,d7,d11,I2⟩:=hk
      (have hb:=trivial;with_reducible repeat' (first|simp only[hb,Vc.down,seval,aAE.down,d11,hw]|refine fsp ?_ ?_<;>intro hb|refine fd ?_|fail))
      exact adW (kJ _ _ () ⟨(-10000::((upN 20000 (-9999)).take (i+1)).filter fun n=>decide (n∈AA)),o',rfl,by simp only[up,d6];simp,by simp[up,d7],by simp[up]<;>omega,I2⟩ rfl)
    ·exact⟨[-10000],2,by simp,by simp[up,c6],by simp[up,c7],by simp[up],I⟩
    ·obtain⟨rfl,o,c6,I⟩:=hk
     subst hAA
     obtain⟨x3,ho⟩:=I.ho
     generalize hnl:List.length _=nl at c6
     obtain⟨nn,R,hR⟩:=aO1 (aAA.blk (k:=0) (n:=nl) ho rfl (by rw[aa9];exact hnl.symm))
     (have hb:=trivial;with_reducible repeat' (first|simp only[hb,Vc.down,seval,aAE.down,c6]|refine fsp ?_ ?_<;>intro hb|refine fd ?_|fail))
     refine hK _ ?_
     rw[aKK]
     refine aPW (vs:=[.slr 1 o 0 nl]) (by simp only[Vc.down,seval,aAE.down,c6]) (aRW (hR 5).1 (by have:=(hR 5).2;omega) fun v h' R' k1 k2 k3=>⟨v,nn,R',rfl,k1,by have:=(hR 5).2;omega,k3⟩)
 obtain⟨o,h',e,v,nn,R,rfl,k1,k2,k3⟩:=key
 exact⟨nn,v,h',R,e,k1,k2,k3⟩
theorem known_ok:om'.call (.fn 13) [] []=some (.ret (.bool true),[]):=aVY (pr:=pr) (p:=aPG) rfl rfl
theorem a9G{l:List Int}{nn:Bool}(n:Int)(hl:l.length≤maxLen):om'.call (.fn 36) [slv 1 true nn (l.map iv),.int .i64 n] []=some (.ret (.bool (l.any fun x=>x==n)),[]):=by
 (refine ce Try.func36 ?_;simp only[Try.f36];(have hb:=trivial;with_reducible repeat' (first|simp only[hb,Vc.down,seval,aXR.down,aa9]|refine fsp ?_ ?_<;>intro hb|refine fd ?_|fail)))
 refine ahX (lst 18 l (fun i (_:Unit) t h=>t 0=slv 1 true nn (l.map iv)∧t 1=.int .i64 n∧t 5=.int .i64 i∧h=[]) (fun rest _=>rest.any fun x=>x==n) (fun r e t h=>h=[]∧if r=true then e=.ret∧t 4=.bool true else e=.exit 0) ?_ ?_ () _ _ ?_) (fun e t h hk=>?_)
 ·rintro _ t h Q' kQ ⟨c0,c1,c5,rfl⟩
  (have hb:=trivial;with_reducible repeat' (first|simp only[hb,Vc.down,seval,aXR.down,c0,c1,c5,aa9,adE,decide_false]|refine fsp ?_ ?_<;>intro hb|refine fd ?_|fail))
  exact kQ _ _ _ ⟨rfl,by simp⟩
 ·rintro z rest i _ t h J Q' kJ kQ hx hi ⟨c0,c1,c5,rfl⟩
  have hd:((i:Int)<(l.length:Int))=True:=eq_true (by omega)
  have hw:=adL hi hl
  cases hz:(z==n)with
  |true=>
   (have hb:=trivial;with_reducible repeat' (first|simp only[hb,Vc.down,seval,aXR.down,c0,c1,c5,hd,hx,hw,iv,hz,aa9]|refine fsp ?_ ?_<;>intro hb|refine fd ?_|fail))
   exact kQ _ _ _ ⟨rfl,by simp[hz,up]⟩
  |false=>
   (have hb:=trivial;with_reducible repeat' (first|simp only[hb,Vc.down,seval,aXR.down,c0,c1,c5,hd,hx,hw,iv,hz,aa9]|refine fsp ?_ ?_<;>intro hb|refine fd ?_|fail))
   exact adW (kJ _ _ () ⟨by simp[up,c0],by simp[up,c1],by simp[up]<;>omega,rfl⟩ (by simp[hz]))
 ·exact⟨by simp[up,ent],by simp[up,ent],by simp[up],rfl⟩
 ·obtain⟨rfl,hk⟩:=hk
  split at hk
  ·rename_i hr
   obtain⟨rfl,c4⟩:=hk
   (have hb:=trivial;with_reducible repeat' (first|simp only[hb,Vc.down,seval,aXR.down,c4]|refine fsp ?_ ?_<;>intro hb|refine fd ?_|fail))
   all_goals simp[hr]
  ·rename_i hr
   subst hk
   (have hb:=trivial;with_reducible repeat' (first|simp only[hb,Vc.down,seval,aXR.down]|refine fsp ?_ ?_<;>intro hb|refine fd ?_|fail))
   all_goals simp[hr]
theorem a9Y{m:aaW}{l:List Int}{nn:Bool}(hl:l.length≤maxLen):om'.call (.fn 22) [.agg [slv 3 true m.nS (m.sens.map ad1.cells),slv 4 false m.nV (m.votes.map abT.cells),slv 5 false m.nM (m.moves.map ac4.cells),.int .i64 m.states,.int .i64 m.cmds,.int .i64 m.bgn,slv 1 true m.nO (m.opn.map iv)],slv 1 true nn (l.map iv)] []=some (.ret (.bool (as7 m.states l none)),[]):=by
 (refine ce Try.func22 ?_;simp only[Try.f22];(have hb:=trivial;with_reducible repeat' (first|simp only[hb,Vc.down,seval,aWU.down,aa9]|refine fsp ?_ ?_<;>intro hb|refine fd ?_|fail)))
 refine ahX (lst 37 l (fun i (s:Option Int) t h=>(i=0∧s=none∨0<i∧s=l[i-1]?)∧h=[.live 7 false false [[slv 3 true m.nS (m.sens.map ad1.cells),slv 4 false m.nV (m.votes.map abT.cells),slv 5 false m.nM (m.moves.map ac4.cells),.int .i64 m.states,.int .i64 m.cmds,.int .i64 m.bgn,slv 1 true m.nO (m.opn.map iv)]]]∧t 1=slv 1 true nn (l.map iv)∧t 2=.ptr 0 0 0∧t 5=.int .i64 i)
  (fun rest s=>as7 m.states rest s) (fun r e t h=>if r=true then e=.exit 0 else e=.ret∧t 4=.bool false) ?_ ?_ none _ _ ?_) (fun e t h hk=>?_)
 ·rintro s t h Q' kQ ⟨hs,rfl,h1,h2,h5⟩
  (have hb:=trivial;with_reducible repeat' (first|simp only[hb,Vc.down,seval,aWU.down,h1,h2,h5,aa9,adE,decide_false]|refine fsp ?_ ?_<;>intro hb|refine fd ?_|fail))
  exact kQ _ _ _ (by simp[as7])
 ·rintro x rest i s t h J Q' kJ kQ hx hi ⟨hs,rfl,h1,h2,h5⟩
  have hd:decide ((i:Int)<(l.length:Int))=true:=by simpa using hi
  have kF:∀{p:Option Int},(inB x 0 (IntKind.i64.wrap (m.states-1))&&(match p with|none=>true|some q=> !decide (x≤q)))=false→as7 m.states (x::rest) p=false:=fun {p} h=>by
   cases p with
   |none=>show(inB x 0 (IntKind.i64.wrap (m.states-1))&&true&&as7 m.states rest (some x))=false;rw[show(inB x 0 (IntKind.i64.wrap (m.states-1))&&true)=false from h];rfl
   |some q=>show(inB x 0 (IntKind.i64.wrap (m.states-1))&& !decide (x≤q)&&as7 m.states rest (some x))=false;rw[show(inB x 0 (IntKind.i64.wrap (m.states-1))&& !decide (x≤q))=false from h];rfl
  have kT:∀{p:Option Int},(inB x 0 (IntKind.i64.wrap (m.states-1))&&(match p with|none=>true|some q=> !decide (x≤q)))=true→as7 m.states rest (some x)=as7 m.states (x::rest) p:=fun {p} h=>by cases p<;>simp_all[as7]
  have hw:=adL hi hl
  rcases hs with⟨rfl,rfl⟩|⟨hpos,rfl⟩
  ·simp only[Int.natCast_zero,Int.zero_add]at hd h5 hw
   (have hb:=trivial;with_reducible repeat' (first|simp only[hb,Vc.down,seval,aWU.down,h1,h2,h5,hd,hx,aa9,iv,aGM,hw,Int.toNat_zero,Int.le_refl,adE,decide_false]|refine fsp ?_ ?_<;>intro hb|refine fd ?_|fail))
   all_goals first
    |exact kQ _ _ _ (by rw[if_neg (by rw[kF (by simp_all)];simp)];exact⟨rfl,by simp[up]⟩)
    |exact adW (kJ _ _ (some x) ⟨.inr ⟨by omega,by simp[hx]⟩,rfl,by simp[up,h1],by simp[up,h2],by simp[up]<;>omega⟩ (kT (by simp_all)))
  ·obtain⟨j,rfl⟩:∃j,i=j+1:=⟨i-1,by omega⟩
   obtain⟨q,hq⟩:∃q,l[j]?=some q:=⟨l[j],azS (by omega)⟩
   have hj:IntKind.i64.wrap (((j+1:Nat):Int)-1)=(j:Int):=by unfold maxLen at hl;rw[ajR (by omega) (by omega)];omega
   have hg:decide (0<((j+1:Nat):Int))=true:=by rw[decide_eq_true_eq];omega
   simp only[Nat.add_sub_cancel,hq]at kJ kQ
   (have hb:=trivial;with_reducible repeat' (first|simp only[hb,Vc.down,seval,aWU.down,h1,h2,h5,hd,hx,aa9,iv,aGM,hw,hj,hg,hq]|refine fsp ?_ ?_<;>intro hb|refine fd ?_|fail))
   all_goals first
    |exact kQ _ _ _ (by rw[if_neg (by rw[kF (by simp_all)];simp)];exact⟨rfl,by simp[up]⟩)
    |exact adW (kJ _ _ (some x) ⟨.inr ⟨by omega,by simp[hx]⟩,rfl,by simp[up,h1],by simp[up,h2],by simp[up]<;>omega⟩ (kT (by simp_all)))
 ·exact⟨.inl ⟨rfl,rfl⟩,rfl,by simp[up,ent],by simp[up],by simp[up]⟩
 ·split at hk
  ·obtain rfl:=hk
   rename_i hr
   (have hb:=trivial;with_reducible repeat' (first|simp only[hb,Vc.down,seval,aWU.down]|refine fsp ?_ ?_<;>intro hb|refine fd ?_|fail))
   all_goals simp_all
  ·obtain⟨rfl,h2⟩:=hk
   rename_i hr
   (have hb:=trivial;with_reducible repeat' (first|simp only[hb,Vc.down,seval,aWU.down,h2]|refine fsp ?_ ?_<;>intro hb|refine fd ?_|fail))
   all_goals simp[hr]
def prT(y:aeH):List Int × Int:=(y.reads,y.cmd)
theorem aOP{m:aaW}(hs:m.small){l:List aeH}{nn:Bool}(hl:l.length≤maxLen)(hr:∀y∈l,y.reads.length≤maxLen):om'.call (.fn 35) [.agg [slv 3 true m.nS (m.sens.map ad1.cells),slv 4 false m.nV (m.votes.map abT.cells),slv 5 false m.nM (m.moves.map ac4.cells),.int .i64 m.states,.int .i64 m.cmds,.int .i64 m.bgn,slv 1 true m.nO (m.opn.map iv)],slv 2 false nn (l.map aeH.cells)] []=some (.ret (.bool (l.all (av2 m))),[]):=by
 (refine ce Try.func35 ?_;simp only[Try.f35];(have hb:=trivial;with_reducible repeat' (first|simp only[hb,Vc.down,seval,aX2.down,aa9]|refine fsp ?_ ?_<;>intro hb|refine fd ?_|fail)))
 refine ahX (lst 19 l (fun i (_:Unit) t h=>t 1=slv 2 false nn (l.map aeH.cells)∧t 2=.ptr 0 0 0∧t 5=.int .i64 i∧h=[.live 7 false false [[slv 3 true m.nS (m.sens.map ad1.cells),slv 4 false m.nV (m.votes.map abT.cells),slv 5 false m.nM (m.moves.map ac4.cells),.int .i64 m.states,.int .i64 m.cmds,.int .i64 m.bgn,slv 1 true m.nO (m.opn.map iv)]]]) (fun rest _=>rest.all (av2 m)) (fun r e t h=>if r=true then e=.exit 0 else e=.ret∧t 4=.bool false) ?_ ?_ () _ _ ?_) (fun e t h hk=>?_)
 ·rintro _ t h Q' kQ ⟨c1,c2,c5,rfl⟩
  (have hb:=trivial;with_reducible repeat' (first|simp only[hb,Vc.down,seval,aX2.down,c1,c2,c5,aa9,adE,decide_false]|refine fsp ?_ ?_<;>intro hb|refine fd ?_|fail))
  exact kQ _ _ _ (by simp)
 ·rintro z rest i _ t h J Q' kJ kQ hx hi ⟨c1,c2,c5,rfl⟩
  have hd:((i:Int)<(l.length:Int))=True:=eq_true (by omega)
  have hw:=adL hi hl
  have hsc:=bc4 m z (hr z (aeU hx))
  cases hz:av2 m z with
  |true=>
   rw[hz]at hsc
   (have hb:=trivial;with_reducible repeat' (first|simp only[hb,Vc.down,seval,aX2.down,c1,c2,c5,hd,hx,hw,hsc,aeH.cells,aa9]|refine fsp ?_ ?_<;>intro hb|refine fd ?_|fail))
   exact adW (kJ _ _ () ⟨by simp[up,c1],by simp[up,c2],by simp[up]<;>omega,rfl⟩ (by simp[hz]))
  |false=>
   rw[hz]at hsc
   (have hb:=trivial;with_reducible repeat' (first|simp only[hb,Vc.down,seval,aX2.down,c1,c2,c5,hd,hx,hw,hsc,aeH.cells,aa9]|refine fsp ?_ ?_<;>intro hb|refine fd ?_|fail))
   exact kQ _ _ _ (by simp[hz,up])
 ·exact⟨by simp[up,ent],by simp[up],by simp[up],rfl⟩
 ·split at hk
  ·rename_i hr
   obtain rfl:=hk
   (have hb:=trivial;with_reducible repeat' (first|simp only[hb,Vc.down,seval,aX2.down]|refine fsp ?_ ?_<;>intro hb|refine fd ?_|fail))
   all_goals simp[hr]
  ·rename_i hr
   obtain⟨rfl,c4⟩:=hk
   (have hb:=trivial;with_reducible repeat' (first|simp only[hb,Vc.down,seval,aX2.down,c4]|refine fsp ?_ ?_<;>intro hb|refine fd ?_|fail))
   all_goals simp[hr]
def aJX:List (Int × Int)→Option Bool
 | []=>none
 |p::l=>if p.1=p.2 then aJX l else some (decide (p.1<p.2))
theorem aRM:∀(p q:List Int),aRR p q=aJX (p.zip q)
 | [],q=>by cases q<;>rfl
 |_::_,[]=>rfl
 |a::p,b::q=>by unfold aRR;rw[aBS];unfold aJX;rw[aRM p q]
def aIS:List (aeH × aeH)→Bool
 | []=>false
 |p::l=>match aJX (p.1.reads.zip p.2.reads)with
  |some r=>r
  |none=>if p.1.cmd=p.2.cmd then aIS l else decide (p.1.cmd<p.2.cmd)
theorem aRT:∀(A B:List aeH),aZM (A.map prT) (B.map prT)=aIS (A.zip B)
 | [],B=>by cases B<;>rfl
 |_::_,[]=>rfl
 |a::A,b::B=>by
  rw[List.map_cons,List.map_cons,aBS]
  unfold aZM aIS
  rw[aRT A B,aRM];rfl
theorem aWG{α β:Type}{A:List α}{B:List β}{i:Nat}{x:α × β}(h:(A.zip B)[i]?=some x):A[i]?=some x.1∧B[i]?=some x.2:=by
 obtain⟨a,b⟩:=x
 exact List.getElem?_zip_eq_some.1 h
theorem a4O{A B:List aeH}{nn nn':Bool}(hA:A.length≤maxLen)(hB:B.length≤maxLen)(hrA:∀y∈A,y.reads.length≤maxLen):om'.call (.fn 37) [slv 2 false nn (A.map aeH.cells),slv 2 false nn' (B.map aeH.cells)] []=some (.ret (.bool (aIS (A.zip B))),[]):=by
 (refine ce Try.func37 ?_;simp only[Try.f37];(have hb:=trivial;with_reducible repeat' (first|simp only[hb,Vc.down,seval,aG7.down,aa9]|refine fsp ?_ ?_<;>intro hb|refine fd ?_|fail)))
 refine ahX (lst 95 (A.zip B) (fun i (_:Unit) t h=>t 0=slv 2 false nn (A.map aeH.cells)∧t 1=slv 2 false nn' (B.map aeH.cells)∧t 5=.int .i64 i∧h=[]) (fun rest _=>aIS rest) (fun r e t h=>h=[]∧((e=.ret∧t 4=.bool r)∨(r=false∧e=.exit 0))) ?_ ?_ () _ _ ?_) (fun e t h hk=>?_)
 ·rintro _ t h Q' kQ ⟨c0,c1,c5,rfl⟩
  rw[anU]at c5
  by_cases hl:A.length≤B.length
  ·rw[aBT hl]at c5
   (have hb:=trivial;with_reducible repeat' (first|simp only[hb,Vc.down,seval,aG7.down,c0,c1,c5,aa9,adE,decide_false]|refine fsp ?_ ?_<;>intro hb|refine fd ?_|fail))
   exact kQ _ _ _ ⟨rfl,.inr ⟨rfl,rfl⟩⟩
  ·rw[aDB (by omega)]at c5
   have hd:((B.length:Int)<(A.length:Int))=True:=eq_true (by omega)
   (have hb:=trivial;with_reducible repeat' (first|simp only[hb,Vc.down,seval,aG7.down,c0,c1,c5,hd,aa9,adE,decide_false]|refine fsp ?_ ?_<;>intro hb|refine fd ?_|fail))
   exact kQ _ _ _ ⟨rfl,.inr ⟨rfl,rfl⟩⟩
 ·rintro p rest i _ t h J Q' kJ kQ hx hi ⟨c0,c1,c5,rfl⟩
  rw[anU]at hi
  obtain⟨ga,gb⟩:=aWG hx
  obtain⟨a,b⟩:=p
  simp only at ga gb
  have hd1:((i:Int)<(A.length:Int))=True:=eq_true (by omega)
  have hd2:((i:Int)<(B.length:Int))=True:=eq_true (by omega)
  have hw:=adL (show i<A.length by omega) hA
  have hra:=hrA a (aeU ga)
  (have hb:=trivial;with_reducible repeat' (first|simp only[hb,Vc.down,seval,aG7.down,c0,c1,c5,hd1,hd2,aa9]|refine fsp ?_ ?_<;>intro hb|refine fd ?_|fail))
  refine ahX (lst 95 (a.reads.zip b.reads) (fun j (_:Unit) t h=>t 0=slv 2 false nn (A.map aeH.cells)∧t 1=slv 2 false nn' (B.map aeH.cells)∧t 5=.int .i64 i∧t 6=.int .i64 j∧h=[]) (fun rest _=>aJX rest) (fun r e t h=>h=[]∧match r with
   |some v=>e=.ret∧t 4=.bool v
   |none=>e=.exit 2∧t 0=slv 2 false nn (A.map aeH.cells)∧t 1=slv 2 false nn' (B.map aeH.cells)∧t 5=.int .i64 i) ?_ ?_ () _ _ ?_) (fun e t h hk=>?_)
  ·rintro _ t h Q2 kQ2 ⟨d0,d1,d5,d6,rfl⟩
   rw[anU]at d6
   by_cases hl:a.reads.length≤b.reads.length
   ·rw[aBT hl]at d6
    (have hb:=trivial;with_reducible repeat' (first|simp only[hb,Vc.down,seval,aG7.down,d0,d1,d5,d6,hd1,hd2,ga,gb,aeH.cells,aa9,adE,decide_false]|refine fsp ?_ ?_<;>intro hb|refine fd ?_|fail))
    exact kQ2 _ _ _ ⟨rfl,rfl,by simp[up,d0],by simp[up,d1],by simp[up,d5]⟩
   ·rw[aDB (by omega)]at d6
    have hd:((b.reads.length:Int)<(a.reads.length:Int))=True:=eq_true (by omega)
    (have hb:=trivial;with_reducible repeat' (first|simp only[hb,Vc.down,seval,aG7.down,d0,d1,d5,d6,hd,hd1,hd2,ga,gb,aeH.cells,aa9,adE,decide_false]|refine fsp ?_ ?_<;>intro hb|refine fd ?_|fail))
    exact kQ2 _ _ _ ⟨rfl,rfl,by simp[up,d0],by simp[up,d1],by simp[up,d5]⟩
  ·rintro q rest2 j _ t h J2 Q2 kJ2 kQ2 hx2 hj ⟨d0,d1,d5,d6,rfl⟩
   rw[anU]at hj
   obtain⟨ra,rb⟩:=aWG hx2
   obtain⟨x,y⟩:=q
   simp only at ra rb
   have he1:((j:Int)<(a.reads.length:Int))=True:=eq_true (by omega)
   have he2:((j:Int)<(b.reads.length:Int))=True:=eq_true (by omega)
   have hwj:=adL (show j<a.reads.length by omega) hra
   by_cases hxy:x=y
   ·have hb2:(x==y)=true:=by simp[hxy]
    have hF:aJX ((x,y)::rest2)=aJX rest2:=by simp[aJX,hxy]
    rw[hF]at kJ2
    (have hb:=trivial;with_reducible repeat' (first|simp only[hb,Vc.down,seval,aG7.down,d0,d1,d5,d6,he1,he2,hd1,hd2,ga,gb,ra,rb,iv,hb2,hwj,aeH.cells,aa9]|refine fsp ?_ ?_<;>intro hb|refine fd ?_|fail))
    exact adW (kJ2 _ _ () ⟨by simp[up,d0],by simp[up,d1],by simp[up,d5],by simp[up]<;>omega,rfl⟩ rfl)
   ·have hb2:(x==y)=false:=by simp[hxy]
    have hF:aJX ((x,y)::rest2)=some (decide (x<y)):=by simp[aJX,hxy]
    rw[hF]at kQ2
    (have hb:=trivial;with_reducible repeat' (first|simp only[hb,Vc.down,seval,aG7.down,d0,d1,d5,d6,he1,he2,hd1,hd2,ga,gb,ra,rb,iv,hb2,aeH.cells,aa9]|refine fsp ?_ ?_<;>intro hb|refine fd ?_|fail))
    exact kQ2 _ _ _ ⟨rfl,rfl,by simp[up]⟩
  ·exact⟨by simp[up,c0],by simp[up,c1],by simp[up,c5],by simp[up],rfl⟩
  ·obtain⟨rfl,hk⟩:=hk
   cases hz:aJX (a.reads.zip b.reads)with
   |some v=>
    rw[hz]at hk
    obtain⟨rfl,d4⟩:=hk
    have hF:aIS ((a,b)::rest)=v:=by rw[aIS];simp only[hz]
    rw[hF]at kQ
    (have hb:=trivial;with_reducible repeat' (first|simp only[hb,Vc.down,seval,aG7.down]|refine fsp ?_ ?_<;>intro hb|refine fd ?_|fail))
    exact kQ _ _ _ ⟨rfl,.inl ⟨rfl,d4⟩⟩
   |none=>
    rw[hz]at hk
    obtain⟨rfl,d0,d1,d5⟩:=hk
    have hF:aIS ((a,b)::rest)=if a.cmd=b.cmd then aIS rest else decide (a.cmd<b.cmd):=by rw[aIS];simp only[hz]
    rw[hF]at kJ kQ
    by_cases hc:a.cmd=b.cmd
    ·have hb2:(a.cmd==b.cmd)=true:=by simp[hc]
     rw[if_pos hc]at kJ
     (have hb:=trivial;with_reducible repeat' (first|simp only[hb,Vc.down,seval,aG7.down,d0,d1,d5,hd1,hd2,ga,gb,hb2,hw,aeH.cells,aa9]|refine fsp ?_ ?_<;>intro hb|refine fd ?_|fail))
     exact adW (kJ _ _ () ⟨by simp[up,d0],by simp[up,d1],by simp[up]<;>omega,rfl⟩ rfl)
    ·have hb2:(a.cmd==b.cmd)=false:=by simp[hc]
     rw[if_neg hc]at kQ
     (have hb:=trivial;with_reducible repeat' (first|simp only[hb,Vc.down,seval,aG7.down,d0,d1,d5,hd1,hd2,ga,gb,hb2,aeH.cells,aa9]|refine fsp ?_ ?_<;>intro hb|refine fd ?_|fail))
     exact kQ _ _ _ ⟨rfl,.inl ⟨rfl,by simp[up]⟩⟩
 ·exact⟨by simp[up,ent],by simp[up,ent],by simp[up],rfl⟩
 ·obtain⟨rfl,⟨rfl,c4⟩|⟨hr,rfl⟩⟩:=hk
  ·(have hb:=trivial;with_reducible repeat' (first|simp only[hb,Vc.down,seval,aG7.down,c4]|refine fsp ?_ ?_<;>intro hb|refine fd ?_|fail))
  ·(have hb:=trivial;with_reducible repeat' (first|simp only[hb,Vc.down,seval,aG7.down]|refine fsp ?_ ?_<;>intro hb|refine fd ?_|fail))
   all_goals simp[hr]
theorem avZ(m:aaW):ad2 8 (.agg m.cells)=true:=by simp[aaW.cells,aEH,ayH,aqW]
theorem aDS(H:aaL)(m:aaW):rdV H (.agg m.cells)=some (.agg m.cells):=awW _ (d:=8) (by omega) (avZ m)
theorem aVT(h:aaL)(m:aaW)(n:Int):[AV.agg m.cells,AV.int .i64 n].flatMap (ad7 12 (hf h))=[]:=by
 rw[ayS,axM (hf h) (show 8≤12 by omega) (avZ m)]
 rfl
def a9A(m:aaW):Int:=(List.range m.sens.length).foldl (fun n k=>IntKind.i64.wrap (n*((aH4 m k).length:Int))) (IntKind.i64.wrap (m.cmds+1))
theorem bbL{m:aaW}(hs:m.small)(hm:adZ m=true):om'.call (.fn 52) [.agg m.cells] []=some (.ret (.int .i64 (a9A m)),[]):=by
 obtain⟨q,hq⟩:∃q,Fn.func 77=q:=⟨_,rfl⟩
 have hs6:=aC8 hm
 refine ce Try.func52 ?_
 simp only[Try.f52]
 (have hb:=trivial;with_reducible repeat' (first|simp only[hb,Vc.down,seval,a54.down,aa9]|refine fsp ?_ ?_<;>intro hb|refine fd ?_|fail))
 refine ahX (lst 22 (List.range m.sens.length) (fun i (n:Int) t h=>t 1=.ptr 0 0 0∧t 3=.int .i64 n∧t 4=.int .i64 i∧∃x,h[0]?=some (.live 7 false x [m.cells])) (fun rest n=>rest.foldl (fun n k=>IntKind.i64.wrap (n*((aH4 m k).length:Int))) n) (fun r e t h=>e=.exit 0∧t 3=.int .i64 r) ?_ ?_ (IntKind.i64.wrap (m.cmds+1)) _ _ ?_) (fun e t h hk=>?_)
 ·rintro n t h Q' kQ ⟨c1,c3,c4,x0,h0⟩
  rw[aFX]at c4
  (have hb:=trivial;with_reducible repeat' (first|simp only[hb,Vc.down,seval,a54.down,c1,c3,c4,h0,aa9,adE,decide_false]|refine fsp ?_ ?_<;>intro hb|refine fd ?_|fail))
  exact kQ _ _ _ ⟨rfl,by simp[up,c3]⟩
 ·rintro k rest i n t h J Q' kJ kQ hx hi ⟨c1,c3,c4,x0,h0⟩
  rw[aFX]at hi
  obtain rfl:i=k:=by rw[List.getElem?_range hi]at hx;cases hx;rfl
  have hd:((i:Int)<(m.sens.length:Int))=True:=eq_true (by omega)
  have hw:=adL hi hs.sens
  obtain⟨nn,KE⟩:=bcY hs hm hi
  obtain⟨v,es,H1,R,e1,e2,K,r1,r2,r3⟩:=KE.cl (H:=h) (args:=[.agg m.cells,.int .i64 (i:Int)]) (azW rfl) (by simp only[arI,as8,aDS,anH];rfl) (by simp[avZ,List.all_cons,ayH])
  rw[hq]at e1
  have hlen:∃b,v=.slr 1 b 0 (aH4 m i).length:=by
   rcases aAC r1 with⟨_,h1⟩|⟨b,rows',rfl,_⟩
   ·simp[aH4]at h1
   ·exact⟨b,by simp⟩
  obtain⟨b,rfl⟩:=hlen
  have h01:H1[0]?=some (.live 7 false x0 [m.cells]):=by
   rw[K.same 0 (adM h0) (by rw[show [AV.agg m.cells,AV.int .i64 (i:Int)].flatMap (ad7 12 (hf h))=[]from aVT h m i];simp)];exact h0
  (have hb:=trivial;with_reducible repeat' (first|simp only[hb,Vc.down,seval,a54.down,c1,c3,c4,h0,hd,hw,hq,e1,e2,aa9]|refine fsp ?_ ?_<;>intro hb|refine fd ?_|fail))
  exact adW (kJ _ _ (IntKind.i64.wrap (n*((aH4 m i).length:Int))) ⟨by simp[up,c1],by simp[up],by simp[up]<;>omega,x0,h01⟩ rfl)
 ·exact⟨by simp[up,ent],by simp[up],by simp[up],false,rfl⟩
 ·obtain⟨rfl,c3⟩:=hk
  (have hb:=trivial;with_reducible repeat' (first|simp only[hb,Vc.down,seval,a54.down,c3]|refine fsp ?_ ?_<;>intro hb|refine fd ?_|fail))
  all_goals rfl
def aOX(m:aaW)(n:Int):Bool:=aGO m&&(!adZ m||(decide (m.sens.length≤3)&&decide (a9A m≤n)))
theorem aVB{m:aaW}(hs:m.small)(n:Int):om'.call (.fn 20) [.agg m.cells,.int .i64 n] []=some (.ret (.bool (aOX m n)),[]):=by
 have h1:=a5K m hs
 have h2:=aGX m hs
 unfold aOX
 have l3:decide ((m.sens.length:Int)≤3)=decide (m.sens.length≤3):=by rw[decide_eq_decide];omega
 cases c1:aGO m with
 |false=>
  rw[c1]at h1
  (refine ce Try.func20 ?_;simp only[Try.f20];(have hb:=trivial;with_reducible repeat' (first|simp only[hb,Vc.down,seval,a55.down,h1]|refine fsp ?_ ?_<;>intro hb|refine fd ?_|fail)))
 |true=>
  rw[c1]at h1
  cases c2:adZ m with
  |false=>
   rw[c2]at h2
   (refine ce Try.func20 ?_;simp only[Try.f20];(have hb:=trivial;with_reducible repeat' (first|simp only[hb,Vc.down,seval,a55.down,h1,h2]|refine fsp ?_ ?_<;>intro hb|refine fd ?_|fail)))
  |true=>
   rw[c2]at h2
   have h3:=bbL hs c2
   cases c3:decide (m.sens.length≤3)with
   |false=>
    rw[c3]at l3
    have l4:=of_decide_eq_false l3
    (refine ce Try.func20 ?_;simp only[Try.f20];(have hb:=trivial;with_reducible repeat' (first|simp only[hb,Vc.down,seval,a55.down,h1,h2,l3,l4,aa9]|refine fsp ?_ ?_<;>intro hb|refine fd ?_|fail)))
    all_goals simp_all
   |true=>
    rw[c3]at l3
    have l4:=of_decide_eq_true l3
    (refine ce Try.func20 ?_;simp only[Try.f20];(have hb:=trivial;with_reducible repeat' (first|simp only[hb,Vc.down,seval,a55.down,h1,h2,h3,l3,l4,aa9]|refine fsp ?_ ?_<;>intro hb|refine fd ?_|fail)))
    all_goals simp_all
theorem a3B{m:aaW}(hm:adZ m=true){y:aeH}(h:av2 m y=true):Leg m (prT y):=by
 have hc:=aAX hm
 simp only[av2,aDT,aiZ,at6,beq_iff_eq]at h
 obtain⟨⟨h1,h2⟩,h3⟩:=h
 rw[ajR (by omega) (by omega)]at h3
 simp only[inB,aiZ,decide_eq_true_eq]at h3
 refine⟨by simp only[prT];omega,fun n hn=>(aKU n).1 (h2 n hn),?_,?_⟩<;>simp only[prT]<;>omega
theorem a1C{m:aaW}(hm:adZ m=true){a:List Int × Int}(h:Leg m a):av2 m (tsc a)=true:=by
 have hc:=aAX hm
 obtain⟨h1,h2,h3,h4⟩:=h
 simp only[av2,aDT,aiZ,at6,beq_iff_eq]
 rw[ajR (by omega) (by omega)]
 refine⟨⟨by simp only[tsc];omega,fun n hn=>(aKU n).2 (h2 n hn)⟩,?_⟩
 simp only[inB,tsc,aiZ,decide_eq_true_eq]
 exact⟨decide_eq_true h3,decide_eq_true (by omega)⟩
theorem aCK{m:aaW}(hm:adZ m=true):∀(Q:List (List Int × Int)) (v:Int × Int),okN m v→okN m (auQ (stp m) v Q)
 | [],_,h=>h
 |a::Q,v,h=>aCK hm Q (stp m v a) (aGQ hm h a)
theorem aI3{m:aaW}(hm:adZ m=true):okN m (m.bgn,0):=by
 have hs:=asZ hm
 exact⟨hs.2.2.1,hs.2.2.2,by simp,by simp⟩
theorem a36{m:aaW}(hs:m.small)(hm:adZ m=true){Q:List (List Int × Int)}(hQ:∀a∈Q,Leg m a):∃PT:List aeH,RdT om' 30 [.agg m.cells,.int .i64 (auQ (stp m) (m.bgn,0) Q).1] [slv 2 false false (PT.map aeH.cells),.int .i64 0] 200∧PT.length≤88∧PT.all (av2 m)=true∧(∀y∈PT,y.reads.length≤6)∧leA ltS (PT.map prT) Q∧(auQ (stp m) (m.bgn,0) (PT.map prT)).1=(auQ (stp m) (m.bgn,0) Q).1:=by
 have hok:=aCK hm Q _ (aI3 hm)
 have hX:=av6 hm
 obtain⟨o,h',hc,D,B,hP⟩:=a4X hs hm (s:=(auQ (stp m) (m.bgn,0) Q).1) ⟨hok.1,hok.2.1⟩
 obtain⟨k,x,x1,x2,x3⟩:=BF.labels aDO hX.inc B (Q:=Q) fun a ha=>hX.reps (hQ a ha)
 have hxD:x∈D:=aeU x1
 rcases aNZ hX B (auQ (stp m) (m.bgn,0) Q).1 with⟨_,h2⟩|⟨z,z1,z2,z3,z4⟩
 ·exact absurd (by rw[x2]) (h2 x hxD)
 ·unfold PaQ at hP
  rw[z1]at hP
  obtain⟨outs,R,rfl,r1,r2,r3⟩:=hP
  obtain⟨kz,hkz⟩:=ajS z2
  have hw:=B.way kz z hkz
  have e1:(z.2.map fun a=>tsc (gS (am6 m) a)).map prT=z.2.map (gS (am6 m)):=by rw[List.map_map];rfl
  refine⟨z.2.map fun a=>tsc (gS (am6 m) a),⟨outs,h',R,hc,by rw[List.map_map];exact r1,r2,r3⟩,?_,?_,?_,?_,?_⟩
  ·have:=aU7 B kz z hkz
   have:=aw9 hm B
   have:=aJH hkz
   simp;omega
  ·rw[at6]
   intro y hy
   obtain⟨a,ha,rfl⟩:=auT.1 hy
   exact a1C hm (hX.leg _ (aPF (hw.2 a ha)))
  ·intro y hy
   obtain⟨a,ha,rfl⟩:=auT.1 hy
   have:=(hX.leg _ (aPF (hw.2 a ha))).1
   have:=aC8 hm
   simp only[tsc];omega
  ·rw[e1]
   exact aMQ aDO (z4 x hxD (by rw[x2])) x3
  ·rw[e1,run_map]
   exact(congrArg Prod.fst hw.1).trans z3
theorem a60{m:aaW}(hs:m.small)(hm:adZ m=true){s:Int}(hst:0≤s∧s<m.states){D:List ((Int × Int) × List Nat)}(B:Fnd m (am6 m) D)(h:aBU D s=false):om'.call (.fn 30) [.agg m.cells,.int .i64 s] []=some (.ret (.tup [.nils,.int .i64 5]),[]):=by
 have hX:=av6 hm
 obtain⟨o,h',hc,D',B',hP⟩:=a4X hs hm hst
 have hn:aHJ D' s=none:=by
  rcases aNZ hX B' s with⟨h1,_⟩|⟨z,_,z2,z3,_⟩
  ·exact h1
  ·obtain⟨y,y1,y2⟩:=(a3D hX hX B' B s).1 ⟨z,z2,z3⟩
   have:aBU D s=true:=au3.2 ⟨y,y1,by simp[y2]⟩
   rw[h]at this;cases this
 unfold PaQ at hP
 rw[hn]at hP
 obtain⟨rfl,rfl⟩:=hP
 exact hc
theorem a1O{m:aaW}(hm:adZ m=true){D:List ((Int × Int) × List Nat)}(B:Fnd m (am6 m) D){Q:List (List Int × Int)}(hQ:∀a∈Q,Leg m a):aBU D (auQ (stp m) (m.bgn,0) Q).1=true:=by
 have hX:=av6 hm
 obtain⟨k,x,x1,x2,_⟩:=BF.labels aDO hX.inc B (Q:=Q) fun a ha=>hX.reps (hQ a ha)
 exact au3.2 ⟨x,aeU x1,by rw[x2];simp⟩
theorem aGS{m:aaW}{D:List ((Int × Int) × List Nat)}{s:Int}:s∈au6 m D↔(0≤s∧s<m.states)∧aBU D s=true:=by
 unfold au6
 rw[azA,aOY]
 constructor
 ·rintro⟨h,h2⟩;exact⟨by omega,h2⟩
 ·rintro⟨h,h2⟩;exact⟨by omega,h2⟩
theorem aNK{m:aaW}{D:List ((Int × Int) × List Nat)}{s:Int}(h:0≤s∧s<m.states):((au6 m D).any fun x=>x==s)=aBU D s:=by
 cases hh:aBU D s with
 |true=>exact au3.2 ⟨s,aGS.2 ⟨h,hh⟩,by simp⟩
 |false=>
  rw[List.any_eq_false]
  intro x hx e
  have e2:x=s:=by simpa using e
  subst e2
  have:=(aGS.1 hx).2
  rw[hh]at this;cases this
theorem aWL:∀(b:Int) (l:List Int) (p:Option Int),(∀x∈l,inB x 0 (IntKind.i64.wrap (b-1))=true)→l.Pairwise (· < ·)→(∀q,p=some q→∀x∈l,q<x)→as7 b l p=true
 |_,[],_,_,_,_=>rfl
 |b,n::l,p,h1,h2,h3=>by
  obtain⟨k1,k2⟩:=List.pairwise_cons.1 h2
  have e2:=aWL b l (some n) (fun x hx=>h1 x (by simp[hx])) k2 (fun q hq x hx=>by cases hq;exact k1 x hx)
  have e0:=h1 n (by simp)
  cases p with
  |none=>
   show(inB n 0 (IntKind.i64.wrap (b-1))&&true&&as7 b l (some n))=true
   rw[e0,e2];rfl
  |some q=>
   have e3:=h3 q rfl n (by simp)
   have e4:(!decide (n≤q))=true:=by simp;omega
   show(inB n 0 (IntKind.i64.wrap (b-1))&& !decide (n≤q)&&as7 b l (some n))=true
   rw[e0,e2,e4];rfl
theorem aTM{m:aaW}(hm:adZ m=true)(D:List ((Int × Int) × List Nat)):as7 m.states (au6 m D) none=true:=by
 have hst:=asZ hm
 refine aWL _ _ _ (fun x hx=>?_) ((a12 _ _).filter _) (fun q hq=>by cases hq)
 have:=(aGS.1 hx).1
 rw[ajR (by omega) (by omega)]
 simp only[inB,aiZ,decide_eq_true_eq];omega
theorem aG4(m:aaW)(hm:adZ m=true)(D:List ((Int × Int) × List Nat)):(au6 m D).length≤8:=by
 have hst:=asZ hm
 unfold au6
 refine Nat.le_trans (azC _ _) ?_
 rw[aw2];omega
theorem ba9{m:aaW}{Q P:List aeH}(hP:∀y∈P,y.reads.length=m.sens.length)(hQ:∀y∈Q,y.reads.length=m.sens.length)(hl:P.length=Q.length)(h:leA ltS (P.map prT) (Q.map prT)):aIS (Q.zip P)=false:=by
 rw[←aRT]
 have rn:∀{L:List aeH},(∀y∈L,y.reads.length=m.sens.length)→a92 m.sens.length (L.map prT):=fun hL a ha=>by
  obtain⟨y,hy,rfl⟩:=auT.1 ha
  exact hL y hy
 rcases aM5 (p:=Q.map prT) (q:=P.map prT) (by simp[hl]) (rn hQ) (rn hP)with⟨_,i2,i3⟩|⟨i1,_⟩
 ·exfalso
  rcases h with h|⟨h1,h2⟩
  ·simp at h;omega
  ·exact i3 (azR aDO (by simp[hl]) i2 h2)
 ·exact i1
end Go.Proofs.Ytfkokgjfpojeoaa
