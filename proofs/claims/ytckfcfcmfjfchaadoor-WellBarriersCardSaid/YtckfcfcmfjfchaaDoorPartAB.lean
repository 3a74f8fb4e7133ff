/- The functions of the layer, walked. -/
import Derived.Test.YtckfcfcmfjfchaaDoorPartAA
import Derived.Test.YtckfcfcmfjfchaaDoorLibE
import Derived.Test.YtckfcfcmfjfchaaDoorLibD
open List renaming getElem?_set_ne→ab8,replicate→ab9,mem_cons→acA,getElem?_append_left→acB,length_map→acC,getElem?_set_self→acD,mem_cons_self→acE,getElem?_eq_getElem→acF,getElem?_append_right→acG,not_mem_nil→acH,all_eq_true→adL,take→afD,getElem?_map→af4,length_replicate→agD,length_nil→agT,mem_of_getElem?→agW,mem_cons_of_mem→agY,nil_append→ag5,getElem?_eq_some_iff→ahG,map_set→ajS,all_cons→ajU,length_set→akU,length_cons→akV,take_of_length_le→akW,ext_getElem?→akX,replicate_succ→akY,map_append→akZ,mem_flatMap→ak0,getElem?_replicate→ak2
open Nat renaming le_refl→acI,add_sub_cancel_left→agR,sub_self→ajN
open Int renaming lt_irrefl→agU,toNat_natCast→ak1
open Option renaming map_eq_some_iff→ajX,bind_eq_some_iff→ak3
set_option linter.unusedSimpArgs false
set_option linter.unusedVariables false
namespace Go.Proofs.YtckfcfcmfjfchaaDoor
open Go.Ev Go Go.Ev.Net
set_option maxRecDepth 100000
set_option maxHeartbeats 16000000
def QS(v:AV)(q:List Nat)(H:Aa)(p:Nat):Prop:=
 (v=.nils∧q=[])∨∃b w rows r,v=.slr 1 b r q.length∧H[b]?=some (.live 1 true w rows)∧b≠p∧rows.drop r=q.map Ci∧r+q.length=rows.length
def Dz:AV→List Nat
 | .slr _ b _ _=>[b]
 |_=>[]
theorem Uc{x:Option (List AV)}{vs:List AV}{h:Aa}{Q:Db→Aa→Prop}(hx:x=some vs)(k:Q (.ret (Ky vs)) h):RtS x h Q:=by subst hx;exact k
theorem zL{H:Aa}{p:Nat}{fl w:Bool}{v:AV}{q:List Nat}(x:Nat)(hp:H[p]?=some (.live 1 fl w [[v]]))(hQ:QS v q H p)(hq:q.length≤100000000):
 oM Fe 56 [.ptr p 0 0,.int .i64 (x:Int)] H fun o G=>o=.ret (.tup [])∧∃v' fl',G[p]?=some (.live 1 fl' true [[v']])∧QS v' (q++[x]) G p∧Rf (p::Dz v) H G∧(∀b∈Dz v,G[b]?=some .dead)∧(Ao H=true→Ao G=true)∧∀b∈Dz v',H.length≤b:=by
 have hpl:=Ac hp
 refine pE rfl Tryd.func56 rfl rfl ?_
 simp only[Tryd.f56]
 refine Dp (fun KK iN hK=>?_)
 have hA:=Ai hp
 have hS:=Gu hpl
 rcases hQ with⟨rfl,rfl⟩|⟨b,w',rows,r,rfl,hrb,hbp,hd,hl⟩
 ·(have hb:=trivial;with_reducible repeat' (first|simp only[hb,Va.down,seval,acV.down,hp,hA,hS]|refine Be ?_ ?_<;>intro hb|refine fd ?_|fail))
  refine hK _ ?_
  rw[Nb]
  refine Uc (vs:=[]) (by simp only[Va.down,seval,acV.down]) ⟨rfl,.slr 1 (H.length+1) 0 1,false,?_,.inr ⟨H.length+1,false,[Ci x],0,rfl,?_,by omega,rfl,rfl⟩,⟨by simp,fun b hb1 hn=>?_⟩,fun b hb1=>by simp[Dz]at hb1,fun hqq=>Bi (Ar hqq p rfl) rfl,fun b hb1=>by simp[Dz]at hb1;omega⟩
  ·rw[acB (by simpa using hpl),acD hpl]
  ·rw[En];rfl
  ·rw[acB (by simpa using hb1),ab8 (fun e=>hn (by rw[e];exact acE ..))]
 ·have hbl:=Ac hrb
  have hB:=Ai hrb
  have hSb:=Gu hbl
  have h39:(q.length+1≤549755813888)=True:=eq_true (by omega)
  have hg:∀l,(H.set b .dead++l)[p]?=some (.live 1 fl w [[.slr 1 b r q.length]]):=fun l=>by
   rw[acB (by simpa using hpl),ab8 hbp];exact hp
  have hg2:∀l c,(H.set b .dead++l).set p c=(H.set b .dead).set p c++l:=fun l c=>Gu (by simpa using hpl) l c
  (have hb:=trivial;with_reducible repeat' (first|simp only[hb,Va.down,seval,acV.down,hp,hA,hS,hrb,hB,hSb,hd,hl,h39,hg,hg2,Gx,En,akU,acC]|refine Be ?_ ?_<;>intro hb|refine fd ?_|fail))
  have hsl:((H.set b .dead).set p (CB.live 1 false true [[AV.slr 1 (H.length+1) 0 (q.length+1)]])).length=H.length:=by simp
  refine hK _ ?_
  rw[Nb]
  refine Uc (vs:=[]) (by simp only[Va.down,seval,acV.down]) ⟨rfl,.slr 1 (H.length+1) 0 (q.length+1),false,?_,.inr ⟨H.length+1,false,(q++[x]).map Ci,0,by simp,?_,by omega,rfl,by simp⟩,⟨by simp,fun c hc hn=>?_⟩,fun c hc=>?_,fun hqq=>Bi (Ar (Ar hqq b rfl) p rfl) rfl,fun c hc=>by simp[Dz]at hc;omega⟩
  ·rw[acB (by omega),acD (by simpa using hpl)]
  ·rw[acG (by omega),hsl,agR];simp[Ci]
  ·have n1:c≠p:=fun e=>hn (by rw[e];exact acE ..)
   have n2:c≠b:=fun e=>hn (by rw[e];simp[Dz])
   rw[acB (by omega),ab8 (fun e=>n1 e.symm),ab8 (fun e=>n2 e.symm)]
  ·simp[Dz]at hc;subst hc
   rw[acB (by omega),ab8 (fun e=>hbp e.symm),acD hbl]
theorem ajF(b r k:Nat):slx Tryd.prog 28 (some (.slr 1 b r (k+1))) (some (some (.int .i64 1))) (some none)=some (.ret (.slr 1 b (r+1) k),[]):=by
 have hz:Nu Tryd.prog 3=some 1:=by kernel_rfl
 simp only[slx,Option.bind_some,Yo,Tryd.underlying28,hz,Gp]
 simp[Gp,r1]
 omega
theorem ac8{H:Aa}{p:Nat}{fl w:Bool}{v:AV}(hp:H[p]?=some (.live 1 fl w [[v]]))(hQ:QS v [] H p):
 Fe.call (.sh 57) [.ptr p 0 0] H=some (.ret (.tup [.int .i64 0,.bool false]),H):=by
 rcases hQ with⟨rfl,_⟩|⟨b,w',rows,r,rfl,hrb,hbp,hd,hl⟩
 ·(refine csh Tryd.func57 ?_;simp only[Tryd.f57];(have hb:=trivial;with_reducible repeat' (first|simp only[hb,Va.down,seval,afG.down,hp]|refine Be ?_ ?_<;>intro hb|refine fd ?_|fail)))
 ·simp only[agT]at hp
  (refine csh Tryd.func57 ?_;simp only[Tryd.f57];(have hb:=trivial;with_reducible repeat' (first|simp only[hb,Va.down,seval,afG.down,hp]|refine Be ?_ ?_<;>intro hb|refine fd ?_|fail)))
theorem adA{H:Aa}{p:Nat}{fl w:Bool}{v:AV}{x:Nat}{q:List Nat}(hp:H[p]?=some (.live 1 fl w [[v]]))(hQ:QS v (x::q) H p)(hq:q.length≤100000000):
 oM Fe 57 [.ptr p 0 0] H fun o G=>o=.ret (.tup [.int .i64 (x:Int),.bool true])∧∃v' fl',G[p]?=some (.live 1 fl' true [[v']])∧QS v' q G p∧Rf [p] H G∧Dz v'=Dz v∧(Ao H=true→Ao G=true):=by
 have hpl:=Ac hp
 rcases hQ with⟨_,h⟩|⟨b,w',rows,r,rfl,hrb,hbp,hd,hl⟩
 ·cases h
 have hr0:rows[r]?=some [.int .i64 (x:Nat)]:=by
  have:=congrArg (·[0]?) hd
  simpa [Ci]using this
 have hd2:rows.drop (r+1)=q.map Ci:=by
  have:=congrArg (·.drop 1) hd
  simpa [List.drop_drop]using this
 simp only[akV]at hl hp
 have h1:decide (((q.length+1:Nat):Int)=0)=false:=decide_eq_false (by omega)
 have h2:((((q.length+1:Nat):Int))==0)=false:=by simp;omega
 have h3:((0:Int)<((q.length+1:Nat):Int))=True:=eq_true (by omega)
 have h4:((1:Int)≤((q.length+1:Nat):Int))=True:=eq_true (by omega)
 refine pE rfl Tryd.func57 rfl rfl ?_
 simp only[Tryd.f57]
 refine Dp (fun KK iN hK=>?_)
 (have hb:=trivial;with_reducible repeat' (first|simp only[hb,Va.down,seval,afG.down,hp,hrb,hr0,h1,h2,h3,h4,ajF]|refine Be ?_ ?_<;>intro hb|refine fd ?_|fail))
 refine hK _ ?_
 rw[nA]
 refine Uc (vs:=[.int .i64 (x:Int),.bool true]) (by simp only[Va.down,seval,afG.down]) ⟨rfl,.slr 1 b (r+1) q.length,false,acD hpl,.inr ⟨b,w',rows,r+1,rfl,?_,hbp,hd2,by omega⟩,⟨by simp,fun b' _ hn=>ab8 (fun e=>hn (by simp[e]))⟩,rfl,fun hqq=>Ar hqq p rfl⟩
 rw[ab8 (fun e=>hbp e.symm)];exact hrb
theorem adY{H:Aa}{p:Nat}{fl w:Bool}{v:AV}{q:List Nat}(x:Nat)(hp:H[p]?=some (.live 1 fl w [[v]]))(hQ:QS v q H p)(hq:q.length≤100000000):
 oM Fe 60 [.ptr p 0 0,.int .i64 (x:Int)] H fun o G=>o=.ret (.tup [])∧∃v' fl',G[p]?=some (.live 1 fl' true [[v']])∧QS v' (x::q) G p∧Rf [p] H G∧(Ao H=true→Ao G=true)∧∀b∈Dz v',H.length≤b:=by
 have hpl:=Ac hp
 have hA:=Ai hp
 have hS:=Gu hpl
 have keep:∀c l,Rf [p] H (H.set p c++l):=fun c l=>⟨by simp,fun b hb1 hn=>by rw[acB (by simpa using hb1),ab8 (fun e=>hn (by simp[e]))]⟩
 have hg:∀c l,(H.set p c++l)[p]?=some c:=fun c l=>by rw[acB (by simpa using hpl),acD hpl]
 refine pE rfl Tryd.func60 rfl rfl ?_
 simp only[Tryd.f60]
 refine Dp (fun KK iN hK=>?_)
 rcases hQ with⟨rfl,rfl⟩|⟨b,w',rows,r,rfl,hrb,hbp,hd,hl⟩
 ·(have hb:=trivial;with_reducible repeat' (first|simp only[hb,Va.down,seval,tV.down,hp,hA,hS]|refine Be ?_ ?_<;>intro hb|refine fd ?_|fail))
  refine hK _ ?_
  rw[Nb]
  refine Uc (vs:=[]) (by simp only[Va.down,seval,tV.down]) ⟨rfl,_,_,hg _ _,.inr ⟨H.length,false,[Ci x],0,rfl,?_,by omega,rfl,rfl⟩,keep _ _,fun hqq=>Bi (Ar hqq p rfl) rfl,fun b hb1=>by simp[Dz]at hb1;omega⟩
  rw[Gx];rfl
 ·have hB:=Ai hrb
  cases q with
  |nil=>
   simp only[agT]at hl hp hA
   have hrl:(r≤rows.length)=True:=eq_true (by omega)
   (have hb:=trivial;with_reducible repeat' (first|simp only[hb,Va.down,seval,tV.down,hp,hA,hS,hrb,hB,hrl]|refine Be ?_ ?_<;>intro hb|refine fd ?_|fail))
   refine hK _ ?_
   rw[Nb]
   refine Uc (vs:=[]) (by simp only[Va.down,seval,tV.down]) ⟨rfl,_,_,hg _ _,.inr ⟨H.length,false,[Ci x],0,rfl,?_,by omega,rfl,rfl⟩,keep _ _,fun hqq=>Bi (Ar hqq p rfl) rfl,fun b hb1=>by simp[Dz]at hb1;omega⟩
   rw[Gx];rfl
  |cons y q=>
   have hq2:(1+(q.length+1)≤549755813888)=True:=eq_true (by simp at hq;omega)
   have hrl:(r+(q.length+1)≤rows.length)=True:=eq_true (by simp at hl;omega)
   have htk:afD q.length (List.map Ci q)=List.map Ci q:=akW (by simp)
   (have hb:=trivial;with_reducible repeat' (first|simp only[hb,Va.down,seval,tV.down,hp,hA,hS,hrb,hB,hd,hq2,hrl,htk,Gx,En,akU,acC]|refine Be ?_ ?_<;>intro hb|refine fd ?_|fail))
   refine hK _ ?_
   rw[Nb]
   refine Uc (vs:=[]) (by simp only[Va.down,seval,tV.down]) ⟨rfl,_,_,hg _ _,.inr ⟨H.length+1,false,(x::y::q).map Ci,0,by simp;omega,?_,by omega,rfl,by simp⟩,keep _ _,fun hqq=>Bi (Ar hqq p rfl) rfl,fun b hb1=>by simp[Dz]at hb1;omega⟩
   rw[En];rfl
theorem alX(w:Au)(d r:Int)(wf:Bool):Fe.call (.fn 58) [.ptr 0 0 0,.int .i64 r] [.live 4 false wf [[.int .i64 w.rooms,.int .i64 w.need,Bv 9 true w.nn (w.parts.map Ae.cells),.int .i64 d]]]=some (.ret (.func (.func 71) [] [.ptr 1 0 0,.ptr 2 0 0]),[.live 4 false wf [[.int .i64 w.rooms,.int .i64 w.need,Bv 9 true w.nn (w.parts.map Ae.cells),.int .i64 d]],.live 1 false false [[.ptr 0 0 0]],.live 1 true false [[.int .i64 r]]]):=by
 (refine ce Tryd.func58 ?_;simp only[Tryd.f58];(have hb:=trivial;with_reducible repeat' (first|simp only[hb,Vc.down,seval]|refine Be ?_ ?_<;>intro hb|refine fd ?_|fail)))
theorem aoR{w:Au}{N:Nat}(hw:mI w N){d r:Int}{y:AV}{lb rb kb:Nat}(Jh:Nat→Aa→Prop)
 (hL:∀i h,Jh i h→∃w1,h[lb]?=some (.live 1 false w1 [[.ptr kb 0 0]])) (hK:∀i h,Jh i h→∃w2,h[kb]?=some (.live 4 false w2 [[.int .i64 w.rooms,.int .i64 w.need,Bv 9 true w.nn (w.parts.map Ae.cells),.int .i64 d]])) (hR:∀i h,Jh i h→∃w3,h[rb]?=some (.live 1 true w3 [[.int .i64 r]]))
 (hA:∀i h fl wf (rows:List (List AV)),Jh i h→Jh i (h++[.live 9 fl wf rows]))
 (hS:∀(i:Nat) (p:Ae) (u:Int) h,w.parts[i]?=some p→((p.one=r∧u=p.other)∨(p.one≠r∧p.other=r∧u=p.one))→Jh i h→∃es,cl Fe h (some y) (some [.int .i64 i,.int .i64 u])=some (.ret (.bool true),es)∧Jh (i+1) (Az h es))
 (hN:∀(i:Nat) (p:Ae) h,w.parts[i]?=some p→p.one≠r→p.other≠r→Jh i h→Jh (i+1) h)
 {h0:Aa} (h0I:Jh 0 h0):oM Fe 71 [y,.ptr lb 0 0,.ptr rb 0 0] h0 fun o h'=>o=.ret (.tup [])∧Jh w.parts.length h':=by
 obtain⟨w1,hl⟩:=hL _ _ h0I
 obtain⟨w2,hk0⟩:=hK _ _ h0I
 have hlen:=hw.len
 refine pE rfl Tryd.func71 rfl rfl ?_
 simp only[Tryd.f71]
 (have hb:=trivial;with_reducible repeat' (first|simp only[hb,Vc.down,seval,Vp.down,hl,hk0,acC]|refine Be ?_ ?_<;>intro hb|refine fd ?_|fail))
 refine Iy (aQ 41 w.parts (fun i (_:Unit) t h=>t 0=y∧t 1=.ptr lb 0 0∧t 2=.ptr rb 0 0∧t 11=Bv 9 true w.nn (w.parts.map Ae.cells)∧t 12=.int .i64 (w.parts.length:Nat)∧t 13=.int .i64 (i:Int)∧Jh i h) (fun _ _=>()) (fun _ e t h=>e=.exit 0∧Jh w.parts.length h) ?_ ?_ () _ _ ?_) (fun e t h hk=>?_)
 ·rintro _ t h Q' kQ ⟨g0,g1,g2,g11,g12,g13,hI⟩
  (have hb:=trivial;with_reducible repeat' (first|simp only[hb,Vc.down,seval,Vp.down,g12,g13,agU,decide_false]|refine Be ?_ ?_<;>intro hb|refine fd ?_|fail))
  exact kQ _ _ _ ⟨rfl,hI⟩
 ·rintro p rest i _ t h J Q' kJ kQ hx hi ⟨g0,g1,g2,g11,g12,g13,hI⟩
  have hdd:decide ((i:Int)<(w.parts.length:Int))=true:=decide_eq_true (by omega)
  have hww:=Ew hi (by unfold maxLen;omega)
  have hpo:=hw.part p (agW hx)
  obtain⟨w3,hr⟩:=hR _ _ hI
  have hr1:=Ai hr
  have hv1:=hA _ _ true true [p.cells] hI
  have c1:decide ((0:Int)≤p.other)=true:=decide_eq_true hpo.2.1.1
  have c2:decide ((0:Int)≤p.one)=true:=decide_eq_true hpo.1.1
  have c3:decide ((0:Int)≤ -1)=false:=rfl
  by_cases e1:p.one=r
  ·have q1:(r==p.one)=true:=by simp[e1]
   obtain⟨es,hes,hv2⟩:=hS i p p.other _ hx (.inl ⟨e1,rfl⟩) hv1
   simp only[Ae.cells]at hes hv2
   (have hb:=trivial;with_reducible repeat' (first|simp only[hb,Vc.down,seval,Vp.down,g0,g1,g2,g11,g12,g13,hdd,hww,hx,hr,hr1,q1,c1,hes,Ae.cells]|refine Be ?_ ?_<;>intro hb|refine fd ?_|fail))
   exact Bc (kJ _ _ () ⟨by simp[up,g0],by simp[up,g1],by simp[up,g2],by simp[up,g11],by simp[up,g12],by simp[up],hv2⟩ rfl)
  ·have q1:(r==p.one)=false:=by simp;exact fun e=>e1 e.symm
   by_cases e2:p.other=r
   ·have q2:(r==p.other)=true:=by simp[e2]
    obtain⟨es,hes,hv2⟩:=hS i p p.one _ hx (.inr ⟨e1,e2,rfl⟩) hv1
    simp only[Ae.cells]at hes hv2
    (have hb:=trivial;with_reducible repeat' (first|simp only[hb,Vc.down,seval,Vp.down,g0,g1,g2,g11,g12,g13,hdd,hww,hx,hr,hr1,q1,q2,c2,hes,Ae.cells]|refine Be ?_ ?_<;>intro hb|refine fd ?_|fail))
    exact Bc (kJ _ _ () ⟨by simp[up,g0],by simp[up,g1],by simp[up,g2],by simp[up,g11],by simp[up,g12],by simp[up],hv2⟩ rfl)
   ·have q2:(r==p.other)=false:=by simp;exact fun e=>e2 e.symm
    have hv2:=hN i p _ hx e1 e2 hv1
    simp only[Ae.cells]at hv2
    (have hb:=trivial;with_reducible repeat' (first|simp only[hb,Vc.down,seval,Vp.down,g0,g1,g2,g11,g12,g13,hdd,hww,hx,hr,hr1,q1,q2,c3,Ae.cells]|refine Be ?_ ?_<;>intro hb|refine fd ?_|fail))
    exact Bc (kJ _ _ () ⟨by simp[up,g0],by simp[up,g1],by simp[up,g2],by simp[up,g11],by simp[up,g12],by simp[up],hv2⟩ rfl)
 ·exact⟨by simp[up,Ph],by simp[up,Ph],by simp[up,Ph],by simp[up],by simp[up],by simp[up],h0I⟩
 obtain⟨rfl,hI⟩:=hk
 (have hb:=trivial;with_reducible repeat' (first|simp only[hb,Vc.down,seval,Vp.down]|refine Be ?_ ?_<;>intro hb|refine fd ?_|fail))
 exact hI
theorem QS.cln{v:AV}{q:List Nat}{H:Aa}{p:Nat}(h:QS v q H p):QS v q (Eg H) p:=by
 rcases h with h|⟨b,w,rows,r,h1,h2,h3,h4,h5⟩
 ·exact .inl h
 ·exact .inr ⟨b,false,rows,r,h1,Bl h2,h3,h4,h5⟩
theorem QS.lt{v:AV}{q:List Nat}{H:Aa}{p:Nat}(h:QS v q H p):∀b∈Dz v,b<H.length∧∃w rows,H[b]?=some (.live 1 true w rows):=by
 rcases h with⟨rfl,_⟩|⟨b,w,rows,r,rfl,h2,_⟩
 ·intro b hb1;simp[Dz]at hb1
 ·intro b' hb1;simp[Dz]at hb1;subst hb1;exact⟨Ac h2,w,rows,h2⟩
theorem agQ{h:Aa}(hq:Ao h=true){p:Nat}{fl w:Bool}{v:AV}{q:List Nat}(x:Nat)(hp:h[p]?=some (.live 1 fl w [[v]]))(hQ:QS v q h p)(hl:q.length≤100000000):
 ∃es M,cl Fe h (some (.func (.func 56) [] [])) (some [.ptr p 0 0,.int .i64 (x:Int)])=some (.ret (.tup []),es)∧Az h es=M∧h.length≤M.length∧Ao M=true∧(∃v' fl',M[p]?=some (.live 1 fl' true [[v']])∧QS v' (q++[x]) M p∧∀b∈Dz v',h.length≤b)∧(∀b c,b∉p::Dz v→h[b]?=some c→M[b]?=some c)∧∀b∈Dz v,M[b]?=some .dead:=by
 have hX:∀G:Aa,(∃f row,G[p]?=some (.live 1 f true row))→(∀b∈Dz v,G[b]?=some .dead)→∀b∈p::Dz v,b<h.length∧∀c0 c,h[b]?=some c0→G[b]?=some c→c0.isLive=true∧c0.quiet c=false:=fun G g1 g2 b hb1=>by
  rcases acA.1 hb1 with rfl|hb1
  ·obtain⟨f,row,g1⟩:=g1
   refine⟨Ac hp,fun c0 c k1 k2=>?_⟩
   rw[hp]at k1;rw[g1]at k2;cases k1;cases k2;exact⟨rfl,rfl⟩
  ·obtain⟨h1,w',rows,h2⟩:=hQ.lt b hb1
   refine⟨h1,fun c0 c k1 k2=>?_⟩
   rw[h2]at k1;rw[g2 b hb1]at k2;cases k1;cases k2;exact⟨rfl,rfl⟩
 obtain⟨o,G,es,e1,e2,rfl,v',fl',k1,k2,K,k4,k5,k6⟩:=iJ rfl rfl (zL x (Bl hp) hQ.cln hl) (fun o G hQ=>by
  obtain⟨_,v',fl',k1,k2,K,k4,_⟩:=hQ
  exact(Hy hq K (hX G ⟨_,_,k1⟩ k4)).1)
 have X:=hX G ⟨_,_,k1⟩ k4
 obtain⟨_,m1,m2,m3,m4⟩:=Hy hq K X
 rw[As]at k6
 have hle:h.length≤G.length:=by have:=K.len;rwa[As]at this
 refine⟨es,_,e1,e2,by rw[m1];exact hle,Ue hq K X (k5 (Ft hq)),⟨v',fl',m4 p (acE ..) _ k1,?_,k6⟩,fun b c hn hc=>by rw[m3 b (Ac hc) hn];exact hc,fun b hb=>m4 b (agY _ hb) _ (k4 b hb)⟩
 rcases k2 with h1|⟨b,w',rows,r,h1,h2,h3,h4,h5⟩
 ·exact .inl h1
 ·exact .inr ⟨b,w',rows,r,h1,by rw[m2 b (k6 b (by rw[h1];simp[Dz]))];exact h2,h3,h4,h5⟩
theorem rB{h:Aa}{p:Nat}{fl w:Bool}{v:AV}(hp:h[p]?=some (.live 1 fl w [[v]]))(G:Aa)(g1:∃f row,G[p]?=some (.live 1 f true row)):∀b∈[p],b<h.length∧∀c0 c,h[b]?=some c0→G[b]?=some c→c0.isLive=true∧c0.quiet c=false:=fun b hb1=>by
 simp at hb1;subst hb1
 obtain⟨f,row,g1⟩:=g1
 refine⟨Ac hp,fun c0 c k1 k2=>?_⟩
 rw[hp]at k1;rw[g1]at k2;cases k1;cases k2;exact⟨rfl,rfl⟩
theorem amT{h:Aa}(hq:Ao h=true){p:Nat}{fl w:Bool}{v:AV}{q:List Nat}(x:Nat)(hp:h[p]?=some (.live 1 fl w [[v]]))(hQ:QS v q h p)(hl:q.length≤100000000):
 ∃es M,cl Fe h (some (.func (.func 60) [] [])) (some [.ptr p 0 0,.int .i64 (x:Int)])=some (.ret (.tup []),es)∧Az h es=M∧h.length≤M.length∧Ao M=true∧(∃v' fl',M[p]?=some (.live 1 fl' true [[v']])∧QS v' (x::q) M p∧∀b∈Dz v',h.length≤b)∧∀b c,b≠p→h[b]?=some c→M[b]?=some c:=by
 obtain⟨o,G,es,e1,e2,rfl,v',fl',k1,k2,K,k5,k6⟩:=iJ rfl rfl (adY x (Bl hp) hQ.cln hl) (fun o G hQ=>by
  obtain⟨_,v',fl',k1,k2,K,_⟩:=hQ
  exact(Hy hq K (rB hp G ⟨_,_,k1⟩)).1)
 have X:=rB hp G ⟨_,_,k1⟩
 obtain⟨_,m1,m2,m3,m4⟩:=Hy hq K X
 rw[As]at k6
 have hle:h.length≤G.length:=by have:=K.len;rwa[As]at this
 refine⟨es,_,e1,e2,by rw[m1];exact hle,Ue hq K X (k5 (Ft hq)),⟨v',fl',m4 p (acE ..) _ k1,?_,k6⟩,fun b c hn hc=>by rw[m3 b (Ac hc) (by simpa using hn)];exact hc⟩
 rcases k2 with h1|⟨b,w',rows,r,h1,h2,h3,h4,h5⟩
 ·exact .inl h1
 ·exact .inr ⟨b,w',rows,r,h1,by rw[m2 b (k6 b (by rw[h1];simp[Dz]))];exact h2,h3,h4,h5⟩
theorem alR{h:Aa}(hq:Ao h=true){p:Nat}{fl w:Bool}{v:AV}(hp:h[p]?=some (.live 1 fl w [[v]]))(hQ:QS v [] h p):
 cl Fe h (some (.func (.func 57) [] [])) (some [.ptr p 0 0])=some (.ret (.tup [.int .i64 0,.bool false]),[]):=
 ae2 rfl rfl (ac8 (Bl hp) hQ.cln) hq
theorem agK{h:Aa}(hq:Ao h=true){p:Nat}{fl w:Bool}{v:AV}{x:Nat}{q:List Nat}(hp:h[p]?=some (.live 1 fl w [[v]]))(hQ:QS v (x::q) h p)(hl:q.length≤100000000):
 ∃es M,cl Fe h (some (.func (.func 57) [] [])) (some [.ptr p 0 0])=some (.ret (.tup [.int .i64 (x:Int),.bool true]),es)∧Az h es=M∧h.length≤M.length∧Ao M=true∧(∃v' fl',M[p]?=some (.live 1 fl' true [[v']])∧QS v' q M p∧Dz v'=Dz v)∧∀b c,b≠p→h[b]?=some c→M[b]?=some c:=by
 obtain⟨o,G,es,e1,e2,rfl,v',fl',k1,k2,K,k4,k5⟩:=iJ rfl rfl (adA (Bl hp) hQ.cln hl) (fun o G hQ=>by
  obtain⟨_,v',fl',k1,k2,K,_⟩:=hQ
  exact(Hy hq K (rB hp G ⟨_,_,k1⟩)).1)
 have X:=rB hp G ⟨_,_,k1⟩
 obtain⟨_,m1,m2,m3,m4⟩:=Hy hq K X
 have hle:h.length≤G.length:=by have:=K.len;rwa[As]at this
 have same:∀b c,b≠p→h[b]?=some c→(Gk h G)[b]?=some c:=fun b c hn hc=>by rw[m3 b (Ac hc) (by simpa using hn)];exact hc
 refine⟨es,_,e1,e2,by rw[m1];exact hle,Ue hq K X (k5 (Ft hq)),⟨v',fl',m4 p (acE ..) _ k1,?_,k4⟩,same⟩
 rcases k2 with h1|⟨b,w',rows,r,h1,h2,h3,h4,h5⟩
 ·exact .inl h1
 ·have hbv:b∈Dz v:=by rw[←k4,h1];simp[Dz]
  obtain⟨_,w0,rows0,hh⟩:=hQ.lt b hbv
  have hr:(hf (Gk h G) b).bind Aw=(hf G b).bind Aw:=vE hq K X b
  have hM:=same b _ h3 hh
  have e3:rows0=rows:=by
   have a1:((Gk h G)[b]?).bind Aw=(G[b]?).bind Aw:=hr
   rw[hM,h2]at a1
   simp[Aw]at a1;exact a1
  subst e3
  exact .inr ⟨b,w0,rows0,r,h1,hM,h3,h4,h5⟩
theorem kC{vs:List AV}{b:Nat}{h:Aa}{ps:List Nat}{asg body:Code}{tm:List AV}{st:Hw}{Q:Db→Aa→Prop}(hb:h[b]?=some (.lp ps asg body tm st))(hl:ps.length=vs.length)
 (he:RnE b Q (aaA Fe Tryd.prog b body (Bq Fe Tryd.prog 5000 asg [] ⟨Lr tm ps vs,h⟩))):RnQ Fe (vs++[.yl b]) h Q:=RnQ.start (pr:=pr) hb hl he
theorem sA{O:Do}{H:Aa}{b:Nat}{vs:List AV}{Q:Db→Aa→Prop}(K:RnQ O (vs++[.yl b]) (Eg H) Q)(ok:∀o G,Q o G→eA H G):
 ∃o G es,cl O H (some (.yl b)) (some vs)=some (o,es)∧Az H es=Gk H G∧Q o G:=by
 obtain⟨o,G,hc,hq⟩:=K
 obtain⟨es,e1,e2⟩:=Oe H G [] (ok o G hq)
 refine⟨o,G,es,?_,by simpa using e2,hq⟩
 rw[anC,hc,Vh]
 have e1':Cd 0 H G=some es:=e1
 rw[e1'];rfl
def Dc:Nat:=1048576
def DiH(LK:CB)(e:Bool)(ps:List AV)(N:Nat)(h:Aa)(dd q K:List Nat):Prop:=∃f v fl w,
 h[0]?=some LK∧h[1]?=some (.live 24 true false [ps])∧h[2]?=some (.live 1 true f (dd.map Ci))∧h[3]?=some (.live 1 false e [[.slr 1 2 0 N]])∧h[5]?=some (.live 1 false e [[.ptr 4 0 0]])∧h[4]?=some (.live 1 fl w [[v]])∧QS v q h 4∧(∀b∈Dz v,6≤b∧b∉K)∧Ao h=true
theorem DiH.app{LK:CB}{e:Bool}{ps:List AV}{N:Nat}{h:Aa}{dd q K:List Nat}(D:DiH LK e ps N h dd q K){L:Aa}(hL:Ao L=true):DiH LK e ps N (h++L) dd q K:=by
 obtain⟨f,v,fl,w',i0,i1,i2,i3,i5,i4,iQ,iB,iq⟩:=D
 refine⟨f,v,fl,w',Ai i0 L,Ai i1 L,Ai i2 L,Ai i3 L,Ai i5 L,Ai i4 L,?_,iB,Bi iq hL⟩
 rcases iQ with h|⟨b,w',rows,r,h1,h2,h3⟩
 ·exact .inl h
 ·exact .inr ⟨b,w',rows,r,h1,Ai h2 _,h3⟩
def Ld(H G:Aa):Prop:=H.length≤G.length∧∀(b:Nat) (c0 c:CB),H[b]?=some c0→G[b]?=some c→(c0.quiet c=true∧c0.clean=c.clean)∨(c0.isLive=true∧((∃st fl rows,c=.live st fl true rows)∨c=.dead))
theorem Qn{c0 c:CB}(h:c0.isLive=true)(hc:(∃st fl rows,c=.live st fl true rows)∨c=.dead):c0.quiet c=false:=by
 rcases hc with⟨_,_,_,rfl⟩|rfl<;>cases c0<;>first|rfl|(simp[CB.isLive]at h;done)|(simp[CB.quiet,CB.same];done)
theorem Ld.sh{H G:Aa}(k:Ld H G):eA H G:=⟨k.1,fun b c0 c h0 h1=>(k.2 b c0 c h0 h1).imp (fun h=>h.1) (fun h=>h.1)⟩
theorem oP{c0 c1:CB}(h:c0.clean=c1.clean)(h1:c1.isLive=true):c0.isLive=true:=by cases c0<;>cases c1<;>first|rfl|(simp[CB.clean]at h;done)|cases h1
theorem Jt(c:CB):c.clean.clean=c.clean:=by cases c<;>rfl
theorem Ld.app{H G:Aa}(k:Ld H G)(l:Aa):Ld H (G++l):=⟨by simp;have:=k.1;omega,fun b c0 c h0 h1=>k.2 b c0 c h0 (by
 have:=Ac h0
 have:=k.1
 rw[acB (by omega)]at h1;exact h1)⟩
theorem Ld.cl{H:Aa}(h:Ao H=true):Ld H (Eg H):=⟨by rw[As];exact acI _,fun b c0 c h0 h1=>by
 rw[Bl h0]at h1;cases h1
 exact .inl ⟨Bn h h0,(Jt c0).symm⟩⟩
theorem Ld.keep{H G:Aa}{X:List Nat}(h:Ao H=true)(K:Rf X (Eg H) G)(hX:∀b∈X,∃c0 c,H[b]?=some c0∧G[b]?=some c∧c0.isLive=true∧((∃st fl rows,c=.live st fl true rows)∨c=.dead)):Ld H G:=⟨by have:=K.len;rwa[As]at this,fun b c0 c h0 h1=>by
 by_cases hb:b∈X
 ·obtain⟨d0,d,e0,e1,e2⟩:=hX b hb
  rw[h0]at e0;rw[h1]at e1;cases e0;cases e1
  exact .inr e2
 ·rw[K.same b (by rw[As];exact Ac h0) hb,Bl h0]at h1;cases h1
  exact .inl ⟨Bn h h0,(Jt c0).symm⟩⟩
theorem Ld.mrg_clean{H G:Aa}(k:Ld H G){b:Nat}{c:CB}(hc:G[b]?=some c):∃c',(Gk H G)[b]?=some c'∧c'.clean=c.clean:=by
 by_cases hb:b<H.length
 ·have h0:H[b]?=some H[b]:=acF hb
  rcases k.2 b _ c h0 hc with⟨h1,h2⟩|⟨h1,h2⟩
  ·exact⟨_,Gm h0 hc h1,h2⟩
  ·refine⟨_,Lt h0 hc (Qn h1 h2),?_⟩
   rcases h2 with⟨_,_,_,rfl⟩|rfl<;>rfl
 ·exact⟨c,by rw[aW k.1 (by omega)];exact hc,rfl⟩
theorem Ld.trans{H h' G:Aa}(k:Ld H h')(k':Ld h' G):Ld H (Gk h' G):=by
 refine⟨by rw[Ju k'.1];exact Nat.le_trans k.1 k'.1,fun b c0 c h0 h1=>?_⟩
 have hb:=Ac h0
 have e1:h'[b]?=some (h'[b]'(by have:=k.1;omega)):=acF _
 have e2:G[b]?=some (G[b]'(by have:=k.1;have:=k'.1;omega)):=acF _
 generalize h'[b]'(by have:=k.1;omega)=c1 at *
 generalize G[b]'(by have:=k.1;have:=k'.1;omega)=c2 at *
 rcases k'.2 b _ _ e1 e2 with⟨g1,g2⟩|⟨g1,g2⟩
 ·rw[Gm e1 e2 g1]at h1;cases h1
  exact k.2 b _ _ h0 e1
 ·rw[Lt e1 e2 (Qn g1 g2)]at h1
  have:c2.mark=c2:=by rcases g2 with⟨_,_,_,rfl⟩|rfl<;>rfl
  rw[this]at h1;cases h1
  refine .inr ⟨?_,g2⟩
  rcases k.2 b _ _ h0 e1 with⟨_,h⟩|⟨h,_⟩
  ·exact oP h g1
  ·exact h
theorem Ld.old{H G:Aa}{b:Nat}{c0 c:CB}(h0:H[b]?=some c0)(h1:G[b]?=some c)(hq:c0.quiet c=true):(Gk H G)[b]?=some c0:=Gm h0 h1 hq
theorem wP{c:CB}{st:Nat}{fl w:Bool}{rows:List (List AV)}(h:c.clean=(CB.live st fl w rows).clean):∃w',c=.live st fl w' rows:=by
 cases c<;>simp[CB.clean]at h
 obtain⟨rfl,rfl,rfl⟩:=h
 exact⟨_,rfl⟩
theorem Ld.live{H G:Aa}(k:Ld H G){b st:Nat}{fl w:Bool}{rows:List (List AV)}(hc:G[b]?=some (.live st fl w rows)):∃w',(Gk H G)[b]?=some (.live st fl w' rows):=by
 obtain⟨c',h1,h2⟩:=k.mrg_clean hc
 obtain⟨w',rfl⟩:=wP h2
 exact⟨w',h1⟩
theorem QS.okw{H G:Aa}(k:Ld H G){v:AV}{q:List Nat}{p:Nat}(h:QS v q G p):QS v q (Gk H G) p:=by
 rcases h with h|⟨b,w,rows,r,h1,h2,h3,h4,h5⟩
 ·exact .inl h
 ·obtain⟨w',h6⟩:=k.live h2
  exact .inr ⟨b,w',rows,r,h1,h6,h3,h4,h5⟩
theorem Ld.quiet{H G:Aa}(k:Ld H G)(h:Ao H=true)(h':Ao G=true):Ao (Gk H G)=true:=by
 refine Vr fun c hc=>?_
 obtain⟨b,hb⟩:=List.getElem?_of_mem hc
 have hbl:=Ac hb
 rw[Ju k.1]at hbl
 have e2:G[b]?=some G[b]:=acF hbl
 generalize G[b]=c2 at *
 by_cases hl:b<H.length
 ·have e1:H[b]?=some H[b]:=acF hl
  generalize H[b]=c1 at *
  rcases k.2 b _ _ e1 e2 with⟨g1,g2⟩|⟨g1,g2⟩
  ·rw[Gm e1 e2 g1]at hb;cases hb;exact Bn h e1
  ·rw[Lt e1 e2 (Qn g1 g2)]at hb;cases hb;exact bE (Bn h' e2)
 ·rw[aW k.1 (by omega),e2]at hb;cases hb;exact Bn h' e2
theorem wF{LK:CB}{e:Bool}{ps:List AV}{N:Nat}{h':Aa}{dd q K:List Nat}{f:Bool}{v:AV}{fl w:Bool}(i0:h'[0]?=some LK)(i1:h'[1]?=some (.live 24 true false [ps]))(i2:h'[2]?=some (.live 1 true f (dd.map Ci)))(i3:h'[3]?=some (.live 1 false e [[.slr 1 2 0 N]]))(i5:h'[5]?=some (.live 1 false e [[.ptr 4 0 0]]))(i4:h'[4]?=some (.live 1 fl w [[v]]))(iQ:QS v q h' 4)(iB:∀b∈Dz v,6≤b∧b∉K)(iq:Ao h'=true)
 {B:Nat} {LP LB:CB} (hB:h'[B]?=some LP) (hBK:B∈K) (hK:∀b∈K,6≤b∧b<h'.length) (hLPc:LP.clean=LP) (hLPq:LP.quiet LP=true) {M:Aa} {Y dd2 q2:List Nat} {v2:AV} {fl2:Bool} (m1:h'.length≤M.length) (m2:Ao M=true) (m3:M[4]?=some (.live 1 fl2 true [[v2]])) (m4:QS v2 q2 M 4) (m5:∀b∈Dz v2,h'.length≤b)
 (m6:∀b c,b∉Y→(((Eg h').set B LB).set 2 (.live 1 true true (dd2.map Ci)))[b]?=some c→M[b]?=some c) (hY:4∈Y) (hY':∀b∈Y,b=4∨(b∈Dz v∧M[b]?=some .dead)):
 Ld h' (M.set B LP)∧DiH LK e ps N (Gk h' (M.set B LP)) dd2 q2 K∧(∀b∈K,(Gk h' (M.set B LP))[b]?=h'[b]?)∧h'.length≤(Gk h' (M.set B LP)).length:=by
 have hBl:=Ac hB
 have hB6:=(hK B hBK).1
 have h4l:=Ac i4
 have hY6:∀b∈Y,b=4∨(6≤b∧b∉K):=fun b hb1=>(hY' b hb1).imp id (fun h=>iB b h.1)
 have h2Y:2∉Y:=fun h=>by rcases hY6 2 h with h|h<;>omega
 have hKY:∀b∈K,b∉2::Y:=fun b hb1 h=>by
  have:=(hK b hb1).1
  rcases acA.1 h with h|h
  ·omega
  ·rcases hY6 b h with h|h
   ·omega
   ·exact h.2 hb1
 have hg2:M[2]?=some (.live 1 true true (dd2.map Ci)):=m6 2 _ h2Y (acD (by simp[As];omega))
 have hK2:Rf (2::Y) (Eg h') (M.set B LP):=⟨by simpa [As]using m1,fun b hb1 hn=>by
  rw[As]at hb1
  obtain⟨c,hc⟩:∃c,h'[b]?=some c:=⟨_,acF hb1⟩
  by_cases e:b=B
  ·subst e
   rw[acD (by omega),Bl hB,hLPc]
  ·rw[ab8 (fun h=>e h.symm)]
   have:=m6 b c.clean (fun h=>hn (agY _ h)) (by
    rw[ab8 (fun h=>hn (by rw[←h];exact acE ..)),ab8 (fun h=>e h.symm)];exact Bl hc)
   rw[this,Bl hc]⟩
 have hne:∀b,b≠B→(M.set B LP)[b]?=M[b]?:=fun b h=>ab8 (fun e=>h e.symm)
 have X:∀b∈2::Y,∃c0 c,h'[b]?=some c0∧(M.set B LP)[b]?=some c∧c0.isLive=true∧((∃st fl rows,c=.live st fl true rows)∨c=.dead):=fun b hb1=>by
  rcases acA.1 hb1 with rfl|hb1
  ·exact⟨_,_,i2,by rw[hne 2 (by omega)];exact hg2,rfl,.inl ⟨_,_,_,rfl⟩⟩
  ·rcases hY' b hb1 with rfl|⟨h1,h2⟩
   ·exact⟨_,_,i4,by rw[hne 4 (by omega)];exact m3,rfl,.inl ⟨_,_,_,rfl⟩⟩
   ·obtain⟨h3,w',rows,h5⟩:=iQ.lt b h1
    exact⟨_,_,h5,by rw[hne b (fun e=>(iB b h1).2 (e▸hBK))];exact h2,rfl,.inr rfl⟩
 have ok:=Ld.keep iq hK2 X
 have X':∀b∈2::Y,b<h'.length∧∀c0 c,h'[b]?=some c0→(M.set B LP)[b]?=some c→c0.isLive=true∧c0.quiet c=false:=fun b hb1=>by
  obtain⟨c0,c,h1,h2,h3,h4⟩:=X b hb1
  refine⟨Ac h1,fun d0 d k1 k2=>?_⟩
  rw[h1]at k1;rw[h2]at k2;cases k1;cases k2
  exact⟨h3,Qn h3 h4⟩
 obtain⟨g1,g2,g3,g4,g5⟩:=Hy iq hK2 X'
 have low:∀b,b<6→b≠2→b≠4→(Gk h' (M.set B LP))[b]?=h'[b]?:=fun b h1 h2 h3=>g4 b (by have:=Ac i5;omega) fun h=>by
  rcases acA.1 h with h|h
  ·exact h2 h
  ·rcases hY6 b h with h|h<;>omega
 refine⟨ok,⟨true,v2,fl2,true,by rw[low 0 (by omega) (by omega) (by omega)];exact i0,by rw[low 1 (by omega) (by omega) (by omega)];exact i1,?_,by rw[low 3 (by omega) (by omega) (by omega)];exact i3,by rw[low 5 (by omega) (by omega) (by omega)];exact i5,?_,?_,fun b hb1=>?_,?_⟩,fun b hb1=>g4 b (hK b hb1).2 (hKY b hb1),by rw[g2];simpa using m1⟩
 ·exact g5 2 (acE ..) _ (by rw[hne 2 (by omega)];exact hg2)
 ·exact g5 4 (agY _ hY) _ (by rw[hne 4 (by omega)];exact m3)
 ·rcases m4 with h|⟨b,w',rows,r,h1,h2,h3⟩
  ·exact .inl h
  ·have hb1:=m5 b (by rw[h1];simp[Dz])
   exact .inr ⟨b,w',rows,r,h1,by rw[g3 b hb1,hne b (by omega)];exact h2,h3⟩
 ·have h1:=m5 b hb1
  exact⟨by omega,fun h=>by have:=(hK b h).2;omega⟩
 ·exact Ue iq hK2 X' (Ar m2 B (by rw[hLPc];exact hLPq))
theorem qM{h' l:Aa}(hq:Ao h'=true):Ld h' (Eg h'++l)∧Gk h' (Eg h'++l)=h'++l:=by
 have K:Rf [] (Eg h') (Eg h'++l):=Rf.app _ _
 have X:∀b∈([]:List Nat),b<h'.length∧∀c0 c,h'[b]?=some c0→(Eg h'++l)[b]?=some c→c0.isLive=true∧c0.quiet c=false:=fun b hb1=>by cases hb1
 obtain⟨g1,g2,g3,g4,_⟩:=Hy hq K X
 refine⟨(Ld.cl hq).app l,akX fun b=>?_⟩
 by_cases hb1:b<h'.length
 ·rw[g4 b hb1 (by simp),acB hb1]
 ·rw[g3 b (by omega),acG (by simp[As];omega),acG (by omega),As]
theorem aeB:Af .nilp=[.nilp]:=Eq.trans rfl rfl
theorem acK(n x:Nat):(ab9 n x).sum=n*x:=by
 induction n with
 |zero=>simp
 |succ n ih=>rw[akY,List.sum_cons,ih,Nat.succ_mul];omega
theorem jR:∀(l:List Nat) (s:Nat),(l.set s 0).sum≤l.sum
 | [],s=>by simp
 |a::l,0=>by simp
 |a::l,s+1=>by have:=jR l s;simp;omega
theorem wT{N s far:Nat}(h:N≤8):(Eh N s far).sum≤8*far:=by
 unfold Eh
 refine Nat.le_trans (jR _ _) ?_
 rw[acK]
 exact Nat.mul_le_mul_right _ h
def rY(x:Int × Bool):Bool:=x.1==0&& !x.2
def Ww(L:List (Int × Bool)):List Bool:=L.map rY
theorem iF{w:Au}{L:List (Int × Bool)}{i:Nat}{p:Ae}{x:Int × Bool}(hp:w.parts[i]?=some p)(hx:L[i]?=some x):(Fz w (Ww L))[i]?=some (p.one.toNat,p.other.toNat,if rY x=true then 1 else 0):=by
 unfold Fz Ww
 rw[List.getElem?_zipWith,af4,hp,hx];rfl
theorem pJ{w:Au}{d:Int}:Fz w (Ww (Df w d))=Fz w (Ax w d):=by
 have e:∀(l:List Ae) (r:List Bool) (f:Ae→Bool→Net.Edge),List.zipWith f l (l.map (fun p=>Ou p d)++r)=List.zipWith f l (l.map fun p=>Ou p d):=by
  intro l;induction l with
  |nil=>intro r f;simp
  |cons a l ih=>intro r f;simp[ih]
 unfold Fz Ww Df Ax
 rw[akZ,List.map_map]
 exact e _ _ _
theorem QS.app{v:AV}{q:List Nat}{H:Aa}{p:Nat}(h:QS v q H p)(l:Aa):QS v q (H++l) p:=by
 rcases h with h|⟨b,w,rows,r,h1,h2,h3⟩
 ·exact .inl h
 ·exact .inr ⟨b,w,rows,r,h1,Ai h2 l,h3⟩
theorem mT{h:Aa}{b:Nat}{c:CB}(hc:h[b]?=some c):h.set b c=h:=by
 refine akX fun i=>?_
 by_cases e:b=i
 ·subst e;rw[acD (Ac hc),hc]
 ·rw[ab8 e]
theorem iO:∀(L:List (Int × Bool)) (i:Nat) (a:Int) (b:Bool),L[i]?=some (a,b)→afD 2 (List.drop (i*2) (Hn L))=[.int .i64 a,.bool b]
 | [],i,a,b,h=>by simp at h
 |x::L,0,a,b,h=>by simp at h;subst h;simp[Hn]
 |x::L,i+1,a,b,h=>by
  have ih:=iO L i a b (by simpa using h)
  rw[show(i+1)*2=(i*2)+1+1 by omega]
  simpa only[Hn,List.flatMap_cons,List.cons_append,ag5,List.drop_succ_cons]using ih
theorem uV{w:Au}{d:Int}{i:Nat}{p:Ae}(hx:w.parts[i]?=some p):(Df w d)[i]?=some (Jj p d,p.opn):=by
 unfold Df
 rw[acB (by rw[acC];exact(ahG.1 hx).1),af4,hx];rfl
def no3:Nat→Nat→Nat→Prop:=fun _ _ _=>False
theorem Rn{w:Au}{N:Nat}(hw:mI w N)(h12:w.parts.length≤12){d:Int}{s:Nat}(hs:s<N){ps:List AV}{L:List (Int × Bool)}(hL12:L.length=12)(hps:ps=Hn L){wf:Bool}:
 vL Fe 36 [.ptr 0 0 0,.int .i64 (s:Int),.agg ps] [.live 4 false wf [[.int .i64 w.rooms,.int .i64 w.need,Bv 9 true w.nn (w.parts.map Ae.cells),.int .i64 d]]] fun o h'=>
  ∃(f:Bool) (ds:List Nat),o=.ret (.slr 1 1 0 N)∧h'=[.live 4 false wf [[.int .i64 w.rooms,.int .i64 w.need,Bv 9 true w.nn (w.parts.map Ae.cells),.int .i64 d]],.live 1 true f (ds.map Ci)]∧ds.length=N∧Gz (Fz w (Ww L)) s N Dc (fun v=>ds.getD v 0):=by
 have hr:=hw.rooms
 have n2:=hw.n2
 have n8:=hw.n8
 have hpl:ps.length=24:=by rw[hps,Me];omega
 have hflat:ps.all AV.flat=true∧ps.all AV.isCell=true:=by
  subst hps
  have hform:∀x∈Hn L,(∃n,x=.int .i64 n)∨∃b,x=.bool b:=fun x hx=>by
   simp only[Hn,ak0,acA,acH,or_false]at hx
   obtain⟨y,_,rfl|rfl⟩:=hx
   ·exact .inl ⟨_,rfl⟩
   ·exact .inr ⟨_,rfl⟩
  exact⟨adL.2 fun x hx=>by rcases hform x hx with⟨n,rfl⟩|⟨b,rfl⟩<;>rfl,adL.2 fun x hx=>by rcases hform x hx with⟨n,rfl⟩|⟨b,rfl⟩<;>rfl⟩
 obtain⟨hf1,hf2⟩:=hflat
 refine pF rfl Tryd.func36 rfl rfl ?_
 simp only[Tryd.f36]
 simp only[hr]
 have h39:(N≤549755813888)=True:=eq_true (by omega)
 have m1:((N:Int)≤(N:Int))=True:=eq_true (Int.le_refl _)
 have m2:((N:Int)≤1099511627776)=True:=eq_true (by omega)
 (have hb:=trivial;with_reducible repeat' (first|simp only[hb,Vc.down,seval,Ri.down,hpl,hf1,hf2,h39,m1,m2,ak1]|refine Be ?_ ?_<;>intro hb|refine fd ?_|fail))
 generalize hLK:(CB.live 4 false wf [[.int .i64 (N:Int),.int .i64 w.need,Bv 9 true w.nn (w.parts.map Ae.cells),.int .i64 d]])=LK
 refine Iy (aQ 85 (ab9 N ()) (fun i (_:Unit) t h=>t 0=.ptr 0 0 0∧t 1=.int .i64 (s:Int)∧t 5=.ptr 1 0 0∧t 7=.ptr 3 0 0∧t 23=.int .i64 (N:Int)∧t 24=.int .i64 (i:Int)∧∃f,h=[LK,.live 24 true false [ps],.live 1 true f ((ab9 i Dc++ab9 (N-i) 0).map Ci),.live 1 false true [[.slr 1 2 0 N]]]) (fun _ _=>())
  (fun _ e t h=>e=.exit 0∧t 0=.ptr 0 0 0∧t 1=.int .i64 (s:Int)∧t 5=.ptr 1 0 0∧t 7=.ptr 3 0 0∧∃f,h=[LK,.live 24 true false [ps],.live 1 true f ((ab9 N Dc).map Ci),.live 1 false true [[.slr 1 2 0 N]]]) ?_ ?_ () _ _ ?_) (fun e t h hk=>?_)
 ·rintro _ t h Q' kQ ⟨g0,g1,g5,g7,g23,g24,f,rfl⟩
  rw[agD]at g24
  (have hb:=trivial;with_reducible repeat' (first|simp only[hb,Vc.down,seval,Ri.down,g23,g24,agU,decide_false]|refine Be ?_ ?_<;>intro hb|refine fd ?_|fail))
  exact kQ _ _ _ ⟨rfl,by simp[up,g0],by simp[up,g1],by simp[up,g5],by simp[up,g7],f,by simp⟩
 ·rintro x rest i _ t h J Q' kJ kQ hx hi ⟨g0,g1,g5,g7,g23,g24,f,rfl⟩
  rw[agD]at hi
  have hdd:decide ((i:Int)<(N:Int))=true:=decide_eq_true (by omega)
  have hdi:((i:Int)<(N:Int))=True:=eq_true (by omega)
  have hww:=Ew (n:=N) hi (by unfold maxLen;omega)
  have hrow:((ab9 i Dc++ab9 (N-i) 0).map Ci)[i]?=some [.int .i64 0]:=by
   rw[af4,acG (by simp),agD,ajN,ak2,if_pos (by omega)]
   rfl
  have hnx:((ab9 i Dc++ab9 (N-i) 0).map Ci).set i [.int .i64 1048576]=(ab9 (i+1) Dc++ab9 (N-(i+1)) 0).map Ci:=by
   have e:N-i=(N-(i+1))+1:=by omega
   rw[show([.int .i64 1048576]:List AV)=Ci Dc from rfl,←ajS,List.set_append_right _ _ (by simp),agD,ajN,e,akY,List.set_cons_zero,List.replicate_succ',List.append_assoc]
   rfl
  generalize(ab9 i Dc++ab9 (N-i) 0).map Ci=rows at *
  (have hb:=trivial;with_reducible repeat' (first|simp only[hb,Vc.down,seval,Ri.down,g0,g1,g5,g7,g23,g24,hdd,hdi,hww,hrow,hnx]|refine Be ?_ ?_<;>intro hb|refine fd ?_|fail))
  exact Bc (kJ _ _ () ⟨by simp[up,g0],by simp[up,g1],by simp[up,g5],by simp[up,g7],by simp[up,g23],by simp[up],true,rfl⟩ rfl)
 ·exact⟨by simp[up,Ph],by simp[up,Ph],by simp[up],by simp[up],by simp[up],by simp[up],false,by simp[Ci]⟩
 obtain⟨rfl,g0,g1,g5,g7,f,rfl⟩:=hk
 have hrow:s<((ab9 N Dc).map Ci).length:=by simpa using hs
 have hz:((ab9 N Dc).map Ci)[s]?=some [.int .i64 1048576]:=by rw[af4,ak2,if_pos hs];rfl
 have hin:((ab9 N Dc).map Ci).set s [.int .i64 0]=(Eh N s Dc).map Ci:=by rw[Eh,ajS];rfl
 have o1:((s:Int)<(N:Int))=True:=eq_true (by omega)
 generalize hrw:(ab9 N Dc).map Ci=rows at *
 obtain⟨q1,hq1⟩:∃q,Fn.func 56=q:=⟨_,rfl⟩
 obtain⟨q2,hq2⟩:∃q,Fn.func 57=q:=⟨_,rfl⟩
 have hLq:LK.quiet LK.clean=true:=by rw[←hLK];rfl
 obtain⟨es,M,b1,b2,b3,b4,⟨v',fl',b5,b6,b7⟩,b8,_⟩:=agQ (h:=[LK,.live 24 true false [ps],.live 1 true true ((Eh N s Dc).map Ci),.live 1 false true [[.slr 1 2 0 N]],.live 1 false false [[.nils]],.live 1 false true [[.ptr 4 0 0]]]) (Vr fun c hc=>by
  simp only[acA,acH,or_false]at hc
  rcases hc with rfl|rfl|rfl|rfl|rfl|rfl
  ·exact hLq
  all_goals rfl) (p:=4) s rfl (.inl ⟨rfl,rfl⟩) (by simp)
 rw[hq1]at b1
 simp only[ag5]at b6
 obtain⟨es2,M2,c1,c2,c3,c4,⟨v2,fl2,c5,c6,c7⟩,c8⟩:=agK b4 b5 b6 (by simp)
 rw[hq2]at c1
 have k3:=b8 3 _ (by simp[Dz]) rfl
 have k5:=b8 5 _ (by simp[Dz]) rfl
 have j3:=c8 3 _ (by omega) k3
 have j5:=c8 5 _ (by omega) k5
 have j0:=c8 0 _ (by omega) (b8 0 _ (by simp[Dz]) rfl)
 have j1:=c8 1 _ (by omega) (b8 1 _ (by simp[Dz]) rfl)
 have j2:=c8 2 _ (by omega) (b8 2 _ (by simp[Dz]) rfl)
 (have hb:=trivial;with_reducible repeat' (first|simp only[hb,Vc.down,seval,Ri.down,g0,g1,g5,g7,hz,hin,o1,hq1,hq2,b1,b2,c1,c2,k3,k5,j3,j5,aeB,ak1]|refine Be ?_ ?_<;>intro hb|refine fd ?_|fail))
 generalize hE:Fz w (Ww L)=E at *
 have hEo:Zs E N:=by rw[←hE];exact Ll hw _
 have I0:=ad6 (E:=E) (far:=Dc) hs hEo
 have hsum:(Eh N s Dc).sum≤8*1048576:=wT n8
 refine Iy (cnt 85 (fun n (_:Unit) t h=>t 0=.ptr 0 0 0∧t 1=.int .i64 (s:Int)∧t 5=.ptr 1 0 0∧t 7=.ptr 3 0 0∧t 9=.ptr 5 0 0∧∃dd q k,DiH LK true ps N h dd q [k]∧2*dd.sum+q.length≤20000000∧
  ((t 11=.bool true∧∃room w,t 10=.ptr k 0 0∧6≤k∧h[k]?=some (.live 1 true w [[.int .i64 (room:Nat)]])∧Xs E s N Dc dd (room::q) no3∧2*dd.sum+q.length+1≤n)∨(t 11=.bool false∧q=[]∧Xs E s N Dc dd [] no3))) (fun _ _=>())
  (fun _ e t h=>e=.exit 2∧t 7=.ptr 3 0 0∧∃dd k,DiH LK true ps N h dd [] [k]∧Xs E s N Dc dd [] no3) ?_ ?_ (2*(Eh N s Dc).sum+1) () _ _ ?_) (fun e t h hk=>?_)
 ·rintro _ t h Q' kQ ⟨g0,g1,g5,g7,g9,dd,q,k,hD,hql,⟨g11,room,w5,g10,_,_,_,hm⟩|⟨g11,rfl,hI⟩⟩
  ·omega
  ·(have hb:=trivial;with_reducible repeat' (first|simp only[hb,Vc.down,seval,Ri.down,g11]|refine Be ?_ ?_<;>intro hb|refine fd ?_|fail))
   exact kQ _ _ _ ⟨rfl,by simp[up,g7],dd,k,hD,hI⟩
 ·rintro n _ t h J Q' kJ kQ ⟨g0,g1,g5,g7,g9,dd,q,k,hD,hql,⟨g11,room,w5,g10,hk6,hkb,hI,hm⟩|⟨g11,rfl,hI⟩⟩
  ·obtain⟨f,v,fl,w',i0,i1,i2,i3,i5,i4,iQ,iB,iq⟩:=hD
   have hat:=alX w d (room:Int) false
   rw[hr]at hat
   subst hLK
   (have hb:=trivial;with_reducible repeat' (first|simp only[hb,Vc.down,seval,Ri.down,g0,g1,g5,g7,g9,g10,g11,i0,i1,i2,i3,i5,hkb,hat]|refine Be ?_ ?_<;>intro hb|refine fd ?_|fail))
   obtain⟨rN,rI⟩:=Xs.take hI
   have hkl:=Ac hkb
   generalize hLP:CB.lp _ _ _ _ _=LP
   obtain⟨LK,hLK⟩:∃c:CB,c=CB.live 4 false wf [[.int .i64 (N:Int),.int .i64 w.need,Bv 9 true w.nn (w.parts.map Ae.cells),.int .i64 d]]:=⟨_,rfl⟩
   refine ab3 (aoR hw (d:=d) (r:=(room:Int)) (lb:=h.length) (rb:=h.length+1) (kb:=0) (fun i h'=>∃dd' q',DiH LK.clean false ps N h' dd' q' [k,h.length,h.length+1,h.length+2]∧Xs E s N Dc dd' q' (Pz E room i)∧2*dd'.sum+q'.length≤2*dd.sum+q.length∧(∃w1,h'[k]?=some (.live 1 true w1 [[.int .i64 (room:Nat)]]))∧(∃w1,h'[h.length]?=some (.live 1 false w1 [[.ptr 0 0 0]]))∧(∃w1,h'[h.length+1]?=some (.live 1 true w1 [[.int .i64 (room:Nat)]]))∧h'[h.length+2]?=some LP∧h.length+3≤h'.length∧Ld (h++[.live 1 false false [[.ptr 0 0 0]],.live 1 true false [[.int .i64 (room:Nat)]],LP]) h') ?_ ?_ ?_ ?_ ?_ ?_ ?_) ?_
   ·rintro i h' ⟨dd',q',_,_,_,_,hb1,_⟩
    exact hb1
   ·rintro i h' ⟨dd',q',⟨f,v,fl,w',i0,_⟩,_⟩
    rw[hr]
    exact⟨false,by rw[i0,hLK];rfl⟩
   ·rintro i h' ⟨dd',q',_,_,_,_,_,hb2,_⟩
    exact hb2
   ·rintro i h' fl wf rows ⟨dd',q',k1,k3,k4,⟨a0,k5⟩,⟨a1,k6⟩,⟨a2,k7⟩,k8,k9,kO⟩
    exact⟨dd',q',k1.app rfl,k3,k4,⟨a0,Ai k5 _⟩,⟨a1,Ai k6 _⟩,⟨a2,Ai k7 _⟩,Ai k8 _,by simp;omega,kO.app _⟩
   ·rintro i p u h' hpx hu ⟨dd',q',⟨f',v',fl',w2,j0,j1,j2,j3,j5,j4,jQ,jB,jq⟩,k3,k4,⟨a0,k5⟩,⟨a1,k6⟩,⟨a2,k7⟩,k8,k9,kO⟩
    have round:RnQ Fe ([.int .i64 i,.int .i64 u]++[.yl (h.length+2)]) (Eg h') fun o G=>o=.ret (.bool true)∧Ld h' G∧∃dd2 q2,DiH LK.clean false ps N (Gk h' G) dd2 q2 [k,h.length,h.length+1,h.length+2]∧Xs E s N Dc dd2 q2 (Pz E room (i+1))∧2*dd2.sum+q2.length≤2*dd.sum+q.length∧(∀b∈[k,h.length,h.length+1,h.length+2],(Gk h' G)[b]?=h'[b]?)∧h'.length≤(Gk h' G).length:=by
     have hir:room<N:=rN
     have hpo:=hw.part p (agW hpx)
     have hil:i<w.parts.length:=(ahG.1 hpx).1
     obtain⟨pc,hpc⟩:∃x,L[i]?=some x:=⟨_,acF (by omega)⟩
     have he:=iF hpx hpc
     rw[hE]at he
     obtain⟨to,rfl,htN,hrt,hto⟩:∃to:Nat,u=(to:Int)∧to<N∧room≠to∧(E[i]?=some (room,to,if rY pc=true then 1 else 0)∨E[i]?=some (to,room,if rY pc=true then 1 else 0)):=by
      rcases hu with⟨h1,h2⟩|⟨h1,h2,h3⟩
      ·exact⟨p.other.toNat,by omega,by omega,by omega,.inl (by rw[he,h1];rfl)⟩
      ·exact⟨p.one.toNat,by omega,by omega,by omega,.inr (by rw[he,h2];rfl)⟩
     have hi12:((i:Int)<12)=True:=eq_true (by omega)
     have hp24:(i*2+2≤24)=True:=eq_true (by omega)
     have htk:afD 2 (List.drop (i*2) ps)=[.int .i64 pc.1,.bool pc.2]:=by
      rw[hps];exact iO _ _ _ _ hpc
     have htt:=gR pc.1 pc.2
     rw[show(pc.1==0&& !pc.2)=rY pc from rfl]at htt
     have hdl:=k3.i.len
     have hrm:=aN (d:=dd') (a:=room) (by omega)
     have htm:=aN (d:=dd') (a:=to) (by omega)
     have hst:∀n:Nat,(dd'.map Ci).set to [.int .i64 (n:Int)]=(dd'.set to n).map Ci:=fun n=>by rw[ajS];rfl
     have hrf:=k3.i.le room rN
     have hrf2:dd'.getD room 0≤1048576:=hrf
     have I0:=k3.same hto
     have I1:=fun q'=>k3.less (q':=q') rN htN hrt hto
     have hrN:((room:Int)<(N:Int))=True:=eq_true (by omega)
     have htN':((to:Int)<(N:Int))=True:=eq_true (by omega)
     have hbit:=agN (rY pc)
     have hsum:∀x,x<dd'.getD to 0→(dd'.set to x).sum<dd'.sum:=fun x hx=>wC (by omega) hx
     generalize dd'.getD room 0=xr at *
     generalize dd'.getD to 0=xt at *
     generalize hrows:dd'.map Ci=rows at *
     have hbc:=Bl k8
     have hb0:LP.clean=LP:=by rw[←hLP];rfl
     rw[hb0]at hbc
     have hne2:∀(b:Nat) (c X:CB),b≠h.length+2→h'[b]?=some c→((Eg h').set (h.length+2) X)[b]?=some c.clean:=fun b c X hn hc=>by rw[ab8 (fun e=>hn e.symm),Bl hc]
     have h6:=Ac i5
     have g0':=fun X=>hne2 0 _ X (by omega) j0
     have g1':=fun X=>hne2 1 _ X (by omega) j1
     have g2':=fun X=>hne2 2 _ X (by omega) j2
     have g3':=fun X=>hne2 3 _ X (by omega) j3
     have g5':=fun X=>hne2 5 _ X (by omega) j5
     have gk':=fun X=>hne2 k _ X (by omega) k5
     simp only[CB.clean]at g1' g2' g3' g5' gk'
     have hlw:∀n,n≤1048577→IntKind.i64.wrap (n:Nat)=(n:Int):=fun n hn=>Ee (by omega) (by omega)
     have hself:∀X:CB,((Eg h').set (h.length+2) X)[h.length+2]?=some X:=fun X=>acD (Ac hbc)
     have hback:∀X:CB,(((Eg h').set (h.length+2) X).set (h.length+2) LP)=Eg h':=fun X=>by
      rw[List.set_set];exact mT hbc
     have sm:=qM (l:=[]) jq
     simp only[List.append_nil]at sm
     have fin0:∀(dx:Xs E s N Dc dd' q' (Pz E room (i+1))),(Db.ret (AV.bool true)=.ret (.bool true))∧Ld h' (Eg h')∧∃dd2 q2,DiH LK.clean false ps N (Gk h' (Eg h')) dd2 q2 [k,h.length,h.length+1,h.length+2]∧Xs E s N Dc dd2 q2 (Pz E room (i+1))∧2*dd2.sum+q2.length≤2*dd.sum+q.length∧(∀b∈[k,h.length,h.length+1,h.length+2],(Gk h' (Eg h'))[b]?=h'[b]?)∧h'.length≤(Gk h' (Eg h')).length:=fun dx=>by
      rw[sm.2]
      exact⟨rfl,sm.1,dd',q',⟨f',v',fl',w2,j0,j1,by rw[hrows];exact j2,j3,j5,j4,jQ,jB,jq⟩,dx,k4,fun b _=>rfl,acI _⟩
     have hq':q'.length≤100000000:=by omega
     have hK6:∀b∈[k,h.length,h.length+1,h.length+2],6≤b∧b<h'.length:=fun b hb1=>by
      simp only[acA,acH,or_false]at hb1
      omega
     have hnx:∀(b:Nat) (c X Y:CB),b≠h.length+2→b≠2→h'[b]?=some c→(((Eg h').set (h.length+2) X).set 2 Y)[b]?=some c.clean:=fun b c X Y n1 n2 hc=>by rw[ab8 (fun e=>n2 e.symm)];exact hne2 b c X n1 hc
     have n5:=fun X Y=>hnx 5 _ X Y (by omega) (by omega) j5
     have n4:=fun X Y=>hnx 4 _ X Y (by omega) (by omega) j4
     have nB:∀X Y:CB,(((Eg h').set (h.length+2) X).set 2 Y)[h.length+2]?=some X:=fun X Y=>by rw[ab8 (by omega)];exact hself X
     simp only[CB.clean]at n5 n4
     have nQ:∀X Y,QS v' q' (((Eg h').set (h.length+2) X).set 2 Y) 4:=fun X Y=>by
      rcases QS.cln jQ with h1|⟨b,w0,rows0,r0,h1,h2,h3⟩
      ·exact .inl h1
      ·have hbb:=jB b (by rw[h1];simp[Dz])
       simp only[acA,acH,or_false,not_or]at hbb
       exact .inr ⟨b,w0,rows0,r0,h1,by rw[ab8 (by omega),ab8 (by omega)];exact h2,h3⟩
     have hlen2:∀X Y:CB,(((Eg h').set (h.length+2) X).set 2 Y).length=h'.length:=fun X Y=>by simp[As]
     have nqt:∀(X:CB) (Y:List (List AV)),X.quiet X.clean=true→Ao (((Eg h').set (h.length+2) X).set 2 (.live 1 true true Y))=true:=fun X Y hX=>Ar (Ar (Ft jq) _ hX) _ rfl
     have fin1:∀{n:Nat} {q2:List Nat} {M:Aa} {Y:List Nat} {LB:CB} {v2:AV} {fl2:Bool},Xs E s N Dc (dd'.set to n) q2 (Pz E room (i+1))→n<xt→q2.length=q'.length+1→h'.length≤M.length→Ao M=true→M[4]?=some (.live 1 fl2 true [[v2]])→QS v2 q2 M 4→(∀b∈Dz v2,h'.length≤b)→
      (∀b c,b∉Y→(((Eg h').set (h.length+2) LB).set 2 (.live 1 true true ((dd'.set to n).map Ci)))[b]?=some c→M[b]?=some c)→4∈Y→(∀b∈Y,b=4∨(b∈Dz v'∧M[b]?=some .dead))→
      (Db.ret (AV.bool true)=.ret (.bool true))∧Ld h' (M.set (h.length+2) LP)∧∃dd2 q2,DiH LK.clean false ps N (Gk h' (M.set (h.length+2) LP)) dd2 q2 [k,h.length,h.length+1,h.length+2]∧Xs E s N Dc dd2 q2 (Pz E room (i+1))∧2*dd2.sum+q2.length≤2*dd.sum+q.length∧(∀b∈[k,h.length,h.length+1,h.length+2],(Gk h' (M.set (h.length+2) LP))[b]?=h'[b]?)∧h'.length≤(Gk h' (M.set (h.length+2) LP)).length:=fun {n q2 M Y LB v2 fl2} dx hn hq2 m1 m2 m3 m4 m5 m6 hY hY'=>by
      have hr:=wF (K:=[k,h.length,h.length+1,h.length+2]) j0 j1 (by rw[hrows];exact j2) j3 j5 j4 jQ jB jq k8 (by simp) hK6 hb0 (by rw[←hLP];rfl) m1 m2 m3 m4 m5 m6 hY hY'
      exact⟨rfl,hr.1,dd'.set to n,q2,hr.2.1,dx,by have:=hsum n hn;omega,hr.2.2.1,hr.2.2.2⟩
     have nbv:h.length+2∉4::Dz v':=fun hx=>by
      rcases acA.1 hx with hx|hx
      ·omega
      ·have:=(jB _ hx).2;simp at this
     have mq:∀x,x∈q'++[to]↔x=to∨x∈q':=fun x=>by simp;exact Or.comm
     have mq2:∀x,x∈to::q'↔x=to∨x∈q':=fun x=>by simp
     cases htb:rY pc with
     |true=>
      have hw1:IntKind.i64.wrap ((xr:Int)+1)=((xr+1:Nat):Int):=by have:=hlw (xr+1) (by omega);simpa using this
      rw[htb]at htt hbit I0 I1
      simp only[if_true]at I0 I1 hbit
      by_cases hle:xt≤xr+1
      ·have hle':(((xr+1:Nat):Int)≥(xt:Int))=True:=eq_true (by omega)
       have fz:=fin0 (I0 hle)
       subst hLP
       refine kC hbc rfl ?_
       (have hb:=trivial;with_reducible repeat' (first|simp only[hb,Vc.down,seval,Ri.down,k8,g0,g1,g5,g7,g9,g10,g0',g1',g2',g3',g5',gk',Iz,hi12,hp24,hpl,htk,htt,hbit,hrm,htm,hrN,htN',hw1,hle',hself,hback]|refine Be ?_ ?_<;>intro hb|refine fd ?_|fail))
       exact⟨_,_,rfl,fz⟩
      ·have hle':(((xr+1:Nat):Int)≥(xt:Int))=False:=eq_false (by omega)
       subst hLP
       refine kC hbc rfl ?_
       (have hb:=trivial;with_reducible repeat' (first|simp only[hb,Vc.down,seval,Ri.down,k8,g0,g1,g5,g7,g9,g10,g0',g1',g2',g3',g5',gk',Iz,hi12,hp24,hpl,htk,htt,hbit,hrm,htm,hrN,htN',hw1,hle',hst]|refine Be ?_ ?_<;>intro hb|refine fd ?_|fail))
       generalize hLB:CB.lp _ _ _ _ Hw.busy=LB
       obtain⟨q1,hq1⟩:∃q,Fn.func 56=q:=⟨_,rfl⟩
       obtain⟨es,M,b1,b2,b3,b4,⟨v2,fl2,b5,b6,b7⟩,b8,b9⟩:=agQ (nqt LB ((dd'.set to (xr+1)).map Ci) (by rw[←hLB];rfl)) to (n4 LB _) (nQ LB _) hq'
       rw[hq1]at b1
       have n5':=n5 LB
       have mB:=b8 _ _ nbv (nB LB _)
       have fz:=fin1 (I1 (q'++[to]) (by omega) mq) (by omega) (by simp) (by rw[hlen2]at b3;exact b3) b4 b5 b6 (by rw[hlen2]at b7;exact b7) b8 (acE ..) (fun b hb1=>(acA.1 hb1).imp id fun hb1=>⟨hb1,b9 b hb1⟩)
       subst hLB
       (have hb:=trivial;with_reducible repeat' (first|simp only[hb,Vc.down,seval,Ri.down,n5',hq1,b1,b2,mB]|refine Be ?_ ?_<;>intro hb|refine fd ?_|fail))
       exact⟨_,_,rfl,fz⟩
     |false=>
      have hw1:IntKind.i64.wrap ((xr:Int)+0)=((xr:Nat):Int):=by have:=hlw xr (by omega);simpa using this
      rw[htb]at htt hbit I0 I1
      simp only[Bool.false_eq_true,if_false,Nat.add_zero]at I0 I1 hbit
      by_cases hle:xt≤xr
      ·have hle':((xr:Int)≥(xt:Int))=True:=eq_true (by omega)
       have fz:=fin0 (I0 hle)
       subst hLP
       refine kC hbc rfl ?_
       (have hb:=trivial;with_reducible repeat' (first|simp only[hb,Vc.down,seval,Ri.down,k8,g0,g1,g5,g7,g9,g10,g0',g1',g2',g3',g5',gk',Iz,hi12,hp24,hpl,htk,htt,hbit,hrm,htm,hrN,htN',hw1,hle',hself,hback]|refine Be ?_ ?_<;>intro hb|refine fd ?_|fail))
       exact⟨_,_,rfl,fz⟩
      ·have hle':((xr:Int)≥(xt:Int))=False:=eq_false (by omega)
       subst hLP
       refine kC hbc rfl ?_
       (have hb:=trivial;with_reducible repeat' (first|simp only[hb,Vc.down,seval,Ri.down,k8,g0,g1,g5,g7,g9,g10,g0',g1',g2',g3',g5',gk',Iz,hi12,hp24,hpl,htk,htt,hbit,hrm,htm,hrN,htN',hw1,hle',hst]|refine Be ?_ ?_<;>intro hb|refine fd ?_|fail))
       generalize hLB:CB.lp _ _ _ _ Hw.busy=LB
       obtain⟨q1,hq1⟩:∃q,Fn.func 60=q:=⟨_,rfl⟩
       obtain⟨es,M,b1,b2,b3,b4,⟨v2,fl2,b5,b6,b7⟩,b8⟩:=amT (nqt LB ((dd'.set to xr).map Ci) (by rw[←hLB];rfl)) to (n4 LB _) (nQ LB _) hq'
       rw[hq1]at b1
       have n5':=n5 LB
       have mB:=b8 _ _ (by omega) (nB LB _)
       have fz:=fin1 (Y:=[4]) (I1 (to::q') (by omega) mq2) (by omega) (by simp) (by rw[hlen2]at b3;exact b3) b4 b5 b6 (by rw[hlen2]at b7;exact b7) (fun b c hn=>b8 b c (by simpa using hn)) (acE ..) (fun b hb1=>.inl (by simpa using hb1))
       subst hLB
       (have hb:=trivial;with_reducible repeat' (first|simp only[hb,Vc.down,seval,Ri.down,n5',hq1,b1,b2,mB]|refine Be ?_ ?_<;>intro hb|refine fd ?_|fail))
       exact⟨_,_,rfl,fz⟩
    obtain⟨o,G,es,e1,e2,rfl,z0,dd2,q2,z1,z2,z3,z4,z5⟩:=sA round (fun o G h=>h.2.1.sh)
    refine⟨es,e1,?_⟩
    rw[e2]
    exact⟨dd2,q2,z1,z2,z3,⟨a0,by rw[z4 k (by simp)];exact k5⟩,⟨a1,by rw[z4 _ (by simp)];exact k6⟩,⟨a2,by rw[z4 _ (by simp)];exact k7⟩,by rw[z4 _ (by simp)];exact k8,by omega,kO.trans z0⟩
   ·rintro i p h' hpx n1 n2 ⟨dd',q',k1,k3,k4,k5,k6,k7,k8,k9⟩
    have hpo:=hw.part p (agW hpx)
    obtain⟨pc,hpc⟩:∃x,L[i]?=some x:=⟨_,acF (by have:=(ahG.1 hpx).1;omega)⟩
    have he:=iF hpx hpc
    rw[hE]at he
    exact⟨dd',q',k1,k3.skip he (by omega) (by omega),k4,k5,k6,k7,k8,k9⟩
   ·have cl:∀(b:Nat) (c:CB),h[b]?=some c→(Eg h++[CB.live 1 false false [[.ptr 0 0 0]],.live 1 true false [[.int .i64 (room:Nat)]],LP])[b]?=some c.clean:=fun b c hc=>Ai (Bl hc) _
    have ca:∀j,(Eg h++[CB.live 1 false false [[.ptr 0 0 0]],.live 1 true false [[.int .i64 (room:Nat)]],LP])[h.length+j]?=[CB.live 1 false false [[.ptr 0 0 0]],.live 1 true false [[.int .i64 (room:Nat)]],LP][j]?:=fun j=>by
     rw[acG (by rw[As];omega),As,agR]
    have hLc:LP.clean=LP:=by rw[←hLP];rfl
    have hLq:LP.quiet LP=true:=by rw[←hLP];rfl
    have hok:Ld (h++[.live 1 false false [[.ptr 0 0 0]],.live 1 true false [[.int .i64 (room:Nat)]],LP]) (Eg h++[.live 1 false false [[.ptr 0 0 0]],.live 1 true false [[.int .i64 (room:Nat)]],LP]):=by
     have:=Ld.cl (H:=h++[.live 1 false false [[.ptr 0 0 0]],.live 1 true false [[.int .i64 (room:Nat)]],LP]) (Bi iq (by simp only[Ao,ajU,hLc,hLq];rfl))
     rw[show Eg (h++[CB.live 1 false false [[.ptr 0 0 0]],.live 1 true false [[.int .i64 (room:Nat)]],LP])=Eg h++[CB.live 1 false false [[.ptr 0 0 0]],.live 1 true false [[.int .i64 (room:Nat)]],LP] by simp only[Eg,akZ,List.map_cons,List.map_nil,hLc];rfl]at this
     exact this
    refine⟨dd,q,⟨false,v,fl,false,by rw[hLK];exact cl 0 _ i0,cl 1 _ i1,cl 2 _ i2,cl 3 _ i3,cl 5 _ i5,cl 4 _ i4,?_,fun b hb1=>?_,Bi (Ft iq) (by simp only[Ao,ajU,hLc,hLq];rfl)⟩,rI,acI _,⟨_,cl k _ hkb⟩,⟨false,ca 0⟩,⟨false,ca 1⟩,ca 2,by simp[As],hok⟩
    ·rcases QS.cln iQ with h|⟨b,w',rows,r,h1,h2,h3⟩
     ·exact .inl h
     ·exact .inr ⟨b,w',rows,r,h1,Ai h2 _,h3⟩
    ·have:=(iQ.lt b hb1).1
     have:=iB b hb1
     simp at this ⊢
     omega
   ·rintro o h' ⟨rfl,dd',q',⟨f',v',fl',w2,j0,j1,j2,j3,j5,j4,jQ,jB,jq⟩,k3,k4,⟨a0,k5⟩,⟨a1,k6⟩,⟨a2,k7⟩,k8,k9,kO⟩
    have hl5:=Ac i5
    have hLc:LP.clean=LP:=by rw[←hLP];rfl
    have hLq:LP.quiet LP=true:=by rw[←hLP];rfl
    obtain⟨h1,hh1⟩:∃H:Aa,h++[.live 1 false false [[.ptr 0 0 0]],.live 1 true false [[.int .i64 (room:Nat)]],LP]=H:=⟨_,rfl⟩
    have hB1:h1[h.length+2]?=some LP:=by rw[←hh1,acG (by omega),agR];rfl
    have hq1:Ao h1=true:=by rw[←hh1];exact Bi iq (by simp only[Ao,ajU,hLc,hLq];rfl)
    have hO:∀(b:Nat) (c:CB),h[b]?=some c→h1[b]?=some c:=fun b c hc=>by rw[←hh1];exact Ai hc _
    simp only[hh1]at kO ⊢
    obtain⟨es,e1,e2⟩:=Oe h1 h' [] kO.sh
    have e1':Cd 0 h1 h'=some es:=e1
    simp only[ag5]at e2
    have m0:=Ld.old (hO 0 _ i0) j0 (by rw[hLK];rfl)
    have m1:=Ld.old (hO 1 _ i1) j1 rfl
    obtain⟨x2,m2⟩:=kO.live j2
    have m3:=Ld.old (hO 3 _ i3) j3 rfl
    have m5:=Ld.old (hO 5 _ i5) j5 rfl
    obtain⟨x4,m4⟩:=kO.live j4
    obtain⟨xk,mk_⟩:=kO.live k5
    have mQ:=jQ.okw kO
    have mB:=Ld.old hB1 k8 hLq
    have mqt:=kO.quiet hq1 jq
    have mln:h'.length≤(Gk h1 h').length:=by rw[Ju kO.1];exact acI _
    generalize hM:Gk h1 h'=M at *
    rw[Vh,e1']
    have dne:∀(b:Nat) (c:CB),b≠h.length+2→M[b]?=some c→(M.set (h.length+2) .dead)[b]?=some c:=fun b c hn hc=>by rw[ab8 (fun e=>hn e.symm)];exact hc
    have hkn:k≠h.length+2:=by omega
    have d0:=dne 0 _ (by omega) m0
    have d1:=dne 1 _ (by omega) m1
    have d2:=dne 2 _ (by omega) m2
    have d3:=dne 3 _ (by omega) m3
    have d5:=dne 5 _ (by omega) m5
    have d4:=dne 4 _ (by omega) m4
    have dk:=dne k _ hkn mk_
    have dq:Ao (M.set (h.length+2) .dead)=true:=Ar mqt _ rfl
    have dl:(M.set (h.length+2) .dead).length=M.length:=by simp
    have dQ:QS v' q' (M.set (h.length+2) .dead) 4:=by
     rcases mQ with h1|⟨b,w0,rows0,r0,h1,h2,h3⟩
     ·exact .inl h1
     ·have hbb:=jB b (by rw[h1];simp[Dz])
      simp only[acA,acH,or_false,not_or]at hbb
      exact .inr ⟨b,w0,rows0,r0,h1,dne b _ (by omega) h2,h3⟩
    subst hLP
    (have hb:=trivial;with_reducible repeat' (first|simp only[hb,Vc.down,seval,Ri.down,e2,mB]|refine Be ?_ ?_<;>intro hb|refine fd ?_|fail))
    generalize hD:M.set (h.length+2) CB.dead=D at *
    (have hb:=trivial;with_reducible repeat' (first|simp only[hb,Vc.down,seval,Ri.down,g0,g1,g5,g7,g9,g10,dk,d5]|refine Be ?_ ?_<;>intro hb|refine fd ?_|fail))
    have p5:=Ai d5 [CB.live 1 true true [[.int .i64 (room:Int)]]]
    have p4:=Ai d4 [CB.live 1 true true [[.int .i64 (room:Int)]]]
    have pq:Ao (D++[CB.live 1 true true [[.int .i64 (room:Int)]]])=true:=Bi dq rfl
    have pQ:=dQ.app [CB.live 1 true true [[.int .i64 (room:Int)]]]
    have pk:(D++[CB.live 1 true true [[.int .i64 (room:Int)]]])[D.length]?=some (.live 1 true true [[.int .i64 (room:Int)]]):=by simp
    have hEl:E.length≤w.parts.length:=by rw[←hE];simp[Fz,Ww];omega
    have k3':=k3.done hEl
    have hD6:6≤D.length:=by omega
    have hvD:∀b∈Dz v',6≤b∧b∉[D.length]:=fun b hb1=>by
     have h1:=(dQ.lt b hb1).1
     have h2:=(jB b hb1).1
     exact⟨h2,by simp;omega⟩
    obtain⟨q1,hq1⟩:∃q,Fn.func 57=q:=⟨_,rfl⟩
    cases q' with
    |nil=>
     have b1:=alR pq p4 pQ
     rw[hq1]at b1
     (have hb:=trivial;with_reducible repeat' (first|simp only[hb,Vc.down,seval,Ri.down,p5,hq1,b1]|refine Be ?_ ?_<;>intro hb|refine fd ?_|fail))
     refine Bc (kJ _ _ () ⟨by simp[up,g0],by simp[up,g1],by simp[up,g5],by simp[up,g7],by simp[up,g9],dd',[],D.length,?_,?_,.inr ⟨by simp[up],rfl,k3'⟩⟩ rfl)
     ·exact⟨_,_,_,_,Ai d0 _,Ai d1 _,Ai d2 _,Ai d3 _,Ai d5 _,Ai d4 _,dQ.app _,hvD,Bi dq rfl⟩
     ·omega
    |cons x q'=>
     simp only[akV]at k4
     obtain⟨es,M4,b1,b2,b3,b4,⟨v2,fl2,b5,b6,b7⟩,b8⟩:=agK pq p4 pQ (by omega)
     rw[hq1]at b1
     have r5:=b8 _ _ (by omega) p5
     have rk:=b8 _ _ (by omega) pk
     (have hb:=trivial;with_reducible repeat' (first|simp only[hb,Vc.down,seval,Ri.down,p5,hq1,b1,b2,rk,r5]|refine Be ?_ ?_<;>intro hb|refine fd ?_|fail))
     have sne:∀(b:Nat) (c:CB),b<D.length→b≠4→D[b]?=some c→(M4.set D.length (.live 1 true true [[.int .i64 (x:Int)]]))[b]?=some c:=fun b c h1 h2 hc=>by
      rw[ab8 (by omega)];exact b8 b c h2 (Ai hc _)
     have hl4:=Ac rk
     refine Bc (kJ _ _ () ⟨by simp[up,g0],by simp[up,g1],by simp[up,g5],by simp[up,g7],by simp[up,g9],dd',q',D.length,?_,by omega,.inl ⟨by simp[up],x,true,by simp[up],hD6,acD hl4,k3',by omega⟩⟩ rfl)
     refine⟨_,v2,fl2,true,sne 0 _ (by omega) (by omega) d0,sne 1 _ (by omega) (by omega) d1,sne 2 _ (by omega) (by omega) d2,sne 3 _ (by omega) (by omega) d3,sne 5 _ (by omega) (by omega) d5,by rw[ab8 (by omega)];exact b5,?_,fun b hb1=>hvD b (by rw[←b7];exact hb1),Ar b4 _ rfl⟩
     rcases b6 with h1|⟨b,w0,rows0,r0,h1,h2,h3⟩
     ·exact .inl h1
     ·have hbb:=hvD b (by rw[←b7,h1];simp[Dz])
      simp only[acA,acH,or_false]at hbb
      exact .inr ⟨b,w0,rows0,r0,h1,by rw[ab8 (fun e=>hbb.2 e.symm)];exact h2,h3⟩
  ·(have hb:=trivial;with_reducible repeat' (first|simp only[hb,Vc.down,seval,Ri.down,g11]|refine Be ?_ ?_<;>intro hb|refine fd ?_|fail))
   exact kQ _ _ _ ⟨rfl,by simp[up,g7],dd,k,hD,hI⟩
 ·refine⟨by simp[up,g0],by simp[up,g1],by simp[up,g5],by simp[up,g7],by simp[up],Eh N s Dc,[],M2.length,?_,by simp only[agT];omega,.inl ⟨by simp[up],s,true,by simp[up],by simp at b3;omega,by rw[acG (acI _),ajN];rfl,I0,by simp⟩⟩
  refine⟨true,v2,fl2,true,Ai j0 _,Ai j1 _,Ai j2 _,Ai j3 _,Ai j5 _,Ai c5 _,?_,?_,Bi c4 rfl⟩
  ·rcases c6 with h|⟨b,w',rows,r,h1,h2,h3⟩
   ·exact .inl h
   ·exact .inr ⟨b,w',rows,r,h1,Ai h2 _,h3⟩
  ·intro b hb1
   have:=c6.lt b hb1
   rw[c7]at hb1
   have h6:=b7 b hb1
   simp at h6
   exact⟨h6,by simp;omega⟩
 obtain⟨rfl,g7,dd,k,⟨f,v,fl,w',i0,i1,i2,i3,i5,i4,iQ,iB,iq⟩,hI⟩:=hk
 have hR:=hI.right hs hEo (by unfold Dc;omega)
 have hdl:=hI.i.len
 have hln:(dd.map Ci).length=N:=by simp[hdl]
 subst hLK
 (have hb:=trivial;with_reducible repeat' (first|simp only[hb,Vc.down,seval,Ri.down,g7,i3,i2,i0,hln]|refine Be ?_ ?_<;>intro hb|refine fd ?_|fail))
 exact⟨f,dd,rfl,hdl,hR⟩
theorem Kw(L:List (Int × Bool)):∀x∈Hn L,(∃n,x=.int .i64 n)∨∃b,x=.bool b:=fun x hx=>by
 simp only[Hn,ak0,acA,acH,or_false]at hx
 obtain⟨y,_,rfl|rfl⟩:=hx
 ·exact .inl ⟨_,rfl⟩
 ·exact .inr ⟨_,rfl⟩
theorem cF(L:List (Int × Bool)):(Hn L).all AV.flat=true:=adL.2 fun x hx=>by rcases Kw L x hx with⟨n,rfl⟩|⟨b,rfl⟩<;>rfl
theorem cO(L:List (Int × Bool)):(Hn L).all AV.isCell=true:=adL.2 fun x hx=>by rcases Kw L x hx with⟨n,rfl⟩|⟨b,rfl⟩<;>rfl
theorem nJ(L:List (Int × Bool))(d:Nat)(g:HF):Am (Eo (d+1) g) (Hn L)=some (Hn L):=iC fun x hx=>by rcases Kw L x hx with⟨n,rfl⟩|⟨b,rfl⟩<;>rfl
theorem nO(L:List (Int × Bool))(d:Nat)(g:HF):(Hn L).flatMap (Ap (d+1) g)=[]:=List.flatMap_eq_nil_iff.2 fun x hx=>by rcases Kw L x hx with⟨n,rfl⟩|⟨b,rfl⟩<;>rfl
theorem oJ(L:List (Int × Bool))(d:Nat)(m:List Nat):Bz.refL (Bz (d+1)) m (Hn L)=some (Hn L,m):=Gn fun x hx=>by rcases Kw L x hx with⟨n,rfl⟩|⟨b,rfl⟩<;>rfl
theorem ajQ(L:List (Int × Bool))(d:Nat)(f:Nat→Nat):Am (Ba (d+1) f) (Hn L)=some (Hn L):=iC fun x hx=>by rcases Kw L x hx with⟨n,rfl⟩|⟨b,rfl⟩<;>rfl
theorem ajG(L:List (Int × Bool))(d:Nat):(Hn L).any (hasImm (d+1))=false:=List.any_eq_false.2 fun x hx=>by rcases Kw L x hx with⟨n,rfl⟩|⟨b,rfl⟩<;>simp[hasImm]
def nmB(w:Au)(N:Nat)(L:List (Int × Bool)):Nat:=Yh (Fz w (Ww L)) N w.parts.length
theorem aaU{w:Au}{N:Nat}(hw:mI w N)(h12:w.parts.length≤12)(d:Int){L:List (Int × Bool)}(hL12:L.length=12)(wf:Bool):
 Fe.call (.fn 43) [.ptr 0 0 0,.agg (Hn L)] [.live 4 false wf [[.int .i64 w.rooms,.int .i64 w.need,Bv 9 true w.nn (w.parts.map Ae.cells),.int .i64 d]]]=some (.ret (.int .i64 (nmB w N L:Nat)),[.live 4 false wf [[.int .i64 w.rooms,.int .i64 w.need,Bv 9 true w.nn (w.parts.map Ae.cells),.int .i64 d]]]):=by
 have n2:=hw.n2
 have n8:=hw.n8
 obtain⟨o,h',hc,f,ds,rfl,rfl,hdl,hR⟩:=Rn hw h12 (d:=d) (s:=0) (by omega) hL12 rfl (wf:=false)
 have hne:=yQ (len:=w.parts.length) n2 (by omega) (by unfold Dc;omega) (Ll hw (Ww L)) hR
 have hf1:=cF L
 have hf2:=cO L
 have hpl:(Hn L).length=24:=by rw[Me];omega
 have hd1:=aN (d:=ds) (a:=1) (by omega)
 have h1N:((1:Int)<(N:Int))=True:=eq_true (by omega)
 have hle:ds.getD 1 0≤1048576:=by
  by_cases e:ds.getD 1 0=Dc
  ·rw[e];exact acI _
  ·have:=(Gz.num hR hR (by unfold Dc;omega) (by unfold Dc;omega) (by omega) (Ll hw (Ww L)) (v:=1) (by omega)).2.2 e
   have:ds.getD 1 0<N:=this
   omega
 have hN1:nmB w N L=if ds.getD 1 0=Dc then w.parts.length+1 else ds.getD 1 0:=hne.symm
 rw[hN1]
 have hav:=nJ L
 have hlv:=nO L
 have hrf:=oJ L
 simp only[Int.natCast_zero]at hc
 generalize Hn L=ps at *
 have htk:afD 24 ps=ps:=akW (by omega)
 generalize ds.getD 1 0=x at *
 generalize ds.map Ci=rows at *
 have hwr:IntKind.i64.wrap ((w.parts.length:Int)+1)=((w.parts.length+1:Nat):Int):=by have:=Ee (n:=((w.parts.length+1:Nat):Int)) (by omega) (by omega);simpa using this
 by_cases e:x=Dc
 ·have e1:((x:Int)==1048576)=true:=by rw[e];rfl
  rw[if_pos e]
  refine ce Tryd.func43 ?_
  simp only[Tryd.f43]
  (have hb:=trivial;with_reducible repeat' (first|simp only[hb,Vc.down,seval,amW.down,hpl,hf1,hf2,htk,hav,hlv,hrf,hc,hd1,h1N,e1,hwr,acC]|refine Be ?_ ?_<;>intro hb|refine fd ?_|fail))
 ·have e1:((x:Int)==1048576)=false:=by simp;exact fun h=>e (by unfold Dc;omega)
  rw[if_neg e]
  refine ce Tryd.func43 ?_
  simp only[Tryd.f43]
  (have hb:=trivial;with_reducible repeat' (first|simp only[hb,Vc.down,seval,amW.down,hpl,hf1,hf2,htk,hav,hlv,hrf,hc,hd1,h1N,e1,acC]|refine Be ?_ ?_<;>intro hb|refine fd ?_|fail))
theorem nR{w:Au}{d:Int}(h12:w.parts.length≤12):(Df w d).length=12:=by simp[Df];omega
theorem kF{α:Type}{d:List AV→Option α}{f:α→List AV}(hd:∀cs x,d cs=some x→cs=f x):∀{rows:List (List AV)} {l:List α},Am d rows=some l→rows=l.map f
 | [],l,h=>by simp[Am]at h;subst h;rfl
 |r::rows,l,h=>by
  simp only[Am,ak3,ajX]at h
  obtain⟨x,h1,l',h2,rfl⟩:=h
  rw[hd r x h1,kF hd h2];rfl
def dSl{α:Type}(n:Nat)(fl:Bool)(d:List AV→Option α):AV→Option (Bool × List α)
 | .nils=>some (false,[])
 | .imm n' fl' rows=>if n'=n∧fl'=fl then(Am d rows).map fun l=>(true,l)else none
 |_=>none
theorem ahW{α:Type}{n:Nat}{fl:Bool}{d:List AV→Option α}{f:α→List AV}(hd:∀cs x,d cs=some x→cs=f x){v:AV}{x:Bool × List α}(h:dSl n fl d v=some x):v=Bv n fl x.1 (x.2.map f):=by
 unfold dSl at h
 split at h
 ·cases h;rfl
 ·split at h
  ·rename_i hq
   obtain⟨rfl,rfl⟩:=hq
   obtain⟨l,h1,rfl⟩:=ajX.1 h
   rw[kF hd h1]
   cases l<;>rfl
  ·cases h
 ·cases h
def wV:List AV→Option Ae
 | [.int .i64 a,.int .i64 b,.bool c,.bool d,.int .i64 e,.int .i64 f,.bool g,.int .i64 h,.int .i64 i]=>some ⟨a,b,c,d,e,f,g,h,i⟩
 |_=>none
theorem xP(cs:List AV)(x:Ae)(h:wV cs=some x):cs=x.cells:=by
 unfold wV at h
 split at h
 ·cases h;rfl
 ·cases h
def yA:List AV→Option (List (Int × Bool))
 | []=>some []
 | .int .i64 a::.bool b::l=>(yA l).map fun r=>(a,b)::r
 |_=>none
theorem qT:∀(cs:List AV) (x:List (Int × Bool)),yA cs=some x→cs=Hn x
 | [],x,h=>by simp[yA]at h;subst h;rfl
 | .int .i64 a::.bool b::l,x,h=>by
   simp only[yA,ajX]at h
   obtain⟨r,h1,rfl⟩:=h
   rw[qT l r h1];rfl
def amB:List AV→Aa→Option (Db × Aa)
 | [.ptr 0 0 0,.agg ps],[.live 4 false wf [[.int .i64 rooms,.int .i64 need,sl,.int .i64 d]]]=>
   (dSl 9 true wV sl).bind fun x=>(yA ps).bind fun L=>if(Pq ⟨rooms,need,x.1,x.2⟩&&decide (L.length=12))=true then
     some (.ret (.int .i64 (nmB ⟨rooms,need,x.1,x.2⟩ rooms.toNat L:Nat)),[.live 4 false wf [[.int .i64 rooms,.int .i64 need,sl,.int .i64 d]]])else none
 |_,_=>none
def pr2:Kv:={ pr with at_:=fun f=>if f=43 then some amB else pr f }
theorem amO(f:Nat)(h:pr2 f=none):pr f=none:=by
 simp only[pr2]at h
 split at h
 ·cases h
 ·exact h
theorem akE:∀f p,pr2 f=some p→∀a h r,p a h=some r→Fe.call (.fn f) a h=some r:=by
 intro f p hp a h r hr
 simp only[pr2]at hp
 split at hp
 ·rename_i hf
  subst hf
  cases hp
  unfold amB at hr
  split at hr
  ·rename_i ps wf rooms need sl d
   simp only[ak3]at hr
   obtain⟨x,h1,L,h2,h3⟩:=hr
   split at h3
   ·rename_i hs
    simp only[Bool.and_eq_true,decide_eq_true_eq]at hs
    cases h3
    obtain⟨N,hw,h12⟩:=qZ hs.1
    have hN:rooms.toNat=N:=by have:=hw.rooms;simp only at this;omega
    rw[ahW xP h1,qT _ _ h2,hN]
    exact aaU hw h12 d hs.2 wf
   ·cases h3
  ·cases hr
 ·exact aeR hp hr
theorem tR:(Oq Tryd.prog pr2 100).call (.fn 10) [] []=some (.ret (.bool true),[]):=by kernel_rfl
theorem aa6:Fe.call (.fn 10) [] []=some (.ret (.bool true),[]):=zW (pr:=pr) (pr2:=pr2) rfl amO akE tR
def nD(w:Au):Bool:=decide ((w.parts.length:Int)≤15)
theorem acZ(w:Au):Fe.call (.fn 9) [.agg [.int .i64 w.rooms,.int .i64 w.need,Bv 9 true w.nn (w.parts.map Ae.cells)]] []=some (.ret (.bool (nD w)),[]):=by
 cases c:nD w
 ·have h:decide ((w.parts.length:Int)≤15)=false:=c
  (refine ce Tryd.func9 ?_;simp only[Tryd.f9];(have hb:=trivial;with_reducible repeat' (first|simp only[hb,Va.down,seval,TY9.down,h,acC]|refine Be ?_ ?_<;>intro hb|refine fd ?_|fail)))
 ·have h:decide ((w.parts.length:Int)≤15)=true:=c
  (refine ce Tryd.func9 ?_;simp only[Tryd.f9];(have hb:=trivial;with_reducible repeat' (first|simp only[hb,Va.down,seval,TY9.down,h,acC]|refine Be ?_ ?_<;>intro hb|refine fd ?_|fail)))
theorem aiZ(L:List (Int × Bool))(d:Nat):(Hn L).all (Aq (d+1))=true:=adL.2 fun x hx=>by rcases Kw L x hx with⟨n,rfl⟩|⟨b,rfl⟩<;>rfl
def Si(v:AV)(l:List Nat)(h:Aa)(lo:Nat):Prop:=(l=[]∧v=.nils)∨(l≠[]∧∃b,lo≤b∧v=.slr 1 b 0 l.length∧h[b]?=some (.live 1 true false (l.map Ci)))
theorem Si.app{v:AV}{l:List Nat}{h:Aa}{lo:Nat}(B:Si v l h lo)(x:Aa):Si v l (h++x) lo:=by
 rcases B with h1|⟨h1,b,h2,h3,h4⟩
 ·exact .inl h1
 ·exact .inr ⟨h1,b,h2,h3,Ai h4 x⟩
theorem qF(l:List Nat)(n1 n2:Bool)(hl:l.length≤1000):Fe.call (.fn 16) [Bv 1 true n1 (l.map Ci),Bv 1 true n2 (l.map Ci)] []=some (.ret (.bool true),[]):=by
 (refine ce Tryd.func16 ?_;simp only[Tryd.f16];(have hb:=trivial;with_reducible repeat' (first|simp only[hb,Vc.down,seval,aeI.down,bne,beq_self_eq_true,Bool.not_true,acC]|refine Be ?_ ?_<;>intro hb|refine fd ?_|fail)))
 refine Iy (aQ 26 l (fun i (zz:Unit) t h=>t 0=Bv 1 true n1 (l.map Ci)∧t 1=Bv 1 true n2 (l.map Ci)∧t 5=.int .i64 i∧(h=[])) (fun rest zz=>()) (fun r e t h=>e=.exit 0∧h=[]) ?_ ?_ () _ _ ?_) (fun e t h hk=>?_)
 ·rintro _ t h Q' kQ ⟨h0,h1,h5,rfl⟩
  (have hb:=trivial;with_reducible repeat' (first|simp only[hb,Vc.down,seval,aeI.down,h0,h1,h5,agU,decide_false,acC]|refine Be ?_ ?_<;>intro hb|refine fd ?_|fail))
  exact kQ _ _ _ ⟨rfl,rfl⟩
 ·rintro x rest i _ t h J Q' kJ kQ hx hi ⟨h0,h1,h5,rfl⟩
  have hd:decide ((i:Int)<(l.length:Int))=true:=decide_eq_true (by omega)
  have hw:=Ew hi (by unfold maxLen;omega)
  (have hb:=trivial;with_reducible repeat' (first|simp only[hb,Vc.down,seval,aeI.down,h0,h1,h5,hd,hw,hx,Ci,bne,beq_self_eq_true,Bool.not_true,acC]|refine Be ?_ ?_<;>intro hb|refine fd ?_|fail))
  (refine Bc (kJ _ _ () ⟨?_,?_,?_,rfl⟩ ?_);(simp[up,h0]);(simp[up,h1]);(simp[up]);exact rfl)
 ·exact⟨by simp[up,Ph],by simp[up,Ph],by simp[up],rfl⟩
 obtain⟨rfl,rfl⟩:=hk
 (have hb:=trivial;with_reducible repeat' (first|simp only[hb,Vc.down,seval,aeI.down]|refine Be ?_ ?_<;>intro hb|refine fd ?_|fail))
theorem Xm:∀(N:Nat) (l:List Nat),l.Nodup→(∀x∈l,x<N)→l.length≤N
 |0,[],_,_=>by simp
 |0,a::l,_,h=>absurd (h a (by simp)) (by omega)
 |N+1,l,hn,h=>by
  by_cases e:N∈l
  ·have h1:=Xm N (l.erase N) (hn.erase N) fun x hx=>by
    have h2:=h x (List.mem_of_mem_erase hx)
    have h3:x≠N:=fun e2=>by subst e2;exact(hn.not_mem_erase) hx
    omega
   rw[List.length_erase_of_mem e]at h1
   omega
  ·exact Nat.le_succ_of_le (Xm N l hn fun x hx=>by
    have h2:=h x hx
    have h3:x≠N:=fun e2=>e (e2▸hx)
    omega)
def toI(p:Ae)(r:Int):Int:=if p.one=r then p.other else if p.other=r then p.one else -1
theorem aoX(p:Ae)(r:Int):Fe.call (.fn 44) [.agg p.cells,.int .i64 r] []=some (.ret (.int .i64 (toI p r)),[]):=by
 unfold toI
 by_cases e1:p.one=r
 ·have q1:(p.one==r)=true:=by simp[e1]
  rw[if_pos e1]
  (refine ce Tryd.func44 ?_;simp only[Tryd.f44];(have hb:=trivial;with_reducible repeat' (first|simp only[hb,Va.down,seval,ag1.down,q1,Ae.cells]|refine Be ?_ ?_<;>intro hb|refine fd ?_|fail)))
 ·have q1:(p.one==r)=false:=by simp[e1]
  rw[if_neg e1]
  by_cases e2:p.other=r
  ·have q2:(p.other==r)=true:=by simp[e2]
   rw[if_pos e2]
   (refine ce Tryd.func44 ?_;simp only[Tryd.f44];(have hb:=trivial;with_reducible repeat' (first|simp only[hb,Va.down,seval,ag1.down,q1,q2,Ae.cells]|refine Be ?_ ?_<;>intro hb|refine fd ?_|fail)))
  ·have q2:(p.other==r)=false:=by simp[e2]
   rw[if_neg e2]
   (refine ce Tryd.func44 ?_;simp only[Tryd.f44];(have hb:=trivial;with_reducible repeat' (first|simp only[hb,Va.down,seval,ag1.down,q1,q2,Ae.cells]|refine Be ?_ ?_<;>intro hb|refine fd ?_|fail)))
end Go.Proofs.YtckfcfcmfjfchaaDoor
