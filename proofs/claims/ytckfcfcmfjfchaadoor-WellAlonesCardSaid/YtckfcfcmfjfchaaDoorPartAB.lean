/- The functions of the layer, walked. -/
import Derived.Test.YtckfcfcmfjfchaaDoorPartAA
import Derived.Test.YtckfcfcmfjfchaaDoorLibE
import Derived.Test.YtckfcfcmfjfchaaDoorLibD
open List renaming getElem?_set_ne→ao5,replicate→azH,mem_cons→aET,getElem?_append_left→aI5,getElem?_set_self→aLO,mem_cons_self→aL7,length_map→aM2,getElem?_eq_getElem→aND,getElem?_append_right→aTC,not_mem_nil→aTD,all_eq_true→aWQ,take→aWR,getElem?_map→aW1,length_replicate→aXQ,length_nil→aY8,mem_of_getElem?→aZA,mem_cons_of_mem→aZI,nil_append→aZM,getElem?_eq_some_iff→aZX,map_set→aZ7,all_cons→aZ8,length_set→a0L,length_cons→a1U,take_of_length_le→a1V,ext_getElem?→a1W,replicate_succ→a4V,map_append→a4W,mem_flatMap→a5E,getElem?_replicate→a6P
open Nat renaming le_refl→aTT,add_sub_cancel_left→aX2,sub_self→aZ5
open Option renaming map_eq_some_iff→a0B,bind_eq_some_iff→a6S
open Int renaming toNat_natCast→a5T
set_option linter.unusedSimpArgs false
set_option linter.unusedVariables false
namespace Go.Proofs.YtckfcfcmfjfchaaDoor
open Go.Ev Go Go.Ev.Net
set_option maxRecDepth 100000
set_option maxHeartbeats 16000000
def QS(v:AV)(q:List Nat)(H:abY)(p:Nat):Prop:=
 (v=.nils∧q=[])∨∃b w rows r,v=.slr 1 b r q.length∧H[b]?=some (.live 1 true w rows)∧b≠p∧rows.drop r=q.map nvv∧r+q.length=rows.length
def scB:AV→List Nat
 | .slr _ b _ _=>[b]
 |_=>[]
theorem a2R{x:Option (List AV)}{vs:List AV}{h:abY}{Q:Out→abY→Prop}(hx:x=some vs)(k:Q (.ret (aZ2 vs)) h):RtS x h Q:=by subst hx;exact k
theorem bkC{H:abY}{p:Nat}{fl w:Bool}{v:AV}{q:List Nat}(x:Nat)(hp:H[p]?=some (.live 1 fl w [[v]]))(hQ:QS v q H p)(hq:q.length≤100000000):
 ShQ om' 56 [.ptr p 0 0,.int .i64 (x:Int)] H fun o G=>o=.ret (.tup [])∧∃v' fl',G[p]?=some (.live 1 fl' true [[v']])∧QS v' (q++[x]) G p∧a33 (p::scB v) H G∧(∀b∈scB v,G[b]?=some .dead)∧(auH H=true→auH G=true)∧∀b∈scB v',H.length≤b:=by
 have hpl:=asR hp
 refine bj4 rfl Tryd.func56 rfl rfl ?_
 simp only[Tryd.f56]
 refine hid (fun KK iN hK=>?_)
 have hA:=as2 hp
 have hS:=aXZ hpl
 rcases hQ with⟨rfl,rfl⟩|⟨b,w',rows,r,rfl,hrb,hbp,hd,hl⟩
 ·(have hb:=trivial;with_reducible repeat' (first|simp only[hb,Va.down,seval,bn4.down,hp,hA,hS]|refine fsp ?_ ?_<;>intro hb|refine fd ?_|fail))
  refine hK _ ?_
  rw[aZN]
  refine a2R (vs:=[]) (by simp only[Va.down,seval,bn4.down]) ⟨rfl,.slr 1 (H.length+1) 0 1,false,?_,.inr ⟨H.length+1,false,[nvv x],0,rfl,?_,by omega,rfl,rfl⟩,⟨by simp,fun b hb1 hn=>?_⟩,fun b hb1=>by simp[scB]at hb1,fun hqq=>aH8 (aMF hqq p rfl) rfl,fun b hb1=>by simp[scB]at hb1;omega⟩
  ·rw[aI5 (by simpa using hpl),aLO hpl]
  ·rw[aTF];rfl
  ·rw[aI5 (by simpa using hb1),ao5 (fun e=>hn (by rw[e];exact aL7 ..))]
 ·have hbl:=asR hrb
  have hB:=as2 hrb
  have hSb:=aXZ hbl
  have h39:(q.length+1≤549755813888)=True:=eq_true (by omega)
  have hg:∀l,(H.set b .dead++l)[p]?=some (.live 1 fl w [[.slr 1 b r q.length]]):=fun l=>by
   rw[aI5 (by simpa using hpl),ao5 hbp];exact hp
  have hg2:∀l c,(H.set b .dead++l).set p c=(H.set b .dead).set p c++l:=fun l c=>aXZ (by simpa using hpl) l c
  (have hb:=trivial;with_reducible repeat' (first|simp only[hb,Va.down,seval,bn4.down,hp,hA,hS,hrb,hB,hSb,hd,hl,h39,hg,hg2,aXY,aTF,a0L,aM2]|refine fsp ?_ ?_<;>intro hb|refine fd ?_|fail))
  have hsl:((H.set b .dead).set p (CB.live 1 false true [[AV.slr 1 (H.length+1) 0 (q.length+1)]])).length=H.length:=by simp
  refine hK _ ?_
  rw[aZN]
  refine a2R (vs:=[]) (by simp only[Va.down,seval,bn4.down]) ⟨rfl,.slr 1 (H.length+1) 0 (q.length+1),false,?_,.inr ⟨H.length+1,false,(q++[x]).map nvv,0,by simp,?_,by omega,rfl,by simp⟩,⟨by simp,fun c hc hn=>?_⟩,fun c hc=>?_,fun hqq=>aH8 (aMF (aMF hqq b rfl) p rfl) rfl,fun c hc=>by simp[scB]at hc;omega⟩
  ·rw[aI5 (by omega),aLO (by simpa using hpl)]
  ·rw[aTC (by omega),hsl,aX2];simp[nvv]
  ·have n1:c≠p:=fun e=>hn (by rw[e];exact aL7 ..)
   have n2:c≠b:=fun e=>hn (by rw[e];simp[scB])
   rw[aI5 (by omega),ao5 (fun e=>n1 e.symm),ao5 (fun e=>n2 e.symm)]
  ·simp[scB]at hc;subst hc
   rw[aI5 (by omega),ao5 (fun e=>hbp e.symm),aLO hbl]
theorem bsJ(b r k:Nat):slx Tryd.prog 28 (some (.slr 1 b r (k+1))) (some (some (.int .i64 1))) (some none)=some (.ret (.slr 1 b (r+1) k),[]):=by
 have hz:szT Tryd.prog 3=some 1:=by kernel_rfl
 simp only[slx,Option.bind_some,a66,Tryd.underlying28,hz,aXK]
 simp[aXK,r1]
 omega
theorem bm1{H:abY}{p:Nat}{fl w:Bool}{v:AV}(hp:H[p]?=some (.live 1 fl w [[v]]))(hQ:QS v [] H p):
 om'.call (.sh 57) [.ptr p 0 0] H=some (.ret (.tup [.int .i64 0,.bool false]),H):=by
 rcases hQ with⟨rfl,_⟩|⟨b,w',rows,r,rfl,hrb,hbp,hd,hl⟩
 ·(refine csh Tryd.func57 ?_;simp only[Tryd.f57];(have hb:=trivial;with_reducible repeat' (first|simp only[hb,Va.down,seval,bp4.down,hp]|refine fsp ?_ ?_<;>intro hb|refine fd ?_|fail)))
 ·simp only[aY8]at hp
  (refine csh Tryd.func57 ?_;simp only[Tryd.f57];(have hb:=trivial;with_reducible repeat' (first|simp only[hb,Va.down,seval,bp4.down,hp]|refine fsp ?_ ?_<;>intro hb|refine fd ?_|fail)))
theorem bpK{H:abY}{p:Nat}{fl w:Bool}{v:AV}{x:Nat}{q:List Nat}(hp:H[p]?=some (.live 1 fl w [[v]]))(hQ:QS v (x::q) H p)(hq:q.length≤100000000):
 ShQ om' 57 [.ptr p 0 0] H fun o G=>o=.ret (.tup [.int .i64 (x:Int),.bool true])∧∃v' fl',G[p]?=some (.live 1 fl' true [[v']])∧QS v' q G p∧a33 [p] H G∧scB v'=scB v∧(auH H=true→auH G=true):=by
 have hpl:=asR hp
 rcases hQ with⟨_,h⟩|⟨b,w',rows,r,rfl,hrb,hbp,hd,hl⟩
 ·cases h
 have hr0:rows[r]?=some [.int .i64 (x:Nat)]:=by
  have:=congrArg (·[0]?) hd
  simpa [nvv]using this
 have hd2:rows.drop (r+1)=q.map nvv:=by
  have:=congrArg (·.drop 1) hd
  simpa [List.drop_drop]using this
 simp only[a1U]at hl hp
 have h1:decide (((q.length+1:Nat):Int)=0)=false:=decide_eq_false (by omega)
 have h2:((((q.length+1:Nat):Int))==0)=false:=by simp;omega
 have h3:((0:Int)<((q.length+1:Nat):Int))=True:=eq_true (by omega)
 have h4:((1:Int)≤((q.length+1:Nat):Int))=True:=eq_true (by omega)
 refine bj4 rfl Tryd.func57 rfl rfl ?_
 simp only[Tryd.f57]
 refine hid (fun KK iN hK=>?_)
 (have hb:=trivial;with_reducible repeat' (first|simp only[hb,Va.down,seval,bp4.down,hp,hrb,hr0,h1,h2,h3,h4,bsJ]|refine fsp ?_ ?_<;>intro hb|refine fd ?_|fail))
 refine hK _ ?_
 rw[bd2]
 refine a2R (vs:=[.int .i64 (x:Int),.bool true]) (by simp only[Va.down,seval,bp4.down]) ⟨rfl,.slr 1 b (r+1) q.length,false,aLO hpl,.inr ⟨b,w',rows,r+1,rfl,?_,hbp,hd2,by omega⟩,⟨by simp,fun b' _ hn=>ao5 (fun e=>hn (by simp[e]))⟩,rfl,fun hqq=>aMF hqq p rfl⟩
 rw[ao5 (fun e=>hbp e.symm)];exact hrb
theorem bm0{H:abY}{p:Nat}{fl w:Bool}{v:AV}{q:List Nat}(x:Nat)(hp:H[p]?=some (.live 1 fl w [[v]]))(hQ:QS v q H p)(hq:q.length≤100000000):
 ShQ om' 60 [.ptr p 0 0,.int .i64 (x:Int)] H fun o G=>o=.ret (.tup [])∧∃v' fl',G[p]?=some (.live 1 fl' true [[v']])∧QS v' (x::q) G p∧a33 [p] H G∧(auH H=true→auH G=true)∧∀b∈scB v',H.length≤b:=by
 have hpl:=asR hp
 have hA:=as2 hp
 have hS:=aXZ hpl
 have keep:∀c l,a33 [p] H (H.set p c++l):=fun c l=>⟨by simp,fun b hb1 hn=>by rw[aI5 (by simpa using hb1),ao5 (fun e=>hn (by simp[e]))]⟩
 have hg:∀c l,(H.set p c++l)[p]?=some c:=fun c l=>by rw[aI5 (by simpa using hpl),aLO hpl]
 refine bj4 rfl Tryd.func60 rfl rfl ?_
 simp only[Tryd.f60]
 refine hid (fun KK iN hK=>?_)
 rcases hQ with⟨rfl,rfl⟩|⟨b,w',rows,r,rfl,hrb,hbp,hd,hl⟩
 ·(have hb:=trivial;with_reducible repeat' (first|simp only[hb,Va.down,seval,bhA.down,hp,hA,hS]|refine fsp ?_ ?_<;>intro hb|refine fd ?_|fail))
  refine hK _ ?_
  rw[aZN]
  refine a2R (vs:=[]) (by simp only[Va.down,seval,bhA.down]) ⟨rfl,_,_,hg _ _,.inr ⟨H.length,false,[nvv x],0,rfl,?_,by omega,rfl,rfl⟩,keep _ _,fun hqq=>aH8 (aMF hqq p rfl) rfl,fun b hb1=>by simp[scB]at hb1;omega⟩
  rw[aXY];rfl
 ·have hB:=as2 hrb
  cases q with
  |nil=>
   simp only[aY8]at hl hp hA
   have hrl:(r≤rows.length)=True:=eq_true (by omega)
   (have hb:=trivial;with_reducible repeat' (first|simp only[hb,Va.down,seval,bhA.down,hp,hA,hS,hrb,hB,hrl]|refine fsp ?_ ?_<;>intro hb|refine fd ?_|fail))
   refine hK _ ?_
   rw[aZN]
   refine a2R (vs:=[]) (by simp only[Va.down,seval,bhA.down]) ⟨rfl,_,_,hg _ _,.inr ⟨H.length,false,[nvv x],0,rfl,?_,by omega,rfl,rfl⟩,keep _ _,fun hqq=>aH8 (aMF hqq p rfl) rfl,fun b hb1=>by simp[scB]at hb1;omega⟩
   rw[aXY];rfl
  |cons y q=>
   have hq2:(1+(q.length+1)≤549755813888)=True:=eq_true (by simp at hq;omega)
   have hrl:(r+(q.length+1)≤rows.length)=True:=eq_true (by simp at hl;omega)
   have htk:aWR q.length (List.map nvv q)=List.map nvv q:=a1V (by simp)
   (have hb:=trivial;with_reducible repeat' (first|simp only[hb,Va.down,seval,bhA.down,hp,hA,hS,hrb,hB,hd,hq2,hrl,htk,aXY,aTF,a0L,aM2]|refine fsp ?_ ?_<;>intro hb|refine fd ?_|fail))
   refine hK _ ?_
   rw[aZN]
   refine a2R (vs:=[]) (by simp only[Va.down,seval,bhA.down]) ⟨rfl,_,_,hg _ _,.inr ⟨H.length+1,false,(x::y::q).map nvv,0,by simp;omega,?_,by omega,rfl,by simp⟩,keep _ _,fun hqq=>aH8 (aMF hqq p rfl) rfl,fun b hb1=>by simp[scB]at hb1;omega⟩
   rw[aTF];rfl
theorem bxA(w:avQ)(d r:Int)(wf:Bool):om'.call (.fn 58) [.ptr 0 0 0,.int .i64 r] [.live 4 false wf [[.int .i64 w.rooms,.int .i64 w.need,slv 9 true w.nn (w.parts.map ao7.cells),.int .i64 d]]]=some (.ret (.func (.func 71) [] [.ptr 1 0 0,.ptr 2 0 0]),[.live 4 false wf [[.int .i64 w.rooms,.int .i64 w.need,slv 9 true w.nn (w.parts.map ao7.cells),.int .i64 d]],.live 1 false false [[.ptr 0 0 0]],.live 1 true false [[.int .i64 r]]]):=by
 (refine ce Tryd.func58 ?_;simp only[Tryd.f58];(have hb:=trivial;with_reducible repeat' (first|simp only[hb,Vc.down,seval]|refine fsp ?_ ?_<;>intro hb|refine fd ?_|fail)))
theorem bxJ{w:avQ}{N:Nat}(hw:WOk w N){d r:Int}{y:AV}{lb rb kb:Nat}(Inv:Nat→abY→Prop)
 (hL:∀i h,Inv i h→∃w1,h[lb]?=some (.live 1 false w1 [[.ptr kb 0 0]])) (hK:∀i h,Inv i h→∃w2,h[kb]?=some (.live 4 false w2 [[.int .i64 w.rooms,.int .i64 w.need,slv 9 true w.nn (w.parts.map ao7.cells),.int .i64 d]])) (hR:∀i h,Inv i h→∃w3,h[rb]?=some (.live 1 true w3 [[.int .i64 r]]))
 (hA:∀i h fl wf (rows:List (List AV)),Inv i h→Inv i (h++[.live 9 fl wf rows]))
 (hS:∀(i:Nat) (p:ao7) (u:Int) h,w.parts[i]?=some p→((p.one=r∧u=p.other)∨(p.one≠r∧p.other=r∧u=p.one))→Inv i h→∃es,cl om' h (some y) (some [.int .i64 i,.int .i64 u])=some (.ret (.bool true),es)∧Inv (i+1) (aCD h es))
 (hN:∀(i:Nat) (p:ao7) h,w.parts[i]?=some p→p.one≠r→p.other≠r→Inv i h→Inv (i+1) h)
 {h0:abY} (h0I:Inv 0 h0):ShQ om' 71 [y,.ptr lb 0 0,.ptr rb 0 0] h0 fun o h'=>o=.ret (.tup [])∧Inv w.parts.length h':=by
 obtain⟨w1,hl⟩:=hL _ _ h0I
 obtain⟨w2,hk0⟩:=hK _ _ h0I
 have hlen:=hw.len
 refine bj4 rfl Tryd.func71 rfl rfl ?_
 simp only[Tryd.f71]
 (have hb:=trivial;with_reducible repeat' (first|simp only[hb,Vc.down,seval,bg5.down,hl,hk0,aM2]|refine fsp ?_ ?_<;>intro hb|refine fd ?_|fail))
 refine aZG (lst 41 w.parts (fun i (_:Unit) t h=>t 0=y∧t 1=.ptr lb 0 0∧t 2=.ptr rb 0 0∧t 11=slv 9 true w.nn (w.parts.map ao7.cells)∧t 12=.int .i64 (w.parts.length:Nat)∧t 13=.int .i64 (i:Int)∧Inv i h) (fun _ _=>()) (fun _ e t h=>e=.exit 0∧Inv w.parts.length h) ?_ ?_ () _ _ ?_) (fun e t h hk=>?_)
 ·rintro _ t h Q' kQ ⟨g0,g1,g2,g11,g12,g13,hI⟩
  (have hb:=trivial;with_reducible repeat' (first|simp only[hb,Vc.down,seval,bg5.down,g12,g13,Int.lt_irrefl,decide_false]|refine fsp ?_ ?_<;>intro hb|refine fd ?_|fail))
  exact kQ _ _ _ ⟨rfl,hI⟩
 ·rintro p rest i _ t h J Q' kJ kQ hx hi ⟨g0,g1,g2,g11,g12,g13,hI⟩
  have hdd:decide ((i:Int)<(w.parts.length:Int))=true:=decide_eq_true (by omega)
  have hww:=aVK hi (by unfold maxLen;omega)
  have hpo:=hw.part p (aZA hx)
  obtain⟨w3,hr⟩:=hR _ _ hI
  have hr1:=as2 hr
  have hv1:=hA _ _ true true [p.cells] hI
  have c1:decide ((0:Int)≤p.other)=true:=decide_eq_true hpo.2.1.1
  have c2:decide ((0:Int)≤p.one)=true:=decide_eq_true hpo.1.1
  have c3:decide ((0:Int)≤ -1)=false:=rfl
  by_cases e1:p.one=r
  ·have q1:(r==p.one)=true:=by simp[e1]
   obtain⟨es,hes,hv2⟩:=hS i p p.other _ hx (.inl ⟨e1,rfl⟩) hv1
   simp only[ao7.cells]at hes hv2
   (have hb:=trivial;with_reducible repeat' (first|simp only[hb,Vc.down,seval,bg5.down,g0,g1,g2,g11,g12,g13,hdd,hww,hx,hr,hr1,q1,c1,hes,ao7.cells]|refine fsp ?_ ?_<;>intro hb|refine fd ?_|fail))
   exact aC8 (kJ _ _ () ⟨by simp[up,g0],by simp[up,g1],by simp[up,g2],by simp[up,g11],by simp[up,g12],by simp[up],hv2⟩ rfl)
  ·have q1:(r==p.one)=false:=by simp;exact fun e=>e1 e.symm
   by_cases e2:p.other=r
   ·have q2:(r==p.other)=true:=by simp[e2]
    obtain⟨es,hes,hv2⟩:=hS i p p.one _ hx (.inr ⟨e1,e2,rfl⟩) hv1
    simp only[ao7.cells]at hes hv2
    (have hb:=trivial;with_reducible repeat' (first|simp only[hb,Vc.down,seval,bg5.down,g0,g1,g2,g11,g12,g13,hdd,hww,hx,hr,hr1,q1,q2,c2,hes,ao7.cells]|refine fsp ?_ ?_<;>intro hb|refine fd ?_|fail))
    exact aC8 (kJ _ _ () ⟨by simp[up,g0],by simp[up,g1],by simp[up,g2],by simp[up,g11],by simp[up,g12],by simp[up],hv2⟩ rfl)
   ·have q2:(r==p.other)=false:=by simp;exact fun e=>e2 e.symm
    have hv2:=hN i p _ hx e1 e2 hv1
    simp only[ao7.cells]at hv2
    (have hb:=trivial;with_reducible repeat' (first|simp only[hb,Vc.down,seval,bg5.down,g0,g1,g2,g11,g12,g13,hdd,hww,hx,hr,hr1,q1,q2,c3,ao7.cells]|refine fsp ?_ ?_<;>intro hb|refine fd ?_|fail))
    exact aC8 (kJ _ _ () ⟨by simp[up,g0],by simp[up,g1],by simp[up,g2],by simp[up,g11],by simp[up,g12],by simp[up],hv2⟩ rfl)
 ·exact⟨by simp[up,ent],by simp[up,ent],by simp[up,ent],by simp[up],by simp[up],by simp[up],h0I⟩
 obtain⟨rfl,hI⟩:=hk
 (have hb:=trivial;with_reducible repeat' (first|simp only[hb,Vc.down,seval,bg5.down]|refine fsp ?_ ?_<;>intro hb|refine fd ?_|fail))
 exact hI
theorem QS.cln{v:AV}{q:List Nat}{H:abY}{p:Nat}(h:QS v q H p):QS v q (clH H) p:=by
 rcases h with h|⟨b,w,rows,r,h1,h2,h3,h4,h5⟩
 ·exact .inl h
 ·exact .inr ⟨b,false,rows,r,h1,aVJ h2,h3,h4,h5⟩
theorem QS.lt{v:AV}{q:List Nat}{H:abY}{p:Nat}(h:QS v q H p):∀b∈scB v,b<H.length∧∃w rows,H[b]?=some (.live 1 true w rows):=by
 rcases h with⟨rfl,_⟩|⟨b,w,rows,r,rfl,h2,_⟩
 ·intro b hb1;simp[scB]at hb1
 ·intro b' hb1;simp[scB]at hb1;subst hb1;exact⟨asR h2,w,rows,h2⟩
theorem bqK{h:abY}(hq:auH h=true){p:Nat}{fl w:Bool}{v:AV}{q:List Nat}(x:Nat)(hp:h[p]?=some (.live 1 fl w [[v]]))(hQ:QS v q h p)(hl:q.length≤100000000):
 ∃es M,cl om' h (some (.func (.func 56) [] [])) (some [.ptr p 0 0,.int .i64 (x:Int)])=some (.ret (.tup []),es)∧aCD h es=M∧h.length≤M.length∧auH M=true∧(∃v' fl',M[p]?=some (.live 1 fl' true [[v']])∧QS v' (q++[x]) M p∧∀b∈scB v',h.length≤b)∧(∀b c,b∉p::scB v→h[b]?=some c→M[b]?=some c)∧∀b∈scB v,M[b]?=some .dead:=by
 have hX:∀G:abY,(∃f row,G[p]?=some (.live 1 f true row))→(∀b∈scB v,G[b]?=some .dead)→∀b∈p::scB v,b<h.length∧∀c0 c,h[b]?=some c0→G[b]?=some c→c0.isLive=true∧c0.quiet c=false:=fun G g1 g2 b hb1=>by
  rcases aET.1 hb1 with rfl|hb1
  ·obtain⟨f,row,g1⟩:=g1
   refine⟨asR hp,fun c0 c k1 k2=>?_⟩
   rw[hp]at k1;rw[g1]at k2;cases k1;cases k2;exact⟨rfl,rfl⟩
  ·obtain⟨h1,w',rows,h2⟩:=hQ.lt b hb1
   refine⟨h1,fun c0 c k1 k2=>?_⟩
   rw[h2]at k1;rw[g2 b hb1]at k2;cases k1;cases k2;exact⟨rfl,rfl⟩
 obtain⟨o,G,es,e1,e2,rfl,v',fl',k1,k2,K,k4,k5,k6⟩:=a6R rfl rfl (bkC x (aVJ hp) hQ.cln hl) (fun o G hQ=>by
  obtain⟨_,v',fl',k1,k2,K,k4,_⟩:=hQ
  exact(aWX hq K (hX G ⟨_,_,k1⟩ k4)).1)
 have X:=hX G ⟨_,_,k1⟩ k4
 obtain⟨_,m1,m2,m3,m4⟩:=aWX hq K X
 rw[aIB]at k6
 have hle:h.length≤G.length:=by have:=K.len;rwa[aIB]at this
 refine⟨es,_,e1,e2,by rw[m1];exact hle,a2O hq K X (k5 (a0Q hq)),⟨v',fl',m4 p (aL7 ..) _ k1,?_,k6⟩,fun b c hn hc=>by rw[m3 b (asR hc) hn];exact hc,fun b hb=>m4 b (aZI _ hb) _ (k4 b hb)⟩
 rcases k2 with h1|⟨b,w',rows,r,h1,h2,h3,h4,h5⟩
 ·exact .inl h1
 ·exact .inr ⟨b,w',rows,r,h1,by rw[m2 b (k6 b (by rw[h1];simp[scB]))];exact h2,h3,h4,h5⟩
theorem be9{h:abY}{p:Nat}{fl w:Bool}{v:AV}(hp:h[p]?=some (.live 1 fl w [[v]]))(G:abY)(g1:∃f row,G[p]?=some (.live 1 f true row)):∀b∈[p],b<h.length∧∀c0 c,h[b]?=some c0→G[b]?=some c→c0.isLive=true∧c0.quiet c=false:=fun b hb1=>by
 simp at hb1;subst hb1
 obtain⟨f,row,g1⟩:=g1
 refine⟨asR hp,fun c0 c k1 k2=>?_⟩
 rw[hp]at k1;rw[g1]at k2;cases k1;cases k2;exact⟨rfl,rfl⟩
theorem buX{h:abY}(hq:auH h=true){p:Nat}{fl w:Bool}{v:AV}{q:List Nat}(x:Nat)(hp:h[p]?=some (.live 1 fl w [[v]]))(hQ:QS v q h p)(hl:q.length≤100000000):
 ∃es M,cl om' h (some (.func (.func 60) [] [])) (some [.ptr p 0 0,.int .i64 (x:Int)])=some (.ret (.tup []),es)∧aCD h es=M∧h.length≤M.length∧auH M=true∧(∃v' fl',M[p]?=some (.live 1 fl' true [[v']])∧QS v' (x::q) M p∧∀b∈scB v',h.length≤b)∧∀b c,b≠p→h[b]?=some c→M[b]?=some c:=by
 obtain⟨o,G,es,e1,e2,rfl,v',fl',k1,k2,K,k5,k6⟩:=a6R rfl rfl (bm0 x (aVJ hp) hQ.cln hl) (fun o G hQ=>by
  obtain⟨_,v',fl',k1,k2,K,_⟩:=hQ
  exact(aWX hq K (be9 hp G ⟨_,_,k1⟩)).1)
 have X:=be9 hp G ⟨_,_,k1⟩
 obtain⟨_,m1,m2,m3,m4⟩:=aWX hq K X
 rw[aIB]at k6
 have hle:h.length≤G.length:=by have:=K.len;rwa[aIB]at this
 refine⟨es,_,e1,e2,by rw[m1];exact hle,a2O hq K X (k5 (a0Q hq)),⟨v',fl',m4 p (aL7 ..) _ k1,?_,k6⟩,fun b c hn hc=>by rw[m3 b (asR hc) (by simpa using hn)];exact hc⟩
 rcases k2 with h1|⟨b,w',rows,r,h1,h2,h3,h4,h5⟩
 ·exact .inl h1
 ·exact .inr ⟨b,w',rows,r,h1,by rw[m2 b (k6 b (by rw[h1];simp[scB]))];exact h2,h3,h4,h5⟩
theorem buV{h:abY}(hq:auH h=true){p:Nat}{fl w:Bool}{v:AV}(hp:h[p]?=some (.live 1 fl w [[v]]))(hQ:QS v [] h p):
 cl om' h (some (.func (.func 57) [] [])) (some [.ptr p 0 0])=some (.ret (.tup [.int .i64 0,.bool false]),[]):=
 bo6 rfl rfl (bm1 (aVJ hp) hQ.cln) hq
theorem bqD{h:abY}(hq:auH h=true){p:Nat}{fl w:Bool}{v:AV}{x:Nat}{q:List Nat}(hp:h[p]?=some (.live 1 fl w [[v]]))(hQ:QS v (x::q) h p)(hl:q.length≤100000000):
 ∃es M,cl om' h (some (.func (.func 57) [] [])) (some [.ptr p 0 0])=some (.ret (.tup [.int .i64 (x:Int),.bool true]),es)∧aCD h es=M∧h.length≤M.length∧auH M=true∧(∃v' fl',M[p]?=some (.live 1 fl' true [[v']])∧QS v' q M p∧scB v'=scB v)∧∀b c,b≠p→h[b]?=some c→M[b]?=some c:=by
 obtain⟨o,G,es,e1,e2,rfl,v',fl',k1,k2,K,k4,k5⟩:=a6R rfl rfl (bpK (aVJ hp) hQ.cln hl) (fun o G hQ=>by
  obtain⟨_,v',fl',k1,k2,K,_⟩:=hQ
  exact(aWX hq K (be9 hp G ⟨_,_,k1⟩)).1)
 have X:=be9 hp G ⟨_,_,k1⟩
 obtain⟨_,m1,m2,m3,m4⟩:=aWX hq K X
 have hle:h.length≤G.length:=by have:=K.len;rwa[aIB]at this
 have same:∀b c,b≠p→h[b]?=some c→(mrg h G)[b]?=some c:=fun b c hn hc=>by rw[m3 b (asR hc) (by simpa using hn)];exact hc
 refine⟨es,_,e1,e2,by rw[m1];exact hle,a2O hq K X (k5 (a0Q hq)),⟨v',fl',m4 p (aL7 ..) _ k1,?_,k4⟩,same⟩
 rcases k2 with h1|⟨b,w',rows,r,h1,h2,h3,h4,h5⟩
 ·exact .inl h1
 ·have hbv:b∈scB v:=by rw[←k4,h1];simp[scB]
  obtain⟨_,w0,rows0,hh⟩:=hQ.lt b hbv
  have hr:(hf (mrg h G) b).bind aZ0=(hf G b).bind aZ0:=bhE hq K X b
  have hM:=same b _ h3 hh
  have e3:rows0=rows:=by
   have a1:((mrg h G)[b]?).bind aZ0=(G[b]?).bind aZ0:=hr
   rw[hM,h2]at a1
   simp[aZ0]at a1;exact a1
  subst e3
  exact .inr ⟨b,w0,rows0,r,h1,hM,h3,h4,h5⟩
theorem boN{vs:List AV}{b:Nat}{h:abY}{ps:List Nat}{asg body:Code}{tm:List AV}{st:LSt}{Q:Out→abY→Prop}(hb:h[b]?=some (.lp ps asg body tm st))(hl:ps.length=vs.length)
 (he:RnE b Q (bkN om' Tryd.prog b body (evM om' Tryd.prog 5000 asg [] ⟨aZD tm ps vs,h⟩))):RnQ om' (vs++[.yl b]) h Q:=RnQ.start (pr:=pr) hb hl he
theorem bnE{O:Orc}{H:abY}{b:Nat}{vs:List AV}{Q:Out→abY→Prop}(K:RnQ O (vs++[.yl b]) (clH H) Q)(ok:∀o G,Q o G→beS H G):
 ∃o G es,cl O H (some (.yl b)) (some vs)=some (o,es)∧aCD H es=mrg H G∧Q o G:=by
 obtain⟨o,G,hc,hq⟩:=K
 obtain⟨es,e1,e2⟩:=a3P H G [] (ok o G hq)
 refine⟨o,G,es,?_,by simpa using e2,hq⟩
 rw[bu7,hc,baO]
 have e1':aH6 0 H G=some es:=e1
 rw[e1'];rfl
def aW3:Nat:=1048576
def DiH(LK:CB)(e:Bool)(ps:List AV)(N:Nat)(h:abY)(dd q K:List Nat):Prop:=∃f v fl w,
 h[0]?=some LK∧h[1]?=some (.live 24 true false [ps])∧h[2]?=some (.live 1 true f (dd.map nvv))∧h[3]?=some (.live 1 false e [[.slr 1 2 0 N]])∧h[5]?=some (.live 1 false e [[.ptr 4 0 0]])∧h[4]?=some (.live 1 fl w [[v]])∧QS v q h 4∧(∀b∈scB v,6≤b∧b∉K)∧auH h=true
theorem DiH.app{LK:CB}{e:Bool}{ps:List AV}{N:Nat}{h:abY}{dd q K:List Nat}(D:DiH LK e ps N h dd q K){L:abY}(hL:auH L=true):DiH LK e ps N (h++L) dd q K:=by
 obtain⟨f,v,fl,w',i0,i1,i2,i3,i5,i4,iQ,iB,iq⟩:=D
 refine⟨f,v,fl,w',as2 i0 L,as2 i1 L,as2 i2 L,as2 i3 L,as2 i5 L,as2 i4 L,?_,iB,aH8 iq hL⟩
 rcases iQ with h|⟨b,w',rows,r,h1,h2,h3⟩
 ·exact .inl h
 ·exact .inr ⟨b,w',rows,r,h1,as2 h2 _,h3⟩
def Okw(H G:abY):Prop:=H.length≤G.length∧∀(b:Nat) (c0 c:CB),H[b]?=some c0→G[b]?=some c→(c0.quiet c=true∧c0.clean=c.clean)∨(c0.isLive=true∧((∃st fl rows,c=.live st fl true rows)∨c=.dead))
theorem a6M{c0 c:CB}(h:c0.isLive=true)(hc:(∃st fl rows,c=.live st fl true rows)∨c=.dead):c0.quiet c=false:=by
 rcases hc with⟨_,_,_,rfl⟩|rfl<;>cases c0<;>first|rfl|(simp[CB.isLive]at h;done)|(simp[CB.quiet,CB.same];done)
theorem Okw.sh{H G:abY}(k:Okw H G):beS H G:=⟨k.1,fun b c0 c h0 h1=>(k.2 b c0 c h0 h1).imp (fun h=>h.1) (fun h=>h.1)⟩
theorem beR{c0 c1:CB}(h:c0.clean=c1.clean)(h1:c1.isLive=true):c0.isLive=true:=by cases c0<;>cases c1<;>first|rfl|(simp[CB.clean]at h;done)|cases h1
theorem a7L(c:CB):c.clean.clean=c.clean:=by cases c<;>rfl
theorem Okw.app{H G:abY}(k:Okw H G)(l:abY):Okw H (G++l):=⟨by simp;have:=k.1;omega,fun b c0 c h0 h1=>k.2 b c0 c h0 (by
 have:=asR h0
 have:=k.1
 rw[aI5 (by omega)]at h1;exact h1)⟩
theorem Okw.cl{H:abY}(h:auH H=true):Okw H (clH H):=⟨by rw[aIB];exact aTT _,fun b c0 c h0 h1=>by
 rw[aVJ h0]at h1;cases h1
 exact .inl ⟨aTZ h h0,(a7L c0).symm⟩⟩
theorem Okw.keep{H G:abY}{X:List Nat}(h:auH H=true)(K:a33 X (clH H) G)(hX:∀b∈X,∃c0 c,H[b]?=some c0∧G[b]?=some c∧c0.isLive=true∧((∃st fl rows,c=.live st fl true rows)∨c=.dead)):Okw H G:=⟨by have:=K.len;rwa[aIB]at this,fun b c0 c h0 h1=>by
 by_cases hb:b∈X
 ·obtain⟨d0,d,e0,e1,e2⟩:=hX b hb
  rw[h0]at e0;rw[h1]at e1;cases e0;cases e1
  exact .inr e2
 ·rw[K.same b (by rw[aIB];exact asR h0) hb,aVJ h0]at h1;cases h1
  exact .inl ⟨aTZ h h0,(a7L c0).symm⟩⟩
theorem Okw.mrg_clean{H G:abY}(k:Okw H G){b:Nat}{c:CB}(hc:G[b]?=some c):∃c',(mrg H G)[b]?=some c'∧c'.clean=c.clean:=by
 by_cases hb:b<H.length
 ·have h0:H[b]?=some H[b]:=aND hb
  rcases k.2 b _ c h0 hc with⟨h1,h2⟩|⟨h1,h2⟩
  ·exact⟨_,a0V h0 hc h1,h2⟩
  ·refine⟨_,a3T h0 hc (a6M h1 h2),?_⟩
   rcases h2 with⟨_,_,_,rfl⟩|rfl<;>rfl
 ·exact⟨c,by rw[a6K k.1 (by omega)];exact hc,rfl⟩
theorem Okw.trans{H h' G:abY}(k:Okw H h')(k':Okw h' G):Okw H (mrg h' G):=by
 refine⟨by rw[a3S k'.1];exact Nat.le_trans k.1 k'.1,fun b c0 c h0 h1=>?_⟩
 have hb:=asR h0
 have e1:h'[b]?=some (h'[b]'(by have:=k.1;omega)):=aND _
 have e2:G[b]?=some (G[b]'(by have:=k.1;have:=k'.1;omega)):=aND _
 generalize h'[b]'(by have:=k.1;omega)=c1 at *
 generalize G[b]'(by have:=k.1;have:=k'.1;omega)=c2 at *
 rcases k'.2 b _ _ e1 e2 with⟨g1,g2⟩|⟨g1,g2⟩
 ·rw[a0V e1 e2 g1]at h1;cases h1
  exact k.2 b _ _ h0 e1
 ·rw[a3T e1 e2 (a6M g1 g2)]at h1
  have:c2.mark=c2:=by rcases g2 with⟨_,_,_,rfl⟩|rfl<;>rfl
  rw[this]at h1;cases h1
  refine .inr ⟨?_,g2⟩
  rcases k.2 b _ _ h0 e1 with⟨_,h⟩|⟨h,_⟩
  ·exact beR h g1
  ·exact h
theorem Okw.old{H G:abY}{b:Nat}{c0 c:CB}(h0:H[b]?=some c0)(h1:G[b]?=some c)(hq:c0.quiet c=true):(mrg H G)[b]?=some c0:=a0V h0 h1 hq
theorem blP{c:CB}{st:Nat}{fl w:Bool}{rows:List (List AV)}(h:c.clean=(CB.live st fl w rows).clean):∃w',c=.live st fl w' rows:=by
 cases c<;>simp[CB.clean]at h
 obtain⟨rfl,rfl,rfl⟩:=h
 exact⟨_,rfl⟩
theorem Okw.live{H G:abY}(k:Okw H G){b st:Nat}{fl w:Bool}{rows:List (List AV)}(hc:G[b]?=some (.live st fl w rows)):∃w',(mrg H G)[b]?=some (.live st fl w' rows):=by
 obtain⟨c',h1,h2⟩:=k.mrg_clean hc
 obtain⟨w',rfl⟩:=blP h2
 exact⟨w',h1⟩
theorem QS.okw{H G:abY}(k:Okw H G){v:AV}{q:List Nat}{p:Nat}(h:QS v q G p):QS v q (mrg H G) p:=by
 rcases h with h|⟨b,w,rows,r,h1,h2,h3,h4,h5⟩
 ·exact .inl h
 ·obtain⟨w',h6⟩:=k.live h2
  exact .inr ⟨b,w',rows,r,h1,h6,h3,h4,h5⟩
theorem Okw.quiet{H G:abY}(k:Okw H G)(h:auH H=true)(h':auH G=true):auH (mrg H G)=true:=by
 refine a3O fun c hc=>?_
 obtain⟨b,hb⟩:=List.getElem?_of_mem hc
 have hbl:=asR hb
 rw[a3S k.1]at hbl
 have e2:G[b]?=some G[b]:=aND hbl
 generalize G[b]=c2 at *
 by_cases hl:b<H.length
 ·have e1:H[b]?=some H[b]:=aND hl
  generalize H[b]=c1 at *
  rcases k.2 b _ _ e1 e2 with⟨g1,g2⟩|⟨g1,g2⟩
  ·rw[a0V e1 e2 g1]at hb;cases hb;exact aTZ h e1
  ·rw[a3T e1 e2 (a6M g1 g2)]at hb;cases hb;exact a7S (aTZ h' e2)
 ·rw[a6K k.1 (by omega),e2]at hb;cases hb;exact aTZ h' e2
theorem blE{LK:CB}{e:Bool}{ps:List AV}{N:Nat}{h':abY}{dd q K:List Nat}{f:Bool}{v:AV}{fl w:Bool}(i0:h'[0]?=some LK)(i1:h'[1]?=some (.live 24 true false [ps]))(i2:h'[2]?=some (.live 1 true f (dd.map nvv)))(i3:h'[3]?=some (.live 1 false e [[.slr 1 2 0 N]]))(i5:h'[5]?=some (.live 1 false e [[.ptr 4 0 0]]))(i4:h'[4]?=some (.live 1 fl w [[v]]))(iQ:QS v q h' 4)(iB:∀b∈scB v,6≤b∧b∉K)(iq:auH h'=true)
 {B:Nat} {LP LB:CB} (hB:h'[B]?=some LP) (hBK:B∈K) (hK:∀b∈K,6≤b∧b<h'.length) (hLPc:LP.clean=LP) (hLPq:LP.quiet LP=true) {M:abY} {Y dd2 q2:List Nat} {v2:AV} {fl2:Bool} (m1:h'.length≤M.length) (m2:auH M=true) (m3:M[4]?=some (.live 1 fl2 true [[v2]])) (m4:QS v2 q2 M 4) (m5:∀b∈scB v2,h'.length≤b)
 (m6:∀b c,b∉Y→(((clH h').set B LB).set 2 (.live 1 true true (dd2.map nvv)))[b]?=some c→M[b]?=some c) (hY:4∈Y) (hY':∀b∈Y,b=4∨(b∈scB v∧M[b]?=some .dead)):
 Okw h' (M.set B LP)∧DiH LK e ps N (mrg h' (M.set B LP)) dd2 q2 K∧(∀b∈K,(mrg h' (M.set B LP))[b]?=h'[b]?)∧h'.length≤(mrg h' (M.set B LP)).length:=by
 have hBl:=asR hB
 have hB6:=(hK B hBK).1
 have h4l:=asR i4
 have hY6:∀b∈Y,b=4∨(6≤b∧b∉K):=fun b hb1=>(hY' b hb1).imp id (fun h=>iB b h.1)
 have h2Y:2∉Y:=fun h=>by rcases hY6 2 h with h|h<;>omega
 have hKY:∀b∈K,b∉2::Y:=fun b hb1 h=>by
  have:=(hK b hb1).1
  rcases aET.1 h with h|h
  ·omega
  ·rcases hY6 b h with h|h
   ·omega
   ·exact h.2 hb1
 have hg2:M[2]?=some (.live 1 true true (dd2.map nvv)):=m6 2 _ h2Y (aLO (by simp[aIB];omega))
 have hK2:a33 (2::Y) (clH h') (M.set B LP):=⟨by simpa [aIB]using m1,fun b hb1 hn=>by
  rw[aIB]at hb1
  obtain⟨c,hc⟩:∃c,h'[b]?=some c:=⟨_,aND hb1⟩
  by_cases e:b=B
  ·subst e
   rw[aLO (by omega),aVJ hB,hLPc]
  ·rw[ao5 (fun h=>e h.symm)]
   have:=m6 b c.clean (fun h=>hn (aZI _ h)) (by
    rw[ao5 (fun h=>hn (by rw[←h];exact aL7 ..)),ao5 (fun h=>e h.symm)];exact aVJ hc)
   rw[this,aVJ hc]⟩
 have hne:∀b,b≠B→(M.set B LP)[b]?=M[b]?:=fun b h=>ao5 (fun e=>h e.symm)
 have X:∀b∈2::Y,∃c0 c,h'[b]?=some c0∧(M.set B LP)[b]?=some c∧c0.isLive=true∧((∃st fl rows,c=.live st fl true rows)∨c=.dead):=fun b hb1=>by
  rcases aET.1 hb1 with rfl|hb1
  ·exact⟨_,_,i2,by rw[hne 2 (by omega)];exact hg2,rfl,.inl ⟨_,_,_,rfl⟩⟩
  ·rcases hY' b hb1 with rfl|⟨h1,h2⟩
   ·exact⟨_,_,i4,by rw[hne 4 (by omega)];exact m3,rfl,.inl ⟨_,_,_,rfl⟩⟩
   ·obtain⟨h3,w',rows,h5⟩:=iQ.lt b h1
    exact⟨_,_,h5,by rw[hne b (fun e=>(iB b h1).2 (e▸hBK))];exact h2,rfl,.inr rfl⟩
 have ok:=Okw.keep iq hK2 X
 have X':∀b∈2::Y,b<h'.length∧∀c0 c,h'[b]?=some c0→(M.set B LP)[b]?=some c→c0.isLive=true∧c0.quiet c=false:=fun b hb1=>by
  obtain⟨c0,c,h1,h2,h3,h4⟩:=X b hb1
  refine⟨asR h1,fun d0 d k1 k2=>?_⟩
  rw[h1]at k1;rw[h2]at k2;cases k1;cases k2
  exact⟨h3,a6M h3 h4⟩
 obtain⟨g1,g2,g3,g4,g5⟩:=aWX iq hK2 X'
 have low:∀b,b<6→b≠2→b≠4→(mrg h' (M.set B LP))[b]?=h'[b]?:=fun b h1 h2 h3=>g4 b (by have:=asR i5;omega) fun h=>by
  rcases aET.1 h with h|h
  ·exact h2 h
  ·rcases hY6 b h with h|h<;>omega
 refine⟨ok,⟨true,v2,fl2,true,by rw[low 0 (by omega) (by omega) (by omega)];exact i0,by rw[low 1 (by omega) (by omega) (by omega)];exact i1,?_,by rw[low 3 (by omega) (by omega) (by omega)];exact i3,by rw[low 5 (by omega) (by omega) (by omega)];exact i5,?_,?_,fun b hb1=>?_,?_⟩,fun b hb1=>g4 b (hK b hb1).2 (hKY b hb1),by rw[g2];simpa using m1⟩
 ·exact g5 2 (aL7 ..) _ (by rw[hne 2 (by omega)];exact hg2)
 ·exact g5 4 (aZI _ hY) _ (by rw[hne 4 (by omega)];exact m3)
 ·rcases m4 with h|⟨b,w',rows,r,h1,h2,h3⟩
  ·exact .inl h
  ·have hb1:=m5 b (by rw[h1];simp[scB])
   exact .inr ⟨b,w',rows,r,h1,by rw[g3 b hb1,hne b (by omega)];exact h2,h3⟩
 ·have h1:=m5 b hb1
  exact⟨by omega,fun h=>by have:=(hK b h).2;omega⟩
 ·exact a2O iq hK2 X' (aMF m2 B (by rw[hLPc];exact hLPq))
theorem boH{h' l:abY}(hq:auH h'=true):Okw h' (clH h'++l)∧mrg h' (clH h'++l)=h'++l:=by
 have K:a33 [] (clH h') (clH h'++l):=a33.app _ _
 have X:∀b∈([]:List Nat),b<h'.length∧∀c0 c,h'[b]?=some c0→(clH h'++l)[b]?=some c→c0.isLive=true∧c0.quiet c=false:=fun b hb1=>by cases hb1
 obtain⟨g1,g2,g3,g4,_⟩:=aWX hq K X
 refine⟨(Okw.cl hq).app l,a1W fun b=>?_⟩
 by_cases hb1:b<h'.length
 ·rw[g4 b hb1 (by simp),aI5 hb1]
 ·rw[g3 b (by omega),aTC (by simp[aIB];omega),aTC (by omega),aIB]
theorem bp3:alG .nilp=[.nilp]:=Eq.trans rfl rfl
theorem bn5(n x:Nat):(azH n x).sum=n*x:=by
 induction n with
 |zero=>simp
 |succ n ih=>rw[a4V,List.sum_cons,ih,Nat.succ_mul];omega
theorem bcX:∀(l:List Nat) (s:Nat),(l.set s 0).sum≤l.sum
 | [],s=>by simp
 |a::l,0=>by simp
 |a::l,s+1=>by have:=bcX l s;simp;omega
theorem bmN{N s far:Nat}(h:N≤8):(aTG N s far).sum≤8*far:=by
 unfold aTG
 refine Nat.le_trans (bcX _ _) ?_
 rw[bn5]
 exact Nat.mul_le_mul_right _ h
def tgB(x:Int × Bool):Bool:=x.1==0&& !x.2
def tgt(L:List (Int × Bool)):List Bool:=L.map tgB
theorem bkZ{w:avQ}{L:List (Int × Bool)}{i:Nat}{p:ao7}{x:Int × Bool}(hp:w.parts[i]?=some p)(hx:L[i]?=some x):(edg w (tgt L))[i]?=some (p.one.toNat,p.other.toNat,if tgB x=true then 1 else 0):=by
 unfold edg tgt
 rw[List.getElem?_zipWith,aW1,hp,hx];rfl
theorem a6X{w:avQ}{d:Int}:edg w (tgt (aqM w d))=edg w (aJ0 w d):=by
 have e:∀(l:List ao7) (r:List Bool) (f:ao7→Bool→Net.Edge),List.zipWith f l (l.map (fun p=>aY9 p d)++r)=List.zipWith f l (l.map fun p=>aY9 p d):=by
  intro l;induction l with
  |nil=>intro r f;simp
  |cons a l ih=>intro r f;simp[ih]
 unfold edg tgt aqM aJ0
 rw[a4W,List.map_map]
 exact e _ _ _
theorem QS.app{v:AV}{q:List Nat}{H:abY}{p:Nat}(h:QS v q H p)(l:abY):QS v q (H++l) p:=by
 rcases h with h|⟨b,w,rows,r,h1,h2,h3⟩
 ·exact .inl h
 ·exact .inr ⟨b,w,rows,r,h1,as2 h2 l,h3⟩
theorem blR{h:abY}{b:Nat}{c:CB}(hc:h[b]?=some c):h.set b c=h:=by
 refine a1W fun i=>?_
 by_cases e:b=i
 ·subst e;rw[aLO (asR hc),hc]
 ·rw[ao5 e]
theorem bdR:∀(L:List (Int × Bool)) (i:Nat) (a:Int) (b:Bool),L[i]?=some (a,b)→aWR 2 (List.drop (i*2) (pcs L))=[.int .i64 a,.bool b]
 | [],i,a,b,h=>by simp at h
 |x::L,0,a,b,h=>by simp at h;subst h;simp[pcs]
 |x::L,i+1,a,b,h=>by
  have ih:=bdR L i a b (by simpa using h)
  rw[show(i+1)*2=(i*2)+1+1 by omega]
  simpa only[pcs,List.flatMap_cons,List.cons_append,aZM,List.drop_succ_cons]using ih
theorem a9L{w:avQ}{d:Int}{i:Nat}{p:ao7}(hx:w.parts[i]?=some p):(aqM w d)[i]?=some (aYL p d,p.opn):=by
 unfold aqM
 rw[aI5 (by rw[aM2];exact(aZX.1 hx).1),aW1,hx];rfl
def no3:Nat→Nat→Nat→Prop:=fun _ _ _=>False
theorem bdC{w:avQ}{N:Nat}(hw:WOk w N)(h12:w.parts.length≤12){d:Int}{s:Nat}(hs:s<N){ps:List AV}{L:List (Int × Bool)}(hL12:L.length=12)(hps:ps=pcs L){wf:Bool}:
 ClQ om' 36 [.ptr 0 0 0,.int .i64 (s:Int),.agg ps] [.live 4 false wf [[.int .i64 w.rooms,.int .i64 w.need,slv 9 true w.nn (w.parts.map ao7.cells),.int .i64 d]]] fun o h'=>
  ∃(f:Bool) (ds:List Nat),o=.ret (.slr 1 1 0 N)∧h'=[.live 4 false wf [[.int .i64 w.rooms,.int .i64 w.need,slv 9 true w.nn (w.parts.map ao7.cells),.int .i64 d]],.live 1 true f (ds.map nvv)]∧ds.length=N∧a2B (edg w (tgt L)) s N aW3 (fun v=>ds.getD v 0):=by
 have hr:=hw.rooms
 have n2:=hw.n2
 have n8:=hw.n8
 have hpl:ps.length=24:=by rw[hps,a0C];omega
 have hflat:ps.all AV.flat=true∧ps.all AV.isCell=true:=by
  subst hps
  have hform:∀x∈pcs L,(∃n,x=.int .i64 n)∨∃b,x=.bool b:=fun x hx=>by
   simp only[pcs,a5E,aET,aTD,or_false]at hx
   obtain⟨y,_,rfl|rfl⟩:=hx
   ·exact .inl ⟨_,rfl⟩
   ·exact .inr ⟨_,rfl⟩
  exact⟨aWQ.2 fun x hx=>by rcases hform x hx with⟨n,rfl⟩|⟨b,rfl⟩<;>rfl,aWQ.2 fun x hx=>by rcases hform x hx with⟨n,rfl⟩|⟨b,rfl⟩<;>rfl⟩
 obtain⟨hf1,hf2⟩:=hflat
 refine bsP rfl Tryd.func36 rfl rfl ?_
 simp only[Tryd.f36]
 simp only[hr]
 have h39:(N≤549755813888)=True:=eq_true (by omega)
 have m1:((N:Int)≤(N:Int))=True:=eq_true (Int.le_refl _)
 have m2:((N:Int)≤1099511627776)=True:=eq_true (by omega)
 (have hb:=trivial;with_reducible repeat' (first|simp only[hb,Vc.down,seval,a1T.down,hpl,hf1,hf2,h39,m1,m2,a5T]|refine fsp ?_ ?_<;>intro hb|refine fd ?_|fail))
 generalize hLK:(CB.live 4 false wf [[.int .i64 (N:Int),.int .i64 w.need,slv 9 true w.nn (w.parts.map ao7.cells),.int .i64 d]])=LK
 refine aZG (lst 85 (azH N ()) (fun i (_:Unit) t h=>t 0=.ptr 0 0 0∧t 1=.int .i64 (s:Int)∧t 5=.ptr 1 0 0∧t 7=.ptr 3 0 0∧t 23=.int .i64 (N:Int)∧t 24=.int .i64 (i:Int)∧∃f,h=[LK,.live 24 true false [ps],.live 1 true f ((azH i aW3++azH (N-i) 0).map nvv),.live 1 false true [[.slr 1 2 0 N]]]) (fun _ _=>())
  (fun _ e t h=>e=.exit 0∧t 0=.ptr 0 0 0∧t 1=.int .i64 (s:Int)∧t 5=.ptr 1 0 0∧t 7=.ptr 3 0 0∧∃f,h=[LK,.live 24 true false [ps],.live 1 true f ((azH N aW3).map nvv),.live 1 false true [[.slr 1 2 0 N]]]) ?_ ?_ () _ _ ?_) (fun e t h hk=>?_)
 ·rintro _ t h Q' kQ ⟨g0,g1,g5,g7,g23,g24,f,rfl⟩
  rw[aXQ]at g24
  (have hb:=trivial;with_reducible repeat' (first|simp only[hb,Vc.down,seval,a1T.down,g23,g24,Int.lt_irrefl,decide_false]|refine fsp ?_ ?_<;>intro hb|refine fd ?_|fail))
  exact kQ _ _ _ ⟨rfl,by simp[up,g0],by simp[up,g1],by simp[up,g5],by simp[up,g7],f,by simp⟩
 ·rintro x rest i _ t h J Q' kJ kQ hx hi ⟨g0,g1,g5,g7,g23,g24,f,rfl⟩
  rw[aXQ]at hi
  have hdd:decide ((i:Int)<(N:Int))=true:=decide_eq_true (by omega)
  have hdi:((i:Int)<(N:Int))=True:=eq_true (by omega)
  have hww:=aVK (n:=N) hi (by unfold maxLen;omega)
  have hrow:((azH i aW3++azH (N-i) 0).map nvv)[i]?=some [.int .i64 0]:=by
   rw[aW1,aTC (by simp),aXQ,aZ5,a6P,if_pos (by omega)]
   rfl
  have hnx:((azH i aW3++azH (N-i) 0).map nvv).set i [.int .i64 1048576]=(azH (i+1) aW3++azH (N-(i+1)) 0).map nvv:=by
   have e:N-i=(N-(i+1))+1:=by omega
   rw[show([.int .i64 1048576]:List AV)=nvv aW3 from rfl,←aZ7,List.set_append_right _ _ (by simp),aXQ,aZ5,e,a4V,List.set_cons_zero,List.replicate_succ',List.append_assoc]
   rfl
  generalize(azH i aW3++azH (N-i) 0).map nvv=rows at *
  (have hb:=trivial;with_reducible repeat' (first|simp only[hb,Vc.down,seval,a1T.down,g0,g1,g5,g7,g23,g24,hdd,hdi,hww,hrow,hnx]|refine fsp ?_ ?_<;>intro hb|refine fd ?_|fail))
  exact aC8 (kJ _ _ () ⟨by simp[up,g0],by simp[up,g1],by simp[up,g5],by simp[up,g7],by simp[up,g23],by simp[up],true,rfl⟩ rfl)
 ·exact⟨by simp[up,ent],by simp[up,ent],by simp[up],by simp[up],by simp[up],by simp[up],false,by simp[nvv]⟩
 obtain⟨rfl,g0,g1,g5,g7,f,rfl⟩:=hk
 have hrow:s<((azH N aW3).map nvv).length:=by simpa using hs
 have hz:((azH N aW3).map nvv)[s]?=some [.int .i64 1048576]:=by rw[aW1,a6P,if_pos hs];rfl
 have hin:((azH N aW3).map nvv).set s [.int .i64 0]=(aTG N s aW3).map nvv:=by rw[aTG,aZ7];rfl
 have o1:((s:Int)<(N:Int))=True:=eq_true (by omega)
 generalize hrw:(azH N aW3).map nvv=rows at *
 obtain⟨q1,hq1⟩:∃q,Fn.func 56=q:=⟨_,rfl⟩
 obtain⟨q2,hq2⟩:∃q,Fn.func 57=q:=⟨_,rfl⟩
 have hLq:LK.quiet LK.clean=true:=by rw[←hLK];rfl
 obtain⟨es,M,b1,b2,b3,b4,⟨v',fl',b5,b6,b7⟩,b8,_⟩:=bqK (h:=[LK,.live 24 true false [ps],.live 1 true true ((aTG N s aW3).map nvv),.live 1 false true [[.slr 1 2 0 N]],.live 1 false false [[.nils]],.live 1 false true [[.ptr 4 0 0]]]) (a3O fun c hc=>by
  simp only[aET,aTD,or_false]at hc
  rcases hc with rfl|rfl|rfl|rfl|rfl|rfl
  ·exact hLq
  all_goals rfl) (p:=4) s rfl (.inl ⟨rfl,rfl⟩) (by simp)
 rw[hq1]at b1
 simp only[aZM]at b6
 obtain⟨es2,M2,c1,c2,c3,c4,⟨v2,fl2,c5,c6,c7⟩,c8⟩:=bqD b4 b5 b6 (by simp)
 rw[hq2]at c1
 have k3:=b8 3 _ (by simp[scB]) rfl
 have k5:=b8 5 _ (by simp[scB]) rfl
 have j3:=c8 3 _ (by omega) k3
 have j5:=c8 5 _ (by omega) k5
 have j0:=c8 0 _ (by omega) (b8 0 _ (by simp[scB]) rfl)
 have j1:=c8 1 _ (by omega) (b8 1 _ (by simp[scB]) rfl)
 have j2:=c8 2 _ (by omega) (b8 2 _ (by simp[scB]) rfl)
 (have hb:=trivial;with_reducible repeat' (first|simp only[hb,Vc.down,seval,a1T.down,g0,g1,g5,g7,hz,hin,o1,hq1,hq2,b1,b2,c1,c2,k3,k5,j3,j5,bp3,a5T]|refine fsp ?_ ?_<;>intro hb|refine fd ?_|fail))
 generalize hE:edg w (tgt L)=E at *
 have hEo:EOk E N:=by rw[←hE];exact a96 hw _
 have I0:=bpY (E:=E) (far:=aW3) hs hEo
 have hsum:(aTG N s aW3).sum≤8*1048576:=bmN n8
 refine aZG (cnt 85 (fun n (_:Unit) t h=>t 0=.ptr 0 0 0∧t 1=.int .i64 (s:Int)∧t 5=.ptr 1 0 0∧t 7=.ptr 3 0 0∧t 9=.ptr 5 0 0∧∃dd q k,DiH LK true ps N h dd q [k]∧2*dd.sum+q.length≤20000000∧
  ((t 11=.bool true∧∃room w,t 10=.ptr k 0 0∧6≤k∧h[k]?=some (.live 1 true w [[.int .i64 (room:Nat)]])∧DqI E s N aW3 dd (room::q) no3∧2*dd.sum+q.length+1≤n)∨(t 11=.bool false∧q=[]∧DqI E s N aW3 dd [] no3))) (fun _ _=>())
  (fun _ e t h=>e=.exit 2∧t 7=.ptr 3 0 0∧∃dd k,DiH LK true ps N h dd [] [k]∧DqI E s N aW3 dd [] no3) ?_ ?_ (2*(aTG N s aW3).sum+1) () _ _ ?_) (fun e t h hk=>?_)
 ·rintro _ t h Q' kQ ⟨g0,g1,g5,g7,g9,dd,q,k,hD,hql,⟨g11,room,w5,g10,_,_,_,hm⟩|⟨g11,rfl,hI⟩⟩
  ·omega
  ·(have hb:=trivial;with_reducible repeat' (first|simp only[hb,Vc.down,seval,a1T.down,g11]|refine fsp ?_ ?_<;>intro hb|refine fd ?_|fail))
   exact kQ _ _ _ ⟨rfl,by simp[up,g7],dd,k,hD,hI⟩
 ·rintro n _ t h J Q' kJ kQ ⟨g0,g1,g5,g7,g9,dd,q,k,hD,hql,⟨g11,room,w5,g10,hk6,hkb,hI,hm⟩|⟨g11,rfl,hI⟩⟩
  ·obtain⟨f,v,fl,w',i0,i1,i2,i3,i5,i4,iQ,iB,iq⟩:=hD
   have hat:=bxA w d (room:Int) false
   rw[hr]at hat
   subst hLK
   (have hb:=trivial;with_reducible repeat' (first|simp only[hb,Vc.down,seval,a1T.down,g0,g1,g5,g7,g9,g10,g11,i0,i1,i2,i3,i5,hkb,hat]|refine fsp ?_ ?_<;>intro hb|refine fd ?_|fail))
   obtain⟨rN,rI⟩:=DqI.take hI
   have hkl:=asR hkb
   generalize hLP:CB.lp _ _ _ _ _=LP
   obtain⟨LK,hLK⟩:∃c:CB,c=CB.live 4 false wf [[.int .i64 (N:Int),.int .i64 w.need,slv 9 true w.nn (w.parts.map ao7.cells),.int .i64 d]]:=⟨_,rfl⟩
   refine btN (bxJ hw (d:=d) (r:=(room:Int)) (lb:=h.length) (rb:=h.length+1) (kb:=0) (fun i h'=>∃dd' q',DiH LK.clean false ps N h' dd' q' [k,h.length,h.length+1,h.length+2]∧DqI E s N aW3 dd' q' (a01 E room i)∧2*dd'.sum+q'.length≤2*dd.sum+q.length∧(∃w1,h'[k]?=some (.live 1 true w1 [[.int .i64 (room:Nat)]]))∧(∃w1,h'[h.length]?=some (.live 1 false w1 [[.ptr 0 0 0]]))∧(∃w1,h'[h.length+1]?=some (.live 1 true w1 [[.int .i64 (room:Nat)]]))∧h'[h.length+2]?=some LP∧h.length+3≤h'.length∧Okw (h++[.live 1 false false [[.ptr 0 0 0]],.live 1 true false [[.int .i64 (room:Nat)]],LP]) h') ?_ ?_ ?_ ?_ ?_ ?_ ?_) ?_
   ·rintro i h' ⟨dd',q',_,_,_,_,hb1,_⟩
    exact hb1
   ·rintro i h' ⟨dd',q',⟨f,v,fl,w',i0,_⟩,_⟩
    rw[hr]
    exact⟨false,by rw[i0,hLK];rfl⟩
   ·rintro i h' ⟨dd',q',_,_,_,_,_,hb2,_⟩
    exact hb2
   ·rintro i h' fl wf rows ⟨dd',q',k1,k3,k4,⟨a0,k5⟩,⟨a1,k6⟩,⟨a2,k7⟩,k8,k9,kO⟩
    exact⟨dd',q',k1.app rfl,k3,k4,⟨a0,as2 k5 _⟩,⟨a1,as2 k6 _⟩,⟨a2,as2 k7 _⟩,as2 k8 _,by simp;omega,kO.app _⟩
   ·rintro i p u h' hpx hu ⟨dd',q',⟨f',v',fl',w2,j0,j1,j2,j3,j5,j4,jQ,jB,jq⟩,k3,k4,⟨a0,k5⟩,⟨a1,k6⟩,⟨a2,k7⟩,k8,k9,kO⟩
    have round:RnQ om' ([.int .i64 i,.int .i64 u]++[.yl (h.length+2)]) (clH h') fun o G=>o=.ret (.bool true)∧Okw h' G∧∃dd2 q2,DiH LK.clean false ps N (mrg h' G) dd2 q2 [k,h.length,h.length+1,h.length+2]∧DqI E s N aW3 dd2 q2 (a01 E room (i+1))∧2*dd2.sum+q2.length≤2*dd.sum+q.length∧(∀b∈[k,h.length,h.length+1,h.length+2],(mrg h' G)[b]?=h'[b]?)∧h'.length≤(mrg h' G).length:=by
     have hir:room<N:=rN
     have hpo:=hw.part p (aZA hpx)
     have hil:i<w.parts.length:=(aZX.1 hpx).1
     obtain⟨pc,hpc⟩:∃x,L[i]?=some x:=⟨_,aND (by omega)⟩
     have he:=bkZ hpx hpc
     rw[hE]at he
     obtain⟨to,rfl,htN,hrt,hto⟩:∃to:Nat,u=(to:Int)∧to<N∧room≠to∧(E[i]?=some (room,to,if tgB pc=true then 1 else 0)∨E[i]?=some (to,room,if tgB pc=true then 1 else 0)):=by
      rcases hu with⟨h1,h2⟩|⟨h1,h2,h3⟩
      ·exact⟨p.other.toNat,by omega,by omega,by omega,.inl (by rw[he,h1];rfl)⟩
      ·exact⟨p.one.toNat,by omega,by omega,by omega,.inr (by rw[he,h2];rfl)⟩
     have hi12:((i:Int)<12)=True:=eq_true (by omega)
     have hp24:(i*2+2≤24)=True:=eq_true (by omega)
     have htk:aWR 2 (List.drop (i*2) ps)=[.int .i64 pc.1,.bool pc.2]:=by
      rw[hps];exact bdR _ _ _ _ hpc
     have htt:=bf0 pc.1 pc.2
     rw[show(pc.1==0&& !pc.2)=tgB pc from rfl]at htt
     have hdl:=k3.i.len
     have hrm:=baR (d:=dd') (a:=room) (by omega)
     have htm:=baR (d:=dd') (a:=to) (by omega)
     have hst:∀n:Nat,(dd'.map nvv).set to [.int .i64 (n:Int)]=(dd'.set to n).map nvv:=fun n=>by rw[aZ7];rfl
     have hrf:=k3.i.le room rN
     have hrf2:dd'.getD room 0≤1048576:=hrf
     have I0:=k3.same hto
     have I1:=fun q'=>k3.less (q':=q') rN htN hrt hto
     have hrN:((room:Int)<(N:Int))=True:=eq_true (by omega)
     have htN':((to:Int)<(N:Int))=True:=eq_true (by omega)
     have hbit:=bu2 (tgB pc)
     have hsum:∀x,x<dd'.getD to 0→(dd'.set to x).sum<dd'.sum:=fun x hx=>bmH (by omega) hx
     generalize dd'.getD room 0=xr at *
     generalize dd'.getD to 0=xt at *
     generalize hrows:dd'.map nvv=rows at *
     have hbc:=aVJ k8
     have hb0:LP.clean=LP:=by rw[←hLP];rfl
     rw[hb0]at hbc
     have hne2:∀(b:Nat) (c X:CB),b≠h.length+2→h'[b]?=some c→((clH h').set (h.length+2) X)[b]?=some c.clean:=fun b c X hn hc=>by rw[ao5 (fun e=>hn e.symm),aVJ hc]
     have h6:=asR i5
     have g0':=fun X=>hne2 0 _ X (by omega) j0
     have g1':=fun X=>hne2 1 _ X (by omega) j1
     have g2':=fun X=>hne2 2 _ X (by omega) j2
     have g3':=fun X=>hne2 3 _ X (by omega) j3
     have g5':=fun X=>hne2 5 _ X (by omega) j5
     have gk':=fun X=>hne2 k _ X (by omega) k5
     simp only[CB.clean]at g1' g2' g3' g5' gk'
     have hlw:∀n,n≤1048577→IntKind.i64.wrap (n:Nat)=(n:Int):=fun n hn=>aWO (by omega) (by omega)
     have hself:∀X:CB,((clH h').set (h.length+2) X)[h.length+2]?=some X:=fun X=>aLO (asR hbc)
     have hback:∀X:CB,(((clH h').set (h.length+2) X).set (h.length+2) LP)=clH h':=fun X=>by
      rw[List.set_set];exact blR hbc
     have sm:=boH (l:=[]) jq
     simp only[List.append_nil]at sm
     have fin0:∀(dx:DqI E s N aW3 dd' q' (a01 E room (i+1))),(Out.ret (AV.bool true)=.ret (.bool true))∧Okw h' (clH h')∧∃dd2 q2,DiH LK.clean false ps N (mrg h' (clH h')) dd2 q2 [k,h.length,h.length+1,h.length+2]∧DqI E s N aW3 dd2 q2 (a01 E room (i+1))∧2*dd2.sum+q2.length≤2*dd.sum+q.length∧(∀b∈[k,h.length,h.length+1,h.length+2],(mrg h' (clH h'))[b]?=h'[b]?)∧h'.length≤(mrg h' (clH h')).length:=fun dx=>by
      rw[sm.2]
      exact⟨rfl,sm.1,dd',q',⟨f',v',fl',w2,j0,j1,by rw[hrows];exact j2,j3,j5,j4,jQ,jB,jq⟩,dx,k4,fun b _=>rfl,aTT _⟩
     have hq':q'.length≤100000000:=by omega
     have hK6:∀b∈[k,h.length,h.length+1,h.length+2],6≤b∧b<h'.length:=fun b hb1=>by
      simp only[aET,aTD,or_false]at hb1
      omega
     have hnx:∀(b:Nat) (c X Y:CB),b≠h.length+2→b≠2→h'[b]?=some c→(((clH h').set (h.length+2) X).set 2 Y)[b]?=some c.clean:=fun b c X Y n1 n2 hc=>by rw[ao5 (fun e=>n2 e.symm)];exact hne2 b c X n1 hc
     have n5:=fun X Y=>hnx 5 _ X Y (by omega) (by omega) j5
     have n4:=fun X Y=>hnx 4 _ X Y (by omega) (by omega) j4
     have nB:∀X Y:CB,(((clH h').set (h.length+2) X).set 2 Y)[h.length+2]?=some X:=fun X Y=>by rw[ao5 (by omega)];exact hself X
     simp only[CB.clean]at n5 n4
     have nQ:∀X Y,QS v' q' (((clH h').set (h.length+2) X).set 2 Y) 4:=fun X Y=>by
      rcases QS.cln jQ with h1|⟨b,w0,rows0,r0,h1,h2,h3⟩
      ·exact .inl h1
      ·have hbb:=jB b (by rw[h1];simp[scB])
       simp only[aET,aTD,or_false,not_or]at hbb
       exact .inr ⟨b,w0,rows0,r0,h1,by rw[ao5 (by omega),ao5 (by omega)];exact h2,h3⟩
     have hlen2:∀X Y:CB,(((clH h').set (h.length+2) X).set 2 Y).length=h'.length:=fun X Y=>by simp[aIB]
     have nqt:∀(X:CB) (Y:List (List AV)),X.quiet X.clean=true→auH (((clH h').set (h.length+2) X).set 2 (.live 1 true true Y))=true:=fun X Y hX=>aMF (aMF (a0Q jq) _ hX) _ rfl
     have fin1:∀{n:Nat} {q2:List Nat} {M:abY} {Y:List Nat} {LB:CB} {v2:AV} {fl2:Bool},DqI E s N aW3 (dd'.set to n) q2 (a01 E room (i+1))→n<xt→q2.length=q'.length+1→h'.length≤M.length→auH M=true→M[4]?=some (.live 1 fl2 true [[v2]])→QS v2 q2 M 4→(∀b∈scB v2,h'.length≤b)→
      (∀b c,b∉Y→(((clH h').set (h.length+2) LB).set 2 (.live 1 true true ((dd'.set to n).map nvv)))[b]?=some c→M[b]?=some c)→4∈Y→(∀b∈Y,b=4∨(b∈scB v'∧M[b]?=some .dead))→
      (Out.ret (AV.bool true)=.ret (.bool true))∧Okw h' (M.set (h.length+2) LP)∧∃dd2 q2,DiH LK.clean false ps N (mrg h' (M.set (h.length+2) LP)) dd2 q2 [k,h.length,h.length+1,h.length+2]∧DqI E s N aW3 dd2 q2 (a01 E room (i+1))∧2*dd2.sum+q2.length≤2*dd.sum+q.length∧(∀b∈[k,h.length,h.length+1,h.length+2],(mrg h' (M.set (h.length+2) LP))[b]?=h'[b]?)∧h'.length≤(mrg h' (M.set (h.length+2) LP)).length:=fun {n q2 M Y LB v2 fl2} dx hn hq2 m1 m2 m3 m4 m5 m6 hY hY'=>by
      have hr:=blE (K:=[k,h.length,h.length+1,h.length+2]) j0 j1 (by rw[hrows];exact j2) j3 j5 j4 jQ jB jq k8 (by simp) hK6 hb0 (by rw[←hLP];rfl) m1 m2 m3 m4 m5 m6 hY hY'
      exact⟨rfl,hr.1,dd'.set to n,q2,hr.2.1,dx,by have:=hsum n hn;omega,hr.2.2.1,hr.2.2.2⟩
     have nbv:h.length+2∉4::scB v':=fun hx=>by
      rcases aET.1 hx with hx|hx
      ·omega
      ·have:=(jB _ hx).2;simp at this
     have mq:∀x,x∈q'++[to]↔x=to∨x∈q':=fun x=>by simp;exact Or.comm
     have mq2:∀x,x∈to::q'↔x=to∨x∈q':=fun x=>by simp
     cases htb:tgB pc with
     |true=>
      have hw1:IntKind.i64.wrap ((xr:Int)+1)=((xr+1:Nat):Int):=by have:=hlw (xr+1) (by omega);simpa using this
      rw[htb]at htt hbit I0 I1
      simp only[if_true]at I0 I1 hbit
      by_cases hle:xt≤xr+1
      ·have hle':(((xr+1:Nat):Int)≥(xt:Int))=True:=eq_true (by omega)
       have fz:=fin0 (I0 hle)
       subst hLP
       refine boN hbc rfl ?_
       (have hb:=trivial;with_reducible repeat' (first|simp only[hb,Vc.down,seval,a1T.down,k8,g0,g1,g5,g7,g9,g10,g0',g1',g2',g3',g5',gk',a0M,hi12,hp24,hpl,htk,htt,hbit,hrm,htm,hrN,htN',hw1,hle',hself,hback]|refine fsp ?_ ?_<;>intro hb|refine fd ?_|fail))
       exact⟨_,_,rfl,fz⟩
      ·have hle':(((xr+1:Nat):Int)≥(xt:Int))=False:=eq_false (by omega)
       subst hLP
       refine boN hbc rfl ?_
       (have hb:=trivial;with_reducible repeat' (first|simp only[hb,Vc.down,seval,a1T.down,k8,g0,g1,g5,g7,g9,g10,g0',g1',g2',g3',g5',gk',a0M,hi12,hp24,hpl,htk,htt,hbit,hrm,htm,hrN,htN',hw1,hle',hst]|refine fsp ?_ ?_<;>intro hb|refine fd ?_|fail))
       generalize hLB:CB.lp _ _ _ _ LSt.busy=LB
       obtain⟨q1,hq1⟩:∃q,Fn.func 56=q:=⟨_,rfl⟩
       obtain⟨es,M,b1,b2,b3,b4,⟨v2,fl2,b5,b6,b7⟩,b8,b9⟩:=bqK (nqt LB ((dd'.set to (xr+1)).map nvv) (by rw[←hLB];rfl)) to (n4 LB _) (nQ LB _) hq'
       rw[hq1]at b1
       have n5':=n5 LB
       have mB:=b8 _ _ nbv (nB LB _)
       have fz:=fin1 (I1 (q'++[to]) (by omega) mq) (by omega) (by simp) (by rw[hlen2]at b3;exact b3) b4 b5 b6 (by rw[hlen2]at b7;exact b7) b8 (aL7 ..) (fun b hb1=>(aET.1 hb1).imp id fun hb1=>⟨hb1,b9 b hb1⟩)
       subst hLB
       (have hb:=trivial;with_reducible repeat' (first|simp only[hb,Vc.down,seval,a1T.down,n5',hq1,b1,b2,mB]|refine fsp ?_ ?_<;>intro hb|refine fd ?_|fail))
       exact⟨_,_,rfl,fz⟩
     |false=>
      have hw1:IntKind.i64.wrap ((xr:Int)+0)=((xr:Nat):Int):=by have:=hlw xr (by omega);simpa using this
      rw[htb]at htt hbit I0 I1
      simp only[Bool.false_eq_true,if_false,Nat.add_zero]at I0 I1 hbit
      by_cases hle:xt≤xr
      ·have hle':((xr:Int)≥(xt:Int))=True:=eq_true (by omega)
       have fz:=fin0 (I0 hle)
       subst hLP
       refine boN hbc rfl ?_
       (have hb:=trivial;with_reducible repeat' (first|simp only[hb,Vc.down,seval,a1T.down,k8,g0,g1,g5,g7,g9,g10,g0',g1',g2',g3',g5',gk',a0M,hi12,hp24,hpl,htk,htt,hbit,hrm,htm,hrN,htN',hw1,hle',hself,hback]|refine fsp ?_ ?_<;>intro hb|refine fd ?_|fail))
       exact⟨_,_,rfl,fz⟩
      ·have hle':((xr:Int)≥(xt:Int))=False:=eq_false (by omega)
       subst hLP
       refine boN hbc rfl ?_
       (have hb:=trivial;with_reducible repeat' (first|simp only[hb,Vc.down,seval,a1T.down,k8,g0,g1,g5,g7,g9,g10,g0',g1',g2',g3',g5',gk',a0M,hi12,hp24,hpl,htk,htt,hbit,hrm,htm,hrN,htN',hw1,hle',hst]|refine fsp ?_ ?_<;>intro hb|refine fd ?_|fail))
       generalize hLB:CB.lp _ _ _ _ LSt.busy=LB
       obtain⟨q1,hq1⟩:∃q,Fn.func 60=q:=⟨_,rfl⟩
       obtain⟨es,M,b1,b2,b3,b4,⟨v2,fl2,b5,b6,b7⟩,b8⟩:=buX (nqt LB ((dd'.set to xr).map nvv) (by rw[←hLB];rfl)) to (n4 LB _) (nQ LB _) hq'
       rw[hq1]at b1
       have n5':=n5 LB
       have mB:=b8 _ _ (by omega) (nB LB _)
       have fz:=fin1 (Y:=[4]) (I1 (to::q') (by omega) mq2) (by omega) (by simp) (by rw[hlen2]at b3;exact b3) b4 b5 b6 (by rw[hlen2]at b7;exact b7) (fun b c hn=>b8 b c (by simpa using hn)) (aL7 ..) (fun b hb1=>.inl (by simpa using hb1))
       subst hLB
       (have hb:=trivial;with_reducible repeat' (first|simp only[hb,Vc.down,seval,a1T.down,n5',hq1,b1,b2,mB]|refine fsp ?_ ?_<;>intro hb|refine fd ?_|fail))
       exact⟨_,_,rfl,fz⟩
    obtain⟨o,G,es,e1,e2,rfl,z0,dd2,q2,z1,z2,z3,z4,z5⟩:=bnE round (fun o G h=>h.2.1.sh)
    refine⟨es,e1,?_⟩
    rw[e2]
    exact⟨dd2,q2,z1,z2,z3,⟨a0,by rw[z4 k (by simp)];exact k5⟩,⟨a1,by rw[z4 _ (by simp)];exact k6⟩,⟨a2,by rw[z4 _ (by simp)];exact k7⟩,by rw[z4 _ (by simp)];exact k8,by omega,kO.trans z0⟩
   ·rintro i p h' hpx n1 n2 ⟨dd',q',k1,k3,k4,k5,k6,k7,k8,k9⟩
    have hpo:=hw.part p (aZA hpx)
    obtain⟨pc,hpc⟩:∃x,L[i]?=some x:=⟨_,aND (by have:=(aZX.1 hpx).1;omega)⟩
    have he:=bkZ hpx hpc
    rw[hE]at he
    exact⟨dd',q',k1,k3.skip he (by omega) (by omega),k4,k5,k6,k7,k8,k9⟩
   ·have cl:∀(b:Nat) (c:CB),h[b]?=some c→(clH h++[CB.live 1 false false [[.ptr 0 0 0]],.live 1 true false [[.int .i64 (room:Nat)]],LP])[b]?=some c.clean:=fun b c hc=>as2 (aVJ hc) _
    have ca:∀j,(clH h++[CB.live 1 false false [[.ptr 0 0 0]],.live 1 true false [[.int .i64 (room:Nat)]],LP])[h.length+j]?=[CB.live 1 false false [[.ptr 0 0 0]],.live 1 true false [[.int .i64 (room:Nat)]],LP][j]?:=fun j=>by
     rw[aTC (by rw[aIB];omega),aIB,aX2]
    have hLc:LP.clean=LP:=by rw[←hLP];rfl
    have hLq:LP.quiet LP=true:=by rw[←hLP];rfl
    have hok:Okw (h++[.live 1 false false [[.ptr 0 0 0]],.live 1 true false [[.int .i64 (room:Nat)]],LP]) (clH h++[.live 1 false false [[.ptr 0 0 0]],.live 1 true false [[.int .i64 (room:Nat)]],LP]):=by
     have:=Okw.cl (H:=h++[.live 1 false false [[.ptr 0 0 0]],.live 1 true false [[.int .i64 (room:Nat)]],LP]) (aH8 iq (by simp only[auH,aZ8,hLc,hLq];rfl))
     rw[show clH (h++[CB.live 1 false false [[.ptr 0 0 0]],.live 1 true false [[.int .i64 (room:Nat)]],LP])=clH h++[CB.live 1 false false [[.ptr 0 0 0]],.live 1 true false [[.int .i64 (room:Nat)]],LP] by simp only[clH,a4W,List.map_cons,List.map_nil,hLc];rfl]at this
     exact this
    refine⟨dd,q,⟨false,v,fl,false,by rw[hLK];exact cl 0 _ i0,cl 1 _ i1,cl 2 _ i2,cl 3 _ i3,cl 5 _ i5,cl 4 _ i4,?_,fun b hb1=>?_,aH8 (a0Q iq) (by simp only[auH,aZ8,hLc,hLq];rfl)⟩,rI,aTT _,⟨_,cl k _ hkb⟩,⟨false,ca 0⟩,⟨false,ca 1⟩,ca 2,by simp[aIB],hok⟩
    ·rcases QS.cln iQ with h|⟨b,w',rows,r,h1,h2,h3⟩
     ·exact .inl h
     ·exact .inr ⟨b,w',rows,r,h1,as2 h2 _,h3⟩
    ·have:=(iQ.lt b hb1).1
     have:=iB b hb1
     simp at this ⊢
     omega
   ·rintro o h' ⟨rfl,dd',q',⟨f',v',fl',w2,j0,j1,j2,j3,j5,j4,jQ,jB,jq⟩,k3,k4,⟨a0,k5⟩,⟨a1,k6⟩,⟨a2,k7⟩,k8,k9,kO⟩
    have hl5:=asR i5
    have hLc:LP.clean=LP:=by rw[←hLP];rfl
    have hLq:LP.quiet LP=true:=by rw[←hLP];rfl
    obtain⟨h1,hh1⟩:∃H:abY,h++[.live 1 false false [[.ptr 0 0 0]],.live 1 true false [[.int .i64 (room:Nat)]],LP]=H:=⟨_,rfl⟩
    have hB1:h1[h.length+2]?=some LP:=by rw[←hh1,aTC (by omega),aX2];rfl
    have hq1:auH h1=true:=by rw[←hh1];exact aH8 iq (by simp only[auH,aZ8,hLc,hLq];rfl)
    have hO:∀(b:Nat) (c:CB),h[b]?=some c→h1[b]?=some c:=fun b c hc=>by rw[←hh1];exact as2 hc _
    simp only[hh1]at kO ⊢
    obtain⟨es,e1,e2⟩:=a3P h1 h' [] kO.sh
    have e1':aH6 0 h1 h'=some es:=e1
    simp only[aZM]at e2
    have m0:=Okw.old (hO 0 _ i0) j0 (by rw[hLK];rfl)
    have m1:=Okw.old (hO 1 _ i1) j1 rfl
    obtain⟨x2,m2⟩:=kO.live j2
    have m3:=Okw.old (hO 3 _ i3) j3 rfl
    have m5:=Okw.old (hO 5 _ i5) j5 rfl
    obtain⟨x4,m4⟩:=kO.live j4
    obtain⟨xk,mk_⟩:=kO.live k5
    have mQ:=jQ.okw kO
    have mB:=Okw.old hB1 k8 hLq
    have mqt:=kO.quiet hq1 jq
    have mln:h'.length≤(mrg h1 h').length:=by rw[a3S kO.1];exact aTT _
    generalize hM:mrg h1 h'=M at *
    rw[baO,e1']
    have dne:∀(b:Nat) (c:CB),b≠h.length+2→M[b]?=some c→(M.set (h.length+2) .dead)[b]?=some c:=fun b c hn hc=>by rw[ao5 (fun e=>hn e.symm)];exact hc
    have hkn:k≠h.length+2:=by omega
    have d0:=dne 0 _ (by omega) m0
    have d1:=dne 1 _ (by omega) m1
    have d2:=dne 2 _ (by omega) m2
    have d3:=dne 3 _ (by omega) m3
    have d5:=dne 5 _ (by omega) m5
    have d4:=dne 4 _ (by omega) m4
    have dk:=dne k _ hkn mk_
    have dq:auH (M.set (h.length+2) .dead)=true:=aMF mqt _ rfl
    have dl:(M.set (h.length+2) .dead).length=M.length:=by simp
    have dQ:QS v' q' (M.set (h.length+2) .dead) 4:=by
     rcases mQ with h1|⟨b,w0,rows0,r0,h1,h2,h3⟩
     ·exact .inl h1
     ·have hbb:=jB b (by rw[h1];simp[scB])
      simp only[aET,aTD,or_false,not_or]at hbb
      exact .inr ⟨b,w0,rows0,r0,h1,dne b _ (by omega) h2,h3⟩
    subst hLP
    (have hb:=trivial;with_reducible repeat' (first|simp only[hb,Vc.down,seval,a1T.down,e2,mB]|refine fsp ?_ ?_<;>intro hb|refine fd ?_|fail))
    generalize hD:M.set (h.length+2) CB.dead=D at *
    (have hb:=trivial;with_reducible repeat' (first|simp only[hb,Vc.down,seval,a1T.down,g0,g1,g5,g7,g9,g10,dk,d5]|refine fsp ?_ ?_<;>intro hb|refine fd ?_|fail))
    have p5:=as2 d5 [CB.live 1 true true [[.int .i64 (room:Int)]]]
    have p4:=as2 d4 [CB.live 1 true true [[.int .i64 (room:Int)]]]
    have pq:auH (D++[CB.live 1 true true [[.int .i64 (room:Int)]]])=true:=aH8 dq rfl
    have pQ:=dQ.app [CB.live 1 true true [[.int .i64 (room:Int)]]]
    have pk:(D++[CB.live 1 true true [[.int .i64 (room:Int)]]])[D.length]?=some (.live 1 true true [[.int .i64 (room:Int)]]):=by simp
    have hEl:E.length≤w.parts.length:=by rw[←hE];simp[edg,tgt];omega
    have k3':=k3.done hEl
    have hD6:6≤D.length:=by omega
    have hvD:∀b∈scB v',6≤b∧b∉[D.length]:=fun b hb1=>by
     have h1:=(dQ.lt b hb1).1
     have h2:=(jB b hb1).1
     exact⟨h2,by simp;omega⟩
    obtain⟨q1,hq1⟩:∃q,Fn.func 57=q:=⟨_,rfl⟩
    cases q' with
    |nil=>
     have b1:=buV pq p4 pQ
     rw[hq1]at b1
     (have hb:=trivial;with_reducible repeat' (first|simp only[hb,Vc.down,seval,a1T.down,p5,hq1,b1]|refine fsp ?_ ?_<;>intro hb|refine fd ?_|fail))
     refine aC8 (kJ _ _ () ⟨by simp[up,g0],by simp[up,g1],by simp[up,g5],by simp[up,g7],by simp[up,g9],dd',[],D.length,?_,?_,.inr ⟨by simp[up],rfl,k3'⟩⟩ rfl)
     ·exact⟨_,_,_,_,as2 d0 _,as2 d1 _,as2 d2 _,as2 d3 _,as2 d5 _,as2 d4 _,dQ.app _,hvD,aH8 dq rfl⟩
     ·omega
    |cons x q'=>
     simp only[a1U]at k4
     obtain⟨es,M4,b1,b2,b3,b4,⟨v2,fl2,b5,b6,b7⟩,b8⟩:=bqD pq p4 pQ (by omega)
     rw[hq1]at b1
     have r5:=b8 _ _ (by omega) p5
     have rk:=b8 _ _ (by omega) pk
     (have hb:=trivial;with_reducible repeat' (first|simp only[hb,Vc.down,seval,a1T.down,p5,hq1,b1,b2,rk,r5]|refine fsp ?_ ?_<;>intro hb|refine fd ?_|fail))
     have sne:∀(b:Nat) (c:CB),b<D.length→b≠4→D[b]?=some c→(M4.set D.length (.live 1 true true [[.int .i64 (x:Int)]]))[b]?=some c:=fun b c h1 h2 hc=>by
      rw[ao5 (by omega)];exact b8 b c h2 (as2 hc _)
     have hl4:=asR rk
     refine aC8 (kJ _ _ () ⟨by simp[up,g0],by simp[up,g1],by simp[up,g5],by simp[up,g7],by simp[up,g9],dd',q',D.length,?_,by omega,.inl ⟨by simp[up],x,true,by simp[up],hD6,aLO hl4,k3',by omega⟩⟩ rfl)
     refine⟨_,v2,fl2,true,sne 0 _ (by omega) (by omega) d0,sne 1 _ (by omega) (by omega) d1,sne 2 _ (by omega) (by omega) d2,sne 3 _ (by omega) (by omega) d3,sne 5 _ (by omega) (by omega) d5,by rw[ao5 (by omega)];exact b5,?_,fun b hb1=>hvD b (by rw[←b7];exact hb1),aMF b4 _ rfl⟩
     rcases b6 with h1|⟨b,w0,rows0,r0,h1,h2,h3⟩
     ·exact .inl h1
     ·have hbb:=hvD b (by rw[←b7,h1];simp[scB])
      simp only[aET,aTD,or_false]at hbb
      exact .inr ⟨b,w0,rows0,r0,h1,by rw[ao5 (fun e=>hbb.2 e.symm)];exact h2,h3⟩
  ·(have hb:=trivial;with_reducible repeat' (first|simp only[hb,Vc.down,seval,a1T.down,g11]|refine fsp ?_ ?_<;>intro hb|refine fd ?_|fail))
   exact kQ _ _ _ ⟨rfl,by simp[up,g7],dd,k,hD,hI⟩
 ·refine⟨by simp[up,g0],by simp[up,g1],by simp[up,g5],by simp[up,g7],by simp[up],aTG N s aW3,[],M2.length,?_,by simp only[aY8];omega,.inl ⟨by simp[up],s,true,by simp[up],by simp at b3;omega,by rw[aTC (aTT _),aZ5];rfl,I0,by simp⟩⟩
  refine⟨true,v2,fl2,true,as2 j0 _,as2 j1 _,as2 j2 _,as2 j3 _,as2 j5 _,as2 c5 _,?_,?_,aH8 c4 rfl⟩
  ·rcases c6 with h|⟨b,w',rows,r,h1,h2,h3⟩
   ·exact .inl h
   ·exact .inr ⟨b,w',rows,r,h1,as2 h2 _,h3⟩
  ·intro b hb1
   have:=c6.lt b hb1
   rw[c7]at hb1
   have h6:=b7 b hb1
   simp at h6
   exact⟨h6,by simp;omega⟩
 obtain⟨rfl,g7,dd,k,⟨f,v,fl,w',i0,i1,i2,i3,i5,i4,iQ,iB,iq⟩,hI⟩:=hk
 have hR:=hI.right hs hEo (by unfold aW3;omega)
 have hdl:=hI.i.len
 have hln:(dd.map nvv).length=N:=by simp[hdl]
 subst hLK
 (have hb:=trivial;with_reducible repeat' (first|simp only[hb,Vc.down,seval,a1T.down,g7,i3,i2,i0,hln]|refine fsp ?_ ?_<;>intro hb|refine fd ?_|fail))
 exact⟨f,dd,rfl,hdl,hR⟩
theorem aY2(L:List (Int × Bool)):∀x∈pcs L,(∃n,x=.int .i64 n)∨∃b,x=.bool b:=fun x hx=>by
 simp only[pcs,a5E,aET,aTD,or_false]at hx
 obtain⟨y,_,rfl|rfl⟩:=hx
 ·exact .inl ⟨_,rfl⟩
 ·exact .inr ⟨_,rfl⟩
theorem a3Z(L:List (Int × Bool)):(pcs L).all AV.flat=true:=aWQ.2 fun x hx=>by rcases aY2 L x hx with⟨n,rfl⟩|⟨b,rfl⟩<;>rfl
theorem a30(L:List (Int × Bool)):(pcs L).all AV.isCell=true:=aWQ.2 fun x hx=>by rcases aY2 L x hx with⟨n,rfl⟩|⟨b,rfl⟩<;>rfl
theorem baE(L:List (Int × Bool))(d:Nat)(g:HF):ax5 (aWG (d+1) g) (pcs L)=some (pcs L):=baK fun x hx=>by rcases aY2 L x hx with⟨n,rfl⟩|⟨b,rfl⟩<;>rfl
theorem baQ(L:List (Int × Bool))(d:Nat)(g:HF):(pcs L).flatMap (atQ (d+1) g)=[]:=List.flatMap_eq_nil_iff.2 fun x hx=>by rcases aY2 L x hx with⟨n,rfl⟩|⟨b,rfl⟩<;>rfl
theorem a95(L:List (Int × Bool))(d:Nat)(m:List Nat):aG4.refL (aG4 (d+1)) m (pcs L)=some (pcs L,m):=aWM fun x hx=>by rcases aY2 L x hx with⟨n,rfl⟩|⟨b,rfl⟩<;>rfl
theorem bjN(L:List (Int × Bool))(d:Nat)(f:Nat→Nat):ax5 (aC3 (d+1) f) (pcs L)=some (pcs L):=baK fun x hx=>by rcases aY2 L x hx with⟨n,rfl⟩|⟨b,rfl⟩<;>rfl
theorem bi1(L:List (Int × Bool))(d:Nat):(pcs L).any (hasImm (d+1))=false:=List.any_eq_false.2 fun x hx=>by rcases aY2 L x hx with⟨n,rfl⟩|⟨b,rfl⟩<;>simp[hasImm]
def nmB(w:avQ)(N:Nat)(L:List (Int × Bool)):Nat:=a97 (edg w (tgt L)) N w.parts.length
theorem a4C{w:avQ}{N:Nat}(hw:WOk w N)(h12:w.parts.length≤12)(d:Int){L:List (Int × Bool)}(hL12:L.length=12)(wf:Bool):
 om'.call (.fn 43) [.ptr 0 0 0,.agg (pcs L)] [.live 4 false wf [[.int .i64 w.rooms,.int .i64 w.need,slv 9 true w.nn (w.parts.map ao7.cells),.int .i64 d]]]=some (.ret (.int .i64 (nmB w N L:Nat)),[.live 4 false wf [[.int .i64 w.rooms,.int .i64 w.need,slv 9 true w.nn (w.parts.map ao7.cells),.int .i64 d]]]):=by
 have n2:=hw.n2
 have n8:=hw.n8
 obtain⟨o,h',hc,f,ds,rfl,rfl,hdl,hR⟩:=bdC hw h12 (d:=d) (s:=0) (by omega) hL12 rfl (wf:=false)
 have hne:=btW (len:=w.parts.length) n2 (by omega) (by unfold aW3;omega) (a96 hw (tgt L)) hR
 have hf1:=a3Z L
 have hf2:=a30 L
 have hpl:(pcs L).length=24:=by rw[a0C];omega
 have hd1:=baR (d:=ds) (a:=1) (by omega)
 have h1N:((1:Int)<(N:Int))=True:=eq_true (by omega)
 have hle:ds.getD 1 0≤1048576:=by
  by_cases e:ds.getD 1 0=aW3
  ·rw[e];exact aTT _
  ·have:=(a2B.num hR hR (by unfold aW3;omega) (by unfold aW3;omega) (by omega) (a96 hw (tgt L)) (v:=1) (by omega)).2.2 e
   have:ds.getD 1 0<N:=this
   omega
 have hN1:nmB w N L=if ds.getD 1 0=aW3 then w.parts.length+1 else ds.getD 1 0:=hne.symm
 rw[hN1]
 have hav:=baE L
 have hlv:=baQ L
 have hrf:=a95 L
 simp only[Int.natCast_zero]at hc
 generalize pcs L=ps at *
 have htk:aWR 24 ps=ps:=a1V (by omega)
 generalize ds.getD 1 0=x at *
 generalize ds.map nvv=rows at *
 have hwr:IntKind.i64.wrap ((w.parts.length:Int)+1)=((w.parts.length+1:Nat):Int):=by have:=aWO (n:=((w.parts.length+1:Nat):Int)) (by omega) (by omega);simpa using this
 by_cases e:x=aW3
 ·have e1:((x:Int)==1048576)=true:=by rw[e];rfl
  rw[if_pos e]
  refine ce Tryd.func43 ?_
  simp only[Tryd.f43]
  (have hb:=trivial;with_reducible repeat' (first|simp only[hb,Vc.down,seval,bv0.down,hpl,hf1,hf2,htk,hav,hlv,hrf,hc,hd1,h1N,e1,hwr,aM2]|refine fsp ?_ ?_<;>intro hb|refine fd ?_|fail))
 ·have e1:((x:Int)==1048576)=false:=by simp;exact fun h=>e (by unfold aW3;omega)
  rw[if_neg e]
  refine ce Tryd.func43 ?_
  simp only[Tryd.f43]
  (have hb:=trivial;with_reducible repeat' (first|simp only[hb,Vc.down,seval,bv0.down,hpl,hf1,hf2,htk,hav,hlv,hrf,hc,hd1,h1N,e1,aM2]|refine fsp ?_ ?_<;>intro hb|refine fd ?_|fail))
theorem a7W{w:avQ}{d:Int}(h12:w.parts.length≤12):(aqM w d).length=12:=by simp[aqM];omega
theorem a7C{w:avQ}{N:Nat}{d:Int}:nmB w N (aqM w d)=a8V w N d:=by unfold nmB a8V;rw[a6X]
theorem bcU{α:Type}{d:List AV→Option α}{f:α→List AV}(hd:∀cs x,d cs=some x→cs=f x):∀{rows:List (List AV)} {l:List α},ax5 d rows=some l→rows=l.map f
 | [],l,h=>by simp[ax5]at h;subst h;rfl
 |r::rows,l,h=>by
  simp only[ax5,a6S,a0B]at h
  obtain⟨x,h1,l',h2,rfl⟩:=h
  rw[hd r x h1,bcU hd h2];rfl
def dSl{α:Type}(n:Nat)(fl:Bool)(d:List AV→Option α):AV→Option (Bool × List α)
 | .nils=>some (false,[])
 | .imm n' fl' rows=>if n'=n∧fl'=fl then(ax5 d rows).map fun l=>(true,l)else none
 |_=>none
theorem btZ{α:Type}{n:Nat}{fl:Bool}{d:List AV→Option α}{f:α→List AV}(hd:∀cs x,d cs=some x→cs=f x){v:AV}{x:Bool × List α}(h:dSl n fl d v=some x):v=slv n fl x.1 (x.2.map f):=by
 unfold dSl at h
 split at h
 ·cases h;rfl
 ·split at h
  ·rename_i hq
   obtain⟨rfl,rfl⟩:=hq
   obtain⟨l,h1,rfl⟩:=a0B.1 h
   rw[bcU hd h1]
   cases l<;>rfl
  ·cases h
 ·cases h
def bi7:List AV→Option ao7
 | [.int .i64 a,.int .i64 b,.bool c,.bool d,.int .i64 e,.int .i64 f,.bool g,.int .i64 h,.int .i64 i]=>some ⟨a,b,c,d,e,f,g,h,i⟩
 |_=>none
theorem bkH(cs:List AV)(x:ao7)(h:bi7 cs=some x):cs=x.cells:=by
 unfold bi7 at h
 split at h
 ·cases h;rfl
 ·cases h
def bmB:List AV→Option (List (Int × Bool))
 | []=>some []
 | .int .i64 a::.bool b::l=>(bmB l).map fun r=>(a,b)::r
 |_=>none
theorem be3:∀(cs:List AV) (x:List (Int × Bool)),bmB cs=some x→cs=pcs x
 | [],x,h=>by simp[bmB]at h;subst h;rfl
 | .int .i64 a::.bool b::l,x,h=>by
   simp only[bmB,a0B]at h
   obtain⟨r,h1,rfl⟩:=h
   rw[be3 l r h1];rfl
def bvI:List AV→abY→Option (Out × abY)
 | [.ptr 0 0 0,.agg ps],[.live 4 false wf [[.int .i64 rooms,.int .i64 need,sl,.int .i64 d]]]=>
   (dSl 9 true bi7 sl).bind fun x=>(bmB ps).bind fun L=>if(aXT ⟨rooms,need,x.1,x.2⟩&&decide (L.length=12))=true then
     some (.ret (.int .i64 (nmB ⟨rooms,need,x.1,x.2⟩ rooms.toNat L:Nat)),[.live 4 false wf [[.int .i64 rooms,.int .i64 need,sl,.int .i64 d]]])else none
 |_,_=>none
def pr2:aYY:={ pr with at_:=fun f=>if f=43 then some bvI else pr f }
theorem bvZ(f:Nat)(h:pr2 f=none):pr f=none:=by
 simp only[pr2]at h
 split at h
 ·cases h
 ·exact h
theorem brK:∀f p,pr2 f=some p→∀a h r,p a h=some r→om'.call (.fn f) a h=some r:=by
 intro f p hp a h r hr
 simp only[pr2]at hp
 split at hp
 ·rename_i hf
  subst hf
  cases hp
  unfold bvI at hr
  split at hr
  ·rename_i ps wf rooms need sl d
   simp only[a6S]at hr
   obtain⟨x,h1,L,h2,h3⟩:=hr
   split at h3
   ·rename_i hs
    simp only[Bool.and_eq_true,decide_eq_true_eq]at hs
    cases h3
    obtain⟨N,hw,h12⟩:=bfV hs.1
    have hN:rooms.toNat=N:=by have:=hw.rooms;simp only at this;omega
    rw[btZ bkH h1,be3 _ _ h2,hN]
    exact a4C hw h12 d hs.2 wf
   ·cases h3
  ·cases hr
 ·exact bm3 hp hr
theorem bhB:(orc Tryd.prog pr2 100).call (.fn 10) [] []=some (.ret (.bool true),[]):=by kernel_rfl
theorem bjJ:om'.call (.fn 10) [] []=some (.ret (.bool true),[]):=biW (pr:=pr) (pr2:=pr2) rfl bvZ brK bhB
def bdJ(w:avQ):Bool:=decide ((w.parts.length:Int)≤15)
theorem bpP(w:avQ):om'.call (.fn 9) [.agg [.int .i64 w.rooms,.int .i64 w.need,slv 9 true w.nn (w.parts.map ao7.cells)]] []=some (.ret (.bool (bdJ w)),[]):=by
 cases c:bdJ w
 ·have h:decide ((w.parts.length:Int)≤15)=false:=c
  (refine ce Tryd.func9 ?_;simp only[Tryd.f9];(have hb:=trivial;with_reducible repeat' (first|simp only[hb,Va.down,seval,TY9.down,h,aM2]|refine fsp ?_ ?_<;>intro hb|refine fd ?_|fail)))
 ·have h:decide ((w.parts.length:Int)≤15)=true:=c
  (refine ce Tryd.func9 ?_;simp only[Tryd.f9];(have hb:=trivial;with_reducible repeat' (first|simp only[hb,Va.down,seval,TY9.down,h,aM2]|refine fsp ?_ ?_<;>intro hb|refine fd ?_|fail)))
theorem brO(L:List (Int × Bool))(d:Nat):(pcs L).all (avE (d+1))=true:=aWQ.2 fun x hx=>by rcases aY2 L x hx with⟨n,rfl⟩|⟨b,rfl⟩<;>rfl
end Go.Proofs.YtckfcfcmfjfchaaDoor
