/- The functions of the layer, walked. -/
import Derived.Test.YtcncggaobhbomaaGreatDoorPartAA
import Derived.Test.YtcncggaobhbomaaGreatDoorLibE
import Derived.Test.YtcncggaobhbomaaGreatDoorLibD
open List renaming getElem?_set_ne→abT,replicate→abV,mem_cons→acG,getElem?_append_left→ac4,getElem?_set_self→adA,mem_cons_self→adD,length_map→adM,getElem?_eq_getElem→adP,getElem?_append_right→ad8,not_mem_nil→agF,take→ahS,getElem?_map→ah9,all_eq_true→aiF,length_replicate→ai3,length_nil→ai5,mem_of_getElem?→ajT,mem_cons_of_mem→anI,nil_append→aoP,getElem?_eq_some_iff→aoQ,map_set→aoS,all_cons→aoT,length_set→aoV,length_cons→aoW,take_of_length_le→ao1,ext_getElem?→apA,replicate_succ→apU,map_append→aqT,mem_flatMap→aq9,getElem?_replicate→as3
open Nat renaming le_refl→ahF,add_sub_cancel_left→ai4,sub_self→aoR
open Option renaming map_eq_some_iff→aoU,bind_eq_some_iff→atB
open Int renaming toNat_natCast→asT
set_option linter.unusedSimpArgs false
set_option linter.unusedVariables false
namespace Go.Proofs.YtcncggaobhbomaaGreatDoor
open Go.Ev Go Go.Ev.Net
set_option maxRecDepth 100000
set_option maxHeartbeats 16000000
def QS(v:AV)(q:List Nat)(H:Qa)(p:Nat):Prop:=
 (v=.nils∧q=[])∨∃b w rows r,v=.slr 1 b r q.length∧H[b]?=some (.live 1 true w rows)∧b≠p∧rows.drop r=q.map dC∧r+q.length=rows.length
def aS:AV→List Nat
 | .slr _ b _ _=>[b]
 |_=>[]
theorem fY{x:Option (List AV)}{vs:List AV}{h:Qa}{Q:Tj→Qa→Prop}(hx:x=some vs)(k:Q (.ret (aP vs)) h):RtS x h Q:=by subst hx;exact k
theorem amJ{H:Qa}{p:Nat}{fl w:Bool}{v:AV}{q:List Nat}(x:Nat)(hp:H[p]?=some (.live 1 fl w [[v]]))(hQ:QS v q H p)(hq:q.length≤100000000):
 yR Uu 75 [.ptr p 0 0,.int .i64 (x:Int)] H fun o G=>o=.ret (.tup [])∧∃v' fl',G[p]?=some (.live 1 fl' true [[v']])∧QS v' (q++[x]) G p∧Xl (p::aS v) H G∧(∀b∈aS v,G[b]?=some .dead)∧(Qq H=true→Qq G=true)∧∀b∈aS v',H.length≤b:=by
 have hpl:=Qp hp
 refine ac9 rfl Tryz.func75 rfl rfl ?_
 simp only[Tryz.f75]
 refine Tz (fun KK iN hK=>?_)
 have hA:=Qi hp
 have hS:=Zd hpl
 rcases hQ with⟨rfl,rfl⟩|⟨b,w',rows,r,rfl,hrb,hbp,hd,hl⟩
 ·(have hb:=trivial;with_reducible repeat' (first|simp only[hb,Va.down,seval,asS.down,hp,hA,hS]|refine Qs ?_ ?_<;>intro hb|refine fd ?_|fail))
  refine hK _ ?_
  rw[aF]
  refine fY (vs:=[]) (by simp only[Va.down,seval,asS.down]) ⟨rfl,.slr 1 (H.length+1) 0 1,false,?_,.inr ⟨H.length+1,false,[dC x],0,rfl,?_,by omega,rfl,rfl⟩,⟨by simp,fun b hb1 hn=>?_⟩,fun b hb1=>by simp[aS]at hb1,fun hqq=>Ul (Um hqq p rfl) rfl,fun b hb1=>by simp[aS]at hb1;omega⟩
  ·rw[ac4 (by simpa using hpl),adA hpl]
  ·rw[cK];rfl
  ·rw[ac4 (by simpa using hb1),abT (fun e=>hn (by rw[e];exact adD ..))]
 ·have hbl:=Qp hrb
  have hB:=Qi hrb
  have hSb:=Zd hbl
  have h39:(q.length+1≤549755813888)=True:=eq_true (by omega)
  have hg:∀l,(H.set b .dead++l)[p]?=some (.live 1 fl w [[.slr 1 b r q.length]]):=fun l=>by
   rw[ac4 (by simpa using hpl),abT hbp];exact hp
  have hg2:∀l c,(H.set b .dead++l).set p c=(H.set b .dead).set p c++l:=fun l c=>Zd (by simpa using hpl) l c
  (have hb:=trivial;with_reducible repeat' (first|simp only[hb,Va.down,seval,asS.down,hp,hA,hS,hrb,hB,hSb,hd,hl,h39,hg,hg2,cE,cK,aoV,adM]|refine Qs ?_ ?_<;>intro hb|refine fd ?_|fail))
  have hsl:((H.set b .dead).set p (CB.live 1 false true [[AV.slr 1 (H.length+1) 0 (q.length+1)]])).length=H.length:=by simp
  refine hK _ ?_
  rw[aF]
  refine fY (vs:=[]) (by simp only[Va.down,seval,asS.down]) ⟨rfl,.slr 1 (H.length+1) 0 (q.length+1),false,?_,.inr ⟨H.length+1,false,(q++[x]).map dC,0,by simp,?_,by omega,rfl,by simp⟩,⟨by simp,fun c hc hn=>?_⟩,fun c hc=>?_,fun hqq=>Ul (Um (Um hqq b rfl) p rfl) rfl,fun c hc=>by simp[aS]at hc;omega⟩
  ·rw[ac4 (by omega),adA (by simpa using hpl)]
  ·rw[ad8 (by omega),hsl,ai4];simp[dC]
  ·have n1:c≠p:=fun e=>hn (by rw[e];exact adD ..)
   have n2:c≠b:=fun e=>hn (by rw[e];simp[aS])
   rw[ac4 (by omega),abT (fun e=>n1 e.symm),abT (fun e=>n2 e.symm)]
  ·simp[aS]at hc;subst hc
   rw[ac4 (by omega),abT (fun e=>hbp e.symm),adA hbl]
theorem auM(b r k:Nat):slx Tryz.prog 50 (some (.slr 1 b r (k+1))) (some (some (.int .i64 1))) (some none)=some (.ret (.slr 1 b (r+1) k),[]):=by
 have hz:Ze Tryz.prog 3=some 1:=by kernel_rfl
 simp only[slx,Option.bind_some,iU,Tryz.underlying50,hz,Wl]
 simp[Wl,r1]
 omega
theorem aqD{H:Qa}{p:Nat}{fl w:Bool}{v:AV}(hp:H[p]?=some (.live 1 fl w [[v]]))(hQ:QS v [] H p):
 Uu.call (.sh 76) [.ptr p 0 0] H=some (.ret (.tup [.int .i64 0,.bool false]),H):=by
 rcases hQ with⟨rfl,_⟩|⟨b,w',rows,r,rfl,hrb,hbp,hd,hl⟩
 ·(refine csh Tryz.func76 ?_;simp only[Tryz.f76];(have hb:=trivial;with_reducible repeat' (first|simp only[hb,Va.down,seval,asC.down,hp]|refine Qs ?_ ?_<;>intro hb|refine fd ?_|fail)))
 ·simp only[ai5]at hp
  (refine csh Tryz.func76 ?_;simp only[Tryz.f76];(have hb:=trivial;with_reducible repeat' (first|simp only[hb,Va.down,seval,asC.down,hp]|refine Qs ?_ ?_<;>intro hb|refine fd ?_|fail)))
theorem apQ{H:Qa}{p:Nat}{fl w:Bool}{v:AV}{x:Nat}{q:List Nat}(hp:H[p]?=some (.live 1 fl w [[v]]))(hQ:QS v (x::q) H p)(hq:q.length≤100000000):
 yR Uu 76 [.ptr p 0 0] H fun o G=>o=.ret (.tup [.int .i64 (x:Int),.bool true])∧∃v' fl',G[p]?=some (.live 1 fl' true [[v']])∧QS v' q G p∧Xl [p] H G∧aS v'=aS v∧(Qq H=true→Qq G=true):=by
 have hpl:=Qp hp
 rcases hQ with⟨_,h⟩|⟨b,w',rows,r,rfl,hrb,hbp,hd,hl⟩
 ·cases h
 have hr0:rows[r]?=some [.int .i64 (x:Nat)]:=by
  have:=congrArg (·[0]?) hd
  simpa [dC]using this
 have hd2:rows.drop (r+1)=q.map dC:=by
  have:=congrArg (·.drop 1) hd
  simpa [List.drop_drop]using this
 simp only[aoW]at hl hp
 have h1:decide (((q.length+1:Nat):Int)=0)=false:=decide_eq_false (by omega)
 have h2:((((q.length+1:Nat):Int))==0)=false:=by simp;omega
 have h3:((0:Int)<((q.length+1:Nat):Int))=True:=eq_true (by omega)
 have h4:((1:Int)≤((q.length+1:Nat):Int))=True:=eq_true (by omega)
 refine ac9 rfl Tryz.func76 rfl rfl ?_
 simp only[Tryz.f76]
 refine Tz (fun KK iN hK=>?_)
 (have hb:=trivial;with_reducible repeat' (first|simp only[hb,Va.down,seval,asC.down,hp,hrb,hr0,h1,h2,h3,h4,auM]|refine Qs ?_ ?_<;>intro hb|refine fd ?_|fail))
 refine hK _ ?_
 rw[adE]
 refine fY (vs:=[.int .i64 (x:Int),.bool true]) (by simp only[Va.down,seval,asC.down]) ⟨rfl,.slr 1 b (r+1) q.length,false,adA hpl,.inr ⟨b,w',rows,r+1,rfl,?_,hbp,hd2,by omega⟩,⟨by simp,fun b' _ hn=>abT (fun e=>hn (by simp[e]))⟩,rfl,fun hqq=>Um hqq p rfl⟩
 rw[abT (fun e=>hbp e.symm)];exact hrb
theorem as4{H:Qa}{p:Nat}{fl w:Bool}{v:AV}{q:List Nat}(x:Nat)(hp:H[p]?=some (.live 1 fl w [[v]]))(hQ:QS v q H p)(hq:q.length≤100000000):
 yR Uu 79 [.ptr p 0 0,.int .i64 (x:Int)] H fun o G=>o=.ret (.tup [])∧∃v' fl',G[p]?=some (.live 1 fl' true [[v']])∧QS v' (x::q) G p∧Xl [p] H G∧(Qq H=true→Qq G=true)∧∀b∈aS v',H.length≤b:=by
 have hpl:=Qp hp
 have hA:=Qi hp
 have hS:=Zd hpl
 have keep:∀c l,Xl [p] H (H.set p c++l):=fun c l=>⟨by simp,fun b hb1 hn=>by rw[ac4 (by simpa using hb1),abT (fun e=>hn (by simp[e]))]⟩
 have hg:∀c l,(H.set p c++l)[p]?=some c:=fun c l=>by rw[ac4 (by simpa using hpl),adA hpl]
 refine ac9 rfl Tryz.func79 rfl rfl ?_
 simp only[Tryz.f79]
 refine Tz (fun KK iN hK=>?_)
 rcases hQ with⟨rfl,rfl⟩|⟨b,w',rows,r,rfl,hrb,hbp,hd,hl⟩
 ·(have hb:=trivial;with_reducible repeat' (first|simp only[hb,Va.down,seval,afZ.down,hp,hA,hS]|refine Qs ?_ ?_<;>intro hb|refine fd ?_|fail))
  refine hK _ ?_
  rw[aF]
  refine fY (vs:=[]) (by simp only[Va.down,seval,afZ.down]) ⟨rfl,_,_,hg _ _,.inr ⟨H.length,false,[dC x],0,rfl,?_,by omega,rfl,rfl⟩,keep _ _,fun hqq=>Ul (Um hqq p rfl) rfl,fun b hb1=>by simp[aS]at hb1;omega⟩
  rw[cE];rfl
 ·have hB:=Qi hrb
  cases q with
  |nil=>
   simp only[ai5]at hl hp hA
   have hrl:(r≤rows.length)=True:=eq_true (by omega)
   (have hb:=trivial;with_reducible repeat' (first|simp only[hb,Va.down,seval,afZ.down,hp,hA,hS,hrb,hB,hrl]|refine Qs ?_ ?_<;>intro hb|refine fd ?_|fail))
   refine hK _ ?_
   rw[aF]
   refine fY (vs:=[]) (by simp only[Va.down,seval,afZ.down]) ⟨rfl,_,_,hg _ _,.inr ⟨H.length,false,[dC x],0,rfl,?_,by omega,rfl,rfl⟩,keep _ _,fun hqq=>Ul (Um hqq p rfl) rfl,fun b hb1=>by simp[aS]at hb1;omega⟩
   rw[cE];rfl
  |cons y q=>
   have hq2:(1+(q.length+1)≤549755813888)=True:=eq_true (by simp at hq;omega)
   have hrl:(r+(q.length+1)≤rows.length)=True:=eq_true (by simp at hl;omega)
   have htk:ahS q.length (List.map dC q)=List.map dC q:=ao1 (by simp)
   (have hb:=trivial;with_reducible repeat' (first|simp only[hb,Va.down,seval,afZ.down,hp,hA,hS,hrb,hB,hd,hq2,hrl,htk,cE,cK,aoV,adM]|refine Qs ?_ ?_<;>intro hb|refine fd ?_|fail))
   refine hK _ ?_
   rw[aF]
   refine fY (vs:=[]) (by simp only[Va.down,seval,afZ.down]) ⟨rfl,_,_,hg _ _,.inr ⟨H.length+1,false,(x::y::q).map dC,0,by simp;omega,?_,by omega,rfl,by simp⟩,keep _ _,fun hqq=>Ul (Um hqq p rfl) rfl,fun b hb1=>by simp[aS]at hb1;omega⟩
   rw[cK];rfl
theorem bcJ(w:Qj)(d r:Int)(wf:Bool):Uu.call (.fn 77) [.ptr 0 0 0,.int .i64 r] [.live 4 false wf [[.int .i64 w.rooms,.int .i64 w.need,Rw 9 true w.nn (w.parts.map Qd.cells),.int .i64 d]]]=some (.ret (.func (.func 93) [] [.ptr 1 0 0,.ptr 2 0 0]),[.live 4 false wf [[.int .i64 w.rooms,.int .i64 w.need,Rw 9 true w.nn (w.parts.map Qd.cells),.int .i64 d]],.live 1 false false [[.ptr 0 0 0]],.live 1 true false [[.int .i64 r]]]):=by
 (refine ce Tryz.func77 ?_;simp only[Tryz.f77];(have hb:=trivial;with_reducible repeat' (first|simp only[hb,Vc.down,seval]|refine Qs ?_ ?_<;>intro hb|refine fd ?_|fail)))
theorem bdB{w:Qj}{N:Nat}(hw:xP w N){d r:Int}{y:AV}{lb rb kb:Nat}(bE:Nat→Qa→Prop)
 (hL:∀i h,bE i h→∃w1,h[lb]?=some (.live 1 false w1 [[.ptr kb 0 0]])) (hK:∀i h,bE i h→∃w2,h[kb]?=some (.live 4 false w2 [[.int .i64 w.rooms,.int .i64 w.need,Rw 9 true w.nn (w.parts.map Qd.cells),.int .i64 d]])) (hR:∀i h,bE i h→∃w3,h[rb]?=some (.live 1 true w3 [[.int .i64 r]]))
 (hA:∀i h fl wf (rows:List (List AV)),bE i h→bE i (h++[.live 9 fl wf rows]))
 (hS:∀(i:Nat) (p:Qd) (u:Int) h,w.parts[i]?=some p→((p.one=r∧u=p.other)∨(p.one≠r∧p.other=r∧u=p.one))→bE i h→∃es,cl Uu h (some y) (some [.int .i64 i,.int .i64 u])=some (.ret (.bool true),es)∧bE (i+1) (Rk h es))
 (hN:∀(i:Nat) (p:Qd) h,w.parts[i]?=some p→p.one≠r→p.other≠r→bE i h→bE (i+1) h)
 {h0:Qa} (h0I:bE 0 h0):yR Uu 93 [y,.ptr lb 0 0,.ptr rb 0 0] h0 fun o h'=>o=.ret (.tup [])∧bE w.parts.length h':=by
 obtain⟨w1,hl⟩:=hL _ _ h0I
 obtain⟨w2,hk0⟩:=hK _ _ h0I
 have hlen:=hw.len
 refine ac9 rfl Tryz.func93 rfl rfl ?_
 simp only[Tryz.f93]
 (have hb:=trivial;with_reducible repeat' (first|simp only[hb,Vc.down,seval,ag6.down,hl,hk0,adM]|refine Qs ?_ ?_<;>intro hb|refine fd ?_|fail))
 refine Xz (lst 41 w.parts (fun i (_:Unit) t h=>t 0=y∧t 1=.ptr lb 0 0∧t 2=.ptr rb 0 0∧t 11=Rw 9 true w.nn (w.parts.map Qd.cells)∧t 12=.int .i64 (w.parts.length:Nat)∧t 13=.int .i64 (i:Int)∧bE i h) (fun _ _=>()) (fun _ e t h=>e=.exit 0∧bE w.parts.length h) ?_ ?_ () _ _ ?_) (fun e t h hk=>?_)
 ·rintro _ t h Q' kQ ⟨g0,g1,g2,g11,g12,g13,hI⟩
  (have hb:=trivial;with_reducible repeat' (first|simp only[hb,Vc.down,seval,ag6.down,g12,g13,Int.lt_irrefl,decide_false]|refine Qs ?_ ?_<;>intro hb|refine fd ?_|fail))
  exact kQ _ _ _ ⟨rfl,hI⟩
 ·rintro p rest i _ t h J Q' kJ kQ hx hi ⟨g0,g1,g2,g11,g12,g13,hI⟩
  have hdd:decide ((i:Int)<(w.parts.length:Int))=true:=decide_eq_true (by omega)
  have hww:=To hi (by unfold maxLen;omega)
  have hpo:=hw.part p (ajT hx)
  obtain⟨w3,hr⟩:=hR _ _ hI
  have hr1:=Qi hr
  have hv1:=hA _ _ true true [p.cells] hI
  have c1:decide ((0:Int)≤p.other)=true:=decide_eq_true hpo.2.1.1
  have c2:decide ((0:Int)≤p.one)=true:=decide_eq_true hpo.1.1
  have c3:decide ((0:Int)≤ -1)=false:=rfl
  by_cases e1:p.one=r
  ·have q1:(r==p.one)=true:=by simp[e1]
   obtain⟨es,hes,hv2⟩:=hS i p p.other _ hx (.inl ⟨e1,rfl⟩) hv1
   simp only[Qd.cells]at hes hv2
   (have hb:=trivial;with_reducible repeat' (first|simp only[hb,Vc.down,seval,ag6.down,g0,g1,g2,g11,g12,g13,hdd,hww,hx,hr,hr1,q1,c1,hes,Qd.cells]|refine Qs ?_ ?_<;>intro hb|refine fd ?_|fail))
   exact Ru (kJ _ _ () ⟨by simp[up,g0],by simp[up,g1],by simp[up,g2],by simp[up,g11],by simp[up,g12],by simp[up],hv2⟩ rfl)
  ·have q1:(r==p.one)=false:=by simp;exact fun e=>e1 e.symm
   by_cases e2:p.other=r
   ·have q2:(r==p.other)=true:=by simp[e2]
    obtain⟨es,hes,hv2⟩:=hS i p p.one _ hx (.inr ⟨e1,e2,rfl⟩) hv1
    simp only[Qd.cells]at hes hv2
    (have hb:=trivial;with_reducible repeat' (first|simp only[hb,Vc.down,seval,ag6.down,g0,g1,g2,g11,g12,g13,hdd,hww,hx,hr,hr1,q1,q2,c2,hes,Qd.cells]|refine Qs ?_ ?_<;>intro hb|refine fd ?_|fail))
    exact Ru (kJ _ _ () ⟨by simp[up,g0],by simp[up,g1],by simp[up,g2],by simp[up,g11],by simp[up,g12],by simp[up],hv2⟩ rfl)
   ·have q2:(r==p.other)=false:=by simp;exact fun e=>e2 e.symm
    have hv2:=hN i p _ hx e1 e2 hv1
    simp only[Qd.cells]at hv2
    (have hb:=trivial;with_reducible repeat' (first|simp only[hb,Vc.down,seval,ag6.down,g0,g1,g2,g11,g12,g13,hdd,hww,hx,hr,hr1,q1,q2,c3,Qd.cells]|refine Qs ?_ ?_<;>intro hb|refine fd ?_|fail))
    exact Ru (kJ _ _ () ⟨by simp[up,g0],by simp[up,g1],by simp[up,g2],by simp[up,g11],by simp[up,g12],by simp[up],hv2⟩ rfl)
 ·exact⟨by simp[up,dU],by simp[up,dU],by simp[up,dU],by simp[up],by simp[up],by simp[up],h0I⟩
 obtain⟨rfl,hI⟩:=hk
 (have hb:=trivial;with_reducible repeat' (first|simp only[hb,Vc.down,seval,ag6.down]|refine Qs ?_ ?_<;>intro hb|refine fd ?_|fail))
 exact hI
theorem QS.cln{v:AV}{q:List Nat}{H:Qa}{p:Nat}(h:QS v q H p):QS v q (Wm H) p:=by
 rcases h with h|⟨b,w,rows,r,h1,h2,h3,h4,h5⟩
 ·exact .inl h
 ·exact .inr ⟨b,false,rows,r,h1,Ut h2,h3,h4,h5⟩
theorem QS.lt{v:AV}{q:List Nat}{H:Qa}{p:Nat}(h:QS v q H p):∀b∈aS v,b<H.length∧∃w rows,H[b]?=some (.live 1 true w rows):=by
 rcases h with⟨rfl,_⟩|⟨b,w,rows,r,rfl,h2,_⟩
 ·intro b hb1;simp[aS]at hb1
 ·intro b' hb1;simp[aS]at hb1;subst hb1;exact⟨Qp h2,w,rows,h2⟩
theorem atI{h:Qa}(hq:Qq h=true){p:Nat}{fl w:Bool}{v:AV}{q:List Nat}(x:Nat)(hp:h[p]?=some (.live 1 fl w [[v]]))(hQ:QS v q h p)(hl:q.length≤100000000):
 ∃es M,cl Uu h (some (.func (.func 75) [] [])) (some [.ptr p 0 0,.int .i64 (x:Int)])=some (.ret (.tup []),es)∧Rk h es=M∧h.length≤M.length∧Qq M=true∧(∃v' fl',M[p]?=some (.live 1 fl' true [[v']])∧QS v' (q++[x]) M p∧∀b∈aS v',h.length≤b)∧(∀b c,b∉p::aS v→h[b]?=some c→M[b]?=some c)∧∀b∈aS v,M[b]?=some .dead:=by
 have hX:∀G:Qa,(∃f row,G[p]?=some (.live 1 f true row))→(∀b∈aS v,G[b]?=some .dead)→∀b∈p::aS v,b<h.length∧∀c0 c,h[b]?=some c0→G[b]?=some c→c0.isLive=true∧c0.quiet c=false:=fun G g1 g2 b hb1=>by
  rcases acG.1 hb1 with rfl|hb1
  ·obtain⟨f,row,g1⟩:=g1
   refine⟨Qp hp,fun c0 c k1 k2=>?_⟩
   rw[hp]at k1;rw[g1]at k2;cases k1;cases k2;exact⟨rfl,rfl⟩
  ·obtain⟨h1,w',rows,h2⟩:=hQ.lt b hb1
   refine⟨h1,fun c0 c k1 k2=>?_⟩
   rw[h2]at k1;rw[g2 b hb1]at k2;cases k1;cases k2;exact⟨rfl,rfl⟩
 obtain⟨o,G,es,e1,e2,rfl,v',fl',k1,k2,K,k4,k5,k6⟩:=wV rfl rfl (amJ x (Ut hp) hQ.cln hl) (fun o G hQ=>by
  obtain⟨_,v',fl',k1,k2,K,k4,_⟩:=hQ
  exact(Xn hq K (hX G ⟨_,_,k1⟩ k4)).1)
 have X:=hX G ⟨_,_,k1⟩ k4
 obtain⟨_,m1,m2,m3,m4⟩:=Xn hq K X
 rw[Rx]at k6
 have hle:h.length≤G.length:=by have:=K.len;rwa[Rx]at this
 refine⟨es,_,e1,e2,by rw[m1];exact hle,gA hq K X (k5 (bX hq)),⟨v',fl',m4 p (adD ..) _ k1,?_,k6⟩,fun b c hn hc=>by rw[m3 b (Qp hc) hn];exact hc,fun b hb=>m4 b (anI _ hb) _ (k4 b hb)⟩
 rcases k2 with h1|⟨b,w',rows,r,h1,h2,h3,h4,h5⟩
 ·exact .inl h1
 ·exact .inr ⟨b,w',rows,r,h1,by rw[m2 b (k6 b (by rw[h1];simp[aS]))];exact h2,h3,h4,h5⟩
theorem afF{h:Qa}{p:Nat}{fl w:Bool}{v:AV}(hp:h[p]?=some (.live 1 fl w [[v]]))(G:Qa)(g1:∃f row,G[p]?=some (.live 1 f true row)):∀b∈[p],b<h.length∧∀c0 c,h[b]?=some c0→G[b]?=some c→c0.isLive=true∧c0.quiet c=false:=fun b hb1=>by
 simp at hb1;subst hb1
 obtain⟨f,row,g1⟩:=g1
 refine⟨Qp hp,fun c0 c k1 k2=>?_⟩
 rw[hp]at k1;rw[g1]at k2;cases k1;cases k2;exact⟨rfl,rfl⟩
theorem aAI{h:Qa}(hq:Qq h=true){p:Nat}{fl w:Bool}{v:AV}{q:List Nat}(x:Nat)(hp:h[p]?=some (.live 1 fl w [[v]]))(hQ:QS v q h p)(hl:q.length≤100000000):
 ∃es M,cl Uu h (some (.func (.func 79) [] [])) (some [.ptr p 0 0,.int .i64 (x:Int)])=some (.ret (.tup []),es)∧Rk h es=M∧h.length≤M.length∧Qq M=true∧(∃v' fl',M[p]?=some (.live 1 fl' true [[v']])∧QS v' (x::q) M p∧∀b∈aS v',h.length≤b)∧∀b c,b≠p→h[b]?=some c→M[b]?=some c:=by
 obtain⟨o,G,es,e1,e2,rfl,v',fl',k1,k2,K,k5,k6⟩:=wV rfl rfl (as4 x (Ut hp) hQ.cln hl) (fun o G hQ=>by
  obtain⟨_,v',fl',k1,k2,K,_⟩:=hQ
  exact(Xn hq K (afF hp G ⟨_,_,k1⟩)).1)
 have X:=afF hp G ⟨_,_,k1⟩
 obtain⟨_,m1,m2,m3,m4⟩:=Xn hq K X
 rw[Rx]at k6
 have hle:h.length≤G.length:=by have:=K.len;rwa[Rx]at this
 refine⟨es,_,e1,e2,by rw[m1];exact hle,gA hq K X (k5 (bX hq)),⟨v',fl',m4 p (adD ..) _ k1,?_,k6⟩,fun b c hn hc=>by rw[m3 b (Qp hc) (by simpa using hn)];exact hc⟩
 rcases k2 with h1|⟨b,w',rows,r,h1,h2,h3,h4,h5⟩
 ·exact .inl h1
 ·exact .inr ⟨b,w',rows,r,h1,by rw[m2 b (k6 b (by rw[h1];simp[aS]))];exact h2,h3,h4,h5⟩
theorem aY9{h:Qa}(hq:Qq h=true){p:Nat}{fl w:Bool}{v:AV}(hp:h[p]?=some (.live 1 fl w [[v]]))(hQ:QS v [] h p):
 cl Uu h (some (.func (.func 76) [] [])) (some [.ptr p 0 0])=some (.ret (.tup [.int .i64 0,.bool false]),[]):=
 aqF rfl rfl (aqD (Ut hp) hQ.cln) hq
theorem atS{h:Qa}(hq:Qq h=true){p:Nat}{fl w:Bool}{v:AV}{x:Nat}{q:List Nat}(hp:h[p]?=some (.live 1 fl w [[v]]))(hQ:QS v (x::q) h p)(hl:q.length≤100000000):
 ∃es M,cl Uu h (some (.func (.func 76) [] [])) (some [.ptr p 0 0])=some (.ret (.tup [.int .i64 (x:Int),.bool true]),es)∧Rk h es=M∧h.length≤M.length∧Qq M=true∧(∃v' fl',M[p]?=some (.live 1 fl' true [[v']])∧QS v' q M p∧aS v'=aS v)∧∀b c,b≠p→h[b]?=some c→M[b]?=some c:=by
 obtain⟨o,G,es,e1,e2,rfl,v',fl',k1,k2,K,k4,k5⟩:=wV rfl rfl (apQ (Ut hp) hQ.cln hl) (fun o G hQ=>by
  obtain⟨_,v',fl',k1,k2,K,_⟩:=hQ
  exact(Xn hq K (afF hp G ⟨_,_,k1⟩)).1)
 have X:=afF hp G ⟨_,_,k1⟩
 obtain⟨_,m1,m2,m3,m4⟩:=Xn hq K X
 have hle:h.length≤G.length:=by have:=K.len;rwa[Rx]at this
 have same:∀b c,b≠p→h[b]?=some c→(Zt h G)[b]?=some c:=fun b c hn hc=>by rw[m3 b (Qp hc) (by simpa using hn)];exact hc
 refine⟨es,_,e1,e2,by rw[m1];exact hle,gA hq K X (k5 (bX hq)),⟨v',fl',m4 p (adD ..) _ k1,?_,k4⟩,same⟩
 rcases k2 with h1|⟨b,w',rows,r,h1,h2,h3,h4,h5⟩
 ·exact .inl h1
 ·have hbv:b∈aS v:=by rw[←k4,h1];simp[aS]
  obtain⟨_,w0,rows0,hh⟩:=hQ.lt b hbv
  have hr:(hf (Zt h G) b).bind Rl=(hf G b).bind Rl:=aiB hq K X b
  have hM:=same b _ h3 hh
  have e3:rows0=rows:=by
   have a1:((Zt h G)[b]?).bind Rl=(G[b]?).bind Rl:=hr
   rw[hM,h2]at a1
   simp[Rl]at a1;exact a1
  subst e3
  exact .inr ⟨b,w0,rows0,r,h1,hM,h3,h4,h5⟩
theorem ao5{vs:List AV}{b:Nat}{h:Qa}{ps:List Nat}{asg body:Code}{tm:List AV}{st:Xr}{Q:Tj→Qa→Prop}(hb:h[b]?=some (.lp ps asg body tm st))(hl:ps.length=vs.length)
 (he:RnE b Q (ajM Uu Tryz.prog b body (Rj Uu Tryz.prog 5000 asg [] ⟨Zv tm ps vs,h⟩))):RnQ Uu (vs++[.yl b]) h Q:=RnQ.start (pr:=pr) hb hl he
theorem arM{O:Ud}{H:Qa}{b:Nat}{vs:List AV}{Q:Tj→Qa→Prop}(K:RnQ O (vs++[.yl b]) (Wm H) Q)(ok:∀o G,Q o G→zA H G):
 ∃o G es,cl O H (some (.yl b)) (some vs)=some (o,es)∧Rk H es=Zt H G∧Q o G:=by
 obtain⟨o,G,hc,hq⟩:=K
 obtain⟨es,e1,e2⟩:=fZ H G [] (ok o G hq)
 refine⟨o,G,es,?_,by simpa using e2,hq⟩
 rw[aY7,hc,pL]
 have e1':Rf 0 H G=some es:=e1
 rw[e1'];rfl
def Wn:Nat:=1048576
def DiH(LK:CB)(e:Bool)(ps:List AV)(N:Nat)(h:Qa)(dd q K:List Nat):Prop:=∃f v fl w,
 h[0]?=some LK∧h[1]?=some (.live 24 true false [ps])∧h[2]?=some (.live 1 true f (dd.map dC))∧h[3]?=some (.live 1 false e [[.slr 1 2 0 N]])∧h[5]?=some (.live 1 false e [[.ptr 4 0 0]])∧h[4]?=some (.live 1 fl w [[v]])∧QS v q h 4∧(∀b∈aS v,6≤b∧b∉K)∧Qq h=true
theorem DiH.app{LK:CB}{e:Bool}{ps:List AV}{N:Nat}{h:Qa}{dd q K:List Nat}(D:DiH LK e ps N h dd q K){L:Qa}(hL:Qq L=true):DiH LK e ps N (h++L) dd q K:=by
 obtain⟨f,v,fl,w',i0,i1,i2,i3,i5,i4,iQ,iB,iq⟩:=D
 refine⟨f,v,fl,w',Qi i0 L,Qi i1 L,Qi i2 L,Qi i3 L,Qi i5 L,Qi i4 L,?_,iB,Ul iq hL⟩
 rcases iQ with h|⟨b,w',rows,r,h1,h2,h3⟩
 ·exact .inl h
 ·exact .inr ⟨b,w',rows,r,h1,Qi h2 _,h3⟩
def eB(H G:Qa):Prop:=H.length≤G.length∧∀(b:Nat) (c0 c:CB),H[b]?=some c0→G[b]?=some c→(c0.quiet c=true∧c0.clean=c.clean)∨(c0.isLive=true∧((∃st fl rows,c=.live st fl true rows)∨c=.dead))
theorem oW{c0 c:CB}(h:c0.isLive=true)(hc:(∃st fl rows,c=.live st fl true rows)∨c=.dead):c0.quiet c=false:=by
 rcases hc with⟨_,_,_,rfl⟩|rfl<;>cases c0<;>first|rfl|(simp[CB.isLive]at h;done)|(simp[CB.quiet,CB.same];done)
theorem eB.sh{H G:Qa}(k:eB H G):zA H G:=⟨k.1,fun b c0 c h0 h1=>(k.2 b c0 c h0 h1).imp (fun h=>h.1) (fun h=>h.1)⟩
theorem abW{c0 c1:CB}(h:c0.clean=c1.clean)(h1:c1.isLive=true):c0.isLive=true:=by cases c0<;>cases c1<;>first|rfl|(simp[CB.clean]at h;done)|cases h1
theorem sB(c:CB):c.clean.clean=c.clean:=by cases c<;>rfl
theorem eB.app{H G:Qa}(k:eB H G)(l:Qa):eB H (G++l):=⟨by simp;have:=k.1;omega,fun b c0 c h0 h1=>k.2 b c0 c h0 (by
 have:=Qp h0
 have:=k.1
 rw[ac4 (by omega)]at h1;exact h1)⟩
theorem eB.cl{H:Qa}(h:Qq H=true):eB H (Wm H):=⟨by rw[Rx];exact ahF _,fun b c0 c h0 h1=>by
 rw[Ut h0]at h1;cases h1
 exact .inl ⟨Vr h h0,(sB c0).symm⟩⟩
theorem eB.keep{H G:Qa}{X:List Nat}(h:Qq H=true)(K:Xl X (Wm H) G)(hX:∀b∈X,∃c0 c,H[b]?=some c0∧G[b]?=some c∧c0.isLive=true∧((∃st fl rows,c=.live st fl true rows)∨c=.dead)):eB H G:=⟨by have:=K.len;rwa[Rx]at this,fun b c0 c h0 h1=>by
 by_cases hb:b∈X
 ·obtain⟨d0,d,e0,e1,e2⟩:=hX b hb
  rw[h0]at e0;rw[h1]at e1;cases e0;cases e1
  exact .inr e2
 ·rw[K.same b (by rw[Rx];exact Qp h0) hb,Ut h0]at h1;cases h1
  exact .inl ⟨Vr h h0,(sB c0).symm⟩⟩
theorem eB.mrg_clean{H G:Qa}(k:eB H G){b:Nat}{c:CB}(hc:G[b]?=some c):∃c',(Zt H G)[b]?=some c'∧c'.clean=c.clean:=by
 by_cases hb:b<H.length
 ·have h0:H[b]?=some H[b]:=adP hb
  rcases k.2 b _ c h0 hc with⟨h1,h2⟩|⟨h1,h2⟩
  ·exact⟨_,Zh h0 hc h1,h2⟩
  ·refine⟨_,fU h0 hc (oW h1 h2),?_⟩
   rcases h2 with⟨_,_,_,rfl⟩|rfl<;>rfl
 ·exact⟨c,by rw[kA k.1 (by omega)];exact hc,rfl⟩
theorem eB.trans{H h' G:Qa}(k:eB H h')(k':eB h' G):eB H (Zt h' G):=by
 refine⟨by rw[dL k'.1];exact Nat.le_trans k.1 k'.1,fun b c0 c h0 h1=>?_⟩
 have hb:=Qp h0
 have e1:h'[b]?=some (h'[b]'(by have:=k.1;omega)):=adP _
 have e2:G[b]?=some (G[b]'(by have:=k.1;have:=k'.1;omega)):=adP _
 generalize h'[b]'(by have:=k.1;omega)=c1 at *
 generalize G[b]'(by have:=k.1;have:=k'.1;omega)=c2 at *
 rcases k'.2 b _ _ e1 e2 with⟨g1,g2⟩|⟨g1,g2⟩
 ·rw[Zh e1 e2 g1]at h1;cases h1
  exact k.2 b _ _ h0 e1
 ·rw[fU e1 e2 (oW g1 g2)]at h1
  have:c2.mark=c2:=by rcases g2 with⟨_,_,_,rfl⟩|rfl<;>rfl
  rw[this]at h1;cases h1
  refine .inr ⟨?_,g2⟩
  rcases k.2 b _ _ h0 e1 with⟨_,h⟩|⟨h,_⟩
  ·exact abW h g1
  ·exact h
theorem eB.old{H G:Qa}{b:Nat}{c0 c:CB}(h0:H[b]?=some c0)(h1:G[b]?=some c)(hq:c0.quiet c=true):(Zt H G)[b]?=some c0:=Zh h0 h1 hq
theorem ajS{c:CB}{st:Nat}{fl w:Bool}{rows:List (List AV)}(h:c.clean=(CB.live st fl w rows).clean):∃w',c=.live st fl w' rows:=by
 cases c<;>simp[CB.clean]at h
 obtain⟨rfl,rfl,rfl⟩:=h
 exact⟨_,rfl⟩
theorem eB.live{H G:Qa}(k:eB H G){b st:Nat}{fl w:Bool}{rows:List (List AV)}(hc:G[b]?=some (.live st fl w rows)):∃w',(Zt H G)[b]?=some (.live st fl w' rows):=by
 obtain⟨c',h1,h2⟩:=k.mrg_clean hc
 obtain⟨w',rfl⟩:=ajS h2
 exact⟨w',h1⟩
theorem QS.okw{H G:Qa}(k:eB H G){v:AV}{q:List Nat}{p:Nat}(h:QS v q G p):QS v q (Zt H G) p:=by
 rcases h with h|⟨b,w,rows,r,h1,h2,h3,h4,h5⟩
 ·exact .inl h
 ·obtain⟨w',h6⟩:=k.live h2
  exact .inr ⟨b,w',rows,r,h1,h6,h3,h4,h5⟩
theorem eB.quiet{H G:Qa}(k:eB H G)(h:Qq H=true)(h':Qq G=true):Qq (Zt H G)=true:=by
 refine iV fun c hc=>?_
 obtain⟨b,hb⟩:=List.getElem?_of_mem hc
 have hbl:=Qp hb
 rw[dL k.1]at hbl
 have e2:G[b]?=some G[b]:=adP hbl
 generalize G[b]=c2 at *
 by_cases hl:b<H.length
 ·have e1:H[b]?=some H[b]:=adP hl
  generalize H[b]=c1 at *
  rcases k.2 b _ _ e1 e2 with⟨g1,g2⟩|⟨g1,g2⟩
  ·rw[Zh e1 e2 g1]at hb;cases hb;exact Vr h e1
  ·rw[fU e1 e2 (oW g1 g2)]at hb;cases hb;exact rS (Vr h' e2)
 ·rw[kA k.1 (by omega),e2]at hb;cases hb;exact Vr h' e2
theorem akC{LK:CB}{e:Bool}{ps:List AV}{N:Nat}{h':Qa}{dd q K:List Nat}{f:Bool}{v:AV}{fl w:Bool}(i0:h'[0]?=some LK)(i1:h'[1]?=some (.live 24 true false [ps]))(i2:h'[2]?=some (.live 1 true f (dd.map dC)))(i3:h'[3]?=some (.live 1 false e [[.slr 1 2 0 N]]))(i5:h'[5]?=some (.live 1 false e [[.ptr 4 0 0]]))(i4:h'[4]?=some (.live 1 fl w [[v]]))(iQ:QS v q h' 4)(iB:∀b∈aS v,6≤b∧b∉K)(iq:Qq h'=true)
 {B:Nat} {LP LB:CB} (hB:h'[B]?=some LP) (hBK:B∈K) (hK:∀b∈K,6≤b∧b<h'.length) (hLPc:LP.clean=LP) (hLPq:LP.quiet LP=true) {M:Qa} {Y dd2 q2:List Nat} {v2:AV} {fl2:Bool} (m1:h'.length≤M.length) (m2:Qq M=true) (m3:M[4]?=some (.live 1 fl2 true [[v2]])) (m4:QS v2 q2 M 4) (m5:∀b∈aS v2,h'.length≤b)
 (m6:∀b c,b∉Y→(((Wm h').set B LB).set 2 (.live 1 true true (dd2.map dC)))[b]?=some c→M[b]?=some c) (hY:4∈Y) (hY':∀b∈Y,b=4∨(b∈aS v∧M[b]?=some .dead)):
 eB h' (M.set B LP)∧DiH LK e ps N (Zt h' (M.set B LP)) dd2 q2 K∧(∀b∈K,(Zt h' (M.set B LP))[b]?=h'[b]?)∧h'.length≤(Zt h' (M.set B LP)).length:=by
 have hBl:=Qp hB
 have hB6:=(hK B hBK).1
 have h4l:=Qp i4
 have hY6:∀b∈Y,b=4∨(6≤b∧b∉K):=fun b hb1=>(hY' b hb1).imp id (fun h=>iB b h.1)
 have h2Y:2∉Y:=fun h=>by rcases hY6 2 h with h|h<;>omega
 have hKY:∀b∈K,b∉2::Y:=fun b hb1 h=>by
  have:=(hK b hb1).1
  rcases acG.1 h with h|h
  ·omega
  ·rcases hY6 b h with h|h
   ·omega
   ·exact h.2 hb1
 have hg2:M[2]?=some (.live 1 true true (dd2.map dC)):=m6 2 _ h2Y (adA (by simp[Rx];omega))
 have hK2:Xl (2::Y) (Wm h') (M.set B LP):=⟨by simpa [Rx]using m1,fun b hb1 hn=>by
  rw[Rx]at hb1
  obtain⟨c,hc⟩:∃c,h'[b]?=some c:=⟨_,adP hb1⟩
  by_cases e:b=B
  ·subst e
   rw[adA (by omega),Ut hB,hLPc]
  ·rw[abT (fun h=>e h.symm)]
   have:=m6 b c.clean (fun h=>hn (anI _ h)) (by
    rw[abT (fun h=>hn (by rw[←h];exact adD ..)),abT (fun h=>e h.symm)];exact Ut hc)
   rw[this,Ut hc]⟩
 have hne:∀b,b≠B→(M.set B LP)[b]?=M[b]?:=fun b h=>abT (fun e=>h e.symm)
 have X:∀b∈2::Y,∃c0 c,h'[b]?=some c0∧(M.set B LP)[b]?=some c∧c0.isLive=true∧((∃st fl rows,c=.live st fl true rows)∨c=.dead):=fun b hb1=>by
  rcases acG.1 hb1 with rfl|hb1
  ·exact⟨_,_,i2,by rw[hne 2 (by omega)];exact hg2,rfl,.inl ⟨_,_,_,rfl⟩⟩
  ·rcases hY' b hb1 with rfl|⟨h1,h2⟩
   ·exact⟨_,_,i4,by rw[hne 4 (by omega)];exact m3,rfl,.inl ⟨_,_,_,rfl⟩⟩
   ·obtain⟨h3,w',rows,h5⟩:=iQ.lt b h1
    exact⟨_,_,h5,by rw[hne b (fun e=>(iB b h1).2 (e▸hBK))];exact h2,rfl,.inr rfl⟩
 have ok:=eB.keep iq hK2 X
 have X':∀b∈2::Y,b<h'.length∧∀c0 c,h'[b]?=some c0→(M.set B LP)[b]?=some c→c0.isLive=true∧c0.quiet c=false:=fun b hb1=>by
  obtain⟨c0,c,h1,h2,h3,h4⟩:=X b hb1
  refine⟨Qp h1,fun d0 d k1 k2=>?_⟩
  rw[h1]at k1;rw[h2]at k2;cases k1;cases k2
  exact⟨h3,oW h3 h4⟩
 obtain⟨g1,g2,g3,g4,g5⟩:=Xn iq hK2 X'
 have low:∀b,b<6→b≠2→b≠4→(Zt h' (M.set B LP))[b]?=h'[b]?:=fun b h1 h2 h3=>g4 b (by have:=Qp i5;omega) fun h=>by
  rcases acG.1 h with h|h
  ·exact h2 h
  ·rcases hY6 b h with h|h<;>omega
 refine⟨ok,⟨true,v2,fl2,true,by rw[low 0 (by omega) (by omega) (by omega)];exact i0,by rw[low 1 (by omega) (by omega) (by omega)];exact i1,?_,by rw[low 3 (by omega) (by omega) (by omega)];exact i3,by rw[low 5 (by omega) (by omega) (by omega)];exact i5,?_,?_,fun b hb1=>?_,?_⟩,fun b hb1=>g4 b (hK b hb1).2 (hKY b hb1),by rw[g2];simpa using m1⟩
 ·exact g5 2 (adD ..) _ (by rw[hne 2 (by omega)];exact hg2)
 ·exact g5 4 (anI _ hY) _ (by rw[hne 4 (by omega)];exact m3)
 ·rcases m4 with h|⟨b,w',rows,r,h1,h2,h3⟩
  ·exact .inl h
  ·have hb1:=m5 b (by rw[h1];simp[aS])
   exact .inr ⟨b,w',rows,r,h1,by rw[g3 b hb1,hne b (by omega)];exact h2,h3⟩
 ·have h1:=m5 b hb1
  exact⟨by omega,fun h=>by have:=(hK b h).2;omega⟩
 ·exact gA iq hK2 X' (Um m2 B (by rw[hLPc];exact hLPq))
theorem arI{h' l:Qa}(hq:Qq h'=true):eB h' (Wm h'++l)∧Zt h' (Wm h'++l)=h'++l:=by
 have K:Xl [] (Wm h') (Wm h'++l):=Xl.app _ _
 have X:∀b∈([]:List Nat),b<h'.length∧∀c0 c,h'[b]?=some c0→(Wm h'++l)[b]?=some c→c0.isLive=true∧c0.quiet c=false:=fun b hb1=>by cases hb1
 obtain⟨g1,g2,g3,g4,_⟩:=Xn hq K X
 refine⟨(eB.cl hq).app l,apA fun b=>?_⟩
 by_cases hb1:b<h'.length
 ·rw[g4 b hb1 (by simp),ac4 hb1]
 ·rw[g3 b (by omega),ad8 (by simp[Rx];omega),ad8 (by omega),Rx]
theorem aqP:Qe .nilp=[.nilp]:=Eq.trans rfl rfl
theorem asH(n x:Nat):(abV n x).sum=n*x:=by
 induction n with
 |zero=>simp
 |succ n ih=>rw[apU,List.sum_cons,ih,Nat.succ_mul];omega
theorem abN:∀(l:List Nat) (s:Nat),(l.set s 0).sum≤l.sum
 | [],s=>by simp
 |a::l,0=>by simp
 |a::l,s+1=>by have:=abN l s;simp;omega
theorem amS{N s far:Nat}(h:N≤8):(Zl N s far).sum≤8*far:=by
 unfold Zl
 refine Nat.le_trans (abN _ _) ?_
 rw[asH]
 exact Nat.mul_le_mul_right _ h
def yS(x:Int × Bool):Bool:=x.1==0&& !x.2
def tgt(L:List (Int × Bool)):List Bool:=L.map yS
theorem ajL{w:Qj}{L:List (Int × Bool)}{i:Nat}{p:Qd}{x:Int × Bool}(hp:w.parts[i]?=some p)(hx:L[i]?=some x):(xO w (tgt L))[i]?=some (p.one.toNat,p.other.toNat,if yS x=true then 1 else 0):=by
 unfold xO tgt
 rw[List.getElem?_zipWith,ah9,hp,hx];rfl
theorem ad6{w:Qj}{d:Int}:xO w (tgt (Qh w d))=xO w (adJ w d):=by
 have e:∀(l:List Qd) (r:List Bool) (f:Qd→Bool→Net.Edge),List.zipWith f l (l.map (fun p=>adZ p d)++r)=List.zipWith f l (l.map fun p=>adZ p d):=by
  intro l;induction l with
  |nil=>intro r f;simp
  |cons a l ih=>intro r f;simp[ih]
 unfold xO tgt Qh adJ
 rw[aqT,List.map_map]
 exact e _ _ _
theorem QS.app{v:AV}{q:List Nat}{H:Qa}{p:Nat}(h:QS v q H p)(l:Qa):QS v q (H++l) p:=by
 rcases h with h|⟨b,w,rows,r,h1,h2,h3⟩
 ·exact .inl h
 ·exact .inr ⟨b,w,rows,r,h1,Qi h2 l,h3⟩
theorem anC{h:Qa}{b:Nat}{c:CB}(hc:h[b]?=some c):h.set b c=h:=by
 refine apA fun i=>?_
 by_cases e:b=i
 ·subst e;rw[adA (Qp hc),hc]
 ·rw[abT e]
theorem lV:∀(L:List (Int × Bool)) (i:Nat) (a:Int) (b:Bool),L[i]?=some (a,b)→ahS 2 (List.drop (i*2) (Sm L))=[.int .i64 a,.bool b]
 | [],i,a,b,h=>by simp at h
 |x::L,0,a,b,h=>by simp at h;subst h;simp[Sm]
 |x::L,i+1,a,b,h=>by
  have ih:=lV L i a b (by simpa using h)
  rw[show(i+1)*2=(i*2)+1+1 by omega]
  simpa only[Sm,List.flatMap_cons,List.cons_append,aoP,List.drop_succ_cons]using ih
theorem aiD{w:Qj}{d:Int}{i:Nat}{p:Qd}(hx:w.parts[i]?=some p):(Qh w d)[i]?=some (Xq p d,p.opn):=by
 unfold Qh
 rw[ac4 (by rw[adM];exact(aoQ.1 hx).1),ah9,hx];rfl
def no3:Nat→Nat→Nat→Prop:=fun _ _ _=>False
theorem yD{w:Qj}{N:Nat}(hw:xP w N)(h12:w.parts.length≤12){d:Int}{s:Nat}(hs:s<N){ps:List AV}{L:List (Int × Bool)}(hL12:L.length=12)(hps:ps=Sm L){wf:Bool}:
 ClQ Uu 58 [.ptr 0 0 0,.int .i64 (s:Int),.agg ps] [.live 4 false wf [[.int .i64 w.rooms,.int .i64 w.need,Rw 9 true w.nn (w.parts.map Qd.cells),.int .i64 d]]] fun o h'=>
  ∃(f:Bool) (ds:List Nat),o=.ret (.slr 1 1 0 N)∧h'=[.live 4 false wf [[.int .i64 w.rooms,.int .i64 w.need,Rw 9 true w.nn (w.parts.map Qd.cells),.int .i64 d]],.live 1 true f (ds.map dC)]∧ds.length=N∧fE (xO w (tgt L)) s N Wn (fun v=>ds.getD v 0):=by
 have hr:=hw.rooms
 have n2:=hw.n2
 have n8:=hw.n8
 have hpl:ps.length=24:=by rw[hps,Rh];omega
 have hflat:ps.all AV.flat=true∧ps.all AV.isCell=true:=by
  subst hps
  have hform:∀x∈Sm L,(∃n,x=.int .i64 n)∨∃b,x=.bool b:=fun x hx=>by
   simp only[Sm,aq9,acG,agF,or_false]at hx
   obtain⟨y,_,rfl|rfl⟩:=hx
   ·exact .inl ⟨_,rfl⟩
   ·exact .inr ⟨_,rfl⟩
  exact⟨aiF.2 fun x hx=>by rcases hform x hx with⟨n,rfl⟩|⟨b,rfl⟩<;>rfl,aiF.2 fun x hx=>by rcases hform x hx with⟨n,rfl⟩|⟨b,rfl⟩<;>rfl⟩
 obtain⟨hf1,hf2⟩:=hflat
 refine a8L rfl Tryz.func58 rfl rfl ?_
 simp only[Tryz.f58]
 simp only[hr]
 have h39:(N≤549755813888)=True:=eq_true (by omega)
 have m1:((N:Int)≤(N:Int))=True:=eq_true (Int.le_refl _)
 have m2:((N:Int)≤1099511627776)=True:=eq_true (by omega)
 (have hb:=trivial;with_reducible repeat' (first|simp only[hb,Vc.down,seval,dZ.down,hpl,hf1,hf2,h39,m1,m2,asT]|refine Qs ?_ ?_<;>intro hb|refine fd ?_|fail))
 generalize hLK:(CB.live 4 false wf [[.int .i64 (N:Int),.int .i64 w.need,Rw 9 true w.nn (w.parts.map Qd.cells),.int .i64 d]])=LK
 refine Xz (lst 85 (abV N ()) (fun i (_:Unit) t h=>t 0=.ptr 0 0 0∧t 1=.int .i64 (s:Int)∧t 5=.ptr 1 0 0∧t 7=.ptr 3 0 0∧t 23=.int .i64 (N:Int)∧t 24=.int .i64 (i:Int)∧∃f,h=[LK,.live 24 true false [ps],.live 1 true f ((abV i Wn++abV (N-i) 0).map dC),.live 1 false true [[.slr 1 2 0 N]]]) (fun _ _=>())
  (fun _ e t h=>e=.exit 0∧t 0=.ptr 0 0 0∧t 1=.int .i64 (s:Int)∧t 5=.ptr 1 0 0∧t 7=.ptr 3 0 0∧∃f,h=[LK,.live 24 true false [ps],.live 1 true f ((abV N Wn).map dC),.live 1 false true [[.slr 1 2 0 N]]]) ?_ ?_ () _ _ ?_) (fun e t h hk=>?_)
 ·rintro _ t h Q' kQ ⟨g0,g1,g5,g7,g23,g24,f,rfl⟩
  rw[ai3]at g24
  (have hb:=trivial;with_reducible repeat' (first|simp only[hb,Vc.down,seval,dZ.down,g23,g24,Int.lt_irrefl,decide_false]|refine Qs ?_ ?_<;>intro hb|refine fd ?_|fail))
  exact kQ _ _ _ ⟨rfl,by simp[up,g0],by simp[up,g1],by simp[up,g5],by simp[up,g7],f,by simp⟩
 ·rintro x rest i _ t h J Q' kJ kQ hx hi ⟨g0,g1,g5,g7,g23,g24,f,rfl⟩
  rw[ai3]at hi
  have hdd:decide ((i:Int)<(N:Int))=true:=decide_eq_true (by omega)
  have hdi:((i:Int)<(N:Int))=True:=eq_true (by omega)
  have hww:=To (n:=N) hi (by unfold maxLen;omega)
  have hrow:((abV i Wn++abV (N-i) 0).map dC)[i]?=some [.int .i64 0]:=by
   rw[ah9,ad8 (by simp),ai3,aoR,as3,if_pos (by omega)]
   rfl
  have hnx:((abV i Wn++abV (N-i) 0).map dC).set i [.int .i64 1048576]=(abV (i+1) Wn++abV (N-(i+1)) 0).map dC:=by
   have e:N-i=(N-(i+1))+1:=by omega
   rw[show([.int .i64 1048576]:List AV)=dC Wn from rfl,←aoS,List.set_append_right _ _ (by simp),ai3,aoR,e,apU,List.set_cons_zero,List.replicate_succ',List.append_assoc]
   rfl
  generalize(abV i Wn++abV (N-i) 0).map dC=rows at *
  (have hb:=trivial;with_reducible repeat' (first|simp only[hb,Vc.down,seval,dZ.down,g0,g1,g5,g7,g23,g24,hdd,hdi,hww,hrow,hnx]|refine Qs ?_ ?_<;>intro hb|refine fd ?_|fail))
  exact Ru (kJ _ _ () ⟨by simp[up,g0],by simp[up,g1],by simp[up,g5],by simp[up,g7],by simp[up,g23],by simp[up],true,rfl⟩ rfl)
 ·exact⟨by simp[up,dU],by simp[up,dU],by simp[up],by simp[up],by simp[up],by simp[up],false,by simp[dC]⟩
 obtain⟨rfl,g0,g1,g5,g7,f,rfl⟩:=hk
 have hrow:s<((abV N Wn).map dC).length:=by simpa using hs
 have hz:((abV N Wn).map dC)[s]?=some [.int .i64 1048576]:=by rw[ah9,as3,if_pos hs];rfl
 have hin:((abV N Wn).map dC).set s [.int .i64 0]=(Zl N s Wn).map dC:=by rw[Zl,aoS];rfl
 have o1:((s:Int)<(N:Int))=True:=eq_true (by omega)
 generalize hrw:(abV N Wn).map dC=rows at *
 obtain⟨q1,hq1⟩:∃q,Fn.func 75=q:=⟨_,rfl⟩
 obtain⟨q2,hq2⟩:∃q,Fn.func 76=q:=⟨_,rfl⟩
 have hLq:LK.quiet LK.clean=true:=by rw[←hLK];rfl
 obtain⟨es,M,b1,b2,b3,b4,⟨v',fl',b5,b6,b7⟩,b8,_⟩:=atI (h:=[LK,.live 24 true false [ps],.live 1 true true ((Zl N s Wn).map dC),.live 1 false true [[.slr 1 2 0 N]],.live 1 false false [[.nils]],.live 1 false true [[.ptr 4 0 0]]]) (iV fun c hc=>by
  simp only[acG,agF,or_false]at hc
  rcases hc with rfl|rfl|rfl|rfl|rfl|rfl
  ·exact hLq
  all_goals rfl) (p:=4) s rfl (.inl ⟨rfl,rfl⟩) (by simp)
 rw[hq1]at b1
 simp only[aoP]at b6
 obtain⟨es2,M2,c1,c2,c3,c4,⟨v2,fl2,c5,c6,c7⟩,c8⟩:=atS b4 b5 b6 (by simp)
 rw[hq2]at c1
 have k3:=b8 3 _ (by simp[aS]) rfl
 have k5:=b8 5 _ (by simp[aS]) rfl
 have j3:=c8 3 _ (by omega) k3
 have j5:=c8 5 _ (by omega) k5
 have j0:=c8 0 _ (by omega) (b8 0 _ (by simp[aS]) rfl)
 have j1:=c8 1 _ (by omega) (b8 1 _ (by simp[aS]) rfl)
 have j2:=c8 2 _ (by omega) (b8 2 _ (by simp[aS]) rfl)
 (have hb:=trivial;with_reducible repeat' (first|simp only[hb,Vc.down,seval,dZ.down,g0,g1,g5,g7,hz,hin,o1,hq1,hq2,b1,b2,c1,c2,k3,k5,j3,j5,aqP,asT]|refine Qs ?_ ?_<;>intro hb|refine fd ?_|fail))
 generalize hE:xO w (tgt L)=E at *
 have hEo:sQ E N:=by rw[←hE];exact sN hw _
 have I0:=asR (E:=E) (far:=Wn) hs hEo
 have hsum:(Zl N s Wn).sum≤8*1048576:=amS n8
 refine Xz (cnt 85 (fun n (_:Unit) t h=>t 0=.ptr 0 0 0∧t 1=.int .i64 (s:Int)∧t 5=.ptr 1 0 0∧t 7=.ptr 3 0 0∧t 9=.ptr 5 0 0∧∃dd q k,DiH LK true ps N h dd q [k]∧2*dd.sum+q.length≤20000000∧
  ((t 11=.bool true∧∃room w,t 10=.ptr k 0 0∧6≤k∧h[k]?=some (.live 1 true w [[.int .i64 (room:Nat)]])∧lO E s N Wn dd (room::q) no3∧2*dd.sum+q.length+1≤n)∨(t 11=.bool false∧q=[]∧lO E s N Wn dd [] no3))) (fun _ _=>())
  (fun _ e t h=>e=.exit 2∧t 7=.ptr 3 0 0∧∃dd k,DiH LK true ps N h dd [] [k]∧lO E s N Wn dd [] no3) ?_ ?_ (2*(Zl N s Wn).sum+1) () _ _ ?_) (fun e t h hk=>?_)
 ·rintro _ t h Q' kQ ⟨g0,g1,g5,g7,g9,dd,q,k,hD,hql,⟨g11,room,w5,g10,_,_,_,hm⟩|⟨g11,rfl,hI⟩⟩
  ·omega
  ·(have hb:=trivial;with_reducible repeat' (first|simp only[hb,Vc.down,seval,dZ.down,g11]|refine Qs ?_ ?_<;>intro hb|refine fd ?_|fail))
   exact kQ _ _ _ ⟨rfl,by simp[up,g7],dd,k,hD,hI⟩
 ·rintro n _ t h J Q' kJ kQ ⟨g0,g1,g5,g7,g9,dd,q,k,hD,hql,⟨g11,room,w5,g10,hk6,hkb,hI,hm⟩|⟨g11,rfl,hI⟩⟩
  ·obtain⟨f,v,fl,w',i0,i1,i2,i3,i5,i4,iQ,iB,iq⟩:=hD
   have hat:=bcJ w d (room:Int) false
   rw[hr]at hat
   subst hLK
   (have hb:=trivial;with_reducible repeat' (first|simp only[hb,Vc.down,seval,dZ.down,g0,g1,g5,g7,g9,g10,g11,i0,i1,i2,i3,i5,hkb,hat]|refine Qs ?_ ?_<;>intro hb|refine fd ?_|fail))
   obtain⟨rN,rI⟩:=lO.take hI
   have hkl:=Qp hkb
   generalize hLP:CB.lp _ _ _ _ _=LP
   obtain⟨LK,hLK⟩:∃c:CB,c=CB.live 4 false wf [[.int .i64 (N:Int),.int .i64 w.need,Rw 9 true w.nn (w.parts.map Qd.cells),.int .i64 d]]:=⟨_,rfl⟩
   refine av3 (bdB hw (d:=d) (r:=(room:Int)) (lb:=h.length) (rb:=h.length+1) (kb:=0) (fun i h'=>∃dd' q',DiH LK.clean false ps N h' dd' q' [k,h.length,h.length+1,h.length+2]∧lO E s N Wn dd' q' (bW E room i)∧2*dd'.sum+q'.length≤2*dd.sum+q.length∧(∃w1,h'[k]?=some (.live 1 true w1 [[.int .i64 (room:Nat)]]))∧(∃w1,h'[h.length]?=some (.live 1 false w1 [[.ptr 0 0 0]]))∧(∃w1,h'[h.length+1]?=some (.live 1 true w1 [[.int .i64 (room:Nat)]]))∧h'[h.length+2]?=some LP∧h.length+3≤h'.length∧eB (h++[.live 1 false false [[.ptr 0 0 0]],.live 1 true false [[.int .i64 (room:Nat)]],LP]) h') ?_ ?_ ?_ ?_ ?_ ?_ ?_) ?_
   ·rintro i h' ⟨dd',q',_,_,_,_,hb1,_⟩
    exact hb1
   ·rintro i h' ⟨dd',q',⟨f,v,fl,w',i0,_⟩,_⟩
    rw[hr]
    exact⟨false,by rw[i0,hLK];rfl⟩
   ·rintro i h' ⟨dd',q',_,_,_,_,_,hb2,_⟩
    exact hb2
   ·rintro i h' fl wf rows ⟨dd',q',k1,k3,k4,⟨a0,k5⟩,⟨a1,k6⟩,⟨a2,k7⟩,k8,k9,kO⟩
    exact⟨dd',q',k1.app rfl,k3,k4,⟨a0,Qi k5 _⟩,⟨a1,Qi k6 _⟩,⟨a2,Qi k7 _⟩,Qi k8 _,by simp;omega,kO.app _⟩
   ·rintro i p u h' hpx hu ⟨dd',q',⟨f',v',fl',w2,j0,j1,j2,j3,j5,j4,jQ,jB,jq⟩,k3,k4,⟨a0,k5⟩,⟨a1,k6⟩,⟨a2,k7⟩,k8,k9,kO⟩
    have round:RnQ Uu ([.int .i64 i,.int .i64 u]++[.yl (h.length+2)]) (Wm h') fun o G=>o=.ret (.bool true)∧eB h' G∧∃dd2 q2,DiH LK.clean false ps N (Zt h' G) dd2 q2 [k,h.length,h.length+1,h.length+2]∧lO E s N Wn dd2 q2 (bW E room (i+1))∧2*dd2.sum+q2.length≤2*dd.sum+q.length∧(∀b∈[k,h.length,h.length+1,h.length+2],(Zt h' G)[b]?=h'[b]?)∧h'.length≤(Zt h' G).length:=by
     have hir:room<N:=rN
     have hpo:=hw.part p (ajT hpx)
     have hil:i<w.parts.length:=(aoQ.1 hpx).1
     obtain⟨pc,hpc⟩:∃x,L[i]?=some x:=⟨_,adP (by omega)⟩
     have he:=ajL hpx hpc
     rw[hE]at he
     obtain⟨to,rfl,htN,hrt,hto⟩:∃to:Nat,u=(to:Int)∧to<N∧room≠to∧(E[i]?=some (room,to,if yS pc=true then 1 else 0)∨E[i]?=some (to,room,if yS pc=true then 1 else 0)):=by
      rcases hu with⟨h1,h2⟩|⟨h1,h2,h3⟩
      ·exact⟨p.other.toNat,by omega,by omega,by omega,.inl (by rw[he,h1];rfl)⟩
      ·exact⟨p.one.toNat,by omega,by omega,by omega,.inr (by rw[he,h2];rfl)⟩
     have hi12:((i:Int)<12)=True:=eq_true (by omega)
     have hp24:(i*2+2≤24)=True:=eq_true (by omega)
     have htk:ahS 2 (List.drop (i*2) ps)=[.int .i64 pc.1,.bool pc.2]:=by
      rw[hps];exact lV _ _ _ _ hpc
     have htt:=ao2 pc.1 pc.2
     rw[show(pc.1==0&& !pc.2)=yS pc from rfl]at htt
     have hdl:=k3.i.len
     have hrm:=vR (d:=dd') (a:=room) (by omega)
     have htm:=vR (d:=dd') (a:=to) (by omega)
     have hst:∀n:Nat,(dd'.map dC).set to [.int .i64 (n:Int)]=(dd'.set to n).map dC:=fun n=>by rw[aoS];rfl
     have hrf:=k3.i.le room rN
     have hrf2:dd'.getD room 0≤1048576:=hrf
     have I0:=k3.same hto
     have I1:=fun q'=>k3.less (q':=q') rN htN hrt hto
     have hrN:((room:Int)<(N:Int))=True:=eq_true (by omega)
     have htN':((to:Int)<(N:Int))=True:=eq_true (by omega)
     have hbit:=aNZ (yS pc)
     have hsum:∀x,x<dd'.getD to 0→(dd'.set to x).sum<dd'.sum:=fun x hx=>lM (by omega) hx
     generalize dd'.getD room 0=xr at *
     generalize dd'.getD to 0=xt at *
     generalize hrows:dd'.map dC=rows at *
     have hbc:=Ut k8
     have hb0:LP.clean=LP:=by rw[←hLP];rfl
     rw[hb0]at hbc
     have hne2:∀(b:Nat) (c X:CB),b≠h.length+2→h'[b]?=some c→((Wm h').set (h.length+2) X)[b]?=some c.clean:=fun b c X hn hc=>by rw[abT (fun e=>hn e.symm),Ut hc]
     have h6:=Qp i5
     have g0':=fun X=>hne2 0 _ X (by omega) j0
     have g1':=fun X=>hne2 1 _ X (by omega) j1
     have g2':=fun X=>hne2 2 _ X (by omega) j2
     have g3':=fun X=>hne2 3 _ X (by omega) j3
     have g5':=fun X=>hne2 5 _ X (by omega) j5
     have gk':=fun X=>hne2 k _ X (by omega) k5
     simp only[CB.clean]at g1' g2' g3' g5' gk'
     have hlw:∀n,n≤1048577→IntKind.i64.wrap (n:Nat)=(n:Int):=fun n hn=>Uf (by omega) (by omega)
     have hself:∀X:CB,((Wm h').set (h.length+2) X)[h.length+2]?=some X:=fun X=>adA (Qp hbc)
     have hback:∀X:CB,(((Wm h').set (h.length+2) X).set (h.length+2) LP)=Wm h':=fun X=>by
      rw[List.set_set];exact anC hbc
     have sm:=arI (l:=[]) jq
     simp only[List.append_nil]at sm
     have fin0:∀(dx:lO E s N Wn dd' q' (bW E room (i+1))),(Tj.ret (AV.bool true)=.ret (.bool true))∧eB h' (Wm h')∧∃dd2 q2,DiH LK.clean false ps N (Zt h' (Wm h')) dd2 q2 [k,h.length,h.length+1,h.length+2]∧lO E s N Wn dd2 q2 (bW E room (i+1))∧2*dd2.sum+q2.length≤2*dd.sum+q.length∧(∀b∈[k,h.length,h.length+1,h.length+2],(Zt h' (Wm h'))[b]?=h'[b]?)∧h'.length≤(Zt h' (Wm h')).length:=fun dx=>by
      rw[sm.2]
      exact⟨rfl,sm.1,dd',q',⟨f',v',fl',w2,j0,j1,by rw[hrows];exact j2,j3,j5,j4,jQ,jB,jq⟩,dx,k4,fun b _=>rfl,ahF _⟩
     have hq':q'.length≤100000000:=by omega
     have hK6:∀b∈[k,h.length,h.length+1,h.length+2],6≤b∧b<h'.length:=fun b hb1=>by
      simp only[acG,agF,or_false]at hb1
      omega
     have hnx:∀(b:Nat) (c X Y:CB),b≠h.length+2→b≠2→h'[b]?=some c→(((Wm h').set (h.length+2) X).set 2 Y)[b]?=some c.clean:=fun b c X Y n1 n2 hc=>by rw[abT (fun e=>n2 e.symm)];exact hne2 b c X n1 hc
     have n5:=fun X Y=>hnx 5 _ X Y (by omega) (by omega) j5
     have n4:=fun X Y=>hnx 4 _ X Y (by omega) (by omega) j4
     have nB:∀X Y:CB,(((Wm h').set (h.length+2) X).set 2 Y)[h.length+2]?=some X:=fun X Y=>by rw[abT (by omega)];exact hself X
     simp only[CB.clean]at n5 n4
     have nQ:∀X Y,QS v' q' (((Wm h').set (h.length+2) X).set 2 Y) 4:=fun X Y=>by
      rcases QS.cln jQ with h1|⟨b,w0,rows0,r0,h1,h2,h3⟩
      ·exact .inl h1
      ·have hbb:=jB b (by rw[h1];simp[aS])
       simp only[acG,agF,or_false,not_or]at hbb
       exact .inr ⟨b,w0,rows0,r0,h1,by rw[abT (by omega),abT (by omega)];exact h2,h3⟩
     have hlen2:∀X Y:CB,(((Wm h').set (h.length+2) X).set 2 Y).length=h'.length:=fun X Y=>by simp[Rx]
     have nqt:∀(X:CB) (Y:List (List AV)),X.quiet X.clean=true→Qq (((Wm h').set (h.length+2) X).set 2 (.live 1 true true Y))=true:=fun X Y hX=>Um (Um (bX jq) _ hX) _ rfl
     have fin1:∀{n:Nat} {q2:List Nat} {M:Qa} {Y:List Nat} {LB:CB} {v2:AV} {fl2:Bool},lO E s N Wn (dd'.set to n) q2 (bW E room (i+1))→n<xt→q2.length=q'.length+1→h'.length≤M.length→Qq M=true→M[4]?=some (.live 1 fl2 true [[v2]])→QS v2 q2 M 4→(∀b∈aS v2,h'.length≤b)→
      (∀b c,b∉Y→(((Wm h').set (h.length+2) LB).set 2 (.live 1 true true ((dd'.set to n).map dC)))[b]?=some c→M[b]?=some c)→4∈Y→(∀b∈Y,b=4∨(b∈aS v'∧M[b]?=some .dead))→
      (Tj.ret (AV.bool true)=.ret (.bool true))∧eB h' (M.set (h.length+2) LP)∧∃dd2 q2,DiH LK.clean false ps N (Zt h' (M.set (h.length+2) LP)) dd2 q2 [k,h.length,h.length+1,h.length+2]∧lO E s N Wn dd2 q2 (bW E room (i+1))∧2*dd2.sum+q2.length≤2*dd.sum+q.length∧(∀b∈[k,h.length,h.length+1,h.length+2],(Zt h' (M.set (h.length+2) LP))[b]?=h'[b]?)∧h'.length≤(Zt h' (M.set (h.length+2) LP)).length:=fun {n q2 M Y LB v2 fl2} dx hn hq2 m1 m2 m3 m4 m5 m6 hY hY'=>by
      have hr:=akC (K:=[k,h.length,h.length+1,h.length+2]) j0 j1 (by rw[hrows];exact j2) j3 j5 j4 jQ jB jq k8 (by simp) hK6 hb0 (by rw[←hLP];rfl) m1 m2 m3 m4 m5 m6 hY hY'
      exact⟨rfl,hr.1,dd'.set to n,q2,hr.2.1,dx,by have:=hsum n hn;omega,hr.2.2.1,hr.2.2.2⟩
     have nbv:h.length+2∉4::aS v':=fun hx=>by
      rcases acG.1 hx with hx|hx
      ·omega
      ·have:=(jB _ hx).2;simp at this
     have mq:∀x,x∈q'++[to]↔x=to∨x∈q':=fun x=>by simp;exact Or.comm
     have mq2:∀x,x∈to::q'↔x=to∨x∈q':=fun x=>by simp
     cases htb:yS pc with
     |true=>
      have hw1:IntKind.i64.wrap ((xr:Int)+1)=((xr+1:Nat):Int):=by have:=hlw (xr+1) (by omega);simpa using this
      rw[htb]at htt hbit I0 I1
      simp only[if_true]at I0 I1 hbit
      by_cases hle:xt≤xr+1
      ·have hle':(((xr+1:Nat):Int)≥(xt:Int))=True:=eq_true (by omega)
       have fz:=fin0 (I0 hle)
       subst hLP
       refine ao5 hbc rfl ?_
       (have hb:=trivial;with_reducible repeat' (first|simp only[hb,Vc.down,seval,dZ.down,k8,g0,g1,g5,g7,g9,g10,g0',g1',g2',g3',g5',gk',Vv,hi12,hp24,hpl,htk,htt,hbit,hrm,htm,hrN,htN',hw1,hle',hself,hback]|refine Qs ?_ ?_<;>intro hb|refine fd ?_|fail))
       exact⟨_,_,rfl,fz⟩
      ·have hle':(((xr+1:Nat):Int)≥(xt:Int))=False:=eq_false (by omega)
       subst hLP
       refine ao5 hbc rfl ?_
       (have hb:=trivial;with_reducible repeat' (first|simp only[hb,Vc.down,seval,dZ.down,k8,g0,g1,g5,g7,g9,g10,g0',g1',g2',g3',g5',gk',Vv,hi12,hp24,hpl,htk,htt,hbit,hrm,htm,hrN,htN',hw1,hle',hst]|refine Qs ?_ ?_<;>intro hb|refine fd ?_|fail))
       generalize hLB:CB.lp _ _ _ _ Xr.busy=LB
       obtain⟨q1,hq1⟩:∃q,Fn.func 75=q:=⟨_,rfl⟩
       obtain⟨es,M,b1,b2,b3,b4,⟨v2,fl2,b5,b6,b7⟩,b8,b9⟩:=atI (nqt LB ((dd'.set to (xr+1)).map dC) (by rw[←hLB];rfl)) to (n4 LB _) (nQ LB _) hq'
       rw[hq1]at b1
       have n5':=n5 LB
       have mB:=b8 _ _ nbv (nB LB _)
       have fz:=fin1 (I1 (q'++[to]) (by omega) mq) (by omega) (by simp) (by rw[hlen2]at b3;exact b3) b4 b5 b6 (by rw[hlen2]at b7;exact b7) b8 (adD ..) (fun b hb1=>(acG.1 hb1).imp id fun hb1=>⟨hb1,b9 b hb1⟩)
       subst hLB
       (have hb:=trivial;with_reducible repeat' (first|simp only[hb,Vc.down,seval,dZ.down,n5',hq1,b1,b2,mB]|refine Qs ?_ ?_<;>intro hb|refine fd ?_|fail))
       exact⟨_,_,rfl,fz⟩
     |false=>
      have hw1:IntKind.i64.wrap ((xr:Int)+0)=((xr:Nat):Int):=by have:=hlw xr (by omega);simpa using this
      rw[htb]at htt hbit I0 I1
      simp only[Bool.false_eq_true,if_false,Nat.add_zero]at I0 I1 hbit
      by_cases hle:xt≤xr
      ·have hle':((xr:Int)≥(xt:Int))=True:=eq_true (by omega)
       have fz:=fin0 (I0 hle)
       subst hLP
       refine ao5 hbc rfl ?_
       (have hb:=trivial;with_reducible repeat' (first|simp only[hb,Vc.down,seval,dZ.down,k8,g0,g1,g5,g7,g9,g10,g0',g1',g2',g3',g5',gk',Vv,hi12,hp24,hpl,htk,htt,hbit,hrm,htm,hrN,htN',hw1,hle',hself,hback]|refine Qs ?_ ?_<;>intro hb|refine fd ?_|fail))
       exact⟨_,_,rfl,fz⟩
      ·have hle':((xr:Int)≥(xt:Int))=False:=eq_false (by omega)
       subst hLP
       refine ao5 hbc rfl ?_
       (have hb:=trivial;with_reducible repeat' (first|simp only[hb,Vc.down,seval,dZ.down,k8,g0,g1,g5,g7,g9,g10,g0',g1',g2',g3',g5',gk',Vv,hi12,hp24,hpl,htk,htt,hbit,hrm,htm,hrN,htN',hw1,hle',hst]|refine Qs ?_ ?_<;>intro hb|refine fd ?_|fail))
       generalize hLB:CB.lp _ _ _ _ Xr.busy=LB
       obtain⟨q1,hq1⟩:∃q,Fn.func 79=q:=⟨_,rfl⟩
       obtain⟨es,M,b1,b2,b3,b4,⟨v2,fl2,b5,b6,b7⟩,b8⟩:=aAI (nqt LB ((dd'.set to xr).map dC) (by rw[←hLB];rfl)) to (n4 LB _) (nQ LB _) hq'
       rw[hq1]at b1
       have n5':=n5 LB
       have mB:=b8 _ _ (by omega) (nB LB _)
       have fz:=fin1 (Y:=[4]) (I1 (to::q') (by omega) mq2) (by omega) (by simp) (by rw[hlen2]at b3;exact b3) b4 b5 b6 (by rw[hlen2]at b7;exact b7) (fun b c hn=>b8 b c (by simpa using hn)) (adD ..) (fun b hb1=>.inl (by simpa using hb1))
       subst hLB
       (have hb:=trivial;with_reducible repeat' (first|simp only[hb,Vc.down,seval,dZ.down,n5',hq1,b1,b2,mB]|refine Qs ?_ ?_<;>intro hb|refine fd ?_|fail))
       exact⟨_,_,rfl,fz⟩
    obtain⟨o,G,es,e1,e2,rfl,z0,dd2,q2,z1,z2,z3,z4,z5⟩:=arM round (fun o G h=>h.2.1.sh)
    refine⟨es,e1,?_⟩
    rw[e2]
    exact⟨dd2,q2,z1,z2,z3,⟨a0,by rw[z4 k (by simp)];exact k5⟩,⟨a1,by rw[z4 _ (by simp)];exact k6⟩,⟨a2,by rw[z4 _ (by simp)];exact k7⟩,by rw[z4 _ (by simp)];exact k8,by omega,kO.trans z0⟩
   ·rintro i p h' hpx n1 n2 ⟨dd',q',k1,k3,k4,k5,k6,k7,k8,k9⟩
    have hpo:=hw.part p (ajT hpx)
    obtain⟨pc,hpc⟩:∃x,L[i]?=some x:=⟨_,adP (by have:=(aoQ.1 hpx).1;omega)⟩
    have he:=ajL hpx hpc
    rw[hE]at he
    exact⟨dd',q',k1,k3.skip he (by omega) (by omega),k4,k5,k6,k7,k8,k9⟩
   ·have cl:∀(b:Nat) (c:CB),h[b]?=some c→(Wm h++[CB.live 1 false false [[.ptr 0 0 0]],.live 1 true false [[.int .i64 (room:Nat)]],LP])[b]?=some c.clean:=fun b c hc=>Qi (Ut hc) _
    have ca:∀j,(Wm h++[CB.live 1 false false [[.ptr 0 0 0]],.live 1 true false [[.int .i64 (room:Nat)]],LP])[h.length+j]?=[CB.live 1 false false [[.ptr 0 0 0]],.live 1 true false [[.int .i64 (room:Nat)]],LP][j]?:=fun j=>by
     rw[ad8 (by rw[Rx];omega),Rx,ai4]
    have hLc:LP.clean=LP:=by rw[←hLP];rfl
    have hLq:LP.quiet LP=true:=by rw[←hLP];rfl
    have hok:eB (h++[.live 1 false false [[.ptr 0 0 0]],.live 1 true false [[.int .i64 (room:Nat)]],LP]) (Wm h++[.live 1 false false [[.ptr 0 0 0]],.live 1 true false [[.int .i64 (room:Nat)]],LP]):=by
     have:=eB.cl (H:=h++[.live 1 false false [[.ptr 0 0 0]],.live 1 true false [[.int .i64 (room:Nat)]],LP]) (Ul iq (by simp only[Qq,aoT,hLc,hLq];rfl))
     rw[show Wm (h++[CB.live 1 false false [[.ptr 0 0 0]],.live 1 true false [[.int .i64 (room:Nat)]],LP])=Wm h++[CB.live 1 false false [[.ptr 0 0 0]],.live 1 true false [[.int .i64 (room:Nat)]],LP] by simp only[Wm,aqT,List.map_cons,List.map_nil,hLc];rfl]at this
     exact this
    refine⟨dd,q,⟨false,v,fl,false,by rw[hLK];exact cl 0 _ i0,cl 1 _ i1,cl 2 _ i2,cl 3 _ i3,cl 5 _ i5,cl 4 _ i4,?_,fun b hb1=>?_,Ul (bX iq) (by simp only[Qq,aoT,hLc,hLq];rfl)⟩,rI,ahF _,⟨_,cl k _ hkb⟩,⟨false,ca 0⟩,⟨false,ca 1⟩,ca 2,by simp[Rx],hok⟩
    ·rcases QS.cln iQ with h|⟨b,w',rows,r,h1,h2,h3⟩
     ·exact .inl h
     ·exact .inr ⟨b,w',rows,r,h1,Qi h2 _,h3⟩
    ·have:=(iQ.lt b hb1).1
     have:=iB b hb1
     simp at this ⊢
     omega
   ·rintro o h' ⟨rfl,dd',q',⟨f',v',fl',w2,j0,j1,j2,j3,j5,j4,jQ,jB,jq⟩,k3,k4,⟨a0,k5⟩,⟨a1,k6⟩,⟨a2,k7⟩,k8,k9,kO⟩
    have hl5:=Qp i5
    have hLc:LP.clean=LP:=by rw[←hLP];rfl
    have hLq:LP.quiet LP=true:=by rw[←hLP];rfl
    obtain⟨h1,hh1⟩:∃H:Qa,h++[.live 1 false false [[.ptr 0 0 0]],.live 1 true false [[.int .i64 (room:Nat)]],LP]=H:=⟨_,rfl⟩
    have hB1:h1[h.length+2]?=some LP:=by rw[←hh1,ad8 (by omega),ai4];rfl
    have hq1:Qq h1=true:=by rw[←hh1];exact Ul iq (by simp only[Qq,aoT,hLc,hLq];rfl)
    have hO:∀(b:Nat) (c:CB),h[b]?=some c→h1[b]?=some c:=fun b c hc=>by rw[←hh1];exact Qi hc _
    simp only[hh1]at kO ⊢
    obtain⟨es,e1,e2⟩:=fZ h1 h' [] kO.sh
    have e1':Rf 0 h1 h'=some es:=e1
    simp only[aoP]at e2
    have m0:=eB.old (hO 0 _ i0) j0 (by rw[hLK];rfl)
    have m1:=eB.old (hO 1 _ i1) j1 rfl
    obtain⟨x2,m2⟩:=kO.live j2
    have m3:=eB.old (hO 3 _ i3) j3 rfl
    have m5:=eB.old (hO 5 _ i5) j5 rfl
    obtain⟨x4,m4⟩:=kO.live j4
    obtain⟨xk,mk_⟩:=kO.live k5
    have mQ:=jQ.okw kO
    have mB:=eB.old hB1 k8 hLq
    have mqt:=kO.quiet hq1 jq
    have mln:h'.length≤(Zt h1 h').length:=by rw[dL kO.1];exact ahF _
    generalize hM:Zt h1 h'=M at *
    rw[pL,e1']
    have dne:∀(b:Nat) (c:CB),b≠h.length+2→M[b]?=some c→(M.set (h.length+2) .dead)[b]?=some c:=fun b c hn hc=>by rw[abT (fun e=>hn e.symm)];exact hc
    have hkn:k≠h.length+2:=by omega
    have d0:=dne 0 _ (by omega) m0
    have d1:=dne 1 _ (by omega) m1
    have d2:=dne 2 _ (by omega) m2
    have d3:=dne 3 _ (by omega) m3
    have d5:=dne 5 _ (by omega) m5
    have d4:=dne 4 _ (by omega) m4
    have dk:=dne k _ hkn mk_
    have dq:Qq (M.set (h.length+2) .dead)=true:=Um mqt _ rfl
    have dl:(M.set (h.length+2) .dead).length=M.length:=by simp
    have dQ:QS v' q' (M.set (h.length+2) .dead) 4:=by
     rcases mQ with h1|⟨b,w0,rows0,r0,h1,h2,h3⟩
     ·exact .inl h1
     ·have hbb:=jB b (by rw[h1];simp[aS])
      simp only[acG,agF,or_false,not_or]at hbb
      exact .inr ⟨b,w0,rows0,r0,h1,dne b _ (by omega) h2,h3⟩
    subst hLP
    (have hb:=trivial;with_reducible repeat' (first|simp only[hb,Vc.down,seval,dZ.down,e2,mB]|refine Qs ?_ ?_<;>intro hb|refine fd ?_|fail))
    generalize hD:M.set (h.length+2) CB.dead=D at *
    (have hb:=trivial;with_reducible repeat' (first|simp only[hb,Vc.down,seval,dZ.down,g0,g1,g5,g7,g9,g10,dk,d5]|refine Qs ?_ ?_<;>intro hb|refine fd ?_|fail))
    have p5:=Qi d5 [CB.live 1 true true [[.int .i64 (room:Int)]]]
    have p4:=Qi d4 [CB.live 1 true true [[.int .i64 (room:Int)]]]
    have pq:Qq (D++[CB.live 1 true true [[.int .i64 (room:Int)]]])=true:=Ul dq rfl
    have pQ:=dQ.app [CB.live 1 true true [[.int .i64 (room:Int)]]]
    have pk:(D++[CB.live 1 true true [[.int .i64 (room:Int)]]])[D.length]?=some (.live 1 true true [[.int .i64 (room:Int)]]):=by simp
    have hEl:E.length≤w.parts.length:=by rw[←hE];simp[xO,tgt];omega
    have k3':=k3.done hEl
    have hD6:6≤D.length:=by omega
    have hvD:∀b∈aS v',6≤b∧b∉[D.length]:=fun b hb1=>by
     have h1:=(dQ.lt b hb1).1
     have h2:=(jB b hb1).1
     exact⟨h2,by simp;omega⟩
    obtain⟨q1,hq1⟩:∃q,Fn.func 76=q:=⟨_,rfl⟩
    cases q' with
    |nil=>
     have b1:=aY9 pq p4 pQ
     rw[hq1]at b1
     (have hb:=trivial;with_reducible repeat' (first|simp only[hb,Vc.down,seval,dZ.down,p5,hq1,b1]|refine Qs ?_ ?_<;>intro hb|refine fd ?_|fail))
     refine Ru (kJ _ _ () ⟨by simp[up,g0],by simp[up,g1],by simp[up,g5],by simp[up,g7],by simp[up,g9],dd',[],D.length,?_,?_,.inr ⟨by simp[up],rfl,k3'⟩⟩ rfl)
     ·exact⟨_,_,_,_,Qi d0 _,Qi d1 _,Qi d2 _,Qi d3 _,Qi d5 _,Qi d4 _,dQ.app _,hvD,Ul dq rfl⟩
     ·omega
    |cons x q'=>
     simp only[aoW]at k4
     obtain⟨es,M4,b1,b2,b3,b4,⟨v2,fl2,b5,b6,b7⟩,b8⟩:=atS pq p4 pQ (by omega)
     rw[hq1]at b1
     have r5:=b8 _ _ (by omega) p5
     have rk:=b8 _ _ (by omega) pk
     (have hb:=trivial;with_reducible repeat' (first|simp only[hb,Vc.down,seval,dZ.down,p5,hq1,b1,b2,rk,r5]|refine Qs ?_ ?_<;>intro hb|refine fd ?_|fail))
     have sne:∀(b:Nat) (c:CB),b<D.length→b≠4→D[b]?=some c→(M4.set D.length (.live 1 true true [[.int .i64 (x:Int)]]))[b]?=some c:=fun b c h1 h2 hc=>by
      rw[abT (by omega)];exact b8 b c h2 (Qi hc _)
     have hl4:=Qp rk
     refine Ru (kJ _ _ () ⟨by simp[up,g0],by simp[up,g1],by simp[up,g5],by simp[up,g7],by simp[up,g9],dd',q',D.length,?_,by omega,.inl ⟨by simp[up],x,true,by simp[up],hD6,adA hl4,k3',by omega⟩⟩ rfl)
     refine⟨_,v2,fl2,true,sne 0 _ (by omega) (by omega) d0,sne 1 _ (by omega) (by omega) d1,sne 2 _ (by omega) (by omega) d2,sne 3 _ (by omega) (by omega) d3,sne 5 _ (by omega) (by omega) d5,by rw[abT (by omega)];exact b5,?_,fun b hb1=>hvD b (by rw[←b7];exact hb1),Um b4 _ rfl⟩
     rcases b6 with h1|⟨b,w0,rows0,r0,h1,h2,h3⟩
     ·exact .inl h1
     ·have hbb:=hvD b (by rw[←b7,h1];simp[aS])
      simp only[acG,agF,or_false]at hbb
      exact .inr ⟨b,w0,rows0,r0,h1,by rw[abT (fun e=>hbb.2 e.symm)];exact h2,h3⟩
  ·(have hb:=trivial;with_reducible repeat' (first|simp only[hb,Vc.down,seval,dZ.down,g11]|refine Qs ?_ ?_<;>intro hb|refine fd ?_|fail))
   exact kQ _ _ _ ⟨rfl,by simp[up,g7],dd,k,hD,hI⟩
 ·refine⟨by simp[up,g0],by simp[up,g1],by simp[up,g5],by simp[up,g7],by simp[up],Zl N s Wn,[],M2.length,?_,by simp only[ai5];omega,.inl ⟨by simp[up],s,true,by simp[up],by simp at b3;omega,by rw[ad8 (ahF _),aoR];rfl,I0,by simp⟩⟩
  refine⟨true,v2,fl2,true,Qi j0 _,Qi j1 _,Qi j2 _,Qi j3 _,Qi j5 _,Qi c5 _,?_,?_,Ul c4 rfl⟩
  ·rcases c6 with h|⟨b,w',rows,r,h1,h2,h3⟩
   ·exact .inl h
   ·exact .inr ⟨b,w',rows,r,h1,Qi h2 _,h3⟩
  ·intro b hb1
   have:=c6.lt b hb1
   rw[c7]at hb1
   have h6:=b7 b hb1
   simp at h6
   exact⟨h6,by simp;omega⟩
 obtain⟨rfl,g7,dd,k,⟨f,v,fl,w',i0,i1,i2,i3,i5,i4,iQ,iB,iq⟩,hI⟩:=hk
 have hR:=hI.right hs hEo (by unfold Wn;omega)
 have hdl:=hI.i.len
 have hln:(dd.map dC).length=N:=by simp[hdl]
 subst hLK
 (have hb:=trivial;with_reducible repeat' (first|simp only[hb,Vc.down,seval,dZ.down,g7,i3,i2,i0,hln]|refine Qs ?_ ?_<;>intro hb|refine fd ?_|fail))
 exact⟨f,dd,rfl,hdl,hR⟩
theorem Xo(L:List (Int × Bool)):∀x∈Sm L,(∃n,x=.int .i64 n)∨∃b,x=.bool b:=fun x hx=>by
 simp only[Sm,aq9,acG,agF,or_false]at hx
 obtain⟨y,_,rfl|rfl⟩:=hx
 ·exact .inl ⟨_,rfl⟩
 ·exact .inr ⟨_,rfl⟩
theorem Vy(L:List (Int × Bool)):(Sm L).all AV.flat=true:=aiF.2 fun x hx=>by rcases Xo L x hx with⟨n,rfl⟩|⟨b,rfl⟩<;>rfl
theorem Vw(L:List (Int × Bool)):(Sm L).all AV.isCell=true:=aiF.2 fun x hx=>by rcases Xo L x hx with⟨n,rfl⟩|⟨b,rfl⟩<;>rfl
theorem jH(L:List (Int × Bool))(d:Nat)(g:HF):Qw (Vd (d+1) g) (Sm L)=some (Sm L):=xG fun x hx=>by rcases Xo L x hx with⟨n,rfl⟩|⟨b,rfl⟩<;>rfl
theorem iW(L:List (Int × Bool))(d:Nat)(g:HF):(Sm L).flatMap (Qn (d+1) g)=[]:=List.flatMap_eq_nil_iff.2 fun x hx=>by rcases Xo L x hx with⟨n,rfl⟩|⟨b,rfl⟩<;>rfl
theorem bJ(L:List (Int × Bool))(d:Nat)(m:List Nat):Qz.refL (Qz (d+1)) m (Sm L)=some (Sm L,m):=Vj fun x hx=>by rcases Xo L x hx with⟨n,rfl⟩|⟨b,rfl⟩<;>rfl
theorem lX(L:List (Int × Bool))(d:Nat)(f:Nat→Nat):Qw (Si (d+1) f) (Sm L)=some (Sm L):=xG fun x hx=>by rcases Xo L x hx with⟨n,rfl⟩|⟨b,rfl⟩<;>rfl
theorem mM(L:List (Int × Bool))(d:Nat):(Sm L).any (hasImm (d+1))=false:=List.any_eq_false.2 fun x hx=>by rcases Xo L x hx with⟨n,rfl⟩|⟨b,rfl⟩<;>simp[hasImm]
def pS(w:Qj)(N:Nat)(L:List (Int × Bool)):Nat:=sW (xO w (tgt L)) N w.parts.length
theorem eI{w:Qj}{N:Nat}(hw:xP w N)(h12:w.parts.length≤12)(d:Int){L:List (Int × Bool)}(hL12:L.length=12)(wf:Bool):
 Uu.call (.fn 51) [.ptr 0 0 0,.agg (Sm L)] [.live 4 false wf [[.int .i64 w.rooms,.int .i64 w.need,Rw 9 true w.nn (w.parts.map Qd.cells),.int .i64 d]]]=some (.ret (.int .i64 (pS w N L:Nat)),[.live 4 false wf [[.int .i64 w.rooms,.int .i64 w.need,Rw 9 true w.nn (w.parts.map Qd.cells),.int .i64 d]]]):=by
 have n2:=hw.n2
 have n8:=hw.n8
 obtain⟨o,h',hc,f,ds,rfl,rfl,hdl,hR⟩:=yD hw h12 (d:=d) (s:=0) (by omega) hL12 rfl (wf:=false)
 have hne:=ayW (len:=w.parts.length) n2 (by omega) (by unfold Wn;omega) (sN hw (tgt L)) hR
 have hf1:=Vy L
 have hf2:=Vw L
 have hpl:(Sm L).length=24:=by rw[Rh];omega
 have hd1:=vR (d:=ds) (a:=1) (by omega)
 have h1N:((1:Int)<(N:Int))=True:=eq_true (by omega)
 have hle:ds.getD 1 0≤1048576:=by
  by_cases e:ds.getD 1 0=Wn
  ·rw[e];exact ahF _
  ·have:=(fE.num hR hR (by unfold Wn;omega) (by unfold Wn;omega) (by omega) (sN hw (tgt L)) (v:=1) (by omega)).2.2 e
   have:ds.getD 1 0<N:=this
   omega
 have hN1:pS w N L=if ds.getD 1 0=Wn then w.parts.length+1 else ds.getD 1 0:=hne.symm
 rw[hN1]
 have hav:=jH L
 have hlv:=iW L
 have hrf:=bJ L
 simp only[Int.natCast_zero]at hc
 generalize Sm L=ps at *
 have htk:ahS 24 ps=ps:=ao1 (by omega)
 generalize ds.getD 1 0=x at *
 generalize ds.map dC=rows at *
 have hwr:IntKind.i64.wrap ((w.parts.length:Int)+1)=((w.parts.length+1:Nat):Int):=by have:=Uf (n:=((w.parts.length+1:Nat):Int)) (by omega) (by omega);simpa using this
 by_cases e:x=Wn
 ·have e1:((x:Int)==1048576)=true:=by rw[e];rfl
  rw[if_pos e]
  refine ce Tryz.func51 ?_
  simp only[Tryz.f51]
  (have hb:=trivial;with_reducible repeat' (first|simp only[hb,Vc.down,seval,az5.down,hpl,hf1,hf2,htk,hav,hlv,hrf,hc,hd1,h1N,e1,hwr,adM]|refine Qs ?_ ?_<;>intro hb|refine fd ?_|fail))
 ·have e1:((x:Int)==1048576)=false:=by simp;exact fun h=>e (by unfold Wn;omega)
  rw[if_neg e]
  refine ce Tryz.func51 ?_
  simp only[Tryz.f51]
  (have hb:=trivial;with_reducible repeat' (first|simp only[hb,Vc.down,seval,az5.down,hpl,hf1,hf2,htk,hav,hlv,hrf,hc,hd1,h1N,e1,adM]|refine Qs ?_ ?_<;>intro hb|refine fd ?_|fail))
theorem jD{w:Qj}{d:Int}(h12:w.parts.length≤12):(Qh w d).length=12:=by simp[Qh];omega
theorem iY{w:Qj}{N:Nat}{d:Int}:pS w N (Qh w d)=nZ w N d:=by unfold pS nZ;rw[ad6]
theorem tZ{w:Qj}{N:Nat}(hw:xP w N)(h12:w.parts.length≤12)(hs:w.small)(d:Int)(hb0:(Wj w&&dA d)=true):Uu.call (.fn 20) [.agg [.int .i64 w.rooms,.int .i64 w.need,Rw 9 true w.nn (w.parts.map Qd.cells)],.int .i64 d] []=some (.ret (.tup [.int .i64 (nZ w N d:Nat),.int .i64 0]),[]):=by
 have h:=aeY w hs d
 rw[hb0]at h
 have hp:=abB w d false h12
 have hn:=eI hw h12 d (jD (d:=d) h12) false
 rw[iY]at hn
 have hf1:=Vy (Qh w d)
 have hf2:=Vw (Qh w d)
 have hav:=jH (Qh w d)
 have hlv:=iW (Qh w d)
 have hrf:=bJ (Qh w d)
 have hrn:=lX (Qh w d)
 have hhi:=mM (Qh w d)
 generalize Sm (Qh w d)=ps at *
 (refine ce Tryz.func20 ?_;simp only[Tryz.f20];(have hb:=trivial;with_reducible repeat' (first|simp only[hb,Vc.down,seval,bbR.down,h,hp,hn,hf1,hf2,hav,hlv,hrf,hrn,hhi]|refine Qs ?_ ?_<;>intro hb|refine fd ?_|fail)))
theorem yP{α:Type}{d:List AV→Option α}{f:α→List AV}(hd:∀cs x,d cs=some x→cs=f x):∀{rows:List (List AV)} {l:List α},Qw d rows=some l→rows=l.map f
 | [],l,h=>by simp[Qw]at h;subst h;rfl
 |r::rows,l,h=>by
  simp only[Qw,atB,aoU]at h
  obtain⟨x,h1,l',h2,rfl⟩:=h
  rw[hd r x h1,yP hd h2];rfl
def dSl{α:Type}(n:Nat)(fl:Bool)(d:List AV→Option α):AV→Option (Bool × List α)
 | .nils=>some (false,[])
 | .imm n' fl' rows=>if n'=n∧fl'=fl then(Qw d rows).map fun l=>(true,l)else none
 |_=>none
theorem awW{α:Type}{n:Nat}{fl:Bool}{d:List AV→Option α}{f:α→List AV}(hd:∀cs x,d cs=some x→cs=f x){v:AV}{x:Bool × List α}(h:dSl n fl d v=some x):v=Rw n fl x.1 (x.2.map f):=by
 unfold dSl at h
 split at h
 ·cases h;rfl
 ·split at h
  ·rename_i hq
   obtain⟨rfl,rfl⟩:=hq
   obtain⟨l,h1,rfl⟩:=aoU.1 h
   rw[yP hd h1]
   cases l<;>rfl
  ·cases h
 ·cases h
def alE:List AV→Option Qd
 | [.int .i64 a,.int .i64 b,.bool c,.bool d,.int .i64 e,.int .i64 f,.bool g,.int .i64 h,.int .i64 i]=>some ⟨a,b,c,d,e,f,g,h,i⟩
 |_=>none
theorem anX(cs:List AV)(x:Qd)(h:alE cs=some x):cs=x.cells:=by
 unfold alE at h
 split at h
 ·cases h;rfl
 ·cases h
def ak5:List AV→Option (List (Int × Bool))
 | []=>some []
 | .int .i64 a::.bool b::l=>(ak5 l).map fun r=>(a,b)::r
 |_=>none
theorem ae0:∀(cs:List AV) (x:List (Int × Bool)),ak5 cs=some x→cs=Sm x
 | [],x,h=>by simp[ak5]at h;subst h;rfl
 | .int .i64 a::.bool b::l,x,h=>by
   simp only[ak5,aoU]at h
   obtain⟨r,h1,rfl⟩:=h
   rw[ae0 l r h1];rfl
def aT1:List AV→Qa→Option (Tj × Qa)
 | [.ptr 0 0 0,.agg ps],[.live 4 false wf [[.int .i64 rooms,.int .i64 need,sl,.int .i64 d]]]=>
   (dSl 9 true alE sl).bind fun x=>(ak5 ps).bind fun L=>if(Wj ⟨rooms,need,x.1,x.2⟩&&decide (L.length=12))=true then
     some (.ret (.int .i64 (pS ⟨rooms,need,x.1,x.2⟩ rooms.toNat L:Nat)),[.live 4 false wf [[.int .i64 rooms,.int .i64 need,sl,.int .i64 d]]])else none
 |_,_=>none
def pr2:Zp:={ pr with at_:=fun f=>if f=51 then some aT1 else pr f }
theorem aAU(f:Nat)(h:pr2 f=none):pr f=none:=by
 simp only[pr2]at h
 split at h
 ·cases h
 ·exact h
theorem awY:∀f p,pr2 f=some p→∀a h r,p a h=some r→Uu.call (.fn f) a h=some r:=by
 intro f p hp a h r hr
 simp only[pr2]at hp
 split at hp
 ·rename_i hf
  subst hf
  cases hp
  unfold aT1 at hr
  split at hr
  ·rename_i ps wf rooms need sl d
   simp only[atB]at hr
   obtain⟨x,h1,L,h2,h3⟩:=hr
   split at h3
   ·rename_i hs
    simp only[Bool.and_eq_true,decide_eq_true_eq]at hs
    cases h3
    obtain⟨N,hw,h12⟩:=ae9 hs.1
    have hN:rooms.toNat=N:=by have:=hw.rooms;simp only at this;omega
    rw[awW anX h1,ae0 _ _ h2,hN]
    exact eI hw h12 d hs.2 wf
   ·cases h3
  ·cases hr
 ·exact afQ hp hr
theorem aiM:(bQ Tryz.prog pr2 100).call (.fn 10) [] []=some (.ret (.bool true),[]):=by kernel_rfl
theorem anZ:Uu.call (.fn 10) [] []=some (.ret (.bool true),[]):=aaY (pr:=pr) (pr2:=pr2) rfl aAU awY aiM
def adN(w:Qj):Bool:=decide ((w.parts.length:Int)≤15)
theorem asL(w:Qj):Uu.call (.fn 9) [.agg [.int .i64 w.rooms,.int .i64 w.need,Rw 9 true w.nn (w.parts.map Qd.cells)]] []=some (.ret (.bool (adN w)),[]):=by
 cases c:adN w
 ·have h:decide ((w.parts.length:Int)≤15)=false:=c
  (refine ce Tryz.func9 ?_;simp only[Tryz.f9];(have hb:=trivial;with_reducible repeat' (first|simp only[hb,Va.down,seval,TY9.down,h,adM]|refine Qs ?_ ?_<;>intro hb|refine fd ?_|fail)))
 ·have h:decide ((w.parts.length:Int)≤15)=true:=c
  (refine ce Tryz.func9 ?_;simp only[Tryz.f9];(have hb:=trivial;with_reducible repeat' (first|simp only[hb,Va.down,seval,TY9.down,h,adM]|refine Qs ?_ ?_<;>intro hb|refine fd ?_|fail)))
end Go.Proofs.YtcncggaobhbomaaGreatDoor
