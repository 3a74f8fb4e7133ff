/- The functions of the layer, walked. -/
import Derived.Test.YtcncggaobhbomaaGreatDoorPartAA
import Derived.Test.YtcncggaobhbomaaGreatDoorLibE
import Derived.Test.YtcncggaobhbomaaGreatDoorLibD
open List renaming getElem?_set_ne→ad8,replicate→ahF,mem_cons→aoR,getElem?_append_left→aoS,getElem?_set_self→apA,mem_cons_self→awL,length_map→ay8,getElem?_eq_getElem→azO,getElem?_append_right→azV,not_mem_nil→aAO,take→aCG,getElem?_map→aCH,all_eq_true→aD5,length_replicate→aEG,length_nil→aEX,mem_of_getElem?→aG2,mem_cons_of_mem→aHA,nil_append→aHN,getElem?_eq_some_iff→aHP,map_set→aI5,all_cons→aJ8,length_set→aKF,length_cons→aKP,take_of_length_le→aL1,ext_getElem?→aL7,replicate_succ→aNR,map_append→aN3,mem_flatMap→aN4,getElem?_replicate→aPI
open Nat renaming le_refl→aA5,add_sub_cancel_left→aEM,sub_self→aHR
open Option renaming map_eq_some_iff→aKE,bind_eq_some_iff→aRB
open Int renaming toNat_natCast→aO4
set_option linter.unusedSimpArgs false
set_option linter.unusedVariables false
namespace Go.Proofs.YtcncggaobhbomaaGreatDoor
open Go.Ev Go Go.Ev.Net
set_option maxRecDepth 100000
set_option maxHeartbeats 16000000
def QS(v:AV)(q:List Nat)(H:Aa)(p:Nat):Prop:=
 (v=.nils∧q=[])∨∃b w rows r,v=.slr 1 b r q.length∧H[b]?=some (.live 1 true w rows)∧b≠p∧rows.drop r=q.map nvv∧r+q.length=rows.length
def Oc:AV→List Nat
 | .slr _ b _ _=>[b]
 |_=>[]
theorem ayZ{x:Option (List AV)}{vs:List AV}{h:Aa}{Q:Do→Aa→Prop}(hx:x=some vs)(k:Q (.ret (Ns vs)) h):RtS x h Q:=by subst hx;exact k
theorem aZK{H:Aa}{p:Nat}{fl w:Bool}{v:AV}{q:List Nat}(x:Nat)(hp:H[p]?=some (.live 1 fl w [[v]]))(hQ:QS v q H p)(hq:q.length≤100000000):
 ShQ Ef 75 [.ptr p 0 0,.int .i64 (x:Int)] H fun o G=>o=.ret (.tup [])∧∃v' fl',G[p]?=some (.live 1 fl' true [[v']])∧QS v' (q++[x]) G p∧Hy (p::Oc v) H G∧(∀b∈Oc v,G[b]?=some .dead)∧(Ar H=true→Ar G=true)∧∀b∈Oc v',H.length≤b:=by
 have hpl:=Ap hp
 refine aPP rfl Tryz.func75 rfl rfl ?_
 simp only[Tryz.f75]
 refine Du (fun KK iN hK=>?_)
 have hA:=Aj hp
 have hS:=Kr hpl
 rcases hQ with⟨rfl,rfl⟩|⟨b,w',rows,r,rfl,hrb,hbp,hd,hl⟩
 ·(have hb:=trivial;with_reducible repeat' (first|simp only[hb,Va.down,seval,a4J.down,hp,hA,hS]|refine Au ?_ ?_<;>intro hb|refine fd ?_|fail))
  refine hK _ ?_
  rw[Nh]
  refine ayZ (vs:=[]) (by simp only[Va.down,seval,a4J.down]) ⟨rfl,.slr 1 (H.length+1) 0 1,false,?_,.inr ⟨H.length+1,false,[nvv x],0,rfl,?_,by omega,rfl,rfl⟩,⟨by simp,fun b hb1 hn=>?_⟩,fun b hb1=>by simp[Oc]at hb1,fun hqq=>Ej (Ei hqq p rfl) rfl,fun b hb1=>by simp[Oc]at hb1;omega⟩
  ·rw[aoS (by simpa using hpl),apA hpl]
  ·rw[abL];rfl
  ·rw[aoS (by simpa using hb1),ad8 (fun e=>hn (by rw[e];exact awL ..))]
 ·have hbl:=Ap hrb
  have hB:=Aj hrb
  have hSb:=Kr hbl
  have h39:(q.length+1≤549755813888)=True:=eq_true (by omega)
  have hg:∀l,(H.set b .dead++l)[p]?=some (.live 1 fl w [[.slr 1 b r q.length]]):=fun l=>by
   rw[aoS (by simpa using hpl),ad8 hbp];exact hp
  have hg2:∀l c,(H.set b .dead++l).set p c=(H.set b .dead).set p c++l:=fun l c=>Kr (by simpa using hpl) l c
  (have hb:=trivial;with_reducible repeat' (first|simp only[hb,Va.down,seval,a4J.down,hp,hA,hS,hrb,hB,hSb,hd,hl,h39,hg,hg2,ac4,abL,aKF,ay8]|refine Au ?_ ?_<;>intro hb|refine fd ?_|fail))
  have hsl:((H.set b .dead).set p (CB.live 1 false true [[AV.slr 1 (H.length+1) 0 (q.length+1)]])).length=H.length:=by simp
  refine hK _ ?_
  rw[Nh]
  refine ayZ (vs:=[]) (by simp only[Va.down,seval,a4J.down]) ⟨rfl,.slr 1 (H.length+1) 0 (q.length+1),false,?_,.inr ⟨H.length+1,false,(q++[x]).map nvv,0,by simp,?_,by omega,rfl,by simp⟩,⟨by simp,fun c hc hn=>?_⟩,fun c hc=>?_,fun hqq=>Ej (Ei (Ei hqq b rfl) p rfl) rfl,fun c hc=>by simp[Oc]at hc;omega⟩
  ·rw[aoS (by omega),apA (by simpa using hpl)]
  ·rw[azV (by omega),hsl,aEM];simp[nvv]
  ·have n1:c≠p:=fun e=>hn (by rw[e];exact awL ..)
   have n2:c≠b:=fun e=>hn (by rw[e];simp[Oc])
   rw[aoS (by omega),ad8 (fun e=>n1 e.symm),ad8 (fun e=>n2 e.symm)]
  ·simp[Oc]at hc;subst hc
   rw[aoS (by omega),ad8 (fun e=>hbp e.symm),apA hbl]
theorem a58(b r k:Nat):slx Tryz.prog 50 (some (.slr 1 b r (k+1))) (some (some (.int .i64 1))) (some none)=some (.ret (.slr 1 b (r+1) k),[]):=by
 have hz:Ks Tryz.prog 3=some 1:=by kernel_rfl
 simp only[slx,Option.bind_some,aFH,Tryz.underlying50,hz,Ia]
 simp[Ia,r1]
 omega
theorem a4M{H:Aa}{p:Nat}{fl w:Bool}{v:AV}(hp:H[p]?=some (.live 1 fl w [[v]]))(hQ:QS v [] H p):
 Ef.call (.sh 76) [.ptr p 0 0] H=some (.ret (.tup [.int .i64 0,.bool false]),H):=by
 rcases hQ with⟨rfl,_⟩|⟨b,w',rows,r,rfl,hrb,hbp,hd,hl⟩
 ·(refine csh Tryz.func76 ?_;simp only[Tryz.f76];(have hb:=trivial;with_reducible repeat' (first|simp only[hb,Va.down,seval,a0X.down,hp]|refine Au ?_ ?_<;>intro hb|refine fd ?_|fail)))
 ·simp only[aEX]at hp
  (refine csh Tryz.func76 ?_;simp only[Tryz.f76];(have hb:=trivial;with_reducible repeat' (first|simp only[hb,Va.down,seval,a0X.down,hp]|refine Au ?_ ?_<;>intro hb|refine fd ?_|fail)))
theorem a2C{H:Aa}{p:Nat}{fl w:Bool}{v:AV}{x:Nat}{q:List Nat}(hp:H[p]?=some (.live 1 fl w [[v]]))(hQ:QS v (x::q) H p)(hq:q.length≤100000000):
 ShQ Ef 76 [.ptr p 0 0] H fun o G=>o=.ret (.tup [.int .i64 (x:Int),.bool true])∧∃v' fl',G[p]?=some (.live 1 fl' true [[v']])∧QS v' q G p∧Hy [p] H G∧Oc v'=Oc v∧(Ar H=true→Ar G=true):=by
 have hpl:=Ap hp
 rcases hQ with⟨_,h⟩|⟨b,w',rows,r,rfl,hrb,hbp,hd,hl⟩
 ·cases h
 have hr0:rows[r]?=some [.int .i64 (x:Nat)]:=by
  have:=congrArg (·[0]?) hd
  simpa [nvv]using this
 have hd2:rows.drop (r+1)=q.map nvv:=by
  have:=congrArg (·.drop 1) hd
  simpa [List.drop_drop]using this
 simp only[aKP]at hl hp
 have h1:decide (((q.length+1:Nat):Int)=0)=false:=decide_eq_false (by omega)
 have h2:((((q.length+1:Nat):Int))==0)=false:=by simp;omega
 have h3:((0:Int)<((q.length+1:Nat):Int))=True:=eq_true (by omega)
 have h4:((1:Int)≤((q.length+1:Nat):Int))=True:=eq_true (by omega)
 refine aPP rfl Tryz.func76 rfl rfl ?_
 simp only[Tryz.f76]
 refine Du (fun KK iN hK=>?_)
 (have hb:=trivial;with_reducible repeat' (first|simp only[hb,Va.down,seval,a0X.down,hp,hrb,hr0,h1,h2,h3,h4,a58]|refine Au ?_ ?_<;>intro hb|refine fd ?_|fail))
 refine hK _ ?_
 rw[aOL]
 refine ayZ (vs:=[.int .i64 (x:Int),.bool true]) (by simp only[Va.down,seval,a0X.down]) ⟨rfl,.slr 1 b (r+1) q.length,false,apA hpl,.inr ⟨b,w',rows,r+1,rfl,?_,hbp,hd2,by omega⟩,⟨by simp,fun b' _ hn=>ad8 (fun e=>hn (by simp[e]))⟩,rfl,fun hqq=>Ei hqq p rfl⟩
 rw[ad8 (fun e=>hbp e.symm)];exact hrb
theorem a4O{H:Aa}{p:Nat}{fl w:Bool}{v:AV}{q:List Nat}(x:Nat)(hp:H[p]?=some (.live 1 fl w [[v]]))(hQ:QS v q H p)(hq:q.length≤100000000):
 ShQ Ef 79 [.ptr p 0 0,.int .i64 (x:Int)] H fun o G=>o=.ret (.tup [])∧∃v' fl',G[p]?=some (.live 1 fl' true [[v']])∧QS v' (x::q) G p∧Hy [p] H G∧(Ar H=true→Ar G=true)∧∀b∈Oc v',H.length≤b:=by
 have hpl:=Ap hp
 have hA:=Aj hp
 have hS:=Kr hpl
 have keep:∀c l,Hy [p] H (H.set p c++l):=fun c l=>⟨by simp,fun b hb1 hn=>by rw[aoS (by simpa using hb1),ad8 (fun e=>hn (by simp[e]))]⟩
 have hg:∀c l,(H.set p c++l)[p]?=some c:=fun c l=>by rw[aoS (by simpa using hpl),apA hpl]
 refine aPP rfl Tryz.func79 rfl rfl ?_
 simp only[Tryz.f79]
 refine Du (fun KK iN hK=>?_)
 rcases hQ with⟨rfl,rfl⟩|⟨b,w',rows,r,rfl,hrb,hbp,hd,hl⟩
 ·(have hb:=trivial;with_reducible repeat' (first|simp only[hb,Va.down,seval,aT3.down,hp,hA,hS]|refine Au ?_ ?_<;>intro hb|refine fd ?_|fail))
  refine hK _ ?_
  rw[Nh]
  refine ayZ (vs:=[]) (by simp only[Va.down,seval,aT3.down]) ⟨rfl,_,_,hg _ _,.inr ⟨H.length,false,[nvv x],0,rfl,?_,by omega,rfl,rfl⟩,keep _ _,fun hqq=>Ej (Ei hqq p rfl) rfl,fun b hb1=>by simp[Oc]at hb1;omega⟩
  rw[ac4];rfl
 ·have hB:=Aj hrb
  cases q with
  |nil=>
   simp only[aEX]at hl hp hA
   have hrl:(r≤rows.length)=True:=eq_true (by omega)
   (have hb:=trivial;with_reducible repeat' (first|simp only[hb,Va.down,seval,aT3.down,hp,hA,hS,hrb,hB,hrl]|refine Au ?_ ?_<;>intro hb|refine fd ?_|fail))
   refine hK _ ?_
   rw[Nh]
   refine ayZ (vs:=[]) (by simp only[Va.down,seval,aT3.down]) ⟨rfl,_,_,hg _ _,.inr ⟨H.length,false,[nvv x],0,rfl,?_,by omega,rfl,rfl⟩,keep _ _,fun hqq=>Ej (Ei hqq p rfl) rfl,fun b hb1=>by simp[Oc]at hb1;omega⟩
   rw[ac4];rfl
  |cons y q=>
   have hq2:(1+(q.length+1)≤549755813888)=True:=eq_true (by simp at hq;omega)
   have hrl:(r+(q.length+1)≤rows.length)=True:=eq_true (by simp at hl;omega)
   have htk:aCG q.length (List.map nvv q)=List.map nvv q:=aL1 (by simp)
   (have hb:=trivial;with_reducible repeat' (first|simp only[hb,Va.down,seval,aT3.down,hp,hA,hS,hrb,hB,hd,hq2,hrl,htk,ac4,abL,aKF,ay8]|refine Au ?_ ?_<;>intro hb|refine fd ?_|fail))
   refine hK _ ?_
   rw[Nh]
   refine ayZ (vs:=[]) (by simp only[Va.down,seval,aT3.down]) ⟨rfl,_,_,hg _ _,.inr ⟨H.length+1,false,(x::y::q).map nvv,0,by simp;omega,?_,by omega,rfl,by simp⟩,keep _ _,fun hqq=>Ej (Ei hqq p rfl) rfl,fun b hb1=>by simp[Oc]at hb1;omega⟩
   rw[abL];rfl
theorem bfS(w:Ah)(d r:Int)(wf:Bool):Ef.call (.fn 77) [.ptr 0 0 0,.int .i64 r] [.live 4 false wf [[.int .i64 w.rooms,.int .i64 w.need,Bt 9 true w.nn (w.parts.map Ac.cells),.int .i64 d]]]=some (.ret (.func (.func 93) [] [.ptr 1 0 0,.ptr 2 0 0]),[.live 4 false wf [[.int .i64 w.rooms,.int .i64 w.need,Bt 9 true w.nn (w.parts.map Ac.cells),.int .i64 d]],.live 1 false false [[.ptr 0 0 0]],.live 1 true false [[.int .i64 r]]]):=by
 (refine ce Tryz.func77 ?_;simp only[Tryz.f77];(have hb:=trivial;with_reducible repeat' (first|simp only[hb,Vc.down,seval]|refine Au ?_ ?_<;>intro hb|refine fd ?_|fail)))
theorem bfO{w:Ah}{N:Nat}(hw:WOk w N){d r:Int}{y:AV}{lb rb kb:Nat}(Ox:Nat→Aa→Prop)
 (hL:∀i h,Ox i h→∃w1,h[lb]?=some (.live 1 false w1 [[.ptr kb 0 0]])) (hK:∀i h,Ox i h→∃w2,h[kb]?=some (.live 4 false w2 [[.int .i64 w.rooms,.int .i64 w.need,Bt 9 true w.nn (w.parts.map Ac.cells),.int .i64 d]])) (hR:∀i h,Ox i h→∃w3,h[rb]?=some (.live 1 true w3 [[.int .i64 r]]))
 (hA:∀i h fl wf (rows:List (List AV)),Ox i h→Ox i (h++[.live 9 fl wf rows]))
 (hS:∀(i:Nat) (p:Ac) (u:Int) h,w.parts[i]?=some p→((p.one=r∧u=p.other)∨(p.one≠r∧p.other=r∧u=p.one))→Ox i h→∃es,cl Ef h (some y) (some [.int .i64 i,.int .i64 u])=some (.ret (.bool true),es)∧Ox (i+1) (Bm h es))
 (hN:∀(i:Nat) (p:Ac) h,w.parts[i]?=some p→p.one≠r→p.other≠r→Ox i h→Ox (i+1) h)
 {h0:Aa} (h0I:Ox 0 h0):ShQ Ef 93 [y,.ptr lb 0 0,.ptr rb 0 0] h0 fun o h'=>o=.ret (.tup [])∧Ox w.parts.length h':=by
 obtain⟨w1,hl⟩:=hL _ _ h0I
 obtain⟨w2,hk0⟩:=hK _ _ h0I
 have hlen:=hw.len
 refine aPP rfl Tryz.func93 rfl rfl ?_
 simp only[Tryz.f93]
 (have hb:=trivial;with_reducible repeat' (first|simp only[hb,Vc.down,seval,aTJ.down,hl,hk0,ay8]|refine Au ?_ ?_<;>intro hb|refine fd ?_|fail))
 refine Ie (lst 41 w.parts (fun i (_:Unit) t h=>t 0=y∧t 1=.ptr lb 0 0∧t 2=.ptr rb 0 0∧t 11=Bt 9 true w.nn (w.parts.map Ac.cells)∧t 12=.int .i64 (w.parts.length:Nat)∧t 13=.int .i64 (i:Int)∧Ox i h) (fun _ _=>()) (fun _ e t h=>e=.exit 0∧Ox w.parts.length h) ?_ ?_ () _ _ ?_) (fun e t h hk=>?_)
 ·rintro _ t h Q' kQ ⟨g0,g1,g2,g11,g12,g13,hI⟩
  (have hb:=trivial;with_reducible repeat' (first|simp only[hb,Vc.down,seval,aTJ.down,g12,g13,Int.lt_irrefl,decide_false]|refine Au ?_ ?_<;>intro hb|refine fd ?_|fail))
  exact kQ _ _ _ ⟨rfl,hI⟩
 ·rintro p rest i _ t h J Q' kJ kQ hx hi ⟨g0,g1,g2,g11,g12,g13,hI⟩
  have hdd:decide ((i:Int)<(w.parts.length:Int))=true:=decide_eq_true (by omega)
  have hww:=Dj hi (by unfold maxLen;omega)
  have hpo:=hw.part p (aG2 hx)
  obtain⟨w3,hr⟩:=hR _ _ hI
  have hr1:=Aj hr
  have hv1:=hA _ _ true true [p.cells] hI
  have c1:decide ((0:Int)≤p.other)=true:=decide_eq_true hpo.2.1.1
  have c2:decide ((0:Int)≤p.one)=true:=decide_eq_true hpo.1.1
  have c3:decide ((0:Int)≤ -1)=false:=rfl
  by_cases e1:p.one=r
  ·have q1:(r==p.one)=true:=by simp[e1]
   obtain⟨es,hes,hv2⟩:=hS i p p.other _ hx (.inl ⟨e1,rfl⟩) hv1
   simp only[Ac.cells]at hes hv2
   (have hb:=trivial;with_reducible repeat' (first|simp only[hb,Vc.down,seval,aTJ.down,g0,g1,g2,g11,g12,g13,hdd,hww,hx,hr,hr1,q1,c1,hes,Ac.cells]|refine Au ?_ ?_<;>intro hb|refine fd ?_|fail))
   exact Bn (kJ _ _ () ⟨by simp[up,g0],by simp[up,g1],by simp[up,g2],by simp[up,g11],by simp[up,g12],by simp[up],hv2⟩ rfl)
  ·have q1:(r==p.one)=false:=by simp;exact fun e=>e1 e.symm
   by_cases e2:p.other=r
   ·have q2:(r==p.other)=true:=by simp[e2]
    obtain⟨es,hes,hv2⟩:=hS i p p.one _ hx (.inr ⟨e1,e2,rfl⟩) hv1
    simp only[Ac.cells]at hes hv2
    (have hb:=trivial;with_reducible repeat' (first|simp only[hb,Vc.down,seval,aTJ.down,g0,g1,g2,g11,g12,g13,hdd,hww,hx,hr,hr1,q1,q2,c2,hes,Ac.cells]|refine Au ?_ ?_<;>intro hb|refine fd ?_|fail))
    exact Bn (kJ _ _ () ⟨by simp[up,g0],by simp[up,g1],by simp[up,g2],by simp[up,g11],by simp[up,g12],by simp[up],hv2⟩ rfl)
   ·have q2:(r==p.other)=false:=by simp;exact fun e=>e2 e.symm
    have hv2:=hN i p _ hx e1 e2 hv1
    simp only[Ac.cells]at hv2
    (have hb:=trivial;with_reducible repeat' (first|simp only[hb,Vc.down,seval,aTJ.down,g0,g1,g2,g11,g12,g13,hdd,hww,hx,hr,hr1,q1,q2,c3,Ac.cells]|refine Au ?_ ?_<;>intro hb|refine fd ?_|fail))
    exact Bn (kJ _ _ () ⟨by simp[up,g0],by simp[up,g1],by simp[up,g2],by simp[up,g11],by simp[up,g12],by simp[up],hv2⟩ rfl)
 ·exact⟨by simp[up,ent],by simp[up,ent],by simp[up,ent],by simp[up],by simp[up],by simp[up],h0I⟩
 obtain⟨rfl,hI⟩:=hk
 (have hb:=trivial;with_reducible repeat' (first|simp only[hb,Vc.down,seval,aTJ.down]|refine Au ?_ ?_<;>intro hb|refine fd ?_|fail))
 exact hI
theorem QS.cln{v:AV}{q:List Nat}{H:Aa}{p:Nat}(h:QS v q H p):QS v q (Gy H) p:=by
 rcases h with h|⟨b,w,rows,r,h1,h2,h3,h4,h5⟩
 ·exact .inl h
 ·exact .inr ⟨b,false,rows,r,h1,Em h2,h3,h4,h5⟩
theorem QS.lt{v:AV}{q:List Nat}{H:Aa}{p:Nat}(h:QS v q H p):∀b∈Oc v,b<H.length∧∃w rows,H[b]?=some (.live 1 true w rows):=by
 rcases h with⟨rfl,_⟩|⟨b,w,rows,r,rfl,h2,_⟩
 ·intro b hb1;simp[Oc]at hb1
 ·intro b' hb1;simp[Oc]at hb1;subst hb1;exact⟨Ap h2,w,rows,h2⟩
theorem a5Q{h:Aa}(hq:Ar h=true){p:Nat}{fl w:Bool}{v:AV}{q:List Nat}(x:Nat)(hp:h[p]?=some (.live 1 fl w [[v]]))(hQ:QS v q h p)(hl:q.length≤100000000):
 ∃es M,cl Ef h (some (.func (.func 75) [] [])) (some [.ptr p 0 0,.int .i64 (x:Int)])=some (.ret (.tup []),es)∧Bm h es=M∧h.length≤M.length∧Ar M=true∧(∃v' fl',M[p]?=some (.live 1 fl' true [[v']])∧QS v' (q++[x]) M p∧∀b∈Oc v',h.length≤b)∧(∀b c,b∉p::Oc v→h[b]?=some c→M[b]?=some c)∧∀b∈Oc v,M[b]?=some .dead:=by
 have hX:∀G:Aa,(∃f row,G[p]?=some (.live 1 f true row))→(∀b∈Oc v,G[b]?=some .dead)→∀b∈p::Oc v,b<h.length∧∀c0 c,h[b]?=some c0→G[b]?=some c→c0.isLive=true∧c0.quiet c=false:=fun G g1 g2 b hb1=>by
  rcases aoR.1 hb1 with rfl|hb1
  ·obtain⟨f,row,g1⟩:=g1
   refine⟨Ap hp,fun c0 c k1 k2=>?_⟩
   rw[hp]at k1;rw[g1]at k2;cases k1;cases k2;exact⟨rfl,rfl⟩
  ·obtain⟨h1,w',rows,h2⟩:=hQ.lt b hb1
   refine⟨h1,fun c0 c k1 k2=>?_⟩
   rw[h2]at k1;rw[g2 b hb1]at k2;cases k1;cases k2;exact⟨rfl,rfl⟩
 obtain⟨o,G,es,e1,e2,rfl,v',fl',k1,k2,K,k4,k5,k6⟩:=aJN rfl rfl (aZK x (Em hp) hQ.cln hl) (fun o G hQ=>by
  obtain⟨_,v',fl',k1,k2,K,k4,_⟩:=hQ
  exact(Ij hq K (hX G ⟨_,_,k1⟩ k4)).1)
 have X:=hX G ⟨_,_,k1⟩ k4
 obtain⟨_,m1,m2,m3,m4⟩:=Ij hq K X
 rw[Bz]at k6
 have hle:h.length≤G.length:=by have:=K.len;rwa[Bz]at this
 refine⟨es,_,e1,e2,by rw[m1];exact hle,aw1 hq K X (k5 (abV hq)),⟨v',fl',m4 p (awL ..) _ k1,?_,k6⟩,fun b c hn hc=>by rw[m3 b (Ap hc) hn];exact hc,fun b hb=>m4 b (aHA _ hb) _ (k4 b hb)⟩
 rcases k2 with h1|⟨b,w',rows,r,h1,h2,h3,h4,h5⟩
 ·exact .inl h1
 ·exact .inr ⟨b,w',rows,r,h1,by rw[m2 b (k6 b (by rw[h1];simp[Oc]))];exact h2,h3,h4,h5⟩
theorem aQ8{h:Aa}{p:Nat}{fl w:Bool}{v:AV}(hp:h[p]?=some (.live 1 fl w [[v]]))(G:Aa)(g1:∃f row,G[p]?=some (.live 1 f true row)):∀b∈[p],b<h.length∧∀c0 c,h[b]?=some c0→G[b]?=some c→c0.isLive=true∧c0.quiet c=false:=fun b hb1=>by
 simp at hb1;subst hb1
 obtain⟨f,row,g1⟩:=g1
 refine⟨Ap hp,fun c0 c k1 k2=>?_⟩
 rw[hp]at k1;rw[g1]at k2;cases k1;cases k2;exact⟨rfl,rfl⟩
theorem bcC{h:Aa}(hq:Ar h=true){p:Nat}{fl w:Bool}{v:AV}{q:List Nat}(x:Nat)(hp:h[p]?=some (.live 1 fl w [[v]]))(hQ:QS v q h p)(hl:q.length≤100000000):
 ∃es M,cl Ef h (some (.func (.func 79) [] [])) (some [.ptr p 0 0,.int .i64 (x:Int)])=some (.ret (.tup []),es)∧Bm h es=M∧h.length≤M.length∧Ar M=true∧(∃v' fl',M[p]?=some (.live 1 fl' true [[v']])∧QS v' (x::q) M p∧∀b∈Oc v',h.length≤b)∧∀b c,b≠p→h[b]?=some c→M[b]?=some c:=by
 obtain⟨o,G,es,e1,e2,rfl,v',fl',k1,k2,K,k5,k6⟩:=aJN rfl rfl (a4O x (Em hp) hQ.cln hl) (fun o G hQ=>by
  obtain⟨_,v',fl',k1,k2,K,_⟩:=hQ
  exact(Ij hq K (aQ8 hp G ⟨_,_,k1⟩)).1)
 have X:=aQ8 hp G ⟨_,_,k1⟩
 obtain⟨_,m1,m2,m3,m4⟩:=Ij hq K X
 rw[Bz]at k6
 have hle:h.length≤G.length:=by have:=K.len;rwa[Bz]at this
 refine⟨es,_,e1,e2,by rw[m1];exact hle,aw1 hq K X (k5 (abV hq)),⟨v',fl',m4 p (awL ..) _ k1,?_,k6⟩,fun b c hn hc=>by rw[m3 b (Ap hc) (by simpa using hn)];exact hc⟩
 rcases k2 with h1|⟨b,w',rows,r,h1,h2,h3,h4,h5⟩
 ·exact .inl h1
 ·exact .inr ⟨b,w',rows,r,h1,by rw[m2 b (k6 b (by rw[h1];simp[Oc]))];exact h2,h3,h4,h5⟩
theorem bc6{h:Aa}(hq:Ar h=true){p:Nat}{fl w:Bool}{v:AV}(hp:h[p]?=some (.live 1 fl w [[v]]))(hQ:QS v [] h p):
 cl Ef h (some (.func (.func 76) [] [])) (some [.ptr p 0 0])=some (.ret (.tup [.int .i64 0,.bool false]),[]):=
 a4A rfl rfl (a4M (Em hp) hQ.cln) hq
theorem a5O{h:Aa}(hq:Ar h=true){p:Nat}{fl w:Bool}{v:AV}{x:Nat}{q:List Nat}(hp:h[p]?=some (.live 1 fl w [[v]]))(hQ:QS v (x::q) h p)(hl:q.length≤100000000):
 ∃es M,cl Ef h (some (.func (.func 76) [] [])) (some [.ptr p 0 0])=some (.ret (.tup [.int .i64 (x:Int),.bool true]),es)∧Bm h es=M∧h.length≤M.length∧Ar M=true∧(∃v' fl',M[p]?=some (.live 1 fl' true [[v']])∧QS v' q M p∧Oc v'=Oc v)∧∀b c,b≠p→h[b]?=some c→M[b]?=some c:=by
 obtain⟨o,G,es,e1,e2,rfl,v',fl',k1,k2,K,k4,k5⟩:=aJN rfl rfl (a2C (Em hp) hQ.cln hl) (fun o G hQ=>by
  obtain⟨_,v',fl',k1,k2,K,_⟩:=hQ
  exact(Ij hq K (aQ8 hp G ⟨_,_,k1⟩)).1)
 have X:=aQ8 hp G ⟨_,_,k1⟩
 obtain⟨_,m1,m2,m3,m4⟩:=Ij hq K X
 have hle:h.length≤G.length:=by have:=K.len;rwa[Bz]at this
 have same:∀b c,b≠p→h[b]?=some c→(Lq h G)[b]?=some c:=fun b c hn hc=>by rw[m3 b (Ap hc) (by simpa using hn)];exact hc
 refine⟨es,_,e1,e2,by rw[m1];exact hle,aw1 hq K X (k5 (abV hq)),⟨v',fl',m4 p (awL ..) _ k1,?_,k4⟩,same⟩
 rcases k2 with h1|⟨b,w',rows,r,h1,h2,h3,h4,h5⟩
 ·exact .inl h1
 ·have hbv:b∈Oc v:=by rw[←k4,h1];simp[Oc]
  obtain⟨_,w0,rows0,hh⟩:=hQ.lt b hbv
  have hr:(hf (Lq h G) b).bind Bq=(hf G b).bind Bq:=aSA hq K X b
  have hM:=same b _ h3 hh
  have e3:rows0=rows:=by
   have a1:((Lq h G)[b]?).bind Bq=(G[b]?).bind Bq:=hr
   rw[hM,h2]at a1
   simp[Bq]at a1;exact a1
  subst e3
  exact .inr ⟨b,w0,rows0,r,h1,hM,h3,h4,h5⟩
theorem a42{vs:List AV}{b:Nat}{h:Aa}{ps:List Nat}{asg body:Code}{tm:List AV}{st:Ik}{Q:Do→Aa→Prop}(hb:h[b]?=some (.lp ps asg body tm st))(hl:ps.length=vs.length)
 (he:RnE b Q (aYG Ef Tryz.prog b body (Bl Ef Tryz.prog 5000 asg [] ⟨Lx tm ps vs,h⟩))):RnQ Ef (vs++[.yl b]) h Q:=RnQ.start (pr:=pr) hb hl he
theorem a2X{O:Ea}{H:Aa}{b:Nat}{vs:List AV}{Q:Do→Aa→Prop}(K:RnQ O (vs++[.yl b]) (Gy H) Q)(ok:∀o G,Q o G→aKZ H G):
 ∃o G es,cl O H (some (.yl b)) (some vs)=some (o,es)∧Bm H es=Lq H G∧Q o G:=by
 obtain⟨o,G,hc,hq⟩:=K
 obtain⟨es,e1,e2⟩:=ayI H G [] (ok o G hq)
 refine⟨o,G,es,?_,by simpa using e2,hq⟩
 rw[bdX,hc,aGH]
 have e1':Bh 0 H G=some es:=e1
 rw[e1'];rfl
def Hh:Nat:=1048576
def DiH(LK:CB)(e:Bool)(ps:List AV)(N:Nat)(h:Aa)(dd q K:List Nat):Prop:=∃f v fl w,
 h[0]?=some LK∧h[1]?=some (.live 24 true false [ps])∧h[2]?=some (.live 1 true f (dd.map nvv))∧h[3]?=some (.live 1 false e [[.slr 1 2 0 N]])∧h[5]?=some (.live 1 false e [[.ptr 4 0 0]])∧h[4]?=some (.live 1 fl w [[v]])∧QS v q h 4∧(∀b∈Oc v,6≤b∧b∉K)∧Ar h=true
theorem DiH.app{LK:CB}{e:Bool}{ps:List AV}{N:Nat}{h:Aa}{dd q K:List Nat}(D:DiH LK e ps N h dd q K){L:Aa}(hL:Ar L=true):DiH LK e ps N (h++L) dd q K:=by
 obtain⟨f,v,fl,w',i0,i1,i2,i3,i5,i4,iQ,iB,iq⟩:=D
 refine⟨f,v,fl,w',Aj i0 L,Aj i1 L,Aj i2 L,Aj i3 L,Aj i5 L,Aj i4 L,?_,iB,Ej iq hL⟩
 rcases iQ with h|⟨b,w',rows,r,h1,h2,h3⟩
 ·exact .inl h
 ·exact .inr ⟨b,w',rows,r,h1,Aj h2 _,h3⟩
def Okw(H G:Aa):Prop:=H.length≤G.length∧∀(b:Nat) (c0 c:CB),H[b]?=some c0→G[b]?=some c→(c0.quiet c=true∧c0.clean=c.clean)∨(c0.isLive=true∧((∃st fl rows,c=.live st fl true rows)∨c=.dead))
theorem aEI{c0 c:CB}(h:c0.isLive=true)(hc:(∃st fl rows,c=.live st fl true rows)∨c=.dead):c0.quiet c=false:=by
 rcases hc with⟨_,_,_,rfl⟩|rfl<;>cases c0<;>first|rfl|(simp[CB.isLive]at h;done)|(simp[CB.quiet,CB.same];done)
theorem Okw.sh{H G:Aa}(k:Okw H G):aKZ H G:=⟨k.1,fun b c0 c h0 h1=>(k.2 b c0 c h0 h1).imp (fun h=>h.1) (fun h=>h.1)⟩
theorem aP1{c0 c1:CB}(h:c0.clean=c1.clean)(h1:c1.isLive=true):c0.isLive=true:=by cases c0<;>cases c1<;>first|rfl|(simp[CB.clean]at h;done)|cases h1
theorem aFC(c:CB):c.clean.clean=c.clean:=by cases c<;>rfl
theorem Okw.app{H G:Aa}(k:Okw H G)(l:Aa):Okw H (G++l):=⟨by simp;have:=k.1;omega,fun b c0 c h0 h1=>k.2 b c0 c h0 (by
 have:=Ap h0
 have:=k.1
 rw[aoS (by omega)]at h1;exact h1)⟩
theorem Okw.cl{H:Aa}(h:Ar H=true):Okw H (Gy H):=⟨by rw[Bz];exact aA5 _,fun b c0 c h0 h1=>by
 rw[Em h0]at h1;cases h1
 exact .inl ⟨Ft h h0,(aFC c0).symm⟩⟩
theorem Okw.keep{H G:Aa}{X:List Nat}(h:Ar H=true)(K:Hy X (Gy H) G)(hX:∀b∈X,∃c0 c,H[b]?=some c0∧G[b]?=some c∧c0.isLive=true∧((∃st fl rows,c=.live st fl true rows)∨c=.dead)):Okw H G:=⟨by have:=K.len;rwa[Bz]at this,fun b c0 c h0 h1=>by
 by_cases hb:b∈X
 ·obtain⟨d0,d,e0,e1,e2⟩:=hX b hb
  rw[h0]at e0;rw[h1]at e1;cases e0;cases e1
  exact .inr e2
 ·rw[K.same b (by rw[Bz];exact Ap h0) hb,Em h0]at h1;cases h1
  exact .inl ⟨Ft h h0,(aFC c0).symm⟩⟩
theorem Okw.mrg_clean{H G:Aa}(k:Okw H G){b:Nat}{c:CB}(hc:G[b]?=some c):∃c',(Lq H G)[b]?=some c'∧c'.clean=c.clean:=by
 by_cases hb:b<H.length
 ·have h0:H[b]?=some H[b]:=azO hb
  rcases k.2 b _ c h0 hc with⟨h1,h2⟩|⟨h1,h2⟩
  ·exact⟨_,Kv h0 hc h1,h2⟩
  ·refine⟨_,ax5 h0 hc (aEI h1 h2),?_⟩
   rcases h2 with⟨_,_,_,rfl⟩|rfl<;>rfl
 ·exact⟨c,by rw[aAT k.1 (by omega)];exact hc,rfl⟩
theorem Okw.trans{H h' G:Aa}(k:Okw H h')(k':Okw h' G):Okw H (Lq h' G):=by
 refine⟨by rw[ah9 k'.1];exact Nat.le_trans k.1 k'.1,fun b c0 c h0 h1=>?_⟩
 have hb:=Ap h0
 have e1:h'[b]?=some (h'[b]'(by have:=k.1;omega)):=azO _
 have e2:G[b]?=some (G[b]'(by have:=k.1;have:=k'.1;omega)):=azO _
 generalize h'[b]'(by have:=k.1;omega)=c1 at *
 generalize G[b]'(by have:=k.1;have:=k'.1;omega)=c2 at *
 rcases k'.2 b _ _ e1 e2 with⟨g1,g2⟩|⟨g1,g2⟩
 ·rw[Kv e1 e2 g1]at h1;cases h1
  exact k.2 b _ _ h0 e1
 ·rw[ax5 e1 e2 (aEI g1 g2)]at h1
  have:c2.mark=c2:=by rcases g2 with⟨_,_,_,rfl⟩|rfl<;>rfl
  rw[this]at h1;cases h1
  refine .inr ⟨?_,g2⟩
  rcases k.2 b _ _ h0 e1 with⟨_,h⟩|⟨h,_⟩
  ·exact aP1 h g1
  ·exact h
theorem Okw.old{H G:Aa}{b:Nat}{c0 c:CB}(h0:H[b]?=some c0)(h1:G[b]?=some c)(hq:c0.quiet c=true):(Lq H G)[b]?=some c0:=Kv h0 h1 hq
theorem aW3{c:CB}{st:Nat}{fl w:Bool}{rows:List (List AV)}(h:c.clean=(CB.live st fl w rows).clean):∃w',c=.live st fl w' rows:=by
 cases c<;>simp[CB.clean]at h
 obtain⟨rfl,rfl,rfl⟩:=h
 exact⟨_,rfl⟩
theorem Okw.live{H G:Aa}(k:Okw H G){b st:Nat}{fl w:Bool}{rows:List (List AV)}(hc:G[b]?=some (.live st fl w rows)):∃w',(Lq H G)[b]?=some (.live st fl w' rows):=by
 obtain⟨c',h1,h2⟩:=k.mrg_clean hc
 obtain⟨w',rfl⟩:=aW3 h2
 exact⟨w',h1⟩
theorem QS.okw{H G:Aa}(k:Okw H G){v:AV}{q:List Nat}{p:Nat}(h:QS v q G p):QS v q (Lq H G) p:=by
 rcases h with h|⟨b,w,rows,r,h1,h2,h3,h4,h5⟩
 ·exact .inl h
 ·obtain⟨w',h6⟩:=k.live h2
  exact .inr ⟨b,w',rows,r,h1,h6,h3,h4,h5⟩
theorem Okw.quiet{H G:Aa}(k:Okw H G)(h:Ar H=true)(h':Ar G=true):Ar (Lq H G)=true:=by
 refine aAH fun c hc=>?_
 obtain⟨b,hb⟩:=List.getElem?_of_mem hc
 have hbl:=Ap hb
 rw[ah9 k.1]at hbl
 have e2:G[b]?=some G[b]:=azO hbl
 generalize G[b]=c2 at *
 by_cases hl:b<H.length
 ·have e1:H[b]?=some H[b]:=azO hl
  generalize H[b]=c1 at *
  rcases k.2 b _ _ e1 e2 with⟨g1,g2⟩|⟨g1,g2⟩
  ·rw[Kv e1 e2 g1]at hb;cases hb;exact Ft h e1
  ·rw[ax5 e1 e2 (aEI g1 g2)]at hb;cases hb;exact aGE (Ft h' e2)
 ·rw[aAT k.1 (by omega),e2]at hb;cases hb;exact Ft h' e2
theorem aZ1{LK:CB}{e:Bool}{ps:List AV}{N:Nat}{h':Aa}{dd q K:List Nat}{f:Bool}{v:AV}{fl w:Bool}(i0:h'[0]?=some LK)(i1:h'[1]?=some (.live 24 true false [ps]))(i2:h'[2]?=some (.live 1 true f (dd.map nvv)))(i3:h'[3]?=some (.live 1 false e [[.slr 1 2 0 N]]))(i5:h'[5]?=some (.live 1 false e [[.ptr 4 0 0]]))(i4:h'[4]?=some (.live 1 fl w [[v]]))(iQ:QS v q h' 4)(iB:∀b∈Oc v,6≤b∧b∉K)(iq:Ar h'=true)
 {B:Nat} {LP LB:CB} (hB:h'[B]?=some LP) (hBK:B∈K) (hK:∀b∈K,6≤b∧b<h'.length) (hLPc:LP.clean=LP) (hLPq:LP.quiet LP=true) {M:Aa} {Y dd2 q2:List Nat} {v2:AV} {fl2:Bool} (m1:h'.length≤M.length) (m2:Ar M=true) (m3:M[4]?=some (.live 1 fl2 true [[v2]])) (m4:QS v2 q2 M 4) (m5:∀b∈Oc v2,h'.length≤b)
 (m6:∀b c,b∉Y→(((Gy h').set B LB).set 2 (.live 1 true true (dd2.map nvv)))[b]?=some c→M[b]?=some c) (hY:4∈Y) (hY':∀b∈Y,b=4∨(b∈Oc v∧M[b]?=some .dead)):
 Okw h' (M.set B LP)∧DiH LK e ps N (Lq h' (M.set B LP)) dd2 q2 K∧(∀b∈K,(Lq h' (M.set B LP))[b]?=h'[b]?)∧h'.length≤(Lq h' (M.set B LP)).length:=by
 have hBl:=Ap hB
 have hB6:=(hK B hBK).1
 have h4l:=Ap i4
 have hY6:∀b∈Y,b=4∨(6≤b∧b∉K):=fun b hb1=>(hY' b hb1).imp id (fun h=>iB b h.1)
 have h2Y:2∉Y:=fun h=>by rcases hY6 2 h with h|h<;>omega
 have hKY:∀b∈K,b∉2::Y:=fun b hb1 h=>by
  have:=(hK b hb1).1
  rcases aoR.1 h with h|h
  ·omega
  ·rcases hY6 b h with h|h
   ·omega
   ·exact h.2 hb1
 have hg2:M[2]?=some (.live 1 true true (dd2.map nvv)):=m6 2 _ h2Y (apA (by simp[Bz];omega))
 have hK2:Hy (2::Y) (Gy h') (M.set B LP):=⟨by simpa [Bz]using m1,fun b hb1 hn=>by
  rw[Bz]at hb1
  obtain⟨c,hc⟩:∃c,h'[b]?=some c:=⟨_,azO hb1⟩
  by_cases e:b=B
  ·subst e
   rw[apA (by omega),Em hB,hLPc]
  ·rw[ad8 (fun h=>e h.symm)]
   have:=m6 b c.clean (fun h=>hn (aHA _ h)) (by
    rw[ad8 (fun h=>hn (by rw[←h];exact awL ..)),ad8 (fun h=>e h.symm)];exact Em hc)
   rw[this,Em hc]⟩
 have hne:∀b,b≠B→(M.set B LP)[b]?=M[b]?:=fun b h=>ad8 (fun e=>h e.symm)
 have X:∀b∈2::Y,∃c0 c,h'[b]?=some c0∧(M.set B LP)[b]?=some c∧c0.isLive=true∧((∃st fl rows,c=.live st fl true rows)∨c=.dead):=fun b hb1=>by
  rcases aoR.1 hb1 with rfl|hb1
  ·exact⟨_,_,i2,by rw[hne 2 (by omega)];exact hg2,rfl,.inl ⟨_,_,_,rfl⟩⟩
  ·rcases hY' b hb1 with rfl|⟨h1,h2⟩
   ·exact⟨_,_,i4,by rw[hne 4 (by omega)];exact m3,rfl,.inl ⟨_,_,_,rfl⟩⟩
   ·obtain⟨h3,w',rows,h5⟩:=iQ.lt b h1
    exact⟨_,_,h5,by rw[hne b (fun e=>(iB b h1).2 (e▸hBK))];exact h2,rfl,.inr rfl⟩
 have ok:=Okw.keep iq hK2 X
 have X':∀b∈2::Y,b<h'.length∧∀c0 c,h'[b]?=some c0→(M.set B LP)[b]?=some c→c0.isLive=true∧c0.quiet c=false:=fun b hb1=>by
  obtain⟨c0,c,h1,h2,h3,h4⟩:=X b hb1
  refine⟨Ap h1,fun d0 d k1 k2=>?_⟩
  rw[h1]at k1;rw[h2]at k2;cases k1;cases k2
  exact⟨h3,aEI h3 h4⟩
 obtain⟨g1,g2,g3,g4,g5⟩:=Ij iq hK2 X'
 have low:∀b,b<6→b≠2→b≠4→(Lq h' (M.set B LP))[b]?=h'[b]?:=fun b h1 h2 h3=>g4 b (by have:=Ap i5;omega) fun h=>by
  rcases aoR.1 h with h|h
  ·exact h2 h
  ·rcases hY6 b h with h|h<;>omega
 refine⟨ok,⟨true,v2,fl2,true,by rw[low 0 (by omega) (by omega) (by omega)];exact i0,by rw[low 1 (by omega) (by omega) (by omega)];exact i1,?_,by rw[low 3 (by omega) (by omega) (by omega)];exact i3,by rw[low 5 (by omega) (by omega) (by omega)];exact i5,?_,?_,fun b hb1=>?_,?_⟩,fun b hb1=>g4 b (hK b hb1).2 (hKY b hb1),by rw[g2];simpa using m1⟩
 ·exact g5 2 (awL ..) _ (by rw[hne 2 (by omega)];exact hg2)
 ·exact g5 4 (aHA _ hY) _ (by rw[hne 4 (by omega)];exact m3)
 ·rcases m4 with h|⟨b,w',rows,r,h1,h2,h3⟩
  ·exact .inl h
  ·have hb1:=m5 b (by rw[h1];simp[Oc])
   exact .inr ⟨b,w',rows,r,h1,by rw[g3 b hb1,hne b (by omega)];exact h2,h3⟩
 ·have h1:=m5 b hb1
  exact⟨by omega,fun h=>by have:=(hK b h).2;omega⟩
 ·exact aw1 iq hK2 X' (Ei m2 B (by rw[hLPc];exact hLPq))
theorem a03{h' l:Aa}(hq:Ar h'=true):Okw h' (Gy h'++l)∧Lq h' (Gy h'++l)=h'++l:=by
 have K:Hy [] (Gy h') (Gy h'++l):=Hy.app _ _
 have X:∀b∈([]:List Nat),b<h'.length∧∀c0 c,h'[b]?=some c0→(Gy h'++l)[b]?=some c→c0.isLive=true∧c0.quiet c=false:=fun b hb1=>by cases hb1
 obtain⟨g1,g2,g3,g4,_⟩:=Ij hq K X
 refine⟨(Okw.cl hq).app l,aL7 fun b=>?_⟩
 by_cases hb1:b<h'.length
 ·rw[g4 b hb1 (by simp),aoS hb1]
 ·rw[g3 b (by omega),azV (by simp[Bz];omega),azV (by omega),Bz]
theorem a2S:Af .nilp=[.nilp]:=Eq.trans rfl rfl
theorem a3J(n x:Nat):(ahF n x).sum=n*x:=by
 induction n with
 |zero=>simp
 |succ n ih=>rw[aNR,List.sum_cons,ih,Nat.succ_mul];omega
theorem aM3:∀(l:List Nat) (s:Nat),(l.set s 0).sum≤l.sum
 | [],s=>by simp
 |a::l,0=>by simp
 |a::l,s+1=>by have:=aM3 l s;simp;omega
theorem aW8{N s far:Nat}(h:N≤8):(Lo N s far).sum≤8*far:=by
 unfold Lo
 refine Nat.le_trans (aM3 _ _) ?_
 rw[a3J]
 exact Nat.mul_le_mul_right _ h
def tgB(x:Int × Bool):Bool:=x.1==0&& !x.2
def tgt(L:List (Int × Bool)):List Bool:=L.map tgB
theorem aV1{w:Ah}{L:List (Int × Bool)}{i:Nat}{p:Ac}{x:Int × Bool}(hp:w.parts[i]?=some p)(hx:L[i]?=some x):(edg w (tgt L))[i]?=some (p.one.toNat,p.other.toNat,if tgB x=true then 1 else 0):=by
 unfold edg tgt
 rw[List.getElem?_zipWith,aCH,hp,hx];rfl
theorem aN6{w:Ah}{d:Int}:edg w (tgt (Ab w d))=edg w (aOG w d):=by
 have e:∀(l:List Ac) (r:List Bool) (f:Ac→Bool→Net.Edge),List.zipWith f l (l.map (fun p=>aO0 p d)++r)=List.zipWith f l (l.map fun p=>aO0 p d):=by
  intro l;induction l with
  |nil=>intro r f;simp
  |cons a l ih=>intro r f;simp[ih]
 unfold edg tgt Ab aOG
 rw[aN3,List.map_map]
 exact e _ _ _
theorem QS.app{v:AV}{q:List Nat}{H:Aa}{p:Nat}(h:QS v q H p)(l:Aa):QS v q (H++l) p:=by
 rcases h with h|⟨b,w,rows,r,h1,h2,h3⟩
 ·exact .inl h
 ·exact .inr ⟨b,w,rows,r,h1,Aj h2 l,h3⟩
theorem aWS{h:Aa}{b:Nat}{c:CB}(hc:h[b]?=some c):h.set b c=h:=by
 refine aL7 fun i=>?_
 by_cases e:b=i
 ·subst e;rw[apA (Ap hc),hc]
 ·rw[ad8 e]
theorem aAD:∀(L:List (Int × Bool)) (i:Nat) (a:Int) (b:Bool),L[i]?=some (a,b)→aCG 2 (List.drop (i*2) (Cj L))=[.int .i64 a,.bool b]
 | [],i,a,b,h=>by simp at h
 |x::L,0,a,b,h=>by simp at h;subst h;simp[Cj]
 |x::L,i+1,a,b,h=>by
  have ih:=aAD L i a b (by simpa using h)
  rw[show(i+1)*2=(i*2)+1+1 by omega]
  simpa only[Cj,List.flatMap_cons,List.cons_append,aHN,List.drop_succ_cons]using ih
theorem ay3{w:Ah}{d:Int}{i:Nat}{p:Ac}(hx:w.parts[i]?=some p):(Ab w d)[i]?=some (Av p d,p.opn):=by
 unfold Ab
 rw[aoS (by rw[ay8];exact(aHP.1 hx).1),aCH,hx];rfl
def no3:Nat→Nat→Nat→Prop:=fun _ _ _=>False
theorem aLF{w:Ah}{N:Nat}(hw:WOk w N)(h12:w.parts.length≤12){d:Int}{s:Nat}(hs:s<N){ps:List AV}{L:List (Int × Bool)}(hL12:L.length=12)(hps:ps=Cj L){wf:Bool}:
 ClQ Ef 58 [.ptr 0 0 0,.int .i64 (s:Int),.agg ps] [.live 4 false wf [[.int .i64 w.rooms,.int .i64 w.need,Bt 9 true w.nn (w.parts.map Ac.cells),.int .i64 d]]] fun o h'=>
  ∃(f:Bool) (ds:List Nat),o=.ret (.slr 1 1 0 N)∧h'=[.live 4 false wf [[.int .i64 w.rooms,.int .i64 w.need,Bt 9 true w.nn (w.parts.map Ac.cells),.int .i64 d]],.live 1 true f (ds.map nvv)]∧ds.length=N∧atT (edg w (tgt L)) s N Hh (fun v=>ds.getD v 0):=by
 have hr:=hw.rooms
 have n2:=hw.n2
 have n8:=hw.n8
 have hpl:ps.length=24:=by rw[hps,Be];omega
 have hflat:ps.all AV.flat=true∧ps.all AV.isCell=true:=by
  subst hps
  have hform:∀x∈Cj L,(∃n,x=.int .i64 n)∨∃b,x=.bool b:=fun x hx=>by
   simp only[Cj,aN4,aoR,aAO,or_false]at hx
   obtain⟨y,_,rfl|rfl⟩:=hx
   ·exact .inl ⟨_,rfl⟩
   ·exact .inr ⟨_,rfl⟩
  exact⟨aD5.2 fun x hx=>by rcases hform x hx with⟨n,rfl⟩|⟨b,rfl⟩<;>rfl,aD5.2 fun x hx=>by rcases hform x hx with⟨n,rfl⟩|⟨b,rfl⟩<;>rfl⟩
 obtain⟨hf1,hf2⟩:=hflat
 refine bbI rfl Tryz.func58 rfl rfl ?_
 simp only[Tryz.f58]
 simp only[hr]
 have h39:(N≤549755813888)=True:=eq_true (by omega)
 have m1:((N:Int)≤(N:Int))=True:=eq_true (Int.le_refl _)
 have m2:((N:Int)≤1099511627776)=True:=eq_true (by omega)
 (have hb:=trivial;with_reducible repeat' (first|simp only[hb,Vc.down,seval,aoQ.down,hpl,hf1,hf2,h39,m1,m2,aO4]|refine Au ?_ ?_<;>intro hb|refine fd ?_|fail))
 generalize hLK:(CB.live 4 false wf [[.int .i64 (N:Int),.int .i64 w.need,Bt 9 true w.nn (w.parts.map Ac.cells),.int .i64 d]])=LK
 refine Ie (lst 85 (ahF N ()) (fun i (_:Unit) t h=>t 0=.ptr 0 0 0∧t 1=.int .i64 (s:Int)∧t 5=.ptr 1 0 0∧t 7=.ptr 3 0 0∧t 23=.int .i64 (N:Int)∧t 24=.int .i64 (i:Int)∧∃f,h=[LK,.live 24 true false [ps],.live 1 true f ((ahF i Hh++ahF (N-i) 0).map nvv),.live 1 false true [[.slr 1 2 0 N]]]) (fun _ _=>())
  (fun _ e t h=>e=.exit 0∧t 0=.ptr 0 0 0∧t 1=.int .i64 (s:Int)∧t 5=.ptr 1 0 0∧t 7=.ptr 3 0 0∧∃f,h=[LK,.live 24 true false [ps],.live 1 true f ((ahF N Hh).map nvv),.live 1 false true [[.slr 1 2 0 N]]]) ?_ ?_ () _ _ ?_) (fun e t h hk=>?_)
 ·rintro _ t h Q' kQ ⟨g0,g1,g5,g7,g23,g24,f,rfl⟩
  rw[aEG]at g24
  (have hb:=trivial;with_reducible repeat' (first|simp only[hb,Vc.down,seval,aoQ.down,g23,g24,Int.lt_irrefl,decide_false]|refine Au ?_ ?_<;>intro hb|refine fd ?_|fail))
  exact kQ _ _ _ ⟨rfl,by simp[up,g0],by simp[up,g1],by simp[up,g5],by simp[up,g7],f,by simp⟩
 ·rintro x rest i _ t h J Q' kJ kQ hx hi ⟨g0,g1,g5,g7,g23,g24,f,rfl⟩
  rw[aEG]at hi
  have hdd:decide ((i:Int)<(N:Int))=true:=decide_eq_true (by omega)
  have hdi:((i:Int)<(N:Int))=True:=eq_true (by omega)
  have hww:=Dj (n:=N) hi (by unfold maxLen;omega)
  have hrow:((ahF i Hh++ahF (N-i) 0).map nvv)[i]?=some [.int .i64 0]:=by
   rw[aCH,azV (by simp),aEG,aHR,aPI,if_pos (by omega)]
   rfl
  have hnx:((ahF i Hh++ahF (N-i) 0).map nvv).set i [.int .i64 1048576]=(ahF (i+1) Hh++ahF (N-(i+1)) 0).map nvv:=by
   have e:N-i=(N-(i+1))+1:=by omega
   rw[show([.int .i64 1048576]:List AV)=nvv Hh from rfl,←aI5,List.set_append_right _ _ (by simp),aEG,aHR,e,aNR,List.set_cons_zero,List.replicate_succ',List.append_assoc]
   rfl
  generalize(ahF i Hh++ahF (N-i) 0).map nvv=rows at *
  (have hb:=trivial;with_reducible repeat' (first|simp only[hb,Vc.down,seval,aoQ.down,g0,g1,g5,g7,g23,g24,hdd,hdi,hww,hrow,hnx]|refine Au ?_ ?_<;>intro hb|refine fd ?_|fail))
  exact Bn (kJ _ _ () ⟨by simp[up,g0],by simp[up,g1],by simp[up,g5],by simp[up,g7],by simp[up,g23],by simp[up],true,rfl⟩ rfl)
 ·exact⟨by simp[up,ent],by simp[up,ent],by simp[up],by simp[up],by simp[up],by simp[up],false,by simp[nvv]⟩
 obtain⟨rfl,g0,g1,g5,g7,f,rfl⟩:=hk
 have hrow:s<((ahF N Hh).map nvv).length:=by simpa using hs
 have hz:((ahF N Hh).map nvv)[s]?=some [.int .i64 1048576]:=by rw[aCH,aPI,if_pos hs];rfl
 have hin:((ahF N Hh).map nvv).set s [.int .i64 0]=(Lo N s Hh).map nvv:=by rw[Lo,aI5];rfl
 have o1:((s:Int)<(N:Int))=True:=eq_true (by omega)
 generalize hrw:(ahF N Hh).map nvv=rows at *
 obtain⟨q1,hq1⟩:∃q,Fn.func 75=q:=⟨_,rfl⟩
 obtain⟨q2,hq2⟩:∃q,Fn.func 76=q:=⟨_,rfl⟩
 have hLq:LK.quiet LK.clean=true:=by rw[←hLK];rfl
 obtain⟨es,M,b1,b2,b3,b4,⟨v',fl',b5,b6,b7⟩,b8,_⟩:=a5Q (h:=[LK,.live 24 true false [ps],.live 1 true true ((Lo N s Hh).map nvv),.live 1 false true [[.slr 1 2 0 N]],.live 1 false false [[.nils]],.live 1 false true [[.ptr 4 0 0]]]) (aAH fun c hc=>by
  simp only[aoR,aAO,or_false]at hc
  rcases hc with rfl|rfl|rfl|rfl|rfl|rfl
  ·exact hLq
  all_goals rfl) (p:=4) s rfl (.inl ⟨rfl,rfl⟩) (by simp)
 rw[hq1]at b1
 simp only[aHN]at b6
 obtain⟨es2,M2,c1,c2,c3,c4,⟨v2,fl2,c5,c6,c7⟩,c8⟩:=a5O b4 b5 b6 (by simp)
 rw[hq2]at c1
 have k3:=b8 3 _ (by simp[Oc]) rfl
 have k5:=b8 5 _ (by simp[Oc]) rfl
 have j3:=c8 3 _ (by omega) k3
 have j5:=c8 5 _ (by omega) k5
 have j0:=c8 0 _ (by omega) (b8 0 _ (by simp[Oc]) rfl)
 have j1:=c8 1 _ (by omega) (b8 1 _ (by simp[Oc]) rfl)
 have j2:=c8 2 _ (by omega) (b8 2 _ (by simp[Oc]) rfl)
 (have hb:=trivial;with_reducible repeat' (first|simp only[hb,Vc.down,seval,aoQ.down,g0,g1,g5,g7,hz,hin,o1,hq1,hq2,b1,b2,c1,c2,k3,k5,j3,j5,a2S,aO4]|refine Au ?_ ?_<;>intro hb|refine fd ?_|fail))
 generalize hE:edg w (tgt L)=E at *
 have hEo:EOk E N:=by rw[←hE];exact aGC hw _
 have I0:=a2Y (E:=E) (far:=Hh) hs hEo
 have hsum:(Lo N s Hh).sum≤8*1048576:=aW8 n8
 refine Ie (cnt 85 (fun n (_:Unit) t h=>t 0=.ptr 0 0 0∧t 1=.int .i64 (s:Int)∧t 5=.ptr 1 0 0∧t 7=.ptr 3 0 0∧t 9=.ptr 5 0 0∧∃dd q k,DiH LK true ps N h dd q [k]∧2*dd.sum+q.length≤20000000∧
  ((t 11=.bool true∧∃room w,t 10=.ptr k 0 0∧6≤k∧h[k]?=some (.live 1 true w [[.int .i64 (room:Nat)]])∧DqI E s N Hh dd (room::q) no3∧2*dd.sum+q.length+1≤n)∨(t 11=.bool false∧q=[]∧DqI E s N Hh dd [] no3))) (fun _ _=>())
  (fun _ e t h=>e=.exit 2∧t 7=.ptr 3 0 0∧∃dd k,DiH LK true ps N h dd [] [k]∧DqI E s N Hh dd [] no3) ?_ ?_ (2*(Lo N s Hh).sum+1) () _ _ ?_) (fun e t h hk=>?_)
 ·rintro _ t h Q' kQ ⟨g0,g1,g5,g7,g9,dd,q,k,hD,hql,⟨g11,room,w5,g10,_,_,_,hm⟩|⟨g11,rfl,hI⟩⟩
  ·omega
  ·(have hb:=trivial;with_reducible repeat' (first|simp only[hb,Vc.down,seval,aoQ.down,g11]|refine Au ?_ ?_<;>intro hb|refine fd ?_|fail))
   exact kQ _ _ _ ⟨rfl,by simp[up,g7],dd,k,hD,hI⟩
 ·rintro n _ t h J Q' kJ kQ ⟨g0,g1,g5,g7,g9,dd,q,k,hD,hql,⟨g11,room,w5,g10,hk6,hkb,hI,hm⟩|⟨g11,rfl,hI⟩⟩
  ·obtain⟨f,v,fl,w',i0,i1,i2,i3,i5,i4,iQ,iB,iq⟩:=hD
   have hat:=bfS w d (room:Int) false
   rw[hr]at hat
   subst hLK
   (have hb:=trivial;with_reducible repeat' (first|simp only[hb,Vc.down,seval,aoQ.down,g0,g1,g5,g7,g9,g10,g11,i0,i1,i2,i3,i5,hkb,hat]|refine Au ?_ ?_<;>intro hb|refine fd ?_|fail))
   obtain⟨rN,rI⟩:=DqI.take hI
   have hkl:=Ap hkb
   generalize hLP:CB.lp _ _ _ _ _=LP
   obtain⟨LK,hLK⟩:∃c:CB,c=CB.live 4 false wf [[.int .i64 (N:Int),.int .i64 w.need,Bt 9 true w.nn (w.parts.map Ac.cells),.int .i64 d]]:=⟨_,rfl⟩
   refine a52 (bfO hw (d:=d) (r:=(room:Int)) (lb:=h.length) (rb:=h.length+1) (kb:=0) (fun i h'=>∃dd' q',DiH LK.clean false ps N h' dd' q' [k,h.length,h.length+1,h.length+2]∧DqI E s N Hh dd' q' (adD E room i)∧2*dd'.sum+q'.length≤2*dd.sum+q.length∧(∃w1,h'[k]?=some (.live 1 true w1 [[.int .i64 (room:Nat)]]))∧(∃w1,h'[h.length]?=some (.live 1 false w1 [[.ptr 0 0 0]]))∧(∃w1,h'[h.length+1]?=some (.live 1 true w1 [[.int .i64 (room:Nat)]]))∧h'[h.length+2]?=some LP∧h.length+3≤h'.length∧Okw (h++[.live 1 false false [[.ptr 0 0 0]],.live 1 true false [[.int .i64 (room:Nat)]],LP]) h') ?_ ?_ ?_ ?_ ?_ ?_ ?_) ?_
   ·rintro i h' ⟨dd',q',_,_,_,_,hb1,_⟩
    exact hb1
   ·rintro i h' ⟨dd',q',⟨f,v,fl,w',i0,_⟩,_⟩
    rw[hr]
    exact⟨false,by rw[i0,hLK];rfl⟩
   ·rintro i h' ⟨dd',q',_,_,_,_,_,hb2,_⟩
    exact hb2
   ·rintro i h' fl wf rows ⟨dd',q',k1,k3,k4,⟨a0,k5⟩,⟨a1,k6⟩,⟨a2,k7⟩,k8,k9,kO⟩
    exact⟨dd',q',k1.app rfl,k3,k4,⟨a0,Aj k5 _⟩,⟨a1,Aj k6 _⟩,⟨a2,Aj k7 _⟩,Aj k8 _,by simp;omega,kO.app _⟩
   ·rintro i p u h' hpx hu ⟨dd',q',⟨f',v',fl',w2,j0,j1,j2,j3,j5,j4,jQ,jB,jq⟩,k3,k4,⟨a0,k5⟩,⟨a1,k6⟩,⟨a2,k7⟩,k8,k9,kO⟩
    have round:RnQ Ef ([.int .i64 i,.int .i64 u]++[.yl (h.length+2)]) (Gy h') fun o G=>o=.ret (.bool true)∧Okw h' G∧∃dd2 q2,DiH LK.clean false ps N (Lq h' G) dd2 q2 [k,h.length,h.length+1,h.length+2]∧DqI E s N Hh dd2 q2 (adD E room (i+1))∧2*dd2.sum+q2.length≤2*dd.sum+q.length∧(∀b∈[k,h.length,h.length+1,h.length+2],(Lq h' G)[b]?=h'[b]?)∧h'.length≤(Lq h' G).length:=by
     have hir:room<N:=rN
     have hpo:=hw.part p (aG2 hpx)
     have hil:i<w.parts.length:=(aHP.1 hpx).1
     obtain⟨pc,hpc⟩:∃x,L[i]?=some x:=⟨_,azO (by omega)⟩
     have he:=aV1 hpx hpc
     rw[hE]at he
     obtain⟨to,rfl,htN,hrt,hto⟩:∃to:Nat,u=(to:Int)∧to<N∧room≠to∧(E[i]?=some (room,to,if tgB pc=true then 1 else 0)∨E[i]?=some (to,room,if tgB pc=true then 1 else 0)):=by
      rcases hu with⟨h1,h2⟩|⟨h1,h2,h3⟩
      ·exact⟨p.other.toNat,by omega,by omega,by omega,.inl (by rw[he,h1];rfl)⟩
      ·exact⟨p.one.toNat,by omega,by omega,by omega,.inr (by rw[he,h2];rfl)⟩
     have hi12:((i:Int)<12)=True:=eq_true (by omega)
     have hp24:(i*2+2≤24)=True:=eq_true (by omega)
     have htk:aCG 2 (List.drop (i*2) ps)=[.int .i64 pc.1,.bool pc.2]:=by
      rw[hps];exact aAD _ _ _ _ hpc
     have htt:=a1P pc.1 pc.2
     rw[show(pc.1==0&& !pc.2)=tgB pc from rfl]at htt
     have hdl:=k3.i.len
     have hrm:=aJ4 (d:=dd') (a:=room) (by omega)
     have htm:=aJ4 (d:=dd') (a:=to) (by omega)
     have hst:∀n:Nat,(dd'.map nvv).set to [.int .i64 (n:Int)]=(dd'.set to n).map nvv:=fun n=>by rw[aI5];rfl
     have hrf:=k3.i.le room rN
     have hrf2:dd'.getD room 0≤1048576:=hrf
     have I0:=k3.same hto
     have I1:=fun q'=>k3.less (q':=q') rN htN hrt hto
     have hrN:((room:Int)<(N:Int))=True:=eq_true (by omega)
     have htN':((to:Int)<(N:Int))=True:=eq_true (by omega)
     have hbit:=bbK (tgB pc)
     have hsum:∀x,x<dd'.getD to 0→(dd'.set to x).sum<dd'.sum:=fun x hx=>aCE (by omega) hx
     generalize dd'.getD room 0=xr at *
     generalize dd'.getD to 0=xt at *
     generalize hrows:dd'.map nvv=rows at *
     have hbc:=Em k8
     have hb0:LP.clean=LP:=by rw[←hLP];rfl
     rw[hb0]at hbc
     have hne2:∀(b:Nat) (c X:CB),b≠h.length+2→h'[b]?=some c→((Gy h').set (h.length+2) X)[b]?=some c.clean:=fun b c X hn hc=>by rw[ad8 (fun e=>hn e.symm),Em hc]
     have h6:=Ap i5
     have g0':=fun X=>hne2 0 _ X (by omega) j0
     have g1':=fun X=>hne2 1 _ X (by omega) j1
     have g2':=fun X=>hne2 2 _ X (by omega) j2
     have g3':=fun X=>hne2 3 _ X (by omega) j3
     have g5':=fun X=>hne2 5 _ X (by omega) j5
     have gk':=fun X=>hne2 k _ X (by omega) k5
     simp only[CB.clean]at g1' g2' g3' g5' gk'
     have hlw:∀n,n≤1048577→IntKind.i64.wrap (n:Nat)=(n:Int):=fun n hn=>Ez (by omega) (by omega)
     have hself:∀X:CB,((Gy h').set (h.length+2) X)[h.length+2]?=some X:=fun X=>apA (Ap hbc)
     have hback:∀X:CB,(((Gy h').set (h.length+2) X).set (h.length+2) LP)=Gy h':=fun X=>by
      rw[List.set_set];exact aWS hbc
     have sm:=a03 (l:=[]) jq
     simp only[List.append_nil]at sm
     have fin0:∀(dx:DqI E s N Hh dd' q' (adD E room (i+1))),(Do.ret (AV.bool true)=.ret (.bool true))∧Okw h' (Gy h')∧∃dd2 q2,DiH LK.clean false ps N (Lq h' (Gy h')) dd2 q2 [k,h.length,h.length+1,h.length+2]∧DqI E s N Hh dd2 q2 (adD E room (i+1))∧2*dd2.sum+q2.length≤2*dd.sum+q.length∧(∀b∈[k,h.length,h.length+1,h.length+2],(Lq h' (Gy h'))[b]?=h'[b]?)∧h'.length≤(Lq h' (Gy h')).length:=fun dx=>by
      rw[sm.2]
      exact⟨rfl,sm.1,dd',q',⟨f',v',fl',w2,j0,j1,by rw[hrows];exact j2,j3,j5,j4,jQ,jB,jq⟩,dx,k4,fun b _=>rfl,aA5 _⟩
     have hq':q'.length≤100000000:=by omega
     have hK6:∀b∈[k,h.length,h.length+1,h.length+2],6≤b∧b<h'.length:=fun b hb1=>by
      simp only[aoR,aAO,or_false]at hb1
      omega
     have hnx:∀(b:Nat) (c X Y:CB),b≠h.length+2→b≠2→h'[b]?=some c→(((Gy h').set (h.length+2) X).set 2 Y)[b]?=some c.clean:=fun b c X Y n1 n2 hc=>by rw[ad8 (fun e=>n2 e.symm)];exact hne2 b c X n1 hc
     have n5:=fun X Y=>hnx 5 _ X Y (by omega) (by omega) j5
     have n4:=fun X Y=>hnx 4 _ X Y (by omega) (by omega) j4
     have nB:∀X Y:CB,(((Gy h').set (h.length+2) X).set 2 Y)[h.length+2]?=some X:=fun X Y=>by rw[ad8 (by omega)];exact hself X
     simp only[CB.clean]at n5 n4
     have nQ:∀X Y,QS v' q' (((Gy h').set (h.length+2) X).set 2 Y) 4:=fun X Y=>by
      rcases QS.cln jQ with h1|⟨b,w0,rows0,r0,h1,h2,h3⟩
      ·exact .inl h1
      ·have hbb:=jB b (by rw[h1];simp[Oc])
       simp only[aoR,aAO,or_false,not_or]at hbb
       exact .inr ⟨b,w0,rows0,r0,h1,by rw[ad8 (by omega),ad8 (by omega)];exact h2,h3⟩
     have hlen2:∀X Y:CB,(((Gy h').set (h.length+2) X).set 2 Y).length=h'.length:=fun X Y=>by simp[Bz]
     have nqt:∀(X:CB) (Y:List (List AV)),X.quiet X.clean=true→Ar (((Gy h').set (h.length+2) X).set 2 (.live 1 true true Y))=true:=fun X Y hX=>Ei (Ei (abV jq) _ hX) _ rfl
     have fin1:∀{n:Nat} {q2:List Nat} {M:Aa} {Y:List Nat} {LB:CB} {v2:AV} {fl2:Bool},DqI E s N Hh (dd'.set to n) q2 (adD E room (i+1))→n<xt→q2.length=q'.length+1→h'.length≤M.length→Ar M=true→M[4]?=some (.live 1 fl2 true [[v2]])→QS v2 q2 M 4→(∀b∈Oc v2,h'.length≤b)→
      (∀b c,b∉Y→(((Gy h').set (h.length+2) LB).set 2 (.live 1 true true ((dd'.set to n).map nvv)))[b]?=some c→M[b]?=some c)→4∈Y→(∀b∈Y,b=4∨(b∈Oc v'∧M[b]?=some .dead))→
      (Do.ret (AV.bool true)=.ret (.bool true))∧Okw h' (M.set (h.length+2) LP)∧∃dd2 q2,DiH LK.clean false ps N (Lq h' (M.set (h.length+2) LP)) dd2 q2 [k,h.length,h.length+1,h.length+2]∧DqI E s N Hh dd2 q2 (adD E room (i+1))∧2*dd2.sum+q2.length≤2*dd.sum+q.length∧(∀b∈[k,h.length,h.length+1,h.length+2],(Lq h' (M.set (h.length+2) LP))[b]?=h'[b]?)∧h'.length≤(Lq h' (M.set (h.length+2) LP)).length:=fun {n q2 M Y LB v2 fl2} dx hn hq2 m1 m2 m3 m4 m5 m6 hY hY'=>by
      have hr:=aZ1 (K:=[k,h.length,h.length+1,h.length+2]) j0 j1 (by rw[hrows];exact j2) j3 j5 j4 jQ jB jq k8 (by simp) hK6 hb0 (by rw[←hLP];rfl) m1 m2 m3 m4 m5 m6 hY hY'
      exact⟨rfl,hr.1,dd'.set to n,q2,hr.2.1,dx,by have:=hsum n hn;omega,hr.2.2.1,hr.2.2.2⟩
     have nbv:h.length+2∉4::Oc v':=fun hx=>by
      rcases aoR.1 hx with hx|hx
      ·omega
      ·have:=(jB _ hx).2;simp at this
     have mq:∀x,x∈q'++[to]↔x=to∨x∈q':=fun x=>by simp;exact Or.comm
     have mq2:∀x,x∈to::q'↔x=to∨x∈q':=fun x=>by simp
     cases htb:tgB pc with
     |true=>
      have hw1:IntKind.i64.wrap ((xr:Int)+1)=((xr+1:Nat):Int):=by have:=hlw (xr+1) (by omega);simpa using this
      rw[htb]at htt hbit I0 I1
      simp only[if_true]at I0 I1 hbit
      by_cases hle:xt≤xr+1
      ·have hle':(((xr+1:Nat):Int)≥(xt:Int))=True:=eq_true (by omega)
       have fz:=fin0 (I0 hle)
       subst hLP
       refine a42 hbc rfl ?_
       (have hb:=trivial;with_reducible repeat' (first|simp only[hb,Vc.down,seval,aoQ.down,k8,g0,g1,g5,g7,g9,g10,g0',g1',g2',g3',g5',gk',Dx,hi12,hp24,hpl,htk,htt,hbit,hrm,htm,hrN,htN',hw1,hle',hself,hback]|refine Au ?_ ?_<;>intro hb|refine fd ?_|fail))
       exact⟨_,_,rfl,fz⟩
      ·have hle':(((xr+1:Nat):Int)≥(xt:Int))=False:=eq_false (by omega)
       subst hLP
       refine a42 hbc rfl ?_
       (have hb:=trivial;with_reducible repeat' (first|simp only[hb,Vc.down,seval,aoQ.down,k8,g0,g1,g5,g7,g9,g10,g0',g1',g2',g3',g5',gk',Dx,hi12,hp24,hpl,htk,htt,hbit,hrm,htm,hrN,htN',hw1,hle',hst]|refine Au ?_ ?_<;>intro hb|refine fd ?_|fail))
       generalize hLB:CB.lp _ _ _ _ Ik.busy=LB
       obtain⟨q1,hq1⟩:∃q,Fn.func 75=q:=⟨_,rfl⟩
       obtain⟨es,M,b1,b2,b3,b4,⟨v2,fl2,b5,b6,b7⟩,b8,b9⟩:=a5Q (nqt LB ((dd'.set to (xr+1)).map nvv) (by rw[←hLB];rfl)) to (n4 LB _) (nQ LB _) hq'
       rw[hq1]at b1
       have n5':=n5 LB
       have mB:=b8 _ _ nbv (nB LB _)
       have fz:=fin1 (I1 (q'++[to]) (by omega) mq) (by omega) (by simp) (by rw[hlen2]at b3;exact b3) b4 b5 b6 (by rw[hlen2]at b7;exact b7) b8 (awL ..) (fun b hb1=>(aoR.1 hb1).imp id fun hb1=>⟨hb1,b9 b hb1⟩)
       subst hLB
       (have hb:=trivial;with_reducible repeat' (first|simp only[hb,Vc.down,seval,aoQ.down,n5',hq1,b1,b2,mB]|refine Au ?_ ?_<;>intro hb|refine fd ?_|fail))
       exact⟨_,_,rfl,fz⟩
     |false=>
      have hw1:IntKind.i64.wrap ((xr:Int)+0)=((xr:Nat):Int):=by have:=hlw xr (by omega);simpa using this
      rw[htb]at htt hbit I0 I1
      simp only[Bool.false_eq_true,if_false,Nat.add_zero]at I0 I1 hbit
      by_cases hle:xt≤xr
      ·have hle':((xr:Int)≥(xt:Int))=True:=eq_true (by omega)
       have fz:=fin0 (I0 hle)
       subst hLP
       refine a42 hbc rfl ?_
       (have hb:=trivial;with_reducible repeat' (first|simp only[hb,Vc.down,seval,aoQ.down,k8,g0,g1,g5,g7,g9,g10,g0',g1',g2',g3',g5',gk',Dx,hi12,hp24,hpl,htk,htt,hbit,hrm,htm,hrN,htN',hw1,hle',hself,hback]|refine Au ?_ ?_<;>intro hb|refine fd ?_|fail))
       exact⟨_,_,rfl,fz⟩
      ·have hle':((xr:Int)≥(xt:Int))=False:=eq_false (by omega)
       subst hLP
       refine a42 hbc rfl ?_
       (have hb:=trivial;with_reducible repeat' (first|simp only[hb,Vc.down,seval,aoQ.down,k8,g0,g1,g5,g7,g9,g10,g0',g1',g2',g3',g5',gk',Dx,hi12,hp24,hpl,htk,htt,hbit,hrm,htm,hrN,htN',hw1,hle',hst]|refine Au ?_ ?_<;>intro hb|refine fd ?_|fail))
       generalize hLB:CB.lp _ _ _ _ Ik.busy=LB
       obtain⟨q1,hq1⟩:∃q,Fn.func 79=q:=⟨_,rfl⟩
       obtain⟨es,M,b1,b2,b3,b4,⟨v2,fl2,b5,b6,b7⟩,b8⟩:=bcC (nqt LB ((dd'.set to xr).map nvv) (by rw[←hLB];rfl)) to (n4 LB _) (nQ LB _) hq'
       rw[hq1]at b1
       have n5':=n5 LB
       have mB:=b8 _ _ (by omega) (nB LB _)
       have fz:=fin1 (Y:=[4]) (I1 (to::q') (by omega) mq2) (by omega) (by simp) (by rw[hlen2]at b3;exact b3) b4 b5 b6 (by rw[hlen2]at b7;exact b7) (fun b c hn=>b8 b c (by simpa using hn)) (awL ..) (fun b hb1=>.inl (by simpa using hb1))
       subst hLB
       (have hb:=trivial;with_reducible repeat' (first|simp only[hb,Vc.down,seval,aoQ.down,n5',hq1,b1,b2,mB]|refine Au ?_ ?_<;>intro hb|refine fd ?_|fail))
       exact⟨_,_,rfl,fz⟩
    obtain⟨o,G,es,e1,e2,rfl,z0,dd2,q2,z1,z2,z3,z4,z5⟩:=a2X round (fun o G h=>h.2.1.sh)
    refine⟨es,e1,?_⟩
    rw[e2]
    exact⟨dd2,q2,z1,z2,z3,⟨a0,by rw[z4 k (by simp)];exact k5⟩,⟨a1,by rw[z4 _ (by simp)];exact k6⟩,⟨a2,by rw[z4 _ (by simp)];exact k7⟩,by rw[z4 _ (by simp)];exact k8,by omega,kO.trans z0⟩
   ·rintro i p h' hpx n1 n2 ⟨dd',q',k1,k3,k4,k5,k6,k7,k8,k9⟩
    have hpo:=hw.part p (aG2 hpx)
    obtain⟨pc,hpc⟩:∃x,L[i]?=some x:=⟨_,azO (by have:=(aHP.1 hpx).1;omega)⟩
    have he:=aV1 hpx hpc
    rw[hE]at he
    exact⟨dd',q',k1,k3.skip he (by omega) (by omega),k4,k5,k6,k7,k8,k9⟩
   ·have cl:∀(b:Nat) (c:CB),h[b]?=some c→(Gy h++[CB.live 1 false false [[.ptr 0 0 0]],.live 1 true false [[.int .i64 (room:Nat)]],LP])[b]?=some c.clean:=fun b c hc=>Aj (Em hc) _
    have ca:∀j,(Gy h++[CB.live 1 false false [[.ptr 0 0 0]],.live 1 true false [[.int .i64 (room:Nat)]],LP])[h.length+j]?=[CB.live 1 false false [[.ptr 0 0 0]],.live 1 true false [[.int .i64 (room:Nat)]],LP][j]?:=fun j=>by
     rw[azV (by rw[Bz];omega),Bz,aEM]
    have hLc:LP.clean=LP:=by rw[←hLP];rfl
    have hLq:LP.quiet LP=true:=by rw[←hLP];rfl
    have hok:Okw (h++[.live 1 false false [[.ptr 0 0 0]],.live 1 true false [[.int .i64 (room:Nat)]],LP]) (Gy h++[.live 1 false false [[.ptr 0 0 0]],.live 1 true false [[.int .i64 (room:Nat)]],LP]):=by
     have:=Okw.cl (H:=h++[.live 1 false false [[.ptr 0 0 0]],.live 1 true false [[.int .i64 (room:Nat)]],LP]) (Ej iq (by simp only[Ar,aJ8,hLc,hLq];rfl))
     rw[show Gy (h++[CB.live 1 false false [[.ptr 0 0 0]],.live 1 true false [[.int .i64 (room:Nat)]],LP])=Gy h++[CB.live 1 false false [[.ptr 0 0 0]],.live 1 true false [[.int .i64 (room:Nat)]],LP] by simp only[Gy,aN3,List.map_cons,List.map_nil,hLc];rfl]at this
     exact this
    refine⟨dd,q,⟨false,v,fl,false,by rw[hLK];exact cl 0 _ i0,cl 1 _ i1,cl 2 _ i2,cl 3 _ i3,cl 5 _ i5,cl 4 _ i4,?_,fun b hb1=>?_,Ej (abV iq) (by simp only[Ar,aJ8,hLc,hLq];rfl)⟩,rI,aA5 _,⟨_,cl k _ hkb⟩,⟨false,ca 0⟩,⟨false,ca 1⟩,ca 2,by simp[Bz],hok⟩
    ·rcases QS.cln iQ with h|⟨b,w',rows,r,h1,h2,h3⟩
     ·exact .inl h
     ·exact .inr ⟨b,w',rows,r,h1,Aj h2 _,h3⟩
    ·have:=(iQ.lt b hb1).1
     have:=iB b hb1
     simp at this ⊢
     omega
   ·rintro o h' ⟨rfl,dd',q',⟨f',v',fl',w2,j0,j1,j2,j3,j5,j4,jQ,jB,jq⟩,k3,k4,⟨a0,k5⟩,⟨a1,k6⟩,⟨a2,k7⟩,k8,k9,kO⟩
    have hl5:=Ap i5
    have hLc:LP.clean=LP:=by rw[←hLP];rfl
    have hLq:LP.quiet LP=true:=by rw[←hLP];rfl
    obtain⟨h1,hh1⟩:∃H:Aa,h++[.live 1 false false [[.ptr 0 0 0]],.live 1 true false [[.int .i64 (room:Nat)]],LP]=H:=⟨_,rfl⟩
    have hB1:h1[h.length+2]?=some LP:=by rw[←hh1,azV (by omega),aEM];rfl
    have hq1:Ar h1=true:=by rw[←hh1];exact Ej iq (by simp only[Ar,aJ8,hLc,hLq];rfl)
    have hO:∀(b:Nat) (c:CB),h[b]?=some c→h1[b]?=some c:=fun b c hc=>by rw[←hh1];exact Aj hc _
    simp only[hh1]at kO ⊢
    obtain⟨es,e1,e2⟩:=ayI h1 h' [] kO.sh
    have e1':Bh 0 h1 h'=some es:=e1
    simp only[aHN]at e2
    have m0:=Okw.old (hO 0 _ i0) j0 (by rw[hLK];rfl)
    have m1:=Okw.old (hO 1 _ i1) j1 rfl
    obtain⟨x2,m2⟩:=kO.live j2
    have m3:=Okw.old (hO 3 _ i3) j3 rfl
    have m5:=Okw.old (hO 5 _ i5) j5 rfl
    obtain⟨x4,m4⟩:=kO.live j4
    obtain⟨xk,mk_⟩:=kO.live k5
    have mQ:=jQ.okw kO
    have mB:=Okw.old hB1 k8 hLq
    have mqt:=kO.quiet hq1 jq
    have mln:h'.length≤(Lq h1 h').length:=by rw[ah9 kO.1];exact aA5 _
    generalize hM:Lq h1 h'=M at *
    rw[aGH,e1']
    have dne:∀(b:Nat) (c:CB),b≠h.length+2→M[b]?=some c→(M.set (h.length+2) .dead)[b]?=some c:=fun b c hn hc=>by rw[ad8 (fun e=>hn e.symm)];exact hc
    have hkn:k≠h.length+2:=by omega
    have d0:=dne 0 _ (by omega) m0
    have d1:=dne 1 _ (by omega) m1
    have d2:=dne 2 _ (by omega) m2
    have d3:=dne 3 _ (by omega) m3
    have d5:=dne 5 _ (by omega) m5
    have d4:=dne 4 _ (by omega) m4
    have dk:=dne k _ hkn mk_
    have dq:Ar (M.set (h.length+2) .dead)=true:=Ei mqt _ rfl
    have dl:(M.set (h.length+2) .dead).length=M.length:=by simp
    have dQ:QS v' q' (M.set (h.length+2) .dead) 4:=by
     rcases mQ with h1|⟨b,w0,rows0,r0,h1,h2,h3⟩
     ·exact .inl h1
     ·have hbb:=jB b (by rw[h1];simp[Oc])
      simp only[aoR,aAO,or_false,not_or]at hbb
      exact .inr ⟨b,w0,rows0,r0,h1,dne b _ (by omega) h2,h3⟩
    subst hLP
    (have hb:=trivial;with_reducible repeat' (first|simp only[hb,Vc.down,seval,aoQ.down,e2,mB]|refine Au ?_ ?_<;>intro hb|refine fd ?_|fail))
    generalize hD:M.set (h.length+2) CB.dead=D at *
    (have hb:=trivial;with_reducible repeat' (first|simp only[hb,Vc.down,seval,aoQ.down,g0,g1,g5,g7,g9,g10,dk,d5]|refine Au ?_ ?_<;>intro hb|refine fd ?_|fail))
    have p5:=Aj d5 [CB.live 1 true true [[.int .i64 (room:Int)]]]
    have p4:=Aj d4 [CB.live 1 true true [[.int .i64 (room:Int)]]]
    have pq:Ar (D++[CB.live 1 true true [[.int .i64 (room:Int)]]])=true:=Ej dq rfl
    have pQ:=dQ.app [CB.live 1 true true [[.int .i64 (room:Int)]]]
    have pk:(D++[CB.live 1 true true [[.int .i64 (room:Int)]]])[D.length]?=some (.live 1 true true [[.int .i64 (room:Int)]]):=by simp
    have hEl:E.length≤w.parts.length:=by rw[←hE];simp[edg,tgt];omega
    have k3':=k3.done hEl
    have hD6:6≤D.length:=by omega
    have hvD:∀b∈Oc v',6≤b∧b∉[D.length]:=fun b hb1=>by
     have h1:=(dQ.lt b hb1).1
     have h2:=(jB b hb1).1
     exact⟨h2,by simp;omega⟩
    obtain⟨q1,hq1⟩:∃q,Fn.func 76=q:=⟨_,rfl⟩
    cases q' with
    |nil=>
     have b1:=bc6 pq p4 pQ
     rw[hq1]at b1
     (have hb:=trivial;with_reducible repeat' (first|simp only[hb,Vc.down,seval,aoQ.down,p5,hq1,b1]|refine Au ?_ ?_<;>intro hb|refine fd ?_|fail))
     refine Bn (kJ _ _ () ⟨by simp[up,g0],by simp[up,g1],by simp[up,g5],by simp[up,g7],by simp[up,g9],dd',[],D.length,?_,?_,.inr ⟨by simp[up],rfl,k3'⟩⟩ rfl)
     ·exact⟨_,_,_,_,Aj d0 _,Aj d1 _,Aj d2 _,Aj d3 _,Aj d5 _,Aj d4 _,dQ.app _,hvD,Ej dq rfl⟩
     ·omega
    |cons x q'=>
     simp only[aKP]at k4
     obtain⟨es,M4,b1,b2,b3,b4,⟨v2,fl2,b5,b6,b7⟩,b8⟩:=a5O pq p4 pQ (by omega)
     rw[hq1]at b1
     have r5:=b8 _ _ (by omega) p5
     have rk:=b8 _ _ (by omega) pk
     (have hb:=trivial;with_reducible repeat' (first|simp only[hb,Vc.down,seval,aoQ.down,p5,hq1,b1,b2,rk,r5]|refine Au ?_ ?_<;>intro hb|refine fd ?_|fail))
     have sne:∀(b:Nat) (c:CB),b<D.length→b≠4→D[b]?=some c→(M4.set D.length (.live 1 true true [[.int .i64 (x:Int)]]))[b]?=some c:=fun b c h1 h2 hc=>by
      rw[ad8 (by omega)];exact b8 b c h2 (Aj hc _)
     have hl4:=Ap rk
     refine Bn (kJ _ _ () ⟨by simp[up,g0],by simp[up,g1],by simp[up,g5],by simp[up,g7],by simp[up,g9],dd',q',D.length,?_,by omega,.inl ⟨by simp[up],x,true,by simp[up],hD6,apA hl4,k3',by omega⟩⟩ rfl)
     refine⟨_,v2,fl2,true,sne 0 _ (by omega) (by omega) d0,sne 1 _ (by omega) (by omega) d1,sne 2 _ (by omega) (by omega) d2,sne 3 _ (by omega) (by omega) d3,sne 5 _ (by omega) (by omega) d5,by rw[ad8 (by omega)];exact b5,?_,fun b hb1=>hvD b (by rw[←b7];exact hb1),Ei b4 _ rfl⟩
     rcases b6 with h1|⟨b,w0,rows0,r0,h1,h2,h3⟩
     ·exact .inl h1
     ·have hbb:=hvD b (by rw[←b7,h1];simp[Oc])
      simp only[aoR,aAO,or_false]at hbb
      exact .inr ⟨b,w0,rows0,r0,h1,by rw[ad8 (fun e=>hbb.2 e.symm)];exact h2,h3⟩
  ·(have hb:=trivial;with_reducible repeat' (first|simp only[hb,Vc.down,seval,aoQ.down,g11]|refine Au ?_ ?_<;>intro hb|refine fd ?_|fail))
   exact kQ _ _ _ ⟨rfl,by simp[up,g7],dd,k,hD,hI⟩
 ·refine⟨by simp[up,g0],by simp[up,g1],by simp[up,g5],by simp[up,g7],by simp[up],Lo N s Hh,[],M2.length,?_,by simp only[aEX];omega,.inl ⟨by simp[up],s,true,by simp[up],by simp at b3;omega,by rw[azV (aA5 _),aHR];rfl,I0,by simp⟩⟩
  refine⟨true,v2,fl2,true,Aj j0 _,Aj j1 _,Aj j2 _,Aj j3 _,Aj j5 _,Aj c5 _,?_,?_,Ej c4 rfl⟩
  ·rcases c6 with h|⟨b,w',rows,r,h1,h2,h3⟩
   ·exact .inl h
   ·exact .inr ⟨b,w',rows,r,h1,Aj h2 _,h3⟩
  ·intro b hb1
   have:=c6.lt b hb1
   rw[c7]at hb1
   have h6:=b7 b hb1
   simp at h6
   exact⟨h6,by simp;omega⟩
 obtain⟨rfl,g7,dd,k,⟨f,v,fl,w',i0,i1,i2,i3,i5,i4,iQ,iB,iq⟩,hI⟩:=hk
 have hR:=hI.right hs hEo (by unfold Hh;omega)
 have hdl:=hI.i.len
 have hln:(dd.map nvv).length=N:=by simp[hdl]
 subst hLK
 (have hb:=trivial;with_reducible repeat' (first|simp only[hb,Vc.down,seval,aoQ.down,g7,i3,i2,i0,hln]|refine Au ?_ ?_<;>intro hb|refine fd ?_|fail))
 exact⟨f,dd,rfl,hdl,hR⟩
theorem Ih(L:List (Int × Bool)):∀x∈Cj L,(∃n,x=.int .i64 n)∨∃b,x=.bool b:=fun x hx=>by
 simp only[Cj,aN4,aoR,aAO,or_false]at hx
 obtain⟨y,_,rfl|rfl⟩:=hx
 ·exact .inl ⟨_,rfl⟩
 ·exact .inr ⟨_,rfl⟩
theorem Gh(L:List (Int × Bool)):(Cj L).all AV.flat=true:=aD5.2 fun x hx=>by rcases Ih L x hx with⟨n,rfl⟩|⟨b,rfl⟩<;>rfl
theorem Gj(L:List (Int × Bool)):(Cj L).all AV.isCell=true:=aD5.2 fun x hx=>by rcases Ih L x hx with⟨n,rfl⟩|⟨b,rfl⟩<;>rfl
theorem aAF(L:List (Int × Bool))(d:Nat)(g:HF):Az (Fa (d+1) g) (Cj L)=some (Cj L):=aJ7 fun x hx=>by rcases Ih L x hx with⟨n,rfl⟩|⟨b,rfl⟩<;>rfl
theorem az8(L:List (Int × Bool))(d:Nat)(g:HF):(Cj L).flatMap (Ao (d+1) g)=[]:=List.flatMap_eq_nil_iff.2 fun x hx=>by rcases Ih L x hx with⟨n,rfl⟩|⟨b,rfl⟩<;>rfl
theorem Pl(L:List (Int × Bool))(d:Nat)(m:List Nat):Bd.refL (Bd (d+1)) m (Cj L)=some (Cj L,m):=Fg fun x hx=>by rcases Ih L x hx with⟨n,rfl⟩|⟨b,rfl⟩<;>rfl
theorem aCI(L:List (Int × Bool))(d:Nat)(f:Nat→Nat):Az (Ce (d+1) f) (Cj L)=some (Cj L):=aJ7 fun x hx=>by rcases Ih L x hx with⟨n,rfl⟩|⟨b,rfl⟩<;>rfl
theorem aCL(L:List (Int × Bool))(d:Nat):(Cj L).any (hasImm (d+1))=false:=List.any_eq_false.2 fun x hx=>by rcases Ih L x hx with⟨n,rfl⟩|⟨b,rfl⟩<;>simp[hasImm]
def nmB(w:Ah)(N:Nat)(L:List (Int × Bool)):Nat:=aG8 (edg w (tgt L)) N w.parts.length
theorem aBZ{w:Ah}{N:Nat}(hw:WOk w N)(h12:w.parts.length≤12)(d:Int){L:List (Int × Bool)}(hL12:L.length=12)(wf:Bool):
 Ef.call (.fn 51) [.ptr 0 0 0,.agg (Cj L)] [.live 4 false wf [[.int .i64 w.rooms,.int .i64 w.need,Bt 9 true w.nn (w.parts.map Ac.cells),.int .i64 d]]]=some (.ret (.int .i64 (nmB w N L:Nat)),[.live 4 false wf [[.int .i64 w.rooms,.int .i64 w.need,Bt 9 true w.nn (w.parts.map Ac.cells),.int .i64 d]]]):=by
 have n2:=hw.n2
 have n8:=hw.n8
 obtain⟨o,h',hc,f,ds,rfl,rfl,hdl,hR⟩:=aLF hw h12 (d:=d) (s:=0) (by omega) hL12 rfl (wf:=false)
 have hne:=a96 (len:=w.parts.length) n2 (by omega) (by unfold Hh;omega) (aGC hw (tgt L)) hR
 have hf1:=Gh L
 have hf2:=Gj L
 have hpl:(Cj L).length=24:=by rw[Be];omega
 have hd1:=aJ4 (d:=ds) (a:=1) (by omega)
 have h1N:((1:Int)<(N:Int))=True:=eq_true (by omega)
 have hle:ds.getD 1 0≤1048576:=by
  by_cases e:ds.getD 1 0=Hh
  ·rw[e];exact aA5 _
  ·have:=(atT.num hR hR (by unfold Hh;omega) (by unfold Hh;omega) (by omega) (aGC hw (tgt L)) (v:=1) (by omega)).2.2 e
   have:ds.getD 1 0<N:=this
   omega
 have hN1:nmB w N L=if ds.getD 1 0=Hh then w.parts.length+1 else ds.getD 1 0:=hne.symm
 rw[hN1]
 have hav:=aAF L
 have hlv:=az8 L
 have hrf:=Pl L
 simp only[Int.natCast_zero]at hc
 generalize Cj L=ps at *
 have htk:aCG 24 ps=ps:=aL1 (by omega)
 generalize ds.getD 1 0=x at *
 generalize ds.map nvv=rows at *
 have hwr:IntKind.i64.wrap ((w.parts.length:Int)+1)=((w.parts.length+1:Nat):Int):=by have:=Ez (n:=((w.parts.length+1:Nat):Int)) (by omega) (by omega);simpa using this
 by_cases e:x=Hh
 ·have e1:((x:Int)==1048576)=true:=by rw[e];rfl
  rw[if_pos e]
  refine ce Tryz.func51 ?_
  simp only[Tryz.f51]
  (have hb:=trivial;with_reducible repeat' (first|simp only[hb,Vc.down,seval,bbD.down,hpl,hf1,hf2,htk,hav,hlv,hrf,hc,hd1,h1N,e1,hwr,ay8]|refine Au ?_ ?_<;>intro hb|refine fd ?_|fail))
 ·have e1:((x:Int)==1048576)=false:=by simp;exact fun h=>e (by unfold Hh;omega)
  rw[if_neg e]
  refine ce Tryz.func51 ?_
  simp only[Tryz.f51]
  (have hb:=trivial;with_reducible repeat' (first|simp only[hb,Vc.down,seval,bbD.down,hpl,hf1,hf2,htk,hav,hlv,hrf,hc,hd1,h1N,e1,ay8]|refine Au ?_ ?_<;>intro hb|refine fd ?_|fail))
theorem azW{w:Ah}{d:Int}(h12:w.parts.length≤12):(Ab w d).length=12:=by simp[Ab];omega
theorem aPW{w:Ah}{N:Nat}{d:Int}:nmB w N (Ab w d)=aVM w N d:=by unfold nmB aVM;rw[aN6]
theorem aLR{α:Type}{d:List AV→Option α}{f:α→List AV}(hd:∀cs x,d cs=some x→cs=f x):∀{rows:List (List AV)} {l:List α},Az d rows=some l→rows=l.map f
 | [],l,h=>by simp[Az]at h;subst h;rfl
 |r::rows,l,h=>by
  simp only[Az,aRB,aKE]at h
  obtain⟨x,h1,l',h2,rfl⟩:=h
  rw[hd r x h1,aLR hd h2];rfl
def dSl{α:Type}(n:Nat)(fl:Bool)(d:List AV→Option α):AV→Option (Bool × List α)
 | .nils=>some (false,[])
 | .imm n' fl' rows=>if n'=n∧fl'=fl then(Az d rows).map fun l=>(true,l)else none
 |_=>none
theorem a6L{α:Type}{n:Nat}{fl:Bool}{d:List AV→Option α}{f:α→List AV}(hd:∀cs x,d cs=some x→cs=f x){v:AV}{x:Bool × List α}(h:dSl n fl d v=some x):v=Bt n fl x.1 (x.2.map f):=by
 unfold dSl at h
 split at h
 ·cases h;rfl
 ·split at h
  ·rename_i hq
   obtain⟨rfl,rfl⟩:=hq
   obtain⟨l,h1,rfl⟩:=aKE.1 h
   rw[aLR hd h1]
   cases l<;>rfl
  ·cases h
 ·cases h
def aYS:List AV→Option Ac
 | [.int .i64 a,.int .i64 b,.bool c,.bool d,.int .i64 e,.int .i64 f,.bool g,.int .i64 h,.int .i64 i]=>some ⟨a,b,c,d,e,f,g,h,i⟩
 |_=>none
theorem aXZ(cs:List AV)(x:Ac)(h:aYS cs=some x):cs=x.cells:=by
 unfold aYS at h
 split at h
 ·cases h;rfl
 ·cases h
def aY1:List AV→Option (List (Int × Bool))
 | []=>some []
 | .int .i64 a::.bool b::l=>(aY1 l).map fun r=>(a,b)::r
 |_=>none
theorem aRO:∀(cs:List AV) (x:List (Int × Bool)),aY1 cs=some x→cs=Cj x
 | [],x,h=>by simp[aY1]at h;subst h;rfl
 | .int .i64 a::.bool b::l,x,h=>by
   simp only[aY1,aKE]at h
   obtain⟨r,h1,rfl⟩:=h
   rw[aRO l r h1];rfl
def bdT:List AV→Aa→Option (Do × Aa)
 | [.ptr 0 0 0,.agg ps],[.live 4 false wf [[.int .i64 rooms,.int .i64 need,sl,.int .i64 d]]]=>
   (dSl 9 true aYS sl).bind fun x=>(aY1 ps).bind fun L=>if(Gl ⟨rooms,need,x.1,x.2⟩&&decide (L.length=12))=true then
     some (.ret (.int .i64 (nmB ⟨rooms,need,x.1,x.2⟩ rooms.toNat L:Nat)),[.live 4 false wf [[.int .i64 rooms,.int .i64 need,sl,.int .i64 d]]])else none
 |_,_=>none
def pr2:Kt:={ pr with at_:=fun f=>if f=51 then some bdT else pr f }
theorem bbU(f:Nat)(h:pr2 f=none):pr f=none:=by
 simp only[pr2]at h
 split at h
 ·cases h
 ·exact h
theorem a61:∀f p,pr2 f=some p→∀a h r,p a h=some r→Ef.call (.fn f) a h=some r:=by
 intro f p hp a h r hr
 simp only[pr2]at hp
 split at hp
 ·rename_i hf
  subst hf
  cases hp
  unfold bdT at hr
  split at hr
  ·rename_i ps wf rooms need sl d
   simp only[aRB]at hr
   obtain⟨x,h1,L,h2,h3⟩:=hr
   split at h3
   ·rename_i hs
    simp only[Bool.and_eq_true,decide_eq_true_eq]at hs
    cases h3
    obtain⟨N,hw,h12⟩:=aQO hs.1
    have hN:rooms.toNat=N:=by have:=hw.rooms;simp only at this;omega
    rw[a6L aXZ h1,aRO _ _ h2,hN]
    exact aBZ hw h12 d hs.2 wf
   ·cases h3
  ·cases hr
 ·exact aQT hp hr
theorem aTW:(Pj Tryz.prog pr2 100).call (.fn 10) [] []=some (.ret (.bool true),[]):=by kernel_rfl
theorem aZ8:Ef.call (.fn 10) [] []=some (.ret (.bool true),[]):=aLQ (pr:=pr) (pr2:=pr2) rfl bbU a61 aTW
def aON(w:Ah):Bool:=decide ((w.parts.length:Int)≤15)
theorem a26(w:Ah):Ef.call (.fn 9) [.agg [.int .i64 w.rooms,.int .i64 w.need,Bt 9 true w.nn (w.parts.map Ac.cells)]] []=some (.ret (.bool (aON w)),[]):=by
 cases c:aON w
 ·have h:decide ((w.parts.length:Int)≤15)=false:=c
  (refine ce Tryz.func9 ?_;simp only[Tryz.f9];(have hb:=trivial;with_reducible repeat' (first|simp only[hb,Va.down,seval,TY9.down,h,ay8]|refine Au ?_ ?_<;>intro hb|refine fd ?_|fail)))
 ·have h:decide ((w.parts.length:Int)≤15)=true:=c
  (refine ce Tryz.func9 ?_;simp only[Tryz.f9];(have hb:=trivial;with_reducible repeat' (first|simp only[hb,Va.down,seval,TY9.down,h,ay8]|refine Au ?_ ?_<;>intro hb|refine fd ?_|fail)))
end Go.Proofs.YtcncggaobhbomaaGreatDoor
