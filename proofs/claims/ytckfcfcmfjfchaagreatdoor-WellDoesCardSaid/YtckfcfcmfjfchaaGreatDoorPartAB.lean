/- The functions of the layer, walked. -/
import Derived.Test.YtckfcfcmfjfchaaGreatDoorPartAA
import Derived.Test.YtckfcfcmfjfchaaGreatDoorLibE
import Derived.Test.YtckfcfcmfjfchaaGreatDoorLibD
open List renaming getElem?_set_ne→abY,replicate→abZ,mem_cons→ab1,getElem?_append_left→ah0,getElem?_set_self→alG,mem_cons_self→ao5,length_map→ao7,getElem?_eq_getElem→ao9,getElem?_append_right→aqG,not_mem_nil→aqM,take→asR,getElem?_map→as2,all_eq_true→atQ,length_replicate→auH,length_nil→avO,mem_of_getElem?→avQ,mem_cons_of_mem→avT,nil_append→ax1,getElem?_eq_some_iff→ax2,map_set→ax4,all_cons→ax5,length_set→aAM,length_cons→aCD,take_of_length_le→aCP,ext_getElem?→aC1,replicate_succ→aC2,map_append→aC3,mem_flatMap→aC4,getElem?_replicate→aDH
open Nat renaming le_refl→aq1,add_sub_cancel_left→avE,sub_self→ax3
open Option renaming map_eq_some_iff→azH,bind_eq_some_iff→aET
open Int renaming toNat_natCast→aC8
set_option linter.unusedSimpArgs false
set_option linter.unusedVariables false
namespace Go.Proofs.YtckfcfcmfjfchaaGreatDoor
open Go.Ev Go Go.Ev.Net
set_option maxRecDepth 100000
set_option maxHeartbeats 16000000
theorem azM(w:Ao)(hs:w.small)(d:Int):Eb.call (.fn 22) [.agg [.int .i64 w.rooms,.int .i64 w.need,Dn 9 true w.nn (w.parts.map Ab.cells)],.int .i64 d] []=some (.ret (.tup [.ptr 0 0 0,.bool (Ie w&&Na d)]),[.live 4 false false [[.int .i64 w.rooms,.int .i64 w.need,Dn 9 true w.nn (w.parts.map Ab.cells),.int .i64 d]]]):=by
 have h:=aSF w hs
 have hd:=aqU d 0 5000
 rw[show Io d 0 5000=Na d from rfl]at hd
 generalize Ie w=c at *
 generalize Na d=e at *
 cases c
 ·(refine ce Tryz.func22 ?_;simp only[Tryz.f22];(have hb:=trivial;with_reducible repeat' (first|simp only[hb,Va.down,seval,aUU.down,h,hd]|refine Bj ?_ ?_<;>intro hb|refine fd ?_|fail)))
 ·(refine ce Tryz.func22 ?_;simp only[Tryz.f22];(have hb:=trivial;with_reducible repeat' (first|simp only[hb,Va.down,seval,aUU.down,h,hd]|refine Bj ?_ ?_<;>intro hb|refine fd ?_|fail)))
def QS(v:AV)(q:List Nat)(H:Aa)(p:Nat):Prop:=
 (v=.nils∧q=[])∨∃b w rows r,v=.slr 1 b r q.length∧H[b]?=some (.live 1 true w rows)∧b≠p∧rows.drop r=q.map Im∧r+q.length=rows.length
def Ln:AV→List Nat
 | .slr _ b _ _=>[b]
 |_=>[]
theorem ahK{x:Option (List AV)}{vs:List AV}{h:Aa}{Q:Cm→Aa→Prop}(hx:x=some vs)(k:Q (.ret (Kq vs)) h):RtS x h Q:=by subst hx;exact k
theorem aE1{H:Aa}{p:Nat}{fl w:Bool}{v:AV}{q:List Nat}(x:Nat)(hp:H[p]?=some (.live 1 fl w [[v]]))(hQ:QS v q H p)(hq:q.length≤100000000):
 ShQ Eb 46 [.ptr p 0 0,.int .i64 (x:Int)] H fun o G=>o=.ret (.tup [])∧∃v' fl',G[p]?=some (.live 1 fl' true [[v']])∧QS v' (q++[x]) G p∧apT (p::Ln v) H G∧(∀b∈Ln v,G[b]?=some .dead)∧(Aq H=true→Aq G=true)∧∀b∈Ln v',H.length≤b:=by
 have hpl:=An hp
 refine aGP rfl Tryz.func46 rfl rfl ?_
 simp only[Tryz.f46]
 refine Cf (fun KK iN hK=>?_)
 have hA:=Ar hp
 have hS:=Lx hpl
 rcases hQ with⟨rfl,rfl⟩|⟨b,w',rows,r,rfl,hrb,hbp,hd,hl⟩
 ·(have hb:=trivial;with_reducible repeat' (first|simp only[hb,Va.down,seval,aKL.down,hp,hA,hS]|refine Bj ?_ ?_<;>intro hb|refine fd ?_|fail))
  refine hK _ ?_
  rw[Jz]
  refine ahK (vs:=[]) (by simp only[Va.down,seval,aKL.down]) ⟨rfl,.slr 1 (H.length+1) 0 1,false,?_,.inr ⟨H.length+1,false,[Im x],0,rfl,?_,by omega,rfl,rfl⟩,⟨by simp,fun b hb1 hn=>?_⟩,fun b hb1=>by simp[Ln]at hb1,fun hqq=>Do (Dp hqq p rfl) rfl,fun b hb1=>by simp[Ln]at hb1;omega⟩
  ·rw[ah0 (by simpa using hpl),alG hpl]
  ·rw[Hz];rfl
  ·rw[ah0 (by simpa using hb1),abY (fun e=>hn (by rw[e];exact ao5 ..))]
 ·have hbl:=An hrb
  have hB:=Ar hrb
  have hSb:=Lx hbl
  have h39:(q.length+1≤549755813888)=True:=eq_true (by omega)
  have hg:∀l,(H.set b .dead++l)[p]?=some (.live 1 fl w [[.slr 1 b r q.length]]):=fun l=>by
   rw[ah0 (by simpa using hpl),abY hbp];exact hp
  have hg2:∀l c,(H.set b .dead++l).set p c=(H.set b .dead).set p c++l:=fun l c=>Lx (by simpa using hpl) l c
  (have hb:=trivial;with_reducible repeat' (first|simp only[hb,Va.down,seval,aKL.down,hp,hA,hS,hrb,hB,hSb,hd,hl,h39,hg,hg2,Kr,Hz,aAM,ao7]|refine Bj ?_ ?_<;>intro hb|refine fd ?_|fail))
  have hsl:((H.set b .dead).set p (CB.live 1 false true [[AV.slr 1 (H.length+1) 0 (q.length+1)]])).length=H.length:=by simp
  refine hK _ ?_
  rw[Jz]
  refine ahK (vs:=[]) (by simp only[Va.down,seval,aKL.down]) ⟨rfl,.slr 1 (H.length+1) 0 (q.length+1),false,?_,.inr ⟨H.length+1,false,(q++[x]).map Im,0,by simp,?_,by omega,rfl,by simp⟩,⟨by simp,fun c hc hn=>?_⟩,fun c hc=>?_,fun hqq=>Do (Dp (Dp hqq b rfl) p rfl) rfl,fun c hc=>by simp[Ln]at hc;omega⟩
  ·rw[ah0 (by omega),alG (by simpa using hpl)]
  ·rw[aqG (by omega),hsl,avE];simp[Im]
  ·have n1:c≠p:=fun e=>hn (by rw[e];exact ao5 ..)
   have n2:c≠b:=fun e=>hn (by rw[e];simp[Ln])
   rw[ah0 (by omega),abY (fun e=>n1 e.symm),abY (fun e=>n2 e.symm)]
  ·simp[Ln]at hc;subst hc
   rw[ah0 (by omega),abY (fun e=>hbp e.symm),alG hbl]
theorem aPE(b r k:Nat):slx Tryz.prog 44 (some (.slr 1 b r (k+1))) (some (some (.int .i64 1))) (some none)=some (.ret (.slr 1 b (r+1) k),[]):=by
 have hz:Ll Tryz.prog 3=some 1:=by kernel_rfl
 simp only[slx,Option.bind_some,arH,Tryz.underlying44,hz,Ha]
 simp[Ha,r1]
 omega
theorem aIO{H:Aa}{p:Nat}{fl w:Bool}{v:AV}(hp:H[p]?=some (.live 1 fl w [[v]]))(hQ:QS v [] H p):
 Eb.call (.sh 47) [.ptr p 0 0] H=some (.ret (.tup [.int .i64 0,.bool false]),H):=by
 rcases hQ with⟨rfl,_⟩|⟨b,w',rows,r,rfl,hrb,hbp,hd,hl⟩
 ·(refine csh Tryz.func47 ?_;simp only[Tryz.f47];(have hb:=trivial;with_reducible repeat' (first|simp only[hb,Va.down,seval,aI4.down,hp]|refine Bj ?_ ?_<;>intro hb|refine fd ?_|fail)))
 ·simp only[avO]at hp
  (refine csh Tryz.func47 ?_;simp only[Tryz.f47];(have hb:=trivial;with_reducible repeat' (first|simp only[hb,Va.down,seval,aI4.down,hp]|refine Bj ?_ ?_<;>intro hb|refine fd ?_|fail)))
theorem aLU{H:Aa}{p:Nat}{fl w:Bool}{v:AV}{x:Nat}{q:List Nat}(hp:H[p]?=some (.live 1 fl w [[v]]))(hQ:QS v (x::q) H p)(hq:q.length≤100000000):
 ShQ Eb 47 [.ptr p 0 0] H fun o G=>o=.ret (.tup [.int .i64 (x:Int),.bool true])∧∃v' fl',G[p]?=some (.live 1 fl' true [[v']])∧QS v' q G p∧apT [p] H G∧Ln v'=Ln v∧(Aq H=true→Aq G=true):=by
 have hpl:=An hp
 rcases hQ with⟨_,h⟩|⟨b,w',rows,r,rfl,hrb,hbp,hd,hl⟩
 ·cases h
 have hr0:rows[r]?=some [.int .i64 (x:Nat)]:=by
  have:=congrArg (·[0]?) hd
  simpa [Im]using this
 have hd2:rows.drop (r+1)=q.map Im:=by
  have:=congrArg (·.drop 1) hd
  simpa [List.drop_drop]using this
 simp only[aCD]at hl hp
 have h1:decide (((q.length+1:Nat):Int)=0)=false:=decide_eq_false (by omega)
 have h2:((((q.length+1:Nat):Int))==0)=false:=by simp;omega
 have h3:((0:Int)<((q.length+1:Nat):Int))=True:=eq_true (by omega)
 have h4:((1:Int)≤((q.length+1:Nat):Int))=True:=eq_true (by omega)
 refine aGP rfl Tryz.func47 rfl rfl ?_
 simp only[Tryz.f47]
 refine Cf (fun KK iN hK=>?_)
 (have hb:=trivial;with_reducible repeat' (first|simp only[hb,Va.down,seval,aI4.down,hp,hrb,hr0,h1,h2,h3,h4,aPE]|refine Bj ?_ ?_<;>intro hb|refine fd ?_|fail))
 refine hK _ ?_
 rw[ayT]
 refine ahK (vs:=[.int .i64 (x:Int),.bool true]) (by simp only[Va.down,seval,aI4.down]) ⟨rfl,.slr 1 b (r+1) q.length,false,alG hpl,.inr ⟨b,w',rows,r+1,rfl,?_,hbp,hd2,by omega⟩,⟨by simp,fun b' _ hn=>abY (fun e=>hn (by simp[e]))⟩,rfl,fun hqq=>Dp hqq p rfl⟩
 rw[abY (fun e=>hbp e.symm)];exact hrb
theorem aID{H:Aa}{p:Nat}{fl w:Bool}{v:AV}{q:List Nat}(x:Nat)(hp:H[p]?=some (.live 1 fl w [[v]]))(hQ:QS v q H p)(hq:q.length≤100000000):
 ShQ Eb 50 [.ptr p 0 0,.int .i64 (x:Int)] H fun o G=>o=.ret (.tup [])∧∃v' fl',G[p]?=some (.live 1 fl' true [[v']])∧QS v' (x::q) G p∧apT [p] H G∧(Aq H=true→Aq G=true)∧∀b∈Ln v',H.length≤b:=by
 have hpl:=An hp
 have hA:=Ar hp
 have hS:=Lx hpl
 have keep:∀c l,apT [p] H (H.set p c++l):=fun c l=>⟨by simp,fun b hb1 hn=>by rw[ah0 (by simpa using hb1),abY (fun e=>hn (by simp[e]))]⟩
 have hg:∀c l,(H.set p c++l)[p]?=some c:=fun c l=>by rw[ah0 (by simpa using hpl),alG hpl]
 refine aGP rfl Tryz.func50 rfl rfl ?_
 simp only[Tryz.f50]
 refine Cf (fun KK iN hK=>?_)
 rcases hQ with⟨rfl,rfl⟩|⟨b,w',rows,r,rfl,hrb,hbp,hd,hl⟩
 ·(have hb:=trivial;with_reducible repeat' (first|simp only[hb,Va.down,seval,aB9.down,hp,hA,hS]|refine Bj ?_ ?_<;>intro hb|refine fd ?_|fail))
  refine hK _ ?_
  rw[Jz]
  refine ahK (vs:=[]) (by simp only[Va.down,seval,aB9.down]) ⟨rfl,_,_,hg _ _,.inr ⟨H.length,false,[Im x],0,rfl,?_,by omega,rfl,rfl⟩,keep _ _,fun hqq=>Do (Dp hqq p rfl) rfl,fun b hb1=>by simp[Ln]at hb1;omega⟩
  rw[Kr];rfl
 ·have hB:=Ar hrb
  cases q with
  |nil=>
   simp only[avO]at hl hp hA
   have hrl:(r≤rows.length)=True:=eq_true (by omega)
   (have hb:=trivial;with_reducible repeat' (first|simp only[hb,Va.down,seval,aB9.down,hp,hA,hS,hrb,hB,hrl]|refine Bj ?_ ?_<;>intro hb|refine fd ?_|fail))
   refine hK _ ?_
   rw[Jz]
   refine ahK (vs:=[]) (by simp only[Va.down,seval,aB9.down]) ⟨rfl,_,_,hg _ _,.inr ⟨H.length,false,[Im x],0,rfl,?_,by omega,rfl,rfl⟩,keep _ _,fun hqq=>Do (Dp hqq p rfl) rfl,fun b hb1=>by simp[Ln]at hb1;omega⟩
   rw[Kr];rfl
  |cons y q=>
   have hq2:(1+(q.length+1)≤549755813888)=True:=eq_true (by simp at hq;omega)
   have hrl:(r+(q.length+1)≤rows.length)=True:=eq_true (by simp at hl;omega)
   have htk:asR q.length (List.map Im q)=List.map Im q:=aCP (by simp)
   (have hb:=trivial;with_reducible repeat' (first|simp only[hb,Va.down,seval,aB9.down,hp,hA,hS,hrb,hB,hd,hq2,hrl,htk,Kr,Hz,aAM,ao7]|refine Bj ?_ ?_<;>intro hb|refine fd ?_|fail))
   refine hK _ ?_
   rw[Jz]
   refine ahK (vs:=[]) (by simp only[Va.down,seval,aB9.down]) ⟨rfl,_,_,hg _ _,.inr ⟨H.length+1,false,(x::y::q).map Im,0,by simp;omega,?_,by omega,rfl,by simp⟩,keep _ _,fun hqq=>Do (Dp hqq p rfl) rfl,fun b hb1=>by simp[Ln]at hb1;omega⟩
   rw[Hz];rfl
theorem aXM(w:Ao)(d r:Int)(wf:Bool):Eb.call (.fn 48) [.ptr 0 0 0,.int .i64 r] [.live 4 false wf [[.int .i64 w.rooms,.int .i64 w.need,Dn 9 true w.nn (w.parts.map Ab.cells),.int .i64 d]]]=some (.ret (.func (.func 62) [] [.ptr 1 0 0,.ptr 2 0 0]),[.live 4 false wf [[.int .i64 w.rooms,.int .i64 w.need,Dn 9 true w.nn (w.parts.map Ab.cells),.int .i64 d]],.live 1 false false [[.ptr 0 0 0]],.live 1 true false [[.int .i64 r]]]):=by
 (refine ce Tryz.func48 ?_;simp only[Tryz.f48];(have hb:=trivial;with_reducible repeat' (first|simp only[hb,Vc.down,seval]|refine Bj ?_ ?_<;>intro hb|refine fd ?_|fail)))
theorem aXW{w:Ao}{N:Nat}(hw:WOk w N){d r:Int}{y:AV}{lb rb kb:Nat}(Lm:Nat→Aa→Prop)
 (hL:∀i h,Lm i h→∃w1,h[lb]?=some (.live 1 false w1 [[.ptr kb 0 0]])) (hK:∀i h,Lm i h→∃w2,h[kb]?=some (.live 4 false w2 [[.int .i64 w.rooms,.int .i64 w.need,Dn 9 true w.nn (w.parts.map Ab.cells),.int .i64 d]])) (hR:∀i h,Lm i h→∃w3,h[rb]?=some (.live 1 true w3 [[.int .i64 r]]))
 (hA:∀i h fl wf (rows:List (List AV)),Lm i h→Lm i (h++[.live 9 fl wf rows]))
 (hS:∀(i:Nat) (p:Ab) (u:Int) h,w.parts[i]?=some p→((p.one=r∧u=p.other)∨(p.one≠r∧p.other=r∧u=p.one))→Lm i h→∃es,cl Eb h (some y) (some [.int .i64 i,.int .i64 u])=some (.ret (.bool true),es)∧Lm (i+1) (Bi h es))
 (hN:∀(i:Nat) (p:Ab) h,w.parts[i]?=some p→p.one≠r→p.other≠r→Lm i h→Lm (i+1) h)
 {h0:Aa} (h0I:Lm 0 h0):ShQ Eb 62 [y,.ptr lb 0 0,.ptr rb 0 0] h0 fun o h'=>o=.ret (.tup [])∧Lm w.parts.length h':=by
 obtain⟨w1,hl⟩:=hL _ _ h0I
 obtain⟨w2,hk0⟩:=hK _ _ h0I
 have hlen:=hw.len
 refine aGP rfl Tryz.func62 rfl rfl ?_
 simp only[Tryz.f62]
 (have hb:=trivial;with_reducible repeat' (first|simp only[hb,Vc.down,seval,aCC.down,hl,hk0,ao7]|refine Bj ?_ ?_<;>intro hb|refine fd ?_|fail))
 refine ahA (lst 41 w.parts (fun i (_:Unit) t h=>t 0=y∧t 1=.ptr lb 0 0∧t 2=.ptr rb 0 0∧t 11=Dn 9 true w.nn (w.parts.map Ab.cells)∧t 12=.int .i64 (w.parts.length:Nat)∧t 13=.int .i64 (i:Int)∧Lm i h) (fun _ _=>()) (fun _ e t h=>e=.exit 0∧Lm w.parts.length h) ?_ ?_ () _ _ ?_) (fun e t h hk=>?_)
 ·rintro _ t h Q' kQ ⟨g0,g1,g2,g11,g12,g13,hI⟩
  (have hb:=trivial;with_reducible repeat' (first|simp only[hb,Vc.down,seval,aCC.down,g12,g13,Int.lt_irrefl,decide_false]|refine Bj ?_ ?_<;>intro hb|refine fd ?_|fail))
  exact kQ _ _ _ ⟨rfl,hI⟩
 ·rintro p rest i _ t h J Q' kJ kQ hx hi ⟨g0,g1,g2,g11,g12,g13,hI⟩
  have hdd:decide ((i:Int)<(w.parts.length:Int))=true:=decide_eq_true (by omega)
  have hww:=Iw hi (by unfold maxLen;omega)
  have hpo:=hw.part p (avQ hx)
  obtain⟨w3,hr⟩:=hR _ _ hI
  have hr1:=Ar hr
  have hv1:=hA _ _ true true [p.cells] hI
  have c1:decide ((0:Int)≤p.other)=true:=decide_eq_true hpo.2.1.1
  have c2:decide ((0:Int)≤p.one)=true:=decide_eq_true hpo.1.1
  have c3:decide ((0:Int)≤ -1)=false:=rfl
  by_cases e1:p.one=r
  ·have q1:(r==p.one)=true:=by simp[e1]
   obtain⟨es,hes,hv2⟩:=hS i p p.other _ hx (.inl ⟨e1,rfl⟩) hv1
   simp only[Ab.cells]at hes hv2
   (have hb:=trivial;with_reducible repeat' (first|simp only[hb,Vc.down,seval,aCC.down,g0,g1,g2,g11,g12,g13,hdd,hww,hx,hr,hr1,q1,c1,hes,Ab.cells]|refine Bj ?_ ?_<;>intro hb|refine fd ?_|fail))
   exact Fv (kJ _ _ () ⟨by simp[up,g0],by simp[up,g1],by simp[up,g2],by simp[up,g11],by simp[up,g12],by simp[up],hv2⟩ rfl)
  ·have q1:(r==p.one)=false:=by simp;exact fun e=>e1 e.symm
   by_cases e2:p.other=r
   ·have q2:(r==p.other)=true:=by simp[e2]
    obtain⟨es,hes,hv2⟩:=hS i p p.one _ hx (.inr ⟨e1,e2,rfl⟩) hv1
    simp only[Ab.cells]at hes hv2
    (have hb:=trivial;with_reducible repeat' (first|simp only[hb,Vc.down,seval,aCC.down,g0,g1,g2,g11,g12,g13,hdd,hww,hx,hr,hr1,q1,q2,c2,hes,Ab.cells]|refine Bj ?_ ?_<;>intro hb|refine fd ?_|fail))
    exact Fv (kJ _ _ () ⟨by simp[up,g0],by simp[up,g1],by simp[up,g2],by simp[up,g11],by simp[up,g12],by simp[up],hv2⟩ rfl)
   ·have q2:(r==p.other)=false:=by simp;exact fun e=>e2 e.symm
    have hv2:=hN i p _ hx e1 e2 hv1
    simp only[Ab.cells]at hv2
    (have hb:=trivial;with_reducible repeat' (first|simp only[hb,Vc.down,seval,aCC.down,g0,g1,g2,g11,g12,g13,hdd,hww,hx,hr,hr1,q1,q2,c3,Ab.cells]|refine Bj ?_ ?_<;>intro hb|refine fd ?_|fail))
    exact Fv (kJ _ _ () ⟨by simp[up,g0],by simp[up,g1],by simp[up,g2],by simp[up,g11],by simp[up,g12],by simp[up],hv2⟩ rfl)
 ·exact⟨by simp[up,ent],by simp[up,ent],by simp[up,ent],by simp[up],by simp[up],by simp[up],h0I⟩
 obtain⟨rfl,hI⟩:=hk
 (have hb:=trivial;with_reducible repeat' (first|simp only[hb,Vc.down,seval,aCC.down]|refine Bj ?_ ?_<;>intro hb|refine fd ?_|fail))
 exact hI
theorem QS.cln{v:AV}{q:List Nat}{H:Aa}{p:Nat}(h:QS v q H p):QS v q (Hf H) p:=by
 rcases h with h|⟨b,w,rows,r,h1,h2,h3,h4,h5⟩
 ·exact .inl h
 ·exact .inr ⟨b,false,rows,r,h1,Fh h2,h3,h4,h5⟩
theorem QS.lt{v:AV}{q:List Nat}{H:Aa}{p:Nat}(h:QS v q H p):∀b∈Ln v,b<H.length∧∃w rows,H[b]?=some (.live 1 true w rows):=by
 rcases h with⟨rfl,_⟩|⟨b,w,rows,r,rfl,h2,_⟩
 ·intro b hb1;simp[Ln]at hb1
 ·intro b' hb1;simp[Ln]at hb1;subst hb1;exact⟨An h2,w,rows,h2⟩
theorem aMX{h:Aa}(hq:Aq h=true){p:Nat}{fl w:Bool}{v:AV}{q:List Nat}(x:Nat)(hp:h[p]?=some (.live 1 fl w [[v]]))(hQ:QS v q h p)(hl:q.length≤100000000):
 ∃es M,cl Eb h (some (.func (.func 46) [] [])) (some [.ptr p 0 0,.int .i64 (x:Int)])=some (.ret (.tup []),es)∧Bi h es=M∧h.length≤M.length∧Aq M=true∧(∃v' fl',M[p]?=some (.live 1 fl' true [[v']])∧QS v' (q++[x]) M p∧∀b∈Ln v',h.length≤b)∧(∀b c,b∉p::Ln v→h[b]?=some c→M[b]?=some c)∧∀b∈Ln v,M[b]?=some .dead:=by
 have hX:∀G:Aa,(∃f row,G[p]?=some (.live 1 f true row))→(∀b∈Ln v,G[b]?=some .dead)→∀b∈p::Ln v,b<h.length∧∀c0 c,h[b]?=some c0→G[b]?=some c→c0.isLive=true∧c0.quiet c=false:=fun G g1 g2 b hb1=>by
  rcases ab1.1 hb1 with rfl|hb1
  ·obtain⟨f,row,g1⟩:=g1
   refine⟨An hp,fun c0 c k1 k2=>?_⟩
   rw[hp]at k1;rw[g1]at k2;cases k1;cases k2;exact⟨rfl,rfl⟩
  ·obtain⟨h1,w',rows,h2⟩:=hQ.lt b hb1
   refine⟨h1,fun c0 c k1 k2=>?_⟩
   rw[h2]at k1;rw[g2 b hb1]at k2;cases k1;cases k2;exact⟨rfl,rfl⟩
 obtain⟨o,G,es,e1,e2,rfl,v',fl',k1,k2,K,k4,k5,k6⟩:=auR rfl rfl (aE1 x (Fh hp) hQ.cln hl) (fun o G hQ=>by
  obtain⟨_,v',fl',k1,k2,K,k4,_⟩:=hQ
  exact(He hq K (hX G ⟨_,_,k1⟩ k4)).1)
 have X:=hX G ⟨_,_,k1⟩ k4
 obtain⟨_,m1,m2,m3,m4⟩:=He hq K X
 rw[Db]at k6
 have hle:h.length≤G.length:=by have:=K.len;rwa[Db]at this
 refine⟨es,_,e1,e2,by rw[m1];exact hle,ahM hq K X (k5 (Oi hq)),⟨v',fl',m4 p (ao5 ..) _ k1,?_,k6⟩,fun b c hn hc=>by rw[m3 b (An hc) hn];exact hc,fun b hb=>m4 b (avT _ hb) _ (k4 b hb)⟩
 rcases k2 with h1|⟨b,w',rows,r,h1,h2,h3,h4,h5⟩
 ·exact .inl h1
 ·exact .inr ⟨b,w',rows,r,h1,by rw[m2 b (k6 b (by rw[h1];simp[Ln]))];exact h2,h3,h4,h5⟩
theorem az1{h:Aa}{p:Nat}{fl w:Bool}{v:AV}(hp:h[p]?=some (.live 1 fl w [[v]]))(G:Aa)(g1:∃f row,G[p]?=some (.live 1 f true row)):∀b∈[p],b<h.length∧∀c0 c,h[b]?=some c0→G[b]?=some c→c0.isLive=true∧c0.quiet c=false:=fun b hb1=>by
 simp at hb1;subst hb1
 obtain⟨f,row,g1⟩:=g1
 refine⟨An hp,fun c0 c k1 k2=>?_⟩
 rw[hp]at k1;rw[g1]at k2;cases k1;cases k2;exact⟨rfl,rfl⟩
theorem aTR{h:Aa}(hq:Aq h=true){p:Nat}{fl w:Bool}{v:AV}{q:List Nat}(x:Nat)(hp:h[p]?=some (.live 1 fl w [[v]]))(hQ:QS v q h p)(hl:q.length≤100000000):
 ∃es M,cl Eb h (some (.func (.func 50) [] [])) (some [.ptr p 0 0,.int .i64 (x:Int)])=some (.ret (.tup []),es)∧Bi h es=M∧h.length≤M.length∧Aq M=true∧(∃v' fl',M[p]?=some (.live 1 fl' true [[v']])∧QS v' (x::q) M p∧∀b∈Ln v',h.length≤b)∧∀b c,b≠p→h[b]?=some c→M[b]?=some c:=by
 obtain⟨o,G,es,e1,e2,rfl,v',fl',k1,k2,K,k5,k6⟩:=auR rfl rfl (aID x (Fh hp) hQ.cln hl) (fun o G hQ=>by
  obtain⟨_,v',fl',k1,k2,K,_⟩:=hQ
  exact(He hq K (az1 hp G ⟨_,_,k1⟩)).1)
 have X:=az1 hp G ⟨_,_,k1⟩
 obtain⟨_,m1,m2,m3,m4⟩:=He hq K X
 rw[Db]at k6
 have hle:h.length≤G.length:=by have:=K.len;rwa[Db]at this
 refine⟨es,_,e1,e2,by rw[m1];exact hle,ahM hq K X (k5 (Oi hq)),⟨v',fl',m4 p (ao5 ..) _ k1,?_,k6⟩,fun b c hn hc=>by rw[m3 b (An hc) (by simpa using hn)];exact hc⟩
 rcases k2 with h1|⟨b,w',rows,r,h1,h2,h3,h4,h5⟩
 ·exact .inl h1
 ·exact .inr ⟨b,w',rows,r,h1,by rw[m2 b (k6 b (by rw[h1];simp[Ln]))];exact h2,h3,h4,h5⟩
theorem aV0{h:Aa}(hq:Aq h=true){p:Nat}{fl w:Bool}{v:AV}(hp:h[p]?=some (.live 1 fl w [[v]]))(hQ:QS v [] h p):
 cl Eb h (some (.func (.func 47) [] [])) (some [.ptr p 0 0])=some (.ret (.tup [.int .i64 0,.bool false]),[]):=
 aKN rfl rfl (aIO (Fh hp) hQ.cln) hq
theorem aMN{h:Aa}(hq:Aq h=true){p:Nat}{fl w:Bool}{v:AV}{x:Nat}{q:List Nat}(hp:h[p]?=some (.live 1 fl w [[v]]))(hQ:QS v (x::q) h p)(hl:q.length≤100000000):
 ∃es M,cl Eb h (some (.func (.func 47) [] [])) (some [.ptr p 0 0])=some (.ret (.tup [.int .i64 (x:Int),.bool true]),es)∧Bi h es=M∧h.length≤M.length∧Aq M=true∧(∃v' fl',M[p]?=some (.live 1 fl' true [[v']])∧QS v' q M p∧Ln v'=Ln v)∧∀b c,b≠p→h[b]?=some c→M[b]?=some c:=by
 obtain⟨o,G,es,e1,e2,rfl,v',fl',k1,k2,K,k4,k5⟩:=auR rfl rfl (aLU (Fh hp) hQ.cln hl) (fun o G hQ=>by
  obtain⟨_,v',fl',k1,k2,K,_⟩:=hQ
  exact(He hq K (az1 hp G ⟨_,_,k1⟩)).1)
 have X:=az1 hp G ⟨_,_,k1⟩
 obtain⟨_,m1,m2,m3,m4⟩:=He hq K X
 have hle:h.length≤G.length:=by have:=K.len;rwa[Db]at this
 have same:∀b c,b≠p→h[b]?=some c→(Jt h G)[b]?=some c:=fun b c hn hc=>by rw[m3 b (An hc) (by simpa using hn)];exact hc
 refine⟨es,_,e1,e2,by rw[m1];exact hle,ahM hq K X (k5 (Oi hq)),⟨v',fl',m4 p (ao5 ..) _ k1,?_,k4⟩,same⟩
 rcases k2 with h1|⟨b,w',rows,r,h1,h2,h3,h4,h5⟩
 ·exact .inl h1
 ·have hbv:b∈Ln v:=by rw[←k4,h1];simp[Ln]
  obtain⟨_,w0,rows0,hh⟩:=hQ.lt b hbv
  have hr:(hf (Jt h G) b).bind Le=(hf G b).bind Le:=aBQ hq K X b
  have hM:=same b _ h3 hh
  have e3:rows0=rows:=by
   have a1:((Jt h G)[b]?).bind Le=(G[b]?).bind Le:=hr
   rw[hM,h2]at a1
   simp[Le]at a1;exact a1
  subst e3
  exact .inr ⟨b,w0,rows0,r,h1,hM,h3,h4,h5⟩
theorem aKY{vs:List AV}{b:Nat}{h:Aa}{ps:List Nat}{asg body:Code}{tm:List AV}{st:Hk}{Q:Cm→Aa→Prop}(hb:h[b]?=some (.lp ps asg body tm st))(hl:ps.length=vs.length)
 (he:RnE b Q (aEG Eb Tryz.prog b body (Bf Eb Tryz.prog 5000 asg [] ⟨Jq tm ps vs,h⟩))):RnQ Eb (vs++[.yl b]) h Q:=RnQ.start (pr:=pr) hb hl he
theorem aJ3{O:Dh}{H:Aa}{b:Nat}{vs:List AV}{Q:Cm→Aa→Prop}(K:RnQ O (vs++[.yl b]) (Hf H) Q)(ok:∀o G,Q o G→azC H G):
 ∃o G es,cl O H (some (.yl b)) (some vs)=some (o,es)∧Bi H es=Jt H G∧Q o G:=by
 obtain⟨o,G,hc,hq⟩:=K
 obtain⟨es,e1,e2⟩:=aoA H G [] (ok o G hq)
 refine⟨o,G,es,?_,by simpa using e2,hq⟩
 rw[aTQ,hc,auW]
 have e1':Bz 0 H G=some es:=e1
 rw[e1'];rfl
def Gm:Nat:=1048576
def DiH(LK:CB)(e:Bool)(ps:List AV)(N:Nat)(h:Aa)(dd q K:List Nat):Prop:=∃f v fl w,
 h[0]?=some LK∧h[1]?=some (.live 24 true false [ps])∧h[2]?=some (.live 1 true f (dd.map Im))∧h[3]?=some (.live 1 false e [[.slr 1 2 0 N]])∧h[5]?=some (.live 1 false e [[.ptr 4 0 0]])∧h[4]?=some (.live 1 fl w [[v]])∧QS v q h 4∧(∀b∈Ln v,6≤b∧b∉K)∧Aq h=true
theorem DiH.app{LK:CB}{e:Bool}{ps:List AV}{N:Nat}{h:Aa}{dd q K:List Nat}(D:DiH LK e ps N h dd q K){L:Aa}(hL:Aq L=true):DiH LK e ps N (h++L) dd q K:=by
 obtain⟨f,v,fl,w',i0,i1,i2,i3,i5,i4,iQ,iB,iq⟩:=D
 refine⟨f,v,fl,w',Ar i0 L,Ar i1 L,Ar i2 L,Ar i3 L,Ar i5 L,Ar i4 L,?_,iB,Do iq hL⟩
 rcases iQ with h|⟨b,w',rows,r,h1,h2,h3⟩
 ·exact .inl h
 ·exact .inr ⟨b,w',rows,r,h1,Ar h2 _,h3⟩
def Okw(H G:Aa):Prop:=H.length≤G.length∧∀(b:Nat) (c0 c:CB),H[b]?=some c0→G[b]?=some c→(c0.quiet c=true∧c0.clean=c.clean)∨(c0.isLive=true∧((∃st fl rows,c=.live st fl true rows)∨c=.dead))
theorem aq4{c0 c:CB}(h:c0.isLive=true)(hc:(∃st fl rows,c=.live st fl true rows)∨c=.dead):c0.quiet c=false:=by
 rcases hc with⟨_,_,_,rfl⟩|rfl<;>cases c0<;>first|rfl|(simp[CB.isLive]at h;done)|(simp[CB.quiet,CB.same];done)
theorem Okw.sh{H G:Aa}(k:Okw H G):azC H G:=⟨k.1,fun b c0 c h0 h1=>(k.2 b c0 c h0 h1).imp (fun h=>h.1) (fun h=>h.1)⟩
theorem ayQ{c0 c1:CB}(h:c0.clean=c1.clean)(h1:c1.isLive=true):c0.isLive=true:=by cases c0<;>cases c1<;>first|rfl|(simp[CB.clean]at h;done)|cases h1
theorem arI(c:CB):c.clean.clean=c.clean:=by cases c<;>rfl
theorem Okw.app{H G:Aa}(k:Okw H G)(l:Aa):Okw H (G++l):=⟨by simp;have:=k.1;omega,fun b c0 c h0 h1=>k.2 b c0 c h0 (by
 have:=An h0
 have:=k.1
 rw[ah0 (by omega)]at h1;exact h1)⟩
theorem Okw.cl{H:Aa}(h:Aq H=true):Okw H (Hf H):=⟨by rw[Db];exact aq1 _,fun b c0 c h0 h1=>by
 rw[Fh h0]at h1;cases h1
 exact .inl ⟨Ef h h0,(arI c0).symm⟩⟩
theorem Okw.keep{H G:Aa}{X:List Nat}(h:Aq H=true)(K:apT X (Hf H) G)(hX:∀b∈X,∃c0 c,H[b]?=some c0∧G[b]?=some c∧c0.isLive=true∧((∃st fl rows,c=.live st fl true rows)∨c=.dead)):Okw H G:=⟨by have:=K.len;rwa[Db]at this,fun b c0 c h0 h1=>by
 by_cases hb:b∈X
 ·obtain⟨d0,d,e0,e1,e2⟩:=hX b hb
  rw[h0]at e0;rw[h1]at e1;cases e0;cases e1
  exact .inr e2
 ·rw[K.same b (by rw[Db];exact An h0) hb,Fh h0]at h1;cases h1
  exact .inl ⟨Ef h h0,(arI c0).symm⟩⟩
theorem Okw.mrg_clean{H G:Aa}(k:Okw H G){b:Nat}{c:CB}(hc:G[b]?=some c):∃c',(Jt H G)[b]?=some c'∧c'.clean=c.clean:=by
 by_cases hb:b<H.length
 ·have h0:H[b]?=some H[b]:=ao9 hb
  rcases k.2 b _ c h0 hc with⟨h1,h2⟩|⟨h1,h2⟩
  ·exact⟨_,Nx h0 hc h1,h2⟩
  ·refine⟨_,anP h0 hc (aq4 h1 h2),?_⟩
   rcases h2 with⟨_,_,_,rfl⟩|rfl<;>rfl
 ·exact⟨c,by rw[aqY k.1 (by omega)];exact hc,rfl⟩
theorem Okw.trans{H h' G:Aa}(k:Okw H h')(k':Okw h' G):Okw H (Jt h' G):=by
 refine⟨by rw[aoR k'.1];exact Nat.le_trans k.1 k'.1,fun b c0 c h0 h1=>?_⟩
 have hb:=An h0
 have e1:h'[b]?=some (h'[b]'(by have:=k.1;omega)):=ao9 _
 have e2:G[b]?=some (G[b]'(by have:=k.1;have:=k'.1;omega)):=ao9 _
 generalize h'[b]'(by have:=k.1;omega)=c1 at *
 generalize G[b]'(by have:=k.1;have:=k'.1;omega)=c2 at *
 rcases k'.2 b _ _ e1 e2 with⟨g1,g2⟩|⟨g1,g2⟩
 ·rw[Nx e1 e2 g1]at h1;cases h1
  exact k.2 b _ _ h0 e1
 ·rw[anP e1 e2 (aq4 g1 g2)]at h1
  have:c2.mark=c2:=by rcases g2 with⟨_,_,_,rfl⟩|rfl<;>rfl
  rw[this]at h1;cases h1
  refine .inr ⟨?_,g2⟩
  rcases k.2 b _ _ h0 e1 with⟨_,h⟩|⟨h,_⟩
  ·exact ayQ h g1
  ·exact h
theorem Okw.old{H G:Aa}{b:Nat}{c0 c:CB}(h0:H[b]?=some c0)(h1:G[b]?=some c)(hq:c0.quiet c=true):(Jt H G)[b]?=some c0:=Nx h0 h1 hq
theorem aD8{c:CB}{st:Nat}{fl w:Bool}{rows:List (List AV)}(h:c.clean=(CB.live st fl w rows).clean):∃w',c=.live st fl w' rows:=by
 cases c<;>simp[CB.clean]at h
 obtain⟨rfl,rfl,rfl⟩:=h
 exact⟨_,rfl⟩
theorem Okw.live{H G:Aa}(k:Okw H G){b st:Nat}{fl w:Bool}{rows:List (List AV)}(hc:G[b]?=some (.live st fl w rows)):∃w',(Jt H G)[b]?=some (.live st fl w' rows):=by
 obtain⟨c',h1,h2⟩:=k.mrg_clean hc
 obtain⟨w',rfl⟩:=aD8 h2
 exact⟨w',h1⟩
theorem QS.okw{H G:Aa}(k:Okw H G){v:AV}{q:List Nat}{p:Nat}(h:QS v q G p):QS v q (Jt H G) p:=by
 rcases h with h|⟨b,w,rows,r,h1,h2,h3,h4,h5⟩
 ·exact .inl h
 ·obtain⟨w',h6⟩:=k.live h2
  exact .inr ⟨b,w',rows,r,h1,h6,h3,h4,h5⟩
theorem Okw.quiet{H G:Aa}(k:Okw H G)(h:Aq H=true)(h':Aq G=true):Aq (Jt H G)=true:=by
 refine alS fun c hc=>?_
 obtain⟨b,hb⟩:=List.getElem?_of_mem hc
 have hbl:=An hb
 rw[aoR k.1]at hbl
 have e2:G[b]?=some G[b]:=ao9 hbl
 generalize G[b]=c2 at *
 by_cases hl:b<H.length
 ·have e1:H[b]?=some H[b]:=ao9 hl
  generalize H[b]=c1 at *
  rcases k.2 b _ _ e1 e2 with⟨g1,g2⟩|⟨g1,g2⟩
  ·rw[Nx e1 e2 g1]at hb;cases hb;exact Ef h e1
  ·rw[anP e1 e2 (aq4 g1 g2)]at hb;cases hb;exact arV (Ef h' e2)
 ·rw[aqY k.1 (by omega),e2]at hb;cases hb;exact Ef h' e2
theorem aER{LK:CB}{e:Bool}{ps:List AV}{N:Nat}{h':Aa}{dd q K:List Nat}{f:Bool}{v:AV}{fl w:Bool}(i0:h'[0]?=some LK)(i1:h'[1]?=some (.live 24 true false [ps]))(i2:h'[2]?=some (.live 1 true f (dd.map Im)))(i3:h'[3]?=some (.live 1 false e [[.slr 1 2 0 N]]))(i5:h'[5]?=some (.live 1 false e [[.ptr 4 0 0]]))(i4:h'[4]?=some (.live 1 fl w [[v]]))(iQ:QS v q h' 4)(iB:∀b∈Ln v,6≤b∧b∉K)(iq:Aq h'=true)
 {B:Nat} {LP LB:CB} (hB:h'[B]?=some LP) (hBK:B∈K) (hK:∀b∈K,6≤b∧b<h'.length) (hLPc:LP.clean=LP) (hLPq:LP.quiet LP=true) {M:Aa} {Y dd2 q2:List Nat} {v2:AV} {fl2:Bool} (m1:h'.length≤M.length) (m2:Aq M=true) (m3:M[4]?=some (.live 1 fl2 true [[v2]])) (m4:QS v2 q2 M 4) (m5:∀b∈Ln v2,h'.length≤b)
 (m6:∀b c,b∉Y→(((Hf h').set B LB).set 2 (.live 1 true true (dd2.map Im)))[b]?=some c→M[b]?=some c) (hY:4∈Y) (hY':∀b∈Y,b=4∨(b∈Ln v∧M[b]?=some .dead)):
 Okw h' (M.set B LP)∧DiH LK e ps N (Jt h' (M.set B LP)) dd2 q2 K∧(∀b∈K,(Jt h' (M.set B LP))[b]?=h'[b]?)∧h'.length≤(Jt h' (M.set B LP)).length:=by
 have hBl:=An hB
 have hB6:=(hK B hBK).1
 have h4l:=An i4
 have hY6:∀b∈Y,b=4∨(6≤b∧b∉K):=fun b hb1=>(hY' b hb1).imp id (fun h=>iB b h.1)
 have h2Y:2∉Y:=fun h=>by rcases hY6 2 h with h|h<;>omega
 have hKY:∀b∈K,b∉2::Y:=fun b hb1 h=>by
  have:=(hK b hb1).1
  rcases ab1.1 h with h|h
  ·omega
  ·rcases hY6 b h with h|h
   ·omega
   ·exact h.2 hb1
 have hg2:M[2]?=some (.live 1 true true (dd2.map Im)):=m6 2 _ h2Y (alG (by simp[Db];omega))
 have hK2:apT (2::Y) (Hf h') (M.set B LP):=⟨by simpa [Db]using m1,fun b hb1 hn=>by
  rw[Db]at hb1
  obtain⟨c,hc⟩:∃c,h'[b]?=some c:=⟨_,ao9 hb1⟩
  by_cases e:b=B
  ·subst e
   rw[alG (by omega),Fh hB,hLPc]
  ·rw[abY (fun h=>e h.symm)]
   have:=m6 b c.clean (fun h=>hn (avT _ h)) (by
    rw[abY (fun h=>hn (by rw[←h];exact ao5 ..)),abY (fun h=>e h.symm)];exact Fh hc)
   rw[this,Fh hc]⟩
 have hne:∀b,b≠B→(M.set B LP)[b]?=M[b]?:=fun b h=>abY (fun e=>h e.symm)
 have X:∀b∈2::Y,∃c0 c,h'[b]?=some c0∧(M.set B LP)[b]?=some c∧c0.isLive=true∧((∃st fl rows,c=.live st fl true rows)∨c=.dead):=fun b hb1=>by
  rcases ab1.1 hb1 with rfl|hb1
  ·exact⟨_,_,i2,by rw[hne 2 (by omega)];exact hg2,rfl,.inl ⟨_,_,_,rfl⟩⟩
  ·rcases hY' b hb1 with rfl|⟨h1,h2⟩
   ·exact⟨_,_,i4,by rw[hne 4 (by omega)];exact m3,rfl,.inl ⟨_,_,_,rfl⟩⟩
   ·obtain⟨h3,w',rows,h5⟩:=iQ.lt b h1
    exact⟨_,_,h5,by rw[hne b (fun e=>(iB b h1).2 (e▸hBK))];exact h2,rfl,.inr rfl⟩
 have ok:=Okw.keep iq hK2 X
 have X':∀b∈2::Y,b<h'.length∧∀c0 c,h'[b]?=some c0→(M.set B LP)[b]?=some c→c0.isLive=true∧c0.quiet c=false:=fun b hb1=>by
  obtain⟨c0,c,h1,h2,h3,h4⟩:=X b hb1
  refine⟨An h1,fun d0 d k1 k2=>?_⟩
  rw[h1]at k1;rw[h2]at k2;cases k1;cases k2
  exact⟨h3,aq4 h3 h4⟩
 obtain⟨g1,g2,g3,g4,g5⟩:=He iq hK2 X'
 have low:∀b,b<6→b≠2→b≠4→(Jt h' (M.set B LP))[b]?=h'[b]?:=fun b h1 h2 h3=>g4 b (by have:=An i5;omega) fun h=>by
  rcases ab1.1 h with h|h
  ·exact h2 h
  ·rcases hY6 b h with h|h<;>omega
 refine⟨ok,⟨true,v2,fl2,true,by rw[low 0 (by omega) (by omega) (by omega)];exact i0,by rw[low 1 (by omega) (by omega) (by omega)];exact i1,?_,by rw[low 3 (by omega) (by omega) (by omega)];exact i3,by rw[low 5 (by omega) (by omega) (by omega)];exact i5,?_,?_,fun b hb1=>?_,?_⟩,fun b hb1=>g4 b (hK b hb1).2 (hKY b hb1),by rw[g2];simpa using m1⟩
 ·exact g5 2 (ao5 ..) _ (by rw[hne 2 (by omega)];exact hg2)
 ·exact g5 4 (avT _ hY) _ (by rw[hne 4 (by omega)];exact m3)
 ·rcases m4 with h|⟨b,w',rows,r,h1,h2,h3⟩
  ·exact .inl h
  ·have hb1:=m5 b (by rw[h1];simp[Ln])
   exact .inr ⟨b,w',rows,r,h1,by rw[g3 b hb1,hne b (by omega)];exact h2,h3⟩
 ·have h1:=m5 b hb1
  exact⟨by omega,fun h=>by have:=(hK b h).2;omega⟩
 ·exact ahM iq hK2 X' (Dp m2 B (by rw[hLPc];exact hLPq))
theorem aJI{h' l:Aa}(hq:Aq h'=true):Okw h' (Hf h'++l)∧Jt h' (Hf h'++l)=h'++l:=by
 have K:apT [] (Hf h') (Hf h'++l):=apT.app _ _
 have X:∀b∈([]:List Nat),b<h'.length∧∀c0 c,h'[b]?=some c0→(Hf h'++l)[b]?=some c→c0.isLive=true∧c0.quiet c=false:=fun b hb1=>by cases hb1
 obtain⟨g1,g2,g3,g4,_⟩:=He hq K X
 refine⟨(Okw.cl hq).app l,aC1 fun b=>?_⟩
 by_cases hb1:b<h'.length
 ·rw[g4 b hb1 (by simp),ah0 hb1]
 ·rw[g3 b (by omega),aqG (by simp[Db];omega),aqG (by omega),Db]
theorem aIZ:Af .nilp=[.nilp]:=Eq.trans rfl rfl
theorem aL0(n x:Nat):(abZ n x).sum=n*x:=by
 induction n with
 |zero=>simp
 |succ n ih=>rw[aC2,List.sum_cons,ih,Nat.succ_mul];omega
theorem avR:∀(l:List Nat) (s:Nat),(l.set s 0).sum≤l.sum
 | [],s=>by simp
 |a::l,0=>by simp
 |a::l,s+1=>by have:=avR l s;simp;omega
theorem aF5{N s far:Nat}(h:N≤8):(Dy N s far).sum≤8*far:=by
 unfold Dy
 refine Nat.le_trans (avR _ _) ?_
 rw[aL0]
 exact Nat.mul_le_mul_right _ h
def tgB(x:Int × Bool):Bool:=x.1==0&& !x.2
def tgt(L:List (Int × Bool)):List Bool:=L.map tgB
theorem aHG{w:Ao}{L:List (Int × Bool)}{i:Nat}{p:Ab}{x:Int × Bool}(hp:w.parts[i]?=some p)(hx:L[i]?=some x):(edg w (tgt L))[i]?=some (p.one.toNat,p.other.toNat,if tgB x=true then 1 else 0):=by
 unfold edg tgt
 rw[List.getElem?_zipWith,as2,hp,hx];rfl
theorem ayY{w:Ao}{d:Int}:edg w (tgt (Ak w d))=edg w (ahC w d):=by
 have e:∀(l:List Ab) (r:List Bool) (f:Ab→Bool→Net.Edge),List.zipWith f l (l.map (fun p=>amW p d)++r)=List.zipWith f l (l.map fun p=>amW p d):=by
  intro l;induction l with
  |nil=>intro r f;simp
  |cons a l ih=>intro r f;simp[ih]
 unfold edg tgt Ak ahC
 rw[aC3,List.map_map]
 exact e _ _ _
theorem QS.app{v:AV}{q:List Nat}{H:Aa}{p:Nat}(h:QS v q H p)(l:Aa):QS v q (H++l) p:=by
 rcases h with h|⟨b,w,rows,r,h1,h2,h3⟩
 ·exact .inl h
 ·exact .inr ⟨b,w,rows,r,h1,Ar h2 l,h3⟩
theorem aDR{h:Aa}{b:Nat}{c:CB}(hc:h[b]?=some c):h.set b c=h:=by
 refine aC1 fun i=>?_
 by_cases e:b=i
 ·subst e;rw[alG (An hc),hc]
 ·rw[abY e]
theorem au2:∀(L:List (Int × Bool)) (i:Nat) (a:Int) (b:Bool),L[i]?=some (a,b)→asR 2 (List.drop (i*2) (Et L))=[.int .i64 a,.bool b]
 | [],i,a,b,h=>by simp at h
 |x::L,0,a,b,h=>by simp at h;subst h;simp[Et]
 |x::L,i+1,a,b,h=>by
  have ih:=au2 L i a b (by simpa using h)
  rw[show(i+1)*2=(i*2)+1+1 by omega]
  simpa only[Et,List.flatMap_cons,List.cons_append,ax1,List.drop_succ_cons]using ih
theorem atT{w:Ao}{d:Int}{i:Nat}{p:Ab}(hx:w.parts[i]?=some p):(Ak w d)[i]?=some (Au p d,p.opn):=by
 unfold Ak
 rw[ah0 (by rw[ao7];exact(ax2.1 hx).1),as2,hx];rfl
def no3:Nat→Nat→Nat→Prop:=fun _ _ _=>False
theorem av7{w:Ao}{N:Nat}(hw:WOk w N)(h12:w.parts.length≤12){d:Int}{s:Nat}(hs:s<N){ps:List AV}{L:List (Int × Bool)}(hL12:L.length=12)(hps:ps=Et L){wf:Bool}:
 ClQ Eb 35 [.ptr 0 0 0,.int .i64 (s:Int),.agg ps] [.live 4 false wf [[.int .i64 w.rooms,.int .i64 w.need,Dn 9 true w.nn (w.parts.map Ab.cells),.int .i64 d]]] fun o h'=>
  ∃(f:Bool) (ds:List Nat),o=.ret (.slr 1 1 0 N)∧h'=[.live 4 false wf [[.int .i64 w.rooms,.int .i64 w.need,Dn 9 true w.nn (w.parts.map Ab.cells),.int .i64 d]],.live 1 true f (ds.map Im)]∧ds.length=N∧ag8 (edg w (tgt L)) s N Gm (fun v=>ds.getD v 0):=by
 have hr:=hw.rooms
 have n2:=hw.n2
 have n8:=hw.n8
 have hpl:ps.length=24:=by rw[hps,Ia];omega
 have hflat:ps.all AV.flat=true∧ps.all AV.isCell=true:=by
  subst hps
  have hform:∀x∈Et L,(∃n,x=.int .i64 n)∨∃b,x=.bool b:=fun x hx=>by
   simp only[Et,aC4,ab1,aqM,or_false]at hx
   obtain⟨y,_,rfl|rfl⟩:=hx
   ·exact .inl ⟨_,rfl⟩
   ·exact .inr ⟨_,rfl⟩
  exact⟨atQ.2 fun x hx=>by rcases hform x hx with⟨n,rfl⟩|⟨b,rfl⟩<;>rfl,atQ.2 fun x hx=>by rcases hform x hx with⟨n,rfl⟩|⟨b,rfl⟩<;>rfl⟩
 obtain⟨hf1,hf2⟩:=hflat
 refine aS0 rfl Tryz.func35 rfl rfl ?_
 simp only[Tryz.f35]
 simp only[hr]
 have h39:(N≤549755813888)=True:=eq_true (by omega)
 have m1:((N:Int)≤(N:Int))=True:=eq_true (Int.le_refl _)
 have m2:((N:Int)≤1099511627776)=True:=eq_true (by omega)
 (have hb:=trivial;with_reducible repeat' (first|simp only[hb,Vc.down,seval,ab0.down,hpl,hf1,hf2,h39,m1,m2,aC8]|refine Bj ?_ ?_<;>intro hb|refine fd ?_|fail))
 generalize hLK:(CB.live 4 false wf [[.int .i64 (N:Int),.int .i64 w.need,Dn 9 true w.nn (w.parts.map Ab.cells),.int .i64 d]])=LK
 refine ahA (lst 85 (abZ N ()) (fun i (_:Unit) t h=>t 0=.ptr 0 0 0∧t 1=.int .i64 (s:Int)∧t 5=.ptr 1 0 0∧t 7=.ptr 3 0 0∧t 23=.int .i64 (N:Int)∧t 24=.int .i64 (i:Int)∧∃f,h=[LK,.live 24 true false [ps],.live 1 true f ((abZ i Gm++abZ (N-i) 0).map Im),.live 1 false true [[.slr 1 2 0 N]]]) (fun _ _=>())
  (fun _ e t h=>e=.exit 0∧t 0=.ptr 0 0 0∧t 1=.int .i64 (s:Int)∧t 5=.ptr 1 0 0∧t 7=.ptr 3 0 0∧∃f,h=[LK,.live 24 true false [ps],.live 1 true f ((abZ N Gm).map Im),.live 1 false true [[.slr 1 2 0 N]]]) ?_ ?_ () _ _ ?_) (fun e t h hk=>?_)
 ·rintro _ t h Q' kQ ⟨g0,g1,g5,g7,g23,g24,f,rfl⟩
  rw[auH]at g24
  (have hb:=trivial;with_reducible repeat' (first|simp only[hb,Vc.down,seval,ab0.down,g23,g24,Int.lt_irrefl,decide_false]|refine Bj ?_ ?_<;>intro hb|refine fd ?_|fail))
  exact kQ _ _ _ ⟨rfl,by simp[up,g0],by simp[up,g1],by simp[up,g5],by simp[up,g7],f,by simp⟩
 ·rintro x rest i _ t h J Q' kJ kQ hx hi ⟨g0,g1,g5,g7,g23,g24,f,rfl⟩
  rw[auH]at hi
  have hdd:decide ((i:Int)<(N:Int))=true:=decide_eq_true (by omega)
  have hdi:((i:Int)<(N:Int))=True:=eq_true (by omega)
  have hww:=Iw (n:=N) hi (by unfold maxLen;omega)
  have hrow:((abZ i Gm++abZ (N-i) 0).map Im)[i]?=some [.int .i64 0]:=by
   rw[as2,aqG (by simp),auH,ax3,aDH,if_pos (by omega)]
   rfl
  have hnx:((abZ i Gm++abZ (N-i) 0).map Im).set i [.int .i64 1048576]=(abZ (i+1) Gm++abZ (N-(i+1)) 0).map Im:=by
   have e:N-i=(N-(i+1))+1:=by omega
   rw[show([.int .i64 1048576]:List AV)=Im Gm from rfl,←ax4,List.set_append_right _ _ (by simp),auH,ax3,e,aC2,List.set_cons_zero,List.replicate_succ',List.append_assoc]
   rfl
  generalize(abZ i Gm++abZ (N-i) 0).map Im=rows at *
  (have hb:=trivial;with_reducible repeat' (first|simp only[hb,Vc.down,seval,ab0.down,g0,g1,g5,g7,g23,g24,hdd,hdi,hww,hrow,hnx]|refine Bj ?_ ?_<;>intro hb|refine fd ?_|fail))
  exact Fv (kJ _ _ () ⟨by simp[up,g0],by simp[up,g1],by simp[up,g5],by simp[up,g7],by simp[up,g23],by simp[up],true,rfl⟩ rfl)
 ·exact⟨by simp[up,ent],by simp[up,ent],by simp[up],by simp[up],by simp[up],by simp[up],false,by simp[Im]⟩
 obtain⟨rfl,g0,g1,g5,g7,f,rfl⟩:=hk
 have hrow:s<((abZ N Gm).map Im).length:=by simpa using hs
 have hz:((abZ N Gm).map Im)[s]?=some [.int .i64 1048576]:=by rw[as2,aDH,if_pos hs];rfl
 have hin:((abZ N Gm).map Im).set s [.int .i64 0]=(Dy N s Gm).map Im:=by rw[Dy,ax4];rfl
 have o1:((s:Int)<(N:Int))=True:=eq_true (by omega)
 generalize hrw:(abZ N Gm).map Im=rows at *
 obtain⟨q1,hq1⟩:∃q,Fn.func 46=q:=⟨_,rfl⟩
 obtain⟨q2,hq2⟩:∃q,Fn.func 47=q:=⟨_,rfl⟩
 have hLq:LK.quiet LK.clean=true:=by rw[←hLK];rfl
 obtain⟨es,M,b1,b2,b3,b4,⟨v',fl',b5,b6,b7⟩,b8,_⟩:=aMX (h:=[LK,.live 24 true false [ps],.live 1 true true ((Dy N s Gm).map Im),.live 1 false true [[.slr 1 2 0 N]],.live 1 false false [[.nils]],.live 1 false true [[.ptr 4 0 0]]]) (alS fun c hc=>by
  simp only[ab1,aqM,or_false]at hc
  rcases hc with rfl|rfl|rfl|rfl|rfl|rfl
  ·exact hLq
  all_goals rfl) (p:=4) s rfl (.inl ⟨rfl,rfl⟩) (by simp)
 rw[hq1]at b1
 simp only[ax1]at b6
 obtain⟨es2,M2,c1,c2,c3,c4,⟨v2,fl2,c5,c6,c7⟩,c8⟩:=aMN b4 b5 b6 (by simp)
 rw[hq2]at c1
 have k3:=b8 3 _ (by simp[Ln]) rfl
 have k5:=b8 5 _ (by simp[Ln]) rfl
 have j3:=c8 3 _ (by omega) k3
 have j5:=c8 5 _ (by omega) k5
 have j0:=c8 0 _ (by omega) (b8 0 _ (by simp[Ln]) rfl)
 have j1:=c8 1 _ (by omega) (b8 1 _ (by simp[Ln]) rfl)
 have j2:=c8 2 _ (by omega) (b8 2 _ (by simp[Ln]) rfl)
 (have hb:=trivial;with_reducible repeat' (first|simp only[hb,Vc.down,seval,ab0.down,g0,g1,g5,g7,hz,hin,o1,hq1,hq2,b1,b2,c1,c2,k3,k5,j3,j5,aIZ,aC8]|refine Bj ?_ ?_<;>intro hb|refine fd ?_|fail))
 generalize hE:edg w (tgt L)=E at *
 have hEo:EOk E N:=by rw[←hE];exact apA hw _
 have I0:=aLA (E:=E) (far:=Gm) hs hEo
 have hsum:(Dy N s Gm).sum≤8*1048576:=aF5 n8
 refine ahA (cnt 85 (fun n (_:Unit) t h=>t 0=.ptr 0 0 0∧t 1=.int .i64 (s:Int)∧t 5=.ptr 1 0 0∧t 7=.ptr 3 0 0∧t 9=.ptr 5 0 0∧∃dd q k,DiH LK true ps N h dd q [k]∧2*dd.sum+q.length≤20000000∧
  ((t 11=.bool true∧∃room w,t 10=.ptr k 0 0∧6≤k∧h[k]?=some (.live 1 true w [[.int .i64 (room:Nat)]])∧DqI E s N Gm dd (room::q) no3∧2*dd.sum+q.length+1≤n)∨(t 11=.bool false∧q=[]∧DqI E s N Gm dd [] no3))) (fun _ _=>())
  (fun _ e t h=>e=.exit 2∧t 7=.ptr 3 0 0∧∃dd k,DiH LK true ps N h dd [] [k]∧DqI E s N Gm dd [] no3) ?_ ?_ (2*(Dy N s Gm).sum+1) () _ _ ?_) (fun e t h hk=>?_)
 ·rintro _ t h Q' kQ ⟨g0,g1,g5,g7,g9,dd,q,k,hD,hql,⟨g11,room,w5,g10,_,_,_,hm⟩|⟨g11,rfl,hI⟩⟩
  ·omega
  ·(have hb:=trivial;with_reducible repeat' (first|simp only[hb,Vc.down,seval,ab0.down,g11]|refine Bj ?_ ?_<;>intro hb|refine fd ?_|fail))
   exact kQ _ _ _ ⟨rfl,by simp[up,g7],dd,k,hD,hI⟩
 ·rintro n _ t h J Q' kJ kQ ⟨g0,g1,g5,g7,g9,dd,q,k,hD,hql,⟨g11,room,w5,g10,hk6,hkb,hI,hm⟩|⟨g11,rfl,hI⟩⟩
  ·obtain⟨f,v,fl,w',i0,i1,i2,i3,i5,i4,iQ,iB,iq⟩:=hD
   have hat:=aXM w d (room:Int) false
   rw[hr]at hat
   subst hLK
   (have hb:=trivial;with_reducible repeat' (first|simp only[hb,Vc.down,seval,ab0.down,g0,g1,g5,g7,g9,g10,g11,i0,i1,i2,i3,i5,hkb,hat]|refine Bj ?_ ?_<;>intro hb|refine fd ?_|fail))
   obtain⟨rN,rI⟩:=DqI.take hI
   have hkl:=An hkb
   generalize hLP:CB.lp _ _ _ _ _=LP
   obtain⟨LK,hLK⟩:∃c:CB,c=CB.live 4 false wf [[.int .i64 (N:Int),.int .i64 w.need,Dn 9 true w.nn (w.parts.map Ab.cells),.int .i64 d]]:=⟨_,rfl⟩
   refine aN4 (aXW hw (d:=d) (r:=(room:Int)) (lb:=h.length) (rb:=h.length+1) (kb:=0) (fun i h'=>∃dd' q',DiH LK.clean false ps N h' dd' q' [k,h.length,h.length+1,h.length+2]∧DqI E s N Gm dd' q' (Ny E room i)∧2*dd'.sum+q'.length≤2*dd.sum+q.length∧(∃w1,h'[k]?=some (.live 1 true w1 [[.int .i64 (room:Nat)]]))∧(∃w1,h'[h.length]?=some (.live 1 false w1 [[.ptr 0 0 0]]))∧(∃w1,h'[h.length+1]?=some (.live 1 true w1 [[.int .i64 (room:Nat)]]))∧h'[h.length+2]?=some LP∧h.length+3≤h'.length∧Okw (h++[.live 1 false false [[.ptr 0 0 0]],.live 1 true false [[.int .i64 (room:Nat)]],LP]) h') ?_ ?_ ?_ ?_ ?_ ?_ ?_) ?_
   ·rintro i h' ⟨dd',q',_,_,_,_,hb1,_⟩
    exact hb1
   ·rintro i h' ⟨dd',q',⟨f,v,fl,w',i0,_⟩,_⟩
    rw[hr]
    exact⟨false,by rw[i0,hLK];rfl⟩
   ·rintro i h' ⟨dd',q',_,_,_,_,_,hb2,_⟩
    exact hb2
   ·rintro i h' fl wf rows ⟨dd',q',k1,k3,k4,⟨a0,k5⟩,⟨a1,k6⟩,⟨a2,k7⟩,k8,k9,kO⟩
    exact⟨dd',q',k1.app rfl,k3,k4,⟨a0,Ar k5 _⟩,⟨a1,Ar k6 _⟩,⟨a2,Ar k7 _⟩,Ar k8 _,by simp;omega,kO.app _⟩
   ·rintro i p u h' hpx hu ⟨dd',q',⟨f',v',fl',w2,j0,j1,j2,j3,j5,j4,jQ,jB,jq⟩,k3,k4,⟨a0,k5⟩,⟨a1,k6⟩,⟨a2,k7⟩,k8,k9,kO⟩
    have round:RnQ Eb ([.int .i64 i,.int .i64 u]++[.yl (h.length+2)]) (Hf h') fun o G=>o=.ret (.bool true)∧Okw h' G∧∃dd2 q2,DiH LK.clean false ps N (Jt h' G) dd2 q2 [k,h.length,h.length+1,h.length+2]∧DqI E s N Gm dd2 q2 (Ny E room (i+1))∧2*dd2.sum+q2.length≤2*dd.sum+q.length∧(∀b∈[k,h.length,h.length+1,h.length+2],(Jt h' G)[b]?=h'[b]?)∧h'.length≤(Jt h' G).length:=by
     have hir:room<N:=rN
     have hpo:=hw.part p (avQ hpx)
     have hil:i<w.parts.length:=(ax2.1 hpx).1
     obtain⟨pc,hpc⟩:∃x,L[i]?=some x:=⟨_,ao9 (by omega)⟩
     have he:=aHG hpx hpc
     rw[hE]at he
     obtain⟨to,rfl,htN,hrt,hto⟩:∃to:Nat,u=(to:Int)∧to<N∧room≠to∧(E[i]?=some (room,to,if tgB pc=true then 1 else 0)∨E[i]?=some (to,room,if tgB pc=true then 1 else 0)):=by
      rcases hu with⟨h1,h2⟩|⟨h1,h2,h3⟩
      ·exact⟨p.other.toNat,by omega,by omega,by omega,.inl (by rw[he,h1];rfl)⟩
      ·exact⟨p.one.toNat,by omega,by omega,by omega,.inr (by rw[he,h2];rfl)⟩
     have hi12:((i:Int)<12)=True:=eq_true (by omega)
     have hp24:(i*2+2≤24)=True:=eq_true (by omega)
     have htk:asR 2 (List.drop (i*2) ps)=[.int .i64 pc.1,.bool pc.2]:=by
      rw[hps];exact au2 _ _ _ _ hpc
     have htt:=aKD pc.1 pc.2
     rw[show(pc.1==0&& !pc.2)=tgB pc from rfl]at htt
     have hdl:=k3.i.len
     have hrm:=au3 (d:=dd') (a:=room) (by omega)
     have htm:=au3 (d:=dd') (a:=to) (by omega)
     have hst:∀n:Nat,(dd'.map Im).set to [.int .i64 (n:Int)]=(dd'.set to n).map Im:=fun n=>by rw[ax4];rfl
     have hrf:=k3.i.le room rN
     have hrf2:dd'.getD room 0≤1048576:=hrf
     have I0:=k3.same hto
     have I1:=fun q'=>k3.less (q':=q') rN htN hrt hto
     have hrN:((room:Int)<(N:Int))=True:=eq_true (by omega)
     have htN':((to:Int)<(N:Int))=True:=eq_true (by omega)
     have hbit:=aUF (tgB pc)
     have hsum:∀x,x<dd'.getD to 0→(dd'.set to x).sum<dd'.sum:=fun x hx=>aHC (by omega) hx
     generalize dd'.getD room 0=xr at *
     generalize dd'.getD to 0=xt at *
     generalize hrows:dd'.map Im=rows at *
     have hbc:=Fh k8
     have hb0:LP.clean=LP:=by rw[←hLP];rfl
     rw[hb0]at hbc
     have hne2:∀(b:Nat) (c X:CB),b≠h.length+2→h'[b]?=some c→((Hf h').set (h.length+2) X)[b]?=some c.clean:=fun b c X hn hc=>by rw[abY (fun e=>hn e.symm),Fh hc]
     have h6:=An i5
     have g0':=fun X=>hne2 0 _ X (by omega) j0
     have g1':=fun X=>hne2 1 _ X (by omega) j1
     have g2':=fun X=>hne2 2 _ X (by omega) j2
     have g3':=fun X=>hne2 3 _ X (by omega) j3
     have g5':=fun X=>hne2 5 _ X (by omega) j5
     have gk':=fun X=>hne2 k _ X (by omega) k5
     simp only[CB.clean]at g1' g2' g3' g5' gk'
     have hlw:∀n,n≤1048577→IntKind.i64.wrap (n:Nat)=(n:Int):=fun n hn=>Gt (by omega) (by omega)
     have hself:∀X:CB,((Hf h').set (h.length+2) X)[h.length+2]?=some X:=fun X=>alG (An hbc)
     have hback:∀X:CB,(((Hf h').set (h.length+2) X).set (h.length+2) LP)=Hf h':=fun X=>by
      rw[List.set_set];exact aDR hbc
     have sm:=aJI (l:=[]) jq
     simp only[List.append_nil]at sm
     have fin0:∀(dx:DqI E s N Gm dd' q' (Ny E room (i+1))),(Cm.ret (AV.bool true)=.ret (.bool true))∧Okw h' (Hf h')∧∃dd2 q2,DiH LK.clean false ps N (Jt h' (Hf h')) dd2 q2 [k,h.length,h.length+1,h.length+2]∧DqI E s N Gm dd2 q2 (Ny E room (i+1))∧2*dd2.sum+q2.length≤2*dd.sum+q.length∧(∀b∈[k,h.length,h.length+1,h.length+2],(Jt h' (Hf h'))[b]?=h'[b]?)∧h'.length≤(Jt h' (Hf h')).length:=fun dx=>by
      rw[sm.2]
      exact⟨rfl,sm.1,dd',q',⟨f',v',fl',w2,j0,j1,by rw[hrows];exact j2,j3,j5,j4,jQ,jB,jq⟩,dx,k4,fun b _=>rfl,aq1 _⟩
     have hq':q'.length≤100000000:=by omega
     have hK6:∀b∈[k,h.length,h.length+1,h.length+2],6≤b∧b<h'.length:=fun b hb1=>by
      simp only[ab1,aqM,or_false]at hb1
      omega
     have hnx:∀(b:Nat) (c X Y:CB),b≠h.length+2→b≠2→h'[b]?=some c→(((Hf h').set (h.length+2) X).set 2 Y)[b]?=some c.clean:=fun b c X Y n1 n2 hc=>by rw[abY (fun e=>n2 e.symm)];exact hne2 b c X n1 hc
     have n5:=fun X Y=>hnx 5 _ X Y (by omega) (by omega) j5
     have n4:=fun X Y=>hnx 4 _ X Y (by omega) (by omega) j4
     have nB:∀X Y:CB,(((Hf h').set (h.length+2) X).set 2 Y)[h.length+2]?=some X:=fun X Y=>by rw[abY (by omega)];exact hself X
     simp only[CB.clean]at n5 n4
     have nQ:∀X Y,QS v' q' (((Hf h').set (h.length+2) X).set 2 Y) 4:=fun X Y=>by
      rcases QS.cln jQ with h1|⟨b,w0,rows0,r0,h1,h2,h3⟩
      ·exact .inl h1
      ·have hbb:=jB b (by rw[h1];simp[Ln])
       simp only[ab1,aqM,or_false,not_or]at hbb
       exact .inr ⟨b,w0,rows0,r0,h1,by rw[abY (by omega),abY (by omega)];exact h2,h3⟩
     have hlen2:∀X Y:CB,(((Hf h').set (h.length+2) X).set 2 Y).length=h'.length:=fun X Y=>by simp[Db]
     have nqt:∀(X:CB) (Y:List (List AV)),X.quiet X.clean=true→Aq (((Hf h').set (h.length+2) X).set 2 (.live 1 true true Y))=true:=fun X Y hX=>Dp (Dp (Oi jq) _ hX) _ rfl
     have fin1:∀{n:Nat} {q2:List Nat} {M:Aa} {Y:List Nat} {LB:CB} {v2:AV} {fl2:Bool},DqI E s N Gm (dd'.set to n) q2 (Ny E room (i+1))→n<xt→q2.length=q'.length+1→h'.length≤M.length→Aq M=true→M[4]?=some (.live 1 fl2 true [[v2]])→QS v2 q2 M 4→(∀b∈Ln v2,h'.length≤b)→
      (∀b c,b∉Y→(((Hf h').set (h.length+2) LB).set 2 (.live 1 true true ((dd'.set to n).map Im)))[b]?=some c→M[b]?=some c)→4∈Y→(∀b∈Y,b=4∨(b∈Ln v'∧M[b]?=some .dead))→
      (Cm.ret (AV.bool true)=.ret (.bool true))∧Okw h' (M.set (h.length+2) LP)∧∃dd2 q2,DiH LK.clean false ps N (Jt h' (M.set (h.length+2) LP)) dd2 q2 [k,h.length,h.length+1,h.length+2]∧DqI E s N Gm dd2 q2 (Ny E room (i+1))∧2*dd2.sum+q2.length≤2*dd.sum+q.length∧(∀b∈[k,h.length,h.length+1,h.length+2],(Jt h' (M.set (h.length+2) LP))[b]?=h'[b]?)∧h'.length≤(Jt h' (M.set (h.length+2) LP)).length:=fun {n q2 M Y LB v2 fl2} dx hn hq2 m1 m2 m3 m4 m5 m6 hY hY'=>by
      have hr:=aER (K:=[k,h.length,h.length+1,h.length+2]) j0 j1 (by rw[hrows];exact j2) j3 j5 j4 jQ jB jq k8 (by simp) hK6 hb0 (by rw[←hLP];rfl) m1 m2 m3 m4 m5 m6 hY hY'
      exact⟨rfl,hr.1,dd'.set to n,q2,hr.2.1,dx,by have:=hsum n hn;omega,hr.2.2.1,hr.2.2.2⟩
     have nbv:h.length+2∉4::Ln v':=fun hx=>by
      rcases ab1.1 hx with hx|hx
      ·omega
      ·have:=(jB _ hx).2;simp at this
     have mq:∀x,x∈q'++[to]↔x=to∨x∈q':=fun x=>by simp;exact Or.comm
     have mq2:∀x,x∈to::q'↔x=to∨x∈q':=fun x=>by simp
     cases htb:tgB pc with
     |true=>
      have hw1:IntKind.i64.wrap ((xr:Int)+1)=((xr+1:Nat):Int):=by have:=hlw (xr+1) (by omega);simpa using this
      rw[htb]at htt hbit I0 I1
      simp only[if_true]at I0 I1 hbit
      by_cases hle:xt≤xr+1
      ·have hle':(((xr+1:Nat):Int)≥(xt:Int))=True:=eq_true (by omega)
       have fz:=fin0 (I0 hle)
       subst hLP
       refine aKY hbc rfl ?_
       (have hb:=trivial;with_reducible repeat' (first|simp only[hb,Vc.down,seval,ab0.down,k8,g0,g1,g5,g7,g9,g10,g0',g1',g2',g3',g5',gk',Ft,hi12,hp24,hpl,htk,htt,hbit,hrm,htm,hrN,htN',hw1,hle',hself,hback]|refine Bj ?_ ?_<;>intro hb|refine fd ?_|fail))
       exact⟨_,_,rfl,fz⟩
      ·have hle':(((xr+1:Nat):Int)≥(xt:Int))=False:=eq_false (by omega)
       subst hLP
       refine aKY hbc rfl ?_
       (have hb:=trivial;with_reducible repeat' (first|simp only[hb,Vc.down,seval,ab0.down,k8,g0,g1,g5,g7,g9,g10,g0',g1',g2',g3',g5',gk',Ft,hi12,hp24,hpl,htk,htt,hbit,hrm,htm,hrN,htN',hw1,hle',hst]|refine Bj ?_ ?_<;>intro hb|refine fd ?_|fail))
       generalize hLB:CB.lp _ _ _ _ Hk.busy=LB
       obtain⟨q1,hq1⟩:∃q,Fn.func 46=q:=⟨_,rfl⟩
       obtain⟨es,M,b1,b2,b3,b4,⟨v2,fl2,b5,b6,b7⟩,b8,b9⟩:=aMX (nqt LB ((dd'.set to (xr+1)).map Im) (by rw[←hLB];rfl)) to (n4 LB _) (nQ LB _) hq'
       rw[hq1]at b1
       have n5':=n5 LB
       have mB:=b8 _ _ nbv (nB LB _)
       have fz:=fin1 (I1 (q'++[to]) (by omega) mq) (by omega) (by simp) (by rw[hlen2]at b3;exact b3) b4 b5 b6 (by rw[hlen2]at b7;exact b7) b8 (ao5 ..) (fun b hb1=>(ab1.1 hb1).imp id fun hb1=>⟨hb1,b9 b hb1⟩)
       subst hLB
       (have hb:=trivial;with_reducible repeat' (first|simp only[hb,Vc.down,seval,ab0.down,n5',hq1,b1,b2,mB]|refine Bj ?_ ?_<;>intro hb|refine fd ?_|fail))
       exact⟨_,_,rfl,fz⟩
     |false=>
      have hw1:IntKind.i64.wrap ((xr:Int)+0)=((xr:Nat):Int):=by have:=hlw xr (by omega);simpa using this
      rw[htb]at htt hbit I0 I1
      simp only[Bool.false_eq_true,if_false,Nat.add_zero]at I0 I1 hbit
      by_cases hle:xt≤xr
      ·have hle':((xr:Int)≥(xt:Int))=True:=eq_true (by omega)
       have fz:=fin0 (I0 hle)
       subst hLP
       refine aKY hbc rfl ?_
       (have hb:=trivial;with_reducible repeat' (first|simp only[hb,Vc.down,seval,ab0.down,k8,g0,g1,g5,g7,g9,g10,g0',g1',g2',g3',g5',gk',Ft,hi12,hp24,hpl,htk,htt,hbit,hrm,htm,hrN,htN',hw1,hle',hself,hback]|refine Bj ?_ ?_<;>intro hb|refine fd ?_|fail))
       exact⟨_,_,rfl,fz⟩
      ·have hle':((xr:Int)≥(xt:Int))=False:=eq_false (by omega)
       subst hLP
       refine aKY hbc rfl ?_
       (have hb:=trivial;with_reducible repeat' (first|simp only[hb,Vc.down,seval,ab0.down,k8,g0,g1,g5,g7,g9,g10,g0',g1',g2',g3',g5',gk',Ft,hi12,hp24,hpl,htk,htt,hbit,hrm,htm,hrN,htN',hw1,hle',hst]|refine Bj ?_ ?_<;>intro hb|refine fd ?_|fail))
       generalize hLB:CB.lp _ _ _ _ Hk.busy=LB
       obtain⟨q1,hq1⟩:∃q,Fn.func 50=q:=⟨_,rfl⟩
       obtain⟨es,M,b1,b2,b3,b4,⟨v2,fl2,b5,b6,b7⟩,b8⟩:=aTR (nqt LB ((dd'.set to xr).map Im) (by rw[←hLB];rfl)) to (n4 LB _) (nQ LB _) hq'
       rw[hq1]at b1
       have n5':=n5 LB
       have mB:=b8 _ _ (by omega) (nB LB _)
       have fz:=fin1 (Y:=[4]) (I1 (to::q') (by omega) mq2) (by omega) (by simp) (by rw[hlen2]at b3;exact b3) b4 b5 b6 (by rw[hlen2]at b7;exact b7) (fun b c hn=>b8 b c (by simpa using hn)) (ao5 ..) (fun b hb1=>.inl (by simpa using hb1))
       subst hLB
       (have hb:=trivial;with_reducible repeat' (first|simp only[hb,Vc.down,seval,ab0.down,n5',hq1,b1,b2,mB]|refine Bj ?_ ?_<;>intro hb|refine fd ?_|fail))
       exact⟨_,_,rfl,fz⟩
    obtain⟨o,G,es,e1,e2,rfl,z0,dd2,q2,z1,z2,z3,z4,z5⟩:=aJ3 round (fun o G h=>h.2.1.sh)
    refine⟨es,e1,?_⟩
    rw[e2]
    exact⟨dd2,q2,z1,z2,z3,⟨a0,by rw[z4 k (by simp)];exact k5⟩,⟨a1,by rw[z4 _ (by simp)];exact k6⟩,⟨a2,by rw[z4 _ (by simp)];exact k7⟩,by rw[z4 _ (by simp)];exact k8,by omega,kO.trans z0⟩
   ·rintro i p h' hpx n1 n2 ⟨dd',q',k1,k3,k4,k5,k6,k7,k8,k9⟩
    have hpo:=hw.part p (avQ hpx)
    obtain⟨pc,hpc⟩:∃x,L[i]?=some x:=⟨_,ao9 (by have:=(ax2.1 hpx).1;omega)⟩
    have he:=aHG hpx hpc
    rw[hE]at he
    exact⟨dd',q',k1,k3.skip he (by omega) (by omega),k4,k5,k6,k7,k8,k9⟩
   ·have cl:∀(b:Nat) (c:CB),h[b]?=some c→(Hf h++[CB.live 1 false false [[.ptr 0 0 0]],.live 1 true false [[.int .i64 (room:Nat)]],LP])[b]?=some c.clean:=fun b c hc=>Ar (Fh hc) _
    have ca:∀j,(Hf h++[CB.live 1 false false [[.ptr 0 0 0]],.live 1 true false [[.int .i64 (room:Nat)]],LP])[h.length+j]?=[CB.live 1 false false [[.ptr 0 0 0]],.live 1 true false [[.int .i64 (room:Nat)]],LP][j]?:=fun j=>by
     rw[aqG (by rw[Db];omega),Db,avE]
    have hLc:LP.clean=LP:=by rw[←hLP];rfl
    have hLq:LP.quiet LP=true:=by rw[←hLP];rfl
    have hok:Okw (h++[.live 1 false false [[.ptr 0 0 0]],.live 1 true false [[.int .i64 (room:Nat)]],LP]) (Hf h++[.live 1 false false [[.ptr 0 0 0]],.live 1 true false [[.int .i64 (room:Nat)]],LP]):=by
     have:=Okw.cl (H:=h++[.live 1 false false [[.ptr 0 0 0]],.live 1 true false [[.int .i64 (room:Nat)]],LP]) (Do iq (by simp only[Aq,ax5,hLc,hLq];rfl))
     rw[show Hf (h++[CB.live 1 false false [[.ptr 0 0 0]],.live 1 true false [[.int .i64 (room:Nat)]],LP])=Hf h++[CB.live 1 false false [[.ptr 0 0 0]],.live 1 true false [[.int .i64 (room:Nat)]],LP] by simp only[Hf,aC3,List.map_cons,List.map_nil,hLc];rfl]at this
     exact this
    refine⟨dd,q,⟨false,v,fl,false,by rw[hLK];exact cl 0 _ i0,cl 1 _ i1,cl 2 _ i2,cl 3 _ i3,cl 5 _ i5,cl 4 _ i4,?_,fun b hb1=>?_,Do (Oi iq) (by simp only[Aq,ax5,hLc,hLq];rfl)⟩,rI,aq1 _,⟨_,cl k _ hkb⟩,⟨false,ca 0⟩,⟨false,ca 1⟩,ca 2,by simp[Db],hok⟩
    ·rcases QS.cln iQ with h|⟨b,w',rows,r,h1,h2,h3⟩
     ·exact .inl h
     ·exact .inr ⟨b,w',rows,r,h1,Ar h2 _,h3⟩
    ·have:=(iQ.lt b hb1).1
     have:=iB b hb1
     simp at this ⊢
     omega
   ·rintro o h' ⟨rfl,dd',q',⟨f',v',fl',w2,j0,j1,j2,j3,j5,j4,jQ,jB,jq⟩,k3,k4,⟨a0,k5⟩,⟨a1,k6⟩,⟨a2,k7⟩,k8,k9,kO⟩
    have hl5:=An i5
    have hLc:LP.clean=LP:=by rw[←hLP];rfl
    have hLq:LP.quiet LP=true:=by rw[←hLP];rfl
    obtain⟨h1,hh1⟩:∃H:Aa,h++[.live 1 false false [[.ptr 0 0 0]],.live 1 true false [[.int .i64 (room:Nat)]],LP]=H:=⟨_,rfl⟩
    have hB1:h1[h.length+2]?=some LP:=by rw[←hh1,aqG (by omega),avE];rfl
    have hq1:Aq h1=true:=by rw[←hh1];exact Do iq (by simp only[Aq,ax5,hLc,hLq];rfl)
    have hO:∀(b:Nat) (c:CB),h[b]?=some c→h1[b]?=some c:=fun b c hc=>by rw[←hh1];exact Ar hc _
    simp only[hh1]at kO ⊢
    obtain⟨es,e1,e2⟩:=aoA h1 h' [] kO.sh
    have e1':Bz 0 h1 h'=some es:=e1
    simp only[ax1]at e2
    have m0:=Okw.old (hO 0 _ i0) j0 (by rw[hLK];rfl)
    have m1:=Okw.old (hO 1 _ i1) j1 rfl
    obtain⟨x2,m2⟩:=kO.live j2
    have m3:=Okw.old (hO 3 _ i3) j3 rfl
    have m5:=Okw.old (hO 5 _ i5) j5 rfl
    obtain⟨x4,m4⟩:=kO.live j4
    obtain⟨xk,mk_⟩:=kO.live k5
    have mQ:=jQ.okw kO
    have mB:=Okw.old hB1 k8 hLq
    have mqt:=kO.quiet hq1 jq
    have mln:h'.length≤(Jt h1 h').length:=by rw[aoR kO.1];exact aq1 _
    generalize hM:Jt h1 h'=M at *
    rw[auW,e1']
    have dne:∀(b:Nat) (c:CB),b≠h.length+2→M[b]?=some c→(M.set (h.length+2) .dead)[b]?=some c:=fun b c hn hc=>by rw[abY (fun e=>hn e.symm)];exact hc
    have hkn:k≠h.length+2:=by omega
    have d0:=dne 0 _ (by omega) m0
    have d1:=dne 1 _ (by omega) m1
    have d2:=dne 2 _ (by omega) m2
    have d3:=dne 3 _ (by omega) m3
    have d5:=dne 5 _ (by omega) m5
    have d4:=dne 4 _ (by omega) m4
    have dk:=dne k _ hkn mk_
    have dq:Aq (M.set (h.length+2) .dead)=true:=Dp mqt _ rfl
    have dl:(M.set (h.length+2) .dead).length=M.length:=by simp
    have dQ:QS v' q' (M.set (h.length+2) .dead) 4:=by
     rcases mQ with h1|⟨b,w0,rows0,r0,h1,h2,h3⟩
     ·exact .inl h1
     ·have hbb:=jB b (by rw[h1];simp[Ln])
      simp only[ab1,aqM,or_false,not_or]at hbb
      exact .inr ⟨b,w0,rows0,r0,h1,dne b _ (by omega) h2,h3⟩
    subst hLP
    (have hb:=trivial;with_reducible repeat' (first|simp only[hb,Vc.down,seval,ab0.down,e2,mB]|refine Bj ?_ ?_<;>intro hb|refine fd ?_|fail))
    generalize hD:M.set (h.length+2) CB.dead=D at *
    (have hb:=trivial;with_reducible repeat' (first|simp only[hb,Vc.down,seval,ab0.down,g0,g1,g5,g7,g9,g10,dk,d5]|refine Bj ?_ ?_<;>intro hb|refine fd ?_|fail))
    have p5:=Ar d5 [CB.live 1 true true [[.int .i64 (room:Int)]]]
    have p4:=Ar d4 [CB.live 1 true true [[.int .i64 (room:Int)]]]
    have pq:Aq (D++[CB.live 1 true true [[.int .i64 (room:Int)]]])=true:=Do dq rfl
    have pQ:=dQ.app [CB.live 1 true true [[.int .i64 (room:Int)]]]
    have pk:(D++[CB.live 1 true true [[.int .i64 (room:Int)]]])[D.length]?=some (.live 1 true true [[.int .i64 (room:Int)]]):=by simp
    have hEl:E.length≤w.parts.length:=by rw[←hE];simp[edg,tgt];omega
    have k3':=k3.done hEl
    have hD6:6≤D.length:=by omega
    have hvD:∀b∈Ln v',6≤b∧b∉[D.length]:=fun b hb1=>by
     have h1:=(dQ.lt b hb1).1
     have h2:=(jB b hb1).1
     exact⟨h2,by simp;omega⟩
    obtain⟨q1,hq1⟩:∃q,Fn.func 47=q:=⟨_,rfl⟩
    cases q' with
    |nil=>
     have b1:=aV0 pq p4 pQ
     rw[hq1]at b1
     (have hb:=trivial;with_reducible repeat' (first|simp only[hb,Vc.down,seval,ab0.down,p5,hq1,b1]|refine Bj ?_ ?_<;>intro hb|refine fd ?_|fail))
     refine Fv (kJ _ _ () ⟨by simp[up,g0],by simp[up,g1],by simp[up,g5],by simp[up,g7],by simp[up,g9],dd',[],D.length,?_,?_,.inr ⟨by simp[up],rfl,k3'⟩⟩ rfl)
     ·exact⟨_,_,_,_,Ar d0 _,Ar d1 _,Ar d2 _,Ar d3 _,Ar d5 _,Ar d4 _,dQ.app _,hvD,Do dq rfl⟩
     ·omega
    |cons x q'=>
     simp only[aCD]at k4
     obtain⟨es,M4,b1,b2,b3,b4,⟨v2,fl2,b5,b6,b7⟩,b8⟩:=aMN pq p4 pQ (by omega)
     rw[hq1]at b1
     have r5:=b8 _ _ (by omega) p5
     have rk:=b8 _ _ (by omega) pk
     (have hb:=trivial;with_reducible repeat' (first|simp only[hb,Vc.down,seval,ab0.down,p5,hq1,b1,b2,rk,r5]|refine Bj ?_ ?_<;>intro hb|refine fd ?_|fail))
     have sne:∀(b:Nat) (c:CB),b<D.length→b≠4→D[b]?=some c→(M4.set D.length (.live 1 true true [[.int .i64 (x:Int)]]))[b]?=some c:=fun b c h1 h2 hc=>by
      rw[abY (by omega)];exact b8 b c h2 (Ar hc _)
     have hl4:=An rk
     refine Fv (kJ _ _ () ⟨by simp[up,g0],by simp[up,g1],by simp[up,g5],by simp[up,g7],by simp[up,g9],dd',q',D.length,?_,by omega,.inl ⟨by simp[up],x,true,by simp[up],hD6,alG hl4,k3',by omega⟩⟩ rfl)
     refine⟨_,v2,fl2,true,sne 0 _ (by omega) (by omega) d0,sne 1 _ (by omega) (by omega) d1,sne 2 _ (by omega) (by omega) d2,sne 3 _ (by omega) (by omega) d3,sne 5 _ (by omega) (by omega) d5,by rw[abY (by omega)];exact b5,?_,fun b hb1=>hvD b (by rw[←b7];exact hb1),Dp b4 _ rfl⟩
     rcases b6 with h1|⟨b,w0,rows0,r0,h1,h2,h3⟩
     ·exact .inl h1
     ·have hbb:=hvD b (by rw[←b7,h1];simp[Ln])
      simp only[ab1,aqM,or_false]at hbb
      exact .inr ⟨b,w0,rows0,r0,h1,by rw[abY (fun e=>hbb.2 e.symm)];exact h2,h3⟩
  ·(have hb:=trivial;with_reducible repeat' (first|simp only[hb,Vc.down,seval,ab0.down,g11]|refine Bj ?_ ?_<;>intro hb|refine fd ?_|fail))
   exact kQ _ _ _ ⟨rfl,by simp[up,g7],dd,k,hD,hI⟩
 ·refine⟨by simp[up,g0],by simp[up,g1],by simp[up,g5],by simp[up,g7],by simp[up],Dy N s Gm,[],M2.length,?_,by simp only[avO];omega,.inl ⟨by simp[up],s,true,by simp[up],by simp at b3;omega,by rw[aqG (aq1 _),ax3];rfl,I0,by simp⟩⟩
  refine⟨true,v2,fl2,true,Ar j0 _,Ar j1 _,Ar j2 _,Ar j3 _,Ar j5 _,Ar c5 _,?_,?_,Do c4 rfl⟩
  ·rcases c6 with h|⟨b,w',rows,r,h1,h2,h3⟩
   ·exact .inl h
   ·exact .inr ⟨b,w',rows,r,h1,Ar h2 _,h3⟩
  ·intro b hb1
   have:=c6.lt b hb1
   rw[c7]at hb1
   have h6:=b7 b hb1
   simp at h6
   exact⟨h6,by simp;omega⟩
 obtain⟨rfl,g7,dd,k,⟨f,v,fl,w',i0,i1,i2,i3,i5,i4,iQ,iB,iq⟩,hI⟩:=hk
 have hR:=hI.right hs hEo (by unfold Gm;omega)
 have hdl:=hI.i.len
 have hln:(dd.map Im).length=N:=by simp[hdl]
 subst hLK
 (have hb:=trivial;with_reducible repeat' (first|simp only[hb,Vc.down,seval,ab0.down,g7,i3,i2,i0,hln]|refine Bj ?_ ?_<;>intro hb|refine fd ?_|fail))
 exact⟨f,dd,rfl,hdl,hR⟩
theorem Jc(L:List (Int × Bool)):∀x∈Et L,(∃n,x=.int .i64 n)∨∃b,x=.bool b:=fun x hx=>by
 simp only[Et,aC4,ab1,aqM,or_false]at hx
 obtain⟨y,_,rfl|rfl⟩:=hx
 ·exact .inl ⟨_,rfl⟩
 ·exact .inr ⟨_,rfl⟩
theorem Lh(L:List (Int × Bool)):(Et L).all AV.flat=true:=atQ.2 fun x hx=>by rcases Jc L x hx with⟨n,rfl⟩|⟨b,rfl⟩<;>rfl
theorem Kx(L:List (Int × Bool)):(Et L).all AV.isCell=true:=atQ.2 fun x hx=>by rcases Jc L x hx with⟨n,rfl⟩|⟨b,rfl⟩<;>rfl
theorem asD(L:List (Int × Bool))(d:Nat)(g:HF):Ax (En (d+1) g) (Et L)=some (Et L):=au6 fun x hx=>by rcases Jc L x hx with⟨n,rfl⟩|⟨b,rfl⟩<;>rfl
theorem arK(L:List (Int × Bool))(d:Nat)(g:HF):(Et L).flatMap (Am (d+1) g)=[]:=List.flatMap_eq_nil_iff.2 fun x hx=>by rcases Jc L x hx with⟨n,rfl⟩|⟨b,rfl⟩<;>rfl
theorem apE(L:List (Int × Bool))(d:Nat)(m:List Nat):Bw.refL (Bw (d+1)) m (Et L)=some (Et L,m):=Fq fun x hx=>by rcases Jc L x hx with⟨n,rfl⟩|⟨b,rfl⟩<;>rfl
theorem aD7(L:List (Int × Bool))(d:Nat)(f:Nat→Nat):Ax (Bo (d+1) f) (Et L)=some (Et L):=au6 fun x hx=>by rcases Jc L x hx with⟨n,rfl⟩|⟨b,rfl⟩<;>rfl
theorem aEP(L:List (Int × Bool))(d:Nat):(Et L).any (hasImm (d+1))=false:=List.any_eq_false.2 fun x hx=>by rcases Jc L x hx with⟨n,rfl⟩|⟨b,rfl⟩<;>simp[hasImm]
def nmB(w:Ao)(N:Nat)(L:List (Int × Bool)):Nat:=aqQ (edg w (tgt L)) N w.parts.length
theorem aoH{w:Ao}{N:Nat}(hw:WOk w N)(h12:w.parts.length≤12)(d:Int){L:List (Int × Bool)}(hL12:L.length=12)(wf:Bool):
 Eb.call (.fn 34) [.ptr 0 0 0,.agg (Et L)] [.live 4 false wf [[.int .i64 w.rooms,.int .i64 w.need,Dn 9 true w.nn (w.parts.map Ab.cells),.int .i64 d]]]=some (.ret (.int .i64 (nmB w N L:Nat)),[.live 4 false wf [[.int .i64 w.rooms,.int .i64 w.need,Dn 9 true w.nn (w.parts.map Ab.cells),.int .i64 d]]]):=by
 have n2:=hw.n2
 have n8:=hw.n8
 obtain⟨o,h',hc,f,ds,rfl,rfl,hdl,hR⟩:=av7 hw h12 (d:=d) (s:=0) (by omega) hL12 rfl (wf:=false)
 have hne:=aQG (len:=w.parts.length) n2 (by omega) (by unfold Gm;omega) (apA hw (tgt L)) hR
 have hf1:=Lh L
 have hf2:=Kx L
 have hpl:(Et L).length=24:=by rw[Ia];omega
 have hd1:=au3 (d:=ds) (a:=1) (by omega)
 have h1N:((1:Int)<(N:Int))=True:=eq_true (by omega)
 have hle:ds.getD 1 0≤1048576:=by
  by_cases e:ds.getD 1 0=Gm
  ·rw[e];exact aq1 _
  ·have:=(ag8.num hR hR (by unfold Gm;omega) (by unfold Gm;omega) (by omega) (apA hw (tgt L)) (v:=1) (by omega)).2.2 e
   have:ds.getD 1 0<N:=this
   omega
 have hN1:nmB w N L=if ds.getD 1 0=Gm then w.parts.length+1 else ds.getD 1 0:=hne.symm
 rw[hN1]
 have hav:=asD L
 have hlv:=arK L
 have hrf:=apE L
 simp only[Int.natCast_zero]at hc
 generalize Et L=ps at *
 have htk:asR 24 ps=ps:=aCP (by omega)
 generalize ds.getD 1 0=x at *
 generalize ds.map Im=rows at *
 have hwr:IntKind.i64.wrap ((w.parts.length:Int)+1)=((w.parts.length+1:Nat):Int):=by have:=Gt (n:=((w.parts.length+1:Nat):Int)) (by omega) (by omega);simpa using this
 by_cases e:x=Gm
 ·have e1:((x:Int)==1048576)=true:=by rw[e];rfl
  rw[if_pos e]
  refine ce Tryz.func34 ?_
  simp only[Tryz.f34]
  (have hb:=trivial;with_reducible repeat' (first|simp only[hb,Vc.down,seval,aU1.down,hpl,hf1,hf2,htk,hav,hlv,hrf,hc,hd1,h1N,e1,hwr,ao7]|refine Bj ?_ ?_<;>intro hb|refine fd ?_|fail))
 ·have e1:((x:Int)==1048576)=false:=by simp;exact fun h=>e (by unfold Gm;omega)
  rw[if_neg e]
  refine ce Tryz.func34 ?_
  simp only[Tryz.f34]
  (have hb:=trivial;with_reducible repeat' (first|simp only[hb,Vc.down,seval,aU1.down,hpl,hf1,hf2,htk,hav,hlv,hrf,hc,hd1,h1N,e1,ao7]|refine Bj ?_ ?_<;>intro hb|refine fd ?_|fail))
theorem ayR{w:Ao}{d:Int}(h12:w.parts.length≤12):(Ak w d).length=12:=by simp[Ak];omega
theorem arL{w:Ao}{N:Nat}{d:Int}:nmB w N (Ak w d)=Nk w N d:=by unfold nmB Nk;rw[ayY]
theorem aw5{α:Type}{d:List AV→Option α}{f:α→List AV}(hd:∀cs x,d cs=some x→cs=f x):∀{rows:List (List AV)} {l:List α},Ax d rows=some l→rows=l.map f
 | [],l,h=>by simp[Ax]at h;subst h;rfl
 |r::rows,l,h=>by
  simp only[Ax,aET,azH]at h
  obtain⟨x,h1,l',h2,rfl⟩:=h
  rw[hd r x h1,aw5 hd h2];rfl
def dSl{α:Type}(n:Nat)(fl:Bool)(d:List AV→Option α):AV→Option (Bool × List α)
 | .nils=>some (false,[])
 | .imm n' fl' rows=>if n'=n∧fl'=fl then(Ax d rows).map fun l=>(true,l)else none
 |_=>none
theorem aN0{α:Type}{n:Nat}{fl:Bool}{d:List AV→Option α}{f:α→List AV}(hd:∀cs x,d cs=some x→cs=f x){v:AV}{x:Bool × List α}(h:dSl n fl d v=some x):v=Dn n fl x.1 (x.2.map f):=by
 unfold dSl at h
 split at h
 ·cases h;rfl
 ·split at h
  ·rename_i hq
   obtain⟨rfl,rfl⟩:=hq
   obtain⟨l,h1,rfl⟩:=azH.1 h
   rw[aw5 hd h1]
   cases l<;>rfl
  ·cases h
 ·cases h
def aDX:List AV→Option Ab
 | [.int .i64 a,.int .i64 b,.bool c,.bool d,.int .i64 e,.int .i64 f,.bool g,.int .i64 h,.int .i64 i]=>some ⟨a,b,c,d,e,f,g,h,i⟩
 |_=>none
theorem aHH(cs:List AV)(x:Ab)(h:aDX cs=some x):cs=x.cells:=by
 unfold aDX at h
 split at h
 ·cases h;rfl
 ·cases h
def aD6:List AV→Option (List (Int × Bool))
 | []=>some []
 | .int .i64 a::.bool b::l=>(aD6 l).map fun r=>(a,b)::r
 |_=>none
theorem az4:∀(cs:List AV) (x:List (Int × Bool)),aD6 cs=some x→cs=Et x
 | [],x,h=>by simp[aD6]at h;subst h;rfl
 | .int .i64 a::.bool b::l,x,h=>by
   simp only[aD6,azH]at h
   obtain⟨r,h1,rfl⟩:=h
   rw[az4 l r h1];rfl
def aU3:List AV→Aa→Option (Cm × Aa)
 | [.ptr 0 0 0,.agg ps],[.live 4 false wf [[.int .i64 rooms,.int .i64 need,sl,.int .i64 d]]]=>
   (dSl 9 true aDX sl).bind fun x=>(aD6 ps).bind fun L=>if(Ie ⟨rooms,need,x.1,x.2⟩&&decide (L.length=12))=true then
     some (.ret (.int .i64 (nmB ⟨rooms,need,x.1,x.2⟩ rooms.toNat L:Nat)),[.live 4 false wf [[.int .i64 rooms,.int .i64 need,sl,.int .i64 d]]])else none
 |_,_=>none
def pr2:Jl:=⟨fun f=>if f=34 then some aU3 else pr f,pr.md⟩
theorem aV7(f:Nat)(h:pr2 f=none):pr f=none:=by
 simp only[pr2]at h
 split at h
 ·cases h
 ·exact h
theorem aPL:∀f p,pr2 f=some p→∀a h r,p a h=some r→Eb.call (.fn f) a h=some r:=by
 intro f p hp a h r hr
 simp only[pr2]at hp
 split at hp
 ·rename_i hf
  subst hf
  cases hp
  unfold aU3 at hr
  split at hr
  ·rename_i ps wf rooms need sl d
   simp only[aET]at hr
   obtain⟨x,h1,L,h2,h3⟩:=hr
   split at h3
   ·rename_i hs
    simp only[Bool.and_eq_true,decide_eq_true_eq]at hs
    cases h3
    obtain⟨N,hw,h12⟩:=aAE hs.1
    have hN:rooms.toNat=N:=by have:=hw.rooms;simp only at this;omega
    rw[aN0 aHH h1,az4 _ _ h2,hN]
    exact aoH hw h12 d hs.2 wf
   ·cases h3
  ·cases hr
 ·exact auS hp hr
theorem aBM:(Nq Tryz.prog pr2 100).call (.fn 5) [] []=some (.ret (.bool true),[]):=by kernel_rfl
theorem aEL:Eb.call (.fn 5) [] []=some (.ret (.bool true),[]):=asJ (pr:=pr) (pr2:=pr2) rfl aV7 aPL aBM
def ayM(w:Ao):Bool:=decide ((w.parts.length:Int)≤15)
theorem aIJ(w:Ao):Eb.call (.fn 4) [.agg [.int .i64 w.rooms,.int .i64 w.need,Dn 9 true w.nn (w.parts.map Ab.cells)]] []=some (.ret (.bool (ayM w)),[]):=by
 cases c:ayM w
 ·have h:decide ((w.parts.length:Int)≤15)=false:=c
  (refine ce Tryz.func4 ?_;simp only[Tryz.f4];(have hb:=trivial;with_reducible repeat' (first|simp only[hb,Va.down,seval,TY4.down,h,ao7]|refine Bj ?_ ?_<;>intro hb|refine fd ?_|fail)))
 ·have h:decide ((w.parts.length:Int)≤15)=true:=c
  (refine ce Tryz.func4 ?_;simp only[Tryz.f4];(have hb:=trivial;with_reducible repeat' (first|simp only[hb,Va.down,seval,TY4.down,h,ao7]|refine Bj ?_ ?_<;>intro hb|refine fd ?_|fail)))
end Go.Proofs.YtckfcfcmfjfchaaGreatDoor
