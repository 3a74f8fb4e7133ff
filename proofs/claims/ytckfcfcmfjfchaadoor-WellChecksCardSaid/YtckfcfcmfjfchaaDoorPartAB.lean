/- The functions of the layer, walked. -/
import Derived.Test.YtckfcfcmfjfchaaDoorPartAA
import Derived.Test.YtckfcfcmfjfchaaDoorLibE
import Derived.Test.YtckfcfcmfjfchaaDoorLibD
open List renaming getElem?_set_ne→an9,replicate→aoC,mem_cons→aoD,getElem?_append_left→ap7,getElem?_set_self→ap8,mem_cons_self→arW,length_map→ar8,getElem?_eq_getElem→asO,getElem?_append_right→as0,not_mem_nil→atN,take→awB,all_eq_true→awE,length_replicate→awT,length_nil→axS,mem_of_getElem?→ax9,mem_cons_of_mem→ayD,getElem?_map→azU,nil_append→azX,map_set→aAT,all_cons→aAU,length_set→aBG,length_cons→aE5,take_of_length_le→aFG,ext_getElem?→aFH,replicate_succ→aFI,map_append→aFJ,mem_flatMap→aFK,getElem?_replicate→aFM,getElem?_eq_some_iff→aFN
open Nat renaming le_refl→at6,add_sub_cancel_left→awW,sub_self→aAS
open Option renaming map_eq_some_iff→aAV,bind_eq_some_iff→aFT
open Int renaming toNat_natCast→aFL
open Bool renaming false_eq_true→aFO
set_option linter.unusedSimpArgs false
set_option linter.unusedVariables false
namespace Go.Proofs.YtckfcfcmfjfchaaDoor
open Go.Ev Go Go.Ev.Net
set_option maxRecDepth 100000
set_option maxHeartbeats 16000000
def QS(v:AV)(q:List Nat)(H:Aa)(p:Nat):Prop:=
 (v=.nils∧q=[])∨∃b w rows r,v=.slr 1 b r q.length∧H[b]?=some (.live 1 true w rows)∧b≠p∧rows.drop r=q.map Ho∧r+q.length=rows.length
def Jq:AV→List Nat
 | .slr _ b _ _=>[b]
 |_=>[]
theorem adX{x:Option (List AV)}{vs:List AV}{h:Aa}{Q:Cb→Aa→Prop}(hx:x=some vs)(k:Q (.ret (Jm vs)) h):RtS x h Q:=by subst hx;exact k
theorem aDC{H:Aa}{p:Nat}{fl w:Bool}{v:AV}{q:List Nat}(x:Nat)(hp:H[p]?=some (.live 1 fl w [[v]]))(hQ:QS v q H p)(hq:q.length≤100000000):
 ShQ Fo 56 [.ptr p 0 0,.int .i64 (x:Int)] H fun o G=>o=.ret (.tup [])∧∃v' fl',G[p]?=some (.live 1 fl' true [[v']])∧QS v' (q++[x]) G p∧aoN (p::Jq v) H G∧(∀b∈Jq v,G[b]?=some .dead)∧(Ao H=true→Ao G=true)∧∀b∈Jq v',H.length≤b:=by
 have hpl:=Am hp
 refine aCW rfl Tryd.func56 rfl rfl ?_
 simp only[Tryd.f56]
 refine Bw (fun KK iN hK=>?_)
 have hA:=An hp
 have hS:=Jx hpl
 rcases hQ with⟨rfl,rfl⟩|⟨b,w',rows,r,rfl,hrb,hbp,hd,hl⟩
 ·(have hb:=trivial;with_reducible repeat' (first|simp only[hb,Va.down,seval,aGZ.down,hp,hA,hS]|refine Dp ?_ ?_<;>intro hb|refine fd ?_|fail))
  refine hK _ ?_
  rw[Ja]
  refine adX (vs:=[]) (by simp only[Va.down,seval,aGZ.down]) ⟨rfl,.slr 1 (H.length+1) 0 1,false,?_,.inr ⟨H.length+1,false,[Ho x],0,rfl,?_,by omega,rfl,rfl⟩,⟨by simp,fun b hb1 hn=>?_⟩,fun b hb1=>by simp[Jq]at hb1,fun hqq=>Dh (Df hqq p rfl) rfl,fun b hb1=>by simp[Jq]at hb1;omega⟩
  ·rw[ap7 (by simpa using hpl),ap8 hpl]
  ·rw[Hf];rfl
  ·rw[ap7 (by simpa using hb1),an9 (fun e=>hn (by rw[e];exact arW ..))]
 ·have hbl:=Am hrb
  have hB:=An hrb
  have hSb:=Jx hbl
  have h39:(q.length+1≤549755813888)=True:=eq_true (by omega)
  have hg:∀l,(H.set b .dead++l)[p]?=some (.live 1 fl w [[.slr 1 b r q.length]]):=fun l=>by
   rw[ap7 (by simpa using hpl),an9 hbp];exact hp
  have hg2:∀l c,(H.set b .dead++l).set p c=(H.set b .dead).set p c++l:=fun l c=>Jx (by simpa using hpl) l c
  (have hb:=trivial;with_reducible repeat' (first|simp only[hb,Va.down,seval,aGZ.down,hp,hA,hS,hrb,hB,hSb,hd,hl,h39,hg,hg2,Ji,Hf,aBG,ar8]|refine Dp ?_ ?_<;>intro hb|refine fd ?_|fail))
  have hsl:((H.set b .dead).set p (CB.live 1 false true [[AV.slr 1 (H.length+1) 0 (q.length+1)]])).length=H.length:=by simp
  refine hK _ ?_
  rw[Ja]
  refine adX (vs:=[]) (by simp only[Va.down,seval,aGZ.down]) ⟨rfl,.slr 1 (H.length+1) 0 (q.length+1),false,?_,.inr ⟨H.length+1,false,(q++[x]).map Ho,0,by simp,?_,by omega,rfl,by simp⟩,⟨by simp,fun c hc hn=>?_⟩,fun c hc=>?_,fun hqq=>Dh (Df (Df hqq b rfl) p rfl) rfl,fun c hc=>by simp[Jq]at hc;omega⟩
  ·rw[ap7 (by omega),ap8 (by simpa using hpl)]
  ·rw[as0 (by omega),hsl,awW];simp[Ho]
  ·have n1:c≠p:=fun e=>hn (by rw[e];exact arW ..)
   have n2:c≠b:=fun e=>hn (by rw[e];simp[Jq])
   rw[ap7 (by omega),an9 (fun e=>n1 e.symm),an9 (fun e=>n2 e.symm)]
  ·simp[Jq]at hc;subst hc
   rw[ap7 (by omega),an9 (fun e=>hbp e.symm),ap8 hbl]
theorem aMA(b r k:Nat):slx Tryd.prog 28 (some (.slr 1 b r (k+1))) (some (some (.int .i64 1))) (some none)=some (.ret (.slr 1 b (r+1) k),[]):=by
 have hz:Js Tryd.prog 3=some 1:=by kernel_rfl
 simp only[slx,Option.bind_some,aqQ,Tryd.underlying28,hz,Gi]
 simp[Gi,r1]
 omega
theorem aFP{H:Aa}{p:Nat}{fl w:Bool}{v:AV}(hp:H[p]?=some (.live 1 fl w [[v]]))(hQ:QS v [] H p):
 Fo.call (.sh 57) [.ptr p 0 0] H=some (.ret (.tup [.int .i64 0,.bool false]),H):=by
 rcases hQ with⟨rfl,_⟩|⟨b,w',rows,r,rfl,hrb,hbp,hd,hl⟩
 ·(refine csh Tryd.func57 ?_;simp only[Tryd.f57];(have hb:=trivial;with_reducible repeat' (first|simp only[hb,Va.down,seval,aIQ.down,hp]|refine Dp ?_ ?_<;>intro hb|refine fd ?_|fail)))
 ·simp only[axS]at hp
  (refine csh Tryd.func57 ?_;simp only[Tryd.f57];(have hb:=trivial;with_reducible repeat' (first|simp only[hb,Va.down,seval,aIQ.down,hp]|refine Dp ?_ ?_<;>intro hb|refine fd ?_|fail)))
theorem aHU{H:Aa}{p:Nat}{fl w:Bool}{v:AV}{x:Nat}{q:List Nat}(hp:H[p]?=some (.live 1 fl w [[v]]))(hQ:QS v (x::q) H p)(hq:q.length≤100000000):
 ShQ Fo 57 [.ptr p 0 0] H fun o G=>o=.ret (.tup [.int .i64 (x:Int),.bool true])∧∃v' fl',G[p]?=some (.live 1 fl' true [[v']])∧QS v' q G p∧aoN [p] H G∧Jq v'=Jq v∧(Ao H=true→Ao G=true):=by
 have hpl:=Am hp
 rcases hQ with⟨_,h⟩|⟨b,w',rows,r,rfl,hrb,hbp,hd,hl⟩
 ·cases h
 have hr0:rows[r]?=some [.int .i64 (x:Nat)]:=by
  have:=congrArg (·[0]?) hd
  simpa [Ho]using this
 have hd2:rows.drop (r+1)=q.map Ho:=by
  have:=congrArg (·.drop 1) hd
  simpa [List.drop_drop]using this
 simp only[aE5]at hl hp
 have h1:decide (((q.length+1:Nat):Int)=0)=false:=decide_eq_false (by omega)
 have h2:((((q.length+1:Nat):Int))==0)=false:=by simp;omega
 have h3:((0:Int)<((q.length+1:Nat):Int))=True:=eq_true (by omega)
 have h4:((1:Int)≤((q.length+1:Nat):Int))=True:=eq_true (by omega)
 refine aCW rfl Tryd.func57 rfl rfl ?_
 simp only[Tryd.f57]
 refine Bw (fun KK iN hK=>?_)
 (have hb:=trivial;with_reducible repeat' (first|simp only[hb,Va.down,seval,aIQ.down,hp,hrb,hr0,h1,h2,h3,h4,aMA]|refine Dp ?_ ?_<;>intro hb|refine fd ?_|fail))
 refine hK _ ?_
 rw[axF]
 refine adX (vs:=[.int .i64 (x:Int),.bool true]) (by simp only[Va.down,seval,aIQ.down]) ⟨rfl,.slr 1 b (r+1) q.length,false,ap8 hpl,.inr ⟨b,w',rows,r+1,rfl,?_,hbp,hd2,by omega⟩,⟨by simp,fun b' _ hn=>an9 (fun e=>hn (by simp[e]))⟩,rfl,fun hqq=>Df hqq p rfl⟩
 rw[an9 (fun e=>hbp e.symm)];exact hrb
theorem aIH{H:Aa}{p:Nat}{fl w:Bool}{v:AV}{q:List Nat}(x:Nat)(hp:H[p]?=some (.live 1 fl w [[v]]))(hQ:QS v q H p)(hq:q.length≤100000000):
 ShQ Fo 60 [.ptr p 0 0,.int .i64 (x:Int)] H fun o G=>o=.ret (.tup [])∧∃v' fl',G[p]?=some (.live 1 fl' true [[v']])∧QS v' (x::q) G p∧aoN [p] H G∧(Ao H=true→Ao G=true)∧∀b∈Jq v',H.length≤b:=by
 have hpl:=Am hp
 have hA:=An hp
 have hS:=Jx hpl
 have keep:∀c l,aoN [p] H (H.set p c++l):=fun c l=>⟨by simp,fun b hb1 hn=>by rw[ap7 (by simpa using hb1),an9 (fun e=>hn (by simp[e]))]⟩
 have hg:∀c l,(H.set p c++l)[p]?=some c:=fun c l=>by rw[ap7 (by simpa using hpl),ap8 hpl]
 refine aCW rfl Tryd.func60 rfl rfl ?_
 simp only[Tryd.f60]
 refine Bw (fun KK iN hK=>?_)
 rcases hQ with⟨rfl,rfl⟩|⟨b,w',rows,r,rfl,hrb,hbp,hd,hl⟩
 ·(have hb:=trivial;with_reducible repeat' (first|simp only[hb,Va.down,seval,azI.down,hp,hA,hS]|refine Dp ?_ ?_<;>intro hb|refine fd ?_|fail))
  refine hK _ ?_
  rw[Ja]
  refine adX (vs:=[]) (by simp only[Va.down,seval,azI.down]) ⟨rfl,_,_,hg _ _,.inr ⟨H.length,false,[Ho x],0,rfl,?_,by omega,rfl,rfl⟩,keep _ _,fun hqq=>Dh (Df hqq p rfl) rfl,fun b hb1=>by simp[Jq]at hb1;omega⟩
  rw[Ji];rfl
 ·have hB:=An hrb
  cases q with
  |nil=>
   simp only[axS]at hl hp hA
   have hrl:(r≤rows.length)=True:=eq_true (by omega)
   (have hb:=trivial;with_reducible repeat' (first|simp only[hb,Va.down,seval,azI.down,hp,hA,hS,hrb,hB,hrl]|refine Dp ?_ ?_<;>intro hb|refine fd ?_|fail))
   refine hK _ ?_
   rw[Ja]
   refine adX (vs:=[]) (by simp only[Va.down,seval,azI.down]) ⟨rfl,_,_,hg _ _,.inr ⟨H.length,false,[Ho x],0,rfl,?_,by omega,rfl,rfl⟩,keep _ _,fun hqq=>Dh (Df hqq p rfl) rfl,fun b hb1=>by simp[Jq]at hb1;omega⟩
   rw[Ji];rfl
  |cons y q=>
   have hq2:(1+(q.length+1)≤549755813888)=True:=eq_true (by simp at hq;omega)
   have hrl:(r+(q.length+1)≤rows.length)=True:=eq_true (by simp at hl;omega)
   have htk:awB q.length (List.map Ho q)=List.map Ho q:=aFG (by simp)
   (have hb:=trivial;with_reducible repeat' (first|simp only[hb,Va.down,seval,azI.down,hp,hA,hS,hrb,hB,hd,hq2,hrl,htk,Ji,Hf,aBG,ar8]|refine Dp ?_ ?_<;>intro hb|refine fd ?_|fail))
   refine hK _ ?_
   rw[Ja]
   refine adX (vs:=[]) (by simp only[Va.down,seval,azI.down]) ⟨rfl,_,_,hg _ _,.inr ⟨H.length+1,false,(x::y::q).map Ho,0,by simp;omega,?_,by omega,rfl,by simp⟩,keep _ _,fun hqq=>Dh (Df hqq p rfl) rfl,fun b hb1=>by simp[Jq]at hb1;omega⟩
   rw[Hf];rfl
theorem aQT(w:Bd)(d r:Int)(wf:Bool):Fo.call (.fn 58) [.ptr 0 0 0,.int .i64 r] [.live 4 false wf [[.int .i64 w.rooms,.int .i64 w.need,Eg 9 true w.nn (w.parts.map Aj.cells),.int .i64 d]]]=some (.ret (.func (.func 71) [] [.ptr 1 0 0,.ptr 2 0 0]),[.live 4 false wf [[.int .i64 w.rooms,.int .i64 w.need,Eg 9 true w.nn (w.parts.map Aj.cells),.int .i64 d]],.live 1 false false [[.ptr 0 0 0]],.live 1 true false [[.int .i64 r]]]):=by
 (refine ce Tryd.func58 ?_;simp only[Tryd.f58];(have hb:=trivial;with_reducible repeat' (first|simp only[hb,Vc.down,seval]|refine Dp ?_ ?_<;>intro hb|refine fd ?_|fail)))
theorem aP2{w:Bd}{N:Nat}(hw:WOk w N){d r:Int}{y:AV}{lb rb kb:Nat}(Jp:Nat→Aa→Prop)
 (hL:∀i h,Jp i h→∃w1,h[lb]?=some (.live 1 false w1 [[.ptr kb 0 0]])) (hK:∀i h,Jp i h→∃w2,h[kb]?=some (.live 4 false w2 [[.int .i64 w.rooms,.int .i64 w.need,Eg 9 true w.nn (w.parts.map Aj.cells),.int .i64 d]])) (hR:∀i h,Jp i h→∃w3,h[rb]?=some (.live 1 true w3 [[.int .i64 r]]))
 (hA:∀i h fl wf (rows:List (List AV)),Jp i h→Jp i (h++[.live 9 fl wf rows]))
 (hS:∀(i:Nat) (p:Aj) (u:Int) h,w.parts[i]?=some p→((p.one=r∧u=p.other)∨(p.one≠r∧p.other=r∧u=p.one))→Jp i h→∃es,cl Fo h (some y) (some [.int .i64 i,.int .i64 u])=some (.ret (.bool true),es)∧Jp (i+1) (Bc h es))
 (hN:∀(i:Nat) (p:Aj) h,w.parts[i]?=some p→p.one≠r→p.other≠r→Jp i h→Jp (i+1) h)
 {h0:Aa} (h0I:Jp 0 h0):ShQ Fo 71 [y,.ptr lb 0 0,.ptr rb 0 0] h0 fun o h'=>o=.ret (.tup [])∧Jp w.parts.length h':=by
 obtain⟨w1,hl⟩:=hL _ _ h0I
 obtain⟨w2,hk0⟩:=hK _ _ h0I
 have hlen:=hw.len
 refine aCW rfl Tryd.func71 rfl rfl ?_
 simp only[Tryd.f71]
 (have hb:=trivial;with_reducible repeat' (first|simp only[hb,Vc.down,seval,ayV.down,hl,hk0,ar8]|refine Dp ?_ ?_<;>intro hb|refine fd ?_|fail))
 refine ai2 (lst 41 w.parts (fun i (_:Unit) t h=>t 0=y∧t 1=.ptr lb 0 0∧t 2=.ptr rb 0 0∧t 11=Eg 9 true w.nn (w.parts.map Aj.cells)∧t 12=.int .i64 (w.parts.length:Nat)∧t 13=.int .i64 (i:Int)∧Jp i h) (fun _ _=>()) (fun _ e t h=>e=.exit 0∧Jp w.parts.length h) ?_ ?_ () _ _ ?_) (fun e t h hk=>?_)
 ·rintro _ t h Q' kQ ⟨g0,g1,g2,g11,g12,g13,hI⟩
  (have hb:=trivial;with_reducible repeat' (first|simp only[hb,Vc.down,seval,ayV.down,g12,g13,Int.lt_irrefl,decide_false]|refine Dp ?_ ?_<;>intro hb|refine fd ?_|fail))
  exact kQ _ _ _ ⟨rfl,hI⟩
 ·rintro p rest i _ t h J Q' kJ kQ hx hi ⟨g0,g1,g2,g11,g12,g13,hI⟩
  have hdd:decide ((i:Int)<(w.parts.length:Int))=true:=decide_eq_true (by omega)
  have hww:=Iy hi (by unfold maxLen;omega)
  have hpo:=hw.part p (ax9 hx)
  obtain⟨w3,hr⟩:=hR _ _ hI
  have hr1:=An hr
  have hv1:=hA _ _ true true [p.cells] hI
  have c1:decide ((0:Int)≤p.other)=true:=decide_eq_true hpo.2.1.1
  have c2:decide ((0:Int)≤p.one)=true:=decide_eq_true hpo.1.1
  have c3:decide ((0:Int)≤ -1)=false:=rfl
  by_cases e1:p.one=r
  ·have q1:(r==p.one)=true:=by simp[e1]
   obtain⟨es,hes,hv2⟩:=hS i p p.other _ hx (.inl ⟨e1,rfl⟩) hv1
   simp only[Aj.cells]at hes hv2
   (have hb:=trivial;with_reducible repeat' (first|simp only[hb,Vc.down,seval,ayV.down,g0,g1,g2,g11,g12,g13,hdd,hww,hx,hr,hr1,q1,c1,hes,Aj.cells]|refine Dp ?_ ?_<;>intro hb|refine fd ?_|fail))
   exact Fg (kJ _ _ () ⟨by simp[up,g0],by simp[up,g1],by simp[up,g2],by simp[up,g11],by simp[up,g12],by simp[up],hv2⟩ rfl)
  ·have q1:(r==p.one)=false:=by simp;exact fun e=>e1 e.symm
   by_cases e2:p.other=r
   ·have q2:(r==p.other)=true:=by simp[e2]
    obtain⟨es,hes,hv2⟩:=hS i p p.one _ hx (.inr ⟨e1,e2,rfl⟩) hv1
    simp only[Aj.cells]at hes hv2
    (have hb:=trivial;with_reducible repeat' (first|simp only[hb,Vc.down,seval,ayV.down,g0,g1,g2,g11,g12,g13,hdd,hww,hx,hr,hr1,q1,q2,c2,hes,Aj.cells]|refine Dp ?_ ?_<;>intro hb|refine fd ?_|fail))
    exact Fg (kJ _ _ () ⟨by simp[up,g0],by simp[up,g1],by simp[up,g2],by simp[up,g11],by simp[up,g12],by simp[up],hv2⟩ rfl)
   ·have q2:(r==p.other)=false:=by simp;exact fun e=>e2 e.symm
    have hv2:=hN i p _ hx e1 e2 hv1
    simp only[Aj.cells]at hv2
    (have hb:=trivial;with_reducible repeat' (first|simp only[hb,Vc.down,seval,ayV.down,g0,g1,g2,g11,g12,g13,hdd,hww,hx,hr,hr1,q1,q2,c3,Aj.cells]|refine Dp ?_ ?_<;>intro hb|refine fd ?_|fail))
    exact Fg (kJ _ _ () ⟨by simp[up,g0],by simp[up,g1],by simp[up,g2],by simp[up,g11],by simp[up,g12],by simp[up],hv2⟩ rfl)
 ·exact⟨by simp[up,ent],by simp[up,ent],by simp[up,ent],by simp[up],by simp[up],by simp[up],h0I⟩
 obtain⟨rfl,hI⟩:=hk
 (have hb:=trivial;with_reducible repeat' (first|simp only[hb,Vc.down,seval,ayV.down]|refine Dp ?_ ?_<;>intro hb|refine fd ?_|fail))
 exact hI
theorem QS.cln{v:AV}{q:List Nat}{H:Aa}{p:Nat}(h:QS v q H p):QS v q (Gp H) p:=by
 rcases h with h|⟨b,w,rows,r,h1,h2,h3,h4,h5⟩
 ·exact .inl h
 ·exact .inr ⟨b,false,rows,r,h1,Es h2,h3,h4,h5⟩
theorem QS.lt{v:AV}{q:List Nat}{H:Aa}{p:Nat}(h:QS v q H p):∀b∈Jq v,b<H.length∧∃w rows,H[b]?=some (.live 1 true w rows):=by
 rcases h with⟨rfl,_⟩|⟨b,w,rows,r,rfl,h2,_⟩
 ·intro b hb1;simp[Jq]at hb1
 ·intro b' hb1;simp[Jq]at hb1;subst hb1;exact⟨Am h2,w,rows,h2⟩
theorem aI5{h:Aa}(hq:Ao h=true){p:Nat}{fl w:Bool}{v:AV}{q:List Nat}(x:Nat)(hp:h[p]?=some (.live 1 fl w [[v]]))(hQ:QS v q h p)(hl:q.length≤100000000):
 ∃es M,cl Fo h (some (.func (.func 56) [] [])) (some [.ptr p 0 0,.int .i64 (x:Int)])=some (.ret (.tup []),es)∧Bc h es=M∧h.length≤M.length∧Ao M=true∧(∃v' fl',M[p]?=some (.live 1 fl' true [[v']])∧QS v' (q++[x]) M p∧∀b∈Jq v',h.length≤b)∧(∀b c,b∉p::Jq v→h[b]?=some c→M[b]?=some c)∧∀b∈Jq v,M[b]?=some .dead:=by
 have hX:∀G:Aa,(∃f row,G[p]?=some (.live 1 f true row))→(∀b∈Jq v,G[b]?=some .dead)→∀b∈p::Jq v,b<h.length∧∀c0 c,h[b]?=some c0→G[b]?=some c→c0.isLive=true∧c0.quiet c=false:=fun G g1 g2 b hb1=>by
  rcases aoD.1 hb1 with rfl|hb1
  ·obtain⟨f,row,g1⟩:=g1
   refine⟨Am hp,fun c0 c k1 k2=>?_⟩
   rw[hp]at k1;rw[g1]at k2;cases k1;cases k2;exact⟨rfl,rfl⟩
  ·obtain⟨h1,w',rows,h2⟩:=hQ.lt b hb1
   refine⟨h1,fun c0 c k1 k2=>?_⟩
   rw[h2]at k1;rw[g2 b hb1]at k2;cases k1;cases k2;exact⟨rfl,rfl⟩
 obtain⟨o,G,es,e1,e2,rfl,v',fl',k1,k2,K,k4,k5,k6⟩:=atT rfl rfl (aDC x (Es hp) hQ.cln hl) (fun o G hQ=>by
  obtain⟨_,v',fl',k1,k2,K,k4,_⟩:=hQ
  exact(Gn hq K (hX G ⟨_,_,k1⟩ k4)).1)
 have X:=hX G ⟨_,_,k1⟩ k4
 obtain⟨_,m1,m2,m3,m4⟩:=Gn hq K X
 rw[Cf]at k6
 have hle:h.length≤G.length:=by have:=K.len;rwa[Cf]at this
 refine⟨es,_,e1,e2,by rw[m1];exact hle,adT hq K X (k5 (Mc hq)),⟨v',fl',m4 p (arW ..) _ k1,?_,k6⟩,fun b c hn hc=>by rw[m3 b (Am hc) hn];exact hc,fun b hb=>m4 b (ayD _ hb) _ (k4 b hb)⟩
 rcases k2 with h1|⟨b,w',rows,r,h1,h2,h3,h4,h5⟩
 ·exact .inl h1
 ·exact .inr ⟨b,w',rows,r,h1,by rw[m2 b (k6 b (by rw[h1];simp[Jq]))];exact h2,h3,h4,h5⟩
theorem ax8{h:Aa}{p:Nat}{fl w:Bool}{v:AV}(hp:h[p]?=some (.live 1 fl w [[v]]))(G:Aa)(g1:∃f row,G[p]?=some (.live 1 f true row)):∀b∈[p],b<h.length∧∀c0 c,h[b]?=some c0→G[b]?=some c→c0.isLive=true∧c0.quiet c=false:=fun b hb1=>by
 simp at hb1;subst hb1
 obtain⟨f,row,g1⟩:=g1
 refine⟨Am hp,fun c0 c k1 k2=>?_⟩
 rw[hp]at k1;rw[g1]at k2;cases k1;cases k2;exact⟨rfl,rfl⟩
theorem aNM{h:Aa}(hq:Ao h=true){p:Nat}{fl w:Bool}{v:AV}{q:List Nat}(x:Nat)(hp:h[p]?=some (.live 1 fl w [[v]]))(hQ:QS v q h p)(hl:q.length≤100000000):
 ∃es M,cl Fo h (some (.func (.func 60) [] [])) (some [.ptr p 0 0,.int .i64 (x:Int)])=some (.ret (.tup []),es)∧Bc h es=M∧h.length≤M.length∧Ao M=true∧(∃v' fl',M[p]?=some (.live 1 fl' true [[v']])∧QS v' (x::q) M p∧∀b∈Jq v',h.length≤b)∧∀b c,b≠p→h[b]?=some c→M[b]?=some c:=by
 obtain⟨o,G,es,e1,e2,rfl,v',fl',k1,k2,K,k5,k6⟩:=atT rfl rfl (aIH x (Es hp) hQ.cln hl) (fun o G hQ=>by
  obtain⟨_,v',fl',k1,k2,K,_⟩:=hQ
  exact(Gn hq K (ax8 hp G ⟨_,_,k1⟩)).1)
 have X:=ax8 hp G ⟨_,_,k1⟩
 obtain⟨_,m1,m2,m3,m4⟩:=Gn hq K X
 rw[Cf]at k6
 have hle:h.length≤G.length:=by have:=K.len;rwa[Cf]at this
 refine⟨es,_,e1,e2,by rw[m1];exact hle,adT hq K X (k5 (Mc hq)),⟨v',fl',m4 p (arW ..) _ k1,?_,k6⟩,fun b c hn hc=>by rw[m3 b (Am hc) (by simpa using hn)];exact hc⟩
 rcases k2 with h1|⟨b,w',rows,r,h1,h2,h3,h4,h5⟩
 ·exact .inl h1
 ·exact .inr ⟨b,w',rows,r,h1,by rw[m2 b (k6 b (by rw[h1];simp[Jq]))];exact h2,h3,h4,h5⟩
theorem aOZ{h:Aa}(hq:Ao h=true){p:Nat}{fl w:Bool}{v:AV}(hp:h[p]?=some (.live 1 fl w [[v]]))(hQ:QS v [] h p):
 cl Fo h (some (.func (.func 57) [] [])) (some [.ptr p 0 0])=some (.ret (.tup [.int .i64 0,.bool false]),[]):=
 aGL rfl rfl (aFP (Es hp) hQ.cln) hq
theorem aI7{h:Aa}(hq:Ao h=true){p:Nat}{fl w:Bool}{v:AV}{x:Nat}{q:List Nat}(hp:h[p]?=some (.live 1 fl w [[v]]))(hQ:QS v (x::q) h p)(hl:q.length≤100000000):
 ∃es M,cl Fo h (some (.func (.func 57) [] [])) (some [.ptr p 0 0])=some (.ret (.tup [.int .i64 (x:Int),.bool true]),es)∧Bc h es=M∧h.length≤M.length∧Ao M=true∧(∃v' fl',M[p]?=some (.live 1 fl' true [[v']])∧QS v' q M p∧Jq v'=Jq v)∧∀b c,b≠p→h[b]?=some c→M[b]?=some c:=by
 obtain⟨o,G,es,e1,e2,rfl,v',fl',k1,k2,K,k4,k5⟩:=atT rfl rfl (aHU (Es hp) hQ.cln hl) (fun o G hQ=>by
  obtain⟨_,v',fl',k1,k2,K,_⟩:=hQ
  exact(Gn hq K (ax8 hp G ⟨_,_,k1⟩)).1)
 have X:=ax8 hp G ⟨_,_,k1⟩
 obtain⟨_,m1,m2,m3,m4⟩:=Gn hq K X
 have hle:h.length≤G.length:=by have:=K.len;rwa[Cf]at this
 have same:∀b c,b≠p→h[b]?=some c→(It h G)[b]?=some c:=fun b c hn hc=>by rw[m3 b (Am hc) (by simpa using hn)];exact hc
 refine⟨es,_,e1,e2,by rw[m1];exact hle,adT hq K X (k5 (Mc hq)),⟨v',fl',m4 p (arW ..) _ k1,?_,k4⟩,same⟩
 rcases k2 with h1|⟨b,w',rows,r,h1,h2,h3,h4,h5⟩
 ·exact .inl h1
 ·have hbv:b∈Jq v:=by rw[←k4,h1];simp[Jq]
  obtain⟨_,w0,rows0,hh⟩:=hQ.lt b hbv
  have hr:(hf (It h G) b).bind Jf=(hf G b).bind Jf:=azT hq K X b
  have hM:=same b _ h3 hh
  have e3:rows0=rows:=by
   have a1:((It h G)[b]?).bind Jf=(G[b]?).bind Jf:=hr
   rw[hM,h2]at a1
   simp[Jf]at a1;exact a1
  subst e3
  exact .inr ⟨b,w0,rows0,r,h1,hM,h3,h4,h5⟩
theorem aGD{vs:List AV}{b:Nat}{h:Aa}{ps:List Nat}{asg body:Code}{tm:List AV}{st:Gt}{Q:Cb→Aa→Prop}(hb:h[b]?=some (.lp ps asg body tm st))(hl:ps.length=vs.length)
 (he:RnE b Q (aDN Fo Tryd.prog b body (Az Fo Tryd.prog 5000 asg [] ⟨Ip tm ps vs,h⟩))):RnQ Fo (vs++[.yl b]) h Q:=RnQ.start (pr:=pr) hb hl he
theorem aHY{O:Db}{H:Aa}{b:Nat}{vs:List AV}{Q:Cb→Aa→Prop}(K:RnQ O (vs++[.yl b]) (Gp H) Q)(ok:∀o G,Q o G→awL H G):
 ∃o G es,cl O H (some (.yl b)) (some vs)=some (o,es)∧Bc H es=It H G∧Q o G:=by
 obtain⟨o,G,hc,hq⟩:=K
 obtain⟨es,e1,e2⟩:=anV H G [] (ok o G hq)
 refine⟨o,G,es,?_,by simpa using e2,hq⟩
 rw[aOB,hc,atS]
 have e1':Bo 0 H G=some es:=e1
 rw[e1'];rfl
def Fe:Nat:=1048576
def DiH(LK:CB)(e:Bool)(ps:List AV)(N:Nat)(h:Aa)(dd q K:List Nat):Prop:=∃f v fl w,
 h[0]?=some LK∧h[1]?=some (.live 24 true false [ps])∧h[2]?=some (.live 1 true f (dd.map Ho))∧h[3]?=some (.live 1 false e [[.slr 1 2 0 N]])∧h[5]?=some (.live 1 false e [[.ptr 4 0 0]])∧h[4]?=some (.live 1 fl w [[v]])∧QS v q h 4∧(∀b∈Jq v,6≤b∧b∉K)∧Ao h=true
theorem DiH.app{LK:CB}{e:Bool}{ps:List AV}{N:Nat}{h:Aa}{dd q K:List Nat}(D:DiH LK e ps N h dd q K){L:Aa}(hL:Ao L=true):DiH LK e ps N (h++L) dd q K:=by
 obtain⟨f,v,fl,w',i0,i1,i2,i3,i5,i4,iQ,iB,iq⟩:=D
 refine⟨f,v,fl,w',An i0 L,An i1 L,An i2 L,An i3 L,An i5 L,An i4 L,?_,iB,Dh iq hL⟩
 rcases iQ with h|⟨b,w',rows,r,h1,h2,h3⟩
 ·exact .inl h
 ·exact .inr ⟨b,w',rows,r,h1,An h2 _,h3⟩
def Og(H G:Aa):Prop:=H.length≤G.length∧∀(b:Nat) (c0 c:CB),H[b]?=some c0→G[b]?=some c→(c0.quiet c=true∧c0.clean=c.clean)∨(c0.isLive=true∧((∃st fl rows,c=.live st fl true rows)∨c=.dead))
theorem aqC{c0 c:CB}(h:c0.isLive=true)(hc:(∃st fl rows,c=.live st fl true rows)∨c=.dead):c0.quiet c=false:=by
 rcases hc with⟨_,_,_,rfl⟩|rfl<;>cases c0<;>first|rfl|(simp[CB.isLive]at h;done)|(simp[CB.quiet,CB.same];done)
theorem Og.sh{H G:Aa}(k:Og H G):awL H G:=⟨k.1,fun b c0 c h0 h1=>(k.2 b c0 c h0 h1).imp (fun h=>h.1) (fun h=>h.1)⟩
theorem axN{c0 c1:CB}(h:c0.clean=c1.clean)(h1:c1.isLive=true):c0.isLive=true:=by cases c0<;>cases c1<;>first|rfl|(simp[CB.clean]at h;done)|cases h1
theorem arD(c:CB):c.clean.clean=c.clean:=by cases c<;>rfl
theorem Og.app{H G:Aa}(k:Og H G)(l:Aa):Og H (G++l):=⟨by simp;have:=k.1;omega,fun b c0 c h0 h1=>k.2 b c0 c h0 (by
 have:=Am h0
 have:=k.1
 rw[ap7 (by omega)]at h1;exact h1)⟩
theorem Og.cl{H:Aa}(h:Ao H=true):Og H (Gp H):=⟨by rw[Cf];exact at6 _,fun b c0 c h0 h1=>by
 rw[Es h0]at h1;cases h1
 exact .inl ⟨Ed h h0,(arD c0).symm⟩⟩
theorem Og.keep{H G:Aa}{X:List Nat}(h:Ao H=true)(K:aoN X (Gp H) G)(hX:∀b∈X,∃c0 c,H[b]?=some c0∧G[b]?=some c∧c0.isLive=true∧((∃st fl rows,c=.live st fl true rows)∨c=.dead)):Og H G:=⟨by have:=K.len;rwa[Cf]at this,fun b c0 c h0 h1=>by
 by_cases hb:b∈X
 ·obtain⟨d0,d,e0,e1,e2⟩:=hX b hb
  rw[h0]at e0;rw[h1]at e1;cases e0;cases e1
  exact .inr e2
 ·rw[K.same b (by rw[Cf];exact Am h0) hb,Es h0]at h1;cases h1
  exact .inl ⟨Ed h h0,(arD c0).symm⟩⟩
theorem Og.mrg_clean{H G:Aa}(k:Og H G){b:Nat}{c:CB}(hc:G[b]?=some c):∃c',(It H G)[b]?=some c'∧c'.clean=c.clean:=by
 by_cases hb:b<H.length
 ·have h0:H[b]?=some H[b]:=asO hb
  rcases k.2 b _ c h0 hc with⟨h1,h2⟩|⟨h1,h2⟩
  ·exact⟨_,Lj h0 hc h1,h2⟩
  ·refine⟨_,anZ h0 hc (aqC h1 h2),?_⟩
   rcases h2 with⟨_,_,_,rfl⟩|rfl<;>rfl
 ·exact⟨c,by rw[aqB k.1 (by omega)];exact hc,rfl⟩
theorem Og.trans{H h' G:Aa}(k:Og H h')(k':Og h' G):Og H (It h' G):=by
 refine⟨by rw[amA k'.1];exact Nat.le_trans k.1 k'.1,fun b c0 c h0 h1=>?_⟩
 have hb:=Am h0
 have e1:h'[b]?=some (h'[b]'(by have:=k.1;omega)):=asO _
 have e2:G[b]?=some (G[b]'(by have:=k.1;have:=k'.1;omega)):=asO _
 generalize h'[b]'(by have:=k.1;omega)=c1 at *
 generalize G[b]'(by have:=k.1;have:=k'.1;omega)=c2 at *
 rcases k'.2 b _ _ e1 e2 with⟨g1,g2⟩|⟨g1,g2⟩
 ·rw[Lj e1 e2 g1]at h1;cases h1
  exact k.2 b _ _ h0 e1
 ·rw[anZ e1 e2 (aqC g1 g2)]at h1
  have:c2.mark=c2:=by rcases g2 with⟨_,_,_,rfl⟩|rfl<;>rfl
  rw[this]at h1;cases h1
  refine .inr ⟨?_,g2⟩
  rcases k.2 b _ _ h0 e1 with⟨_,h⟩|⟨h,_⟩
  ·exact axN h g1
  ·exact h
theorem Og.old{H G:Aa}{b:Nat}{c0 c:CB}(h0:H[b]?=some c0)(h1:G[b]?=some c)(hq:c0.quiet c=true):(It H G)[b]?=some c0:=Lj h0 h1 hq
theorem aDX{c:CB}{st:Nat}{fl w:Bool}{rows:List (List AV)}(h:c.clean=(CB.live st fl w rows).clean):∃w',c=.live st fl w' rows:=by
 cases c<;>simp[CB.clean]at h
 obtain⟨rfl,rfl,rfl⟩:=h
 exact⟨_,rfl⟩
theorem Og.live{H G:Aa}(k:Og H G){b st:Nat}{fl w:Bool}{rows:List (List AV)}(hc:G[b]?=some (.live st fl w rows)):∃w',(It H G)[b]?=some (.live st fl w' rows):=by
 obtain⟨c',h1,h2⟩:=k.mrg_clean hc
 obtain⟨w',rfl⟩:=aDX h2
 exact⟨w',h1⟩
theorem QS.okw{H G:Aa}(k:Og H G){v:AV}{q:List Nat}{p:Nat}(h:QS v q G p):QS v q (It H G) p:=by
 rcases h with h|⟨b,w,rows,r,h1,h2,h3,h4,h5⟩
 ·exact .inl h
 ·obtain⟨w',h6⟩:=k.live h2
  exact .inr ⟨b,w',rows,r,h1,h6,h3,h4,h5⟩
theorem Og.quiet{H G:Aa}(k:Og H G)(h:Ao H=true)(h':Ao G=true):Ao (It H G)=true:=by
 refine ak7 fun c hc=>?_
 obtain⟨b,hb⟩:=List.getElem?_of_mem hc
 have hbl:=Am hb
 rw[amA k.1]at hbl
 have e2:G[b]?=some G[b]:=asO hbl
 generalize G[b]=c2 at *
 by_cases hl:b<H.length
 ·have e1:H[b]?=some H[b]:=asO hl
  generalize H[b]=c1 at *
  rcases k.2 b _ _ e1 e2 with⟨g1,g2⟩|⟨g1,g2⟩
  ·rw[Lj e1 e2 g1]at hb;cases hb;exact Ed h e1
  ·rw[anZ e1 e2 (aqC g1 g2)]at hb;cases hb;exact arR (Ed h' e2)
 ·rw[aqB k.1 (by omega),e2]at hb;cases hb;exact Ed h' e2
theorem aDF{LK:CB}{e:Bool}{ps:List AV}{N:Nat}{h':Aa}{dd q K:List Nat}{f:Bool}{v:AV}{fl w:Bool}(i0:h'[0]?=some LK)(i1:h'[1]?=some (.live 24 true false [ps]))(i2:h'[2]?=some (.live 1 true f (dd.map Ho)))(i3:h'[3]?=some (.live 1 false e [[.slr 1 2 0 N]]))(i5:h'[5]?=some (.live 1 false e [[.ptr 4 0 0]]))(i4:h'[4]?=some (.live 1 fl w [[v]]))(iQ:QS v q h' 4)(iB:∀b∈Jq v,6≤b∧b∉K)(iq:Ao h'=true)
 {B:Nat} {LP LB:CB} (hB:h'[B]?=some LP) (hBK:B∈K) (hK:∀b∈K,6≤b∧b<h'.length) (hLPc:LP.clean=LP) (hLPq:LP.quiet LP=true) {M:Aa} {Y dd2 q2:List Nat} {v2:AV} {fl2:Bool} (m1:h'.length≤M.length) (m2:Ao M=true) (m3:M[4]?=some (.live 1 fl2 true [[v2]])) (m4:QS v2 q2 M 4) (m5:∀b∈Jq v2,h'.length≤b)
 (m6:∀b c,b∉Y→(((Gp h').set B LB).set 2 (.live 1 true true (dd2.map Ho)))[b]?=some c→M[b]?=some c) (hY:4∈Y) (hY':∀b∈Y,b=4∨(b∈Jq v∧M[b]?=some .dead)):
 Og h' (M.set B LP)∧DiH LK e ps N (It h' (M.set B LP)) dd2 q2 K∧(∀b∈K,(It h' (M.set B LP))[b]?=h'[b]?)∧h'.length≤(It h' (M.set B LP)).length:=by
 have hBl:=Am hB
 have hB6:=(hK B hBK).1
 have h4l:=Am i4
 have hY6:∀b∈Y,b=4∨(6≤b∧b∉K):=fun b hb1=>(hY' b hb1).imp id (fun h=>iB b h.1)
 have h2Y:2∉Y:=fun h=>by rcases hY6 2 h with h|h<;>omega
 have hKY:∀b∈K,b∉2::Y:=fun b hb1 h=>by
  have:=(hK b hb1).1
  rcases aoD.1 h with h|h
  ·omega
  ·rcases hY6 b h with h|h
   ·omega
   ·exact h.2 hb1
 have hg2:M[2]?=some (.live 1 true true (dd2.map Ho)):=m6 2 _ h2Y (ap8 (by simp[Cf];omega))
 have hK2:aoN (2::Y) (Gp h') (M.set B LP):=⟨by simpa [Cf]using m1,fun b hb1 hn=>by
  rw[Cf]at hb1
  obtain⟨c,hc⟩:∃c,h'[b]?=some c:=⟨_,asO hb1⟩
  by_cases e:b=B
  ·subst e
   rw[ap8 (by omega),Es hB,hLPc]
  ·rw[an9 (fun h=>e h.symm)]
   have:=m6 b c.clean (fun h=>hn (ayD _ h)) (by
    rw[an9 (fun h=>hn (by rw[←h];exact arW ..)),an9 (fun h=>e h.symm)];exact Es hc)
   rw[this,Es hc]⟩
 have hne:∀b,b≠B→(M.set B LP)[b]?=M[b]?:=fun b h=>an9 (fun e=>h e.symm)
 have X:∀b∈2::Y,∃c0 c,h'[b]?=some c0∧(M.set B LP)[b]?=some c∧c0.isLive=true∧((∃st fl rows,c=.live st fl true rows)∨c=.dead):=fun b hb1=>by
  rcases aoD.1 hb1 with rfl|hb1
  ·exact⟨_,_,i2,by rw[hne 2 (by omega)];exact hg2,rfl,.inl ⟨_,_,_,rfl⟩⟩
  ·rcases hY' b hb1 with rfl|⟨h1,h2⟩
   ·exact⟨_,_,i4,by rw[hne 4 (by omega)];exact m3,rfl,.inl ⟨_,_,_,rfl⟩⟩
   ·obtain⟨h3,w',rows,h5⟩:=iQ.lt b h1
    exact⟨_,_,h5,by rw[hne b (fun e=>(iB b h1).2 (e▸hBK))];exact h2,rfl,.inr rfl⟩
 have ok:=Og.keep iq hK2 X
 have X':∀b∈2::Y,b<h'.length∧∀c0 c,h'[b]?=some c0→(M.set B LP)[b]?=some c→c0.isLive=true∧c0.quiet c=false:=fun b hb1=>by
  obtain⟨c0,c,h1,h2,h3,h4⟩:=X b hb1
  refine⟨Am h1,fun d0 d k1 k2=>?_⟩
  rw[h1]at k1;rw[h2]at k2;cases k1;cases k2
  exact⟨h3,aqC h3 h4⟩
 obtain⟨g1,g2,g3,g4,g5⟩:=Gn iq hK2 X'
 have low:∀b,b<6→b≠2→b≠4→(It h' (M.set B LP))[b]?=h'[b]?:=fun b h1 h2 h3=>g4 b (by have:=Am i5;omega) fun h=>by
  rcases aoD.1 h with h|h
  ·exact h2 h
  ·rcases hY6 b h with h|h<;>omega
 refine⟨ok,⟨true,v2,fl2,true,by rw[low 0 (by omega) (by omega) (by omega)];exact i0,by rw[low 1 (by omega) (by omega) (by omega)];exact i1,?_,by rw[low 3 (by omega) (by omega) (by omega)];exact i3,by rw[low 5 (by omega) (by omega) (by omega)];exact i5,?_,?_,fun b hb1=>?_,?_⟩,fun b hb1=>g4 b (hK b hb1).2 (hKY b hb1),by rw[g2];simpa using m1⟩
 ·exact g5 2 (arW ..) _ (by rw[hne 2 (by omega)];exact hg2)
 ·exact g5 4 (ayD _ hY) _ (by rw[hne 4 (by omega)];exact m3)
 ·rcases m4 with h|⟨b,w',rows,r,h1,h2,h3⟩
  ·exact .inl h
  ·have hb1:=m5 b (by rw[h1];simp[Jq])
   exact .inr ⟨b,w',rows,r,h1,by rw[g3 b hb1,hne b (by omega)];exact h2,h3⟩
 ·have h1:=m5 b hb1
  exact⟨by omega,fun h=>by have:=(hK b h).2;omega⟩
 ·exact adT iq hK2 X' (Df m2 B (by rw[hLPc];exact hLPq))
theorem aGI{h' l:Aa}(hq:Ao h'=true):Og h' (Gp h'++l)∧It h' (Gp h'++l)=h'++l:=by
 have K:aoN [] (Gp h') (Gp h'++l):=aoN.app _ _
 have X:∀b∈([]:List Nat),b<h'.length∧∀c0 c,h'[b]?=some c0→(Gp h'++l)[b]?=some c→c0.isLive=true∧c0.quiet c=false:=fun b hb1=>by cases hb1
 obtain⟨g1,g2,g3,g4,_⟩:=Gn hq K X
 refine⟨(Og.cl hq).app l,aFH fun b=>?_⟩
 by_cases hb1:b<h'.length
 ·rw[g4 b hb1 (by simp),ap7 hb1]
 ·rw[g3 b (by omega),as0 (by simp[Cf];omega),as0 (by omega),Cf]
theorem aGW:Ae .nilp=[.nilp]:=Eq.trans rfl rfl
theorem aIL(n x:Nat):(aoC n x).sum=n*x:=by
 induction n with
 |zero=>simp
 |succ n ih=>rw[aFI,List.sum_cons,ih,Nat.succ_mul];omega
theorem au3:∀(l:List Nat) (s:Nat),(l.set s 0).sum≤l.sum
 | [],s=>by simp
 |a::l,0=>by simp
 |a::l,s+1=>by have:=au3 l s;simp;omega
theorem aC1{N s far:Nat}(h:N≤8):(Do N s far).sum≤8*far:=by
 unfold Do
 refine Nat.le_trans (au3 _ _) ?_
 rw[aIL]
 exact Nat.mul_le_mul_right _ h
def tgB(x:Int × Bool):Bool:=x.1==0&& !x.2
def tgt(L:List (Int × Bool)):List Bool:=L.map tgB
theorem aD1{w:Bd}{L:List (Int × Bool)}{i:Nat}{p:Aj}{x:Int × Bool}(hp:w.parts[i]?=some p)(hx:L[i]?=some x):(edg w (tgt L))[i]?=some (p.one.toNat,p.other.toNat,if tgB x=true then 1 else 0):=by
 unfold edg tgt
 rw[List.getElem?_zipWith,azU,hp,hx];rfl
theorem axG{w:Bd}{d:Int}:edg w (tgt (Cm w d))=edg w (Oy w d):=by
 have e:∀(l:List Aj) (r:List Bool) (f:Aj→Bool→Net.Edge),List.zipWith f l (l.map (fun p=>ak2 p d)++r)=List.zipWith f l (l.map fun p=>ak2 p d):=by
  intro l;induction l with
  |nil=>intro r f;simp
  |cons a l ih=>intro r f;simp[ih]
 unfold edg tgt Cm Oy
 rw[aFJ,List.map_map]
 exact e _ _ _
theorem QS.app{v:AV}{q:List Nat}{H:Aa}{p:Nat}(h:QS v q H p)(l:Aa):QS v q (H++l) p:=by
 rcases h with h|⟨b,w,rows,r,h1,h2,h3⟩
 ·exact .inl h
 ·exact .inr ⟨b,w,rows,r,h1,An h2 l,h3⟩
theorem aCM{h:Aa}{b:Nat}{c:CB}(hc:h[b]?=some c):h.set b c=h:=by
 refine aFH fun i=>?_
 by_cases e:b=i
 ·subst e;rw[ap8 (Am hc),hc]
 ·rw[an9 e]
theorem aCJ:∀(L:List (Int × Bool)) (i:Nat) (a:Int) (b:Bool),L[i]?=some (a,b)→awB 2 (List.drop (i*2) (Hq L))=[.int .i64 a,.bool b]
 | [],i,a,b,h=>by simp at h
 |x::L,0,a,b,h=>by simp at h;subst h;simp[Hq]
 |x::L,i+1,a,b,h=>by
  have ih:=aCJ L i a b (by simpa using h)
  rw[show(i+1)*2=(i*2)+1+1 by omega]
  simpa only[Hq,List.flatMap_cons,List.cons_append,azX,List.drop_succ_cons]using ih
def no3:Nat→Nat→Nat→Prop:=fun _ _ _=>False
theorem avC{w:Bd}{N:Nat}(hw:WOk w N)(h12:w.parts.length≤12){d:Int}{s:Nat}(hs:s<N){ps:List AV}{L:List (Int × Bool)}(hL12:L.length=12)(hps:ps=Hq L){wf:Bool}:
 ClQ Fo 36 [.ptr 0 0 0,.int .i64 (s:Int),.agg ps] [.live 4 false wf [[.int .i64 w.rooms,.int .i64 w.need,Eg 9 true w.nn (w.parts.map Aj.cells),.int .i64 d]]] fun o h'=>
  ∃(f:Bool) (ds:List Nat),o=.ret (.slr 1 1 0 N)∧h'=[.live 4 false wf [[.int .i64 w.rooms,.int .i64 w.need,Eg 9 true w.nn (w.parts.map Aj.cells),.int .i64 d]],.live 1 true f (ds.map Ho)]∧ds.length=N∧On (edg w (tgt L)) s N Fe (fun v=>ds.getD v 0):=by
 have hr:=hw.rooms
 have n2:=hw.n2
 have n8:=hw.n8
 have hpl:ps.length=24:=by rw[hps,adS];omega
 have hflat:ps.all AV.flat=true∧ps.all AV.isCell=true:=by
  subst hps
  have hform:∀x∈Hq L,(∃n,x=.int .i64 n)∨∃b,x=.bool b:=fun x hx=>by
   simp only[Hq,aFK,aoD,atN,or_false]at hx
   obtain⟨y,_,rfl|rfl⟩:=hx
   ·exact .inl ⟨_,rfl⟩
   ·exact .inr ⟨_,rfl⟩
  exact⟨awE.2 fun x hx=>by rcases hform x hx with⟨n,rfl⟩|⟨b,rfl⟩<;>rfl,awE.2 fun x hx=>by rcases hform x hx with⟨n,rfl⟩|⟨b,rfl⟩<;>rfl⟩
 obtain⟨hf1,hf2⟩:=hflat
 refine aJR rfl Tryd.func36 rfl rfl ?_
 simp only[Tryd.f36]
 simp only[hr]
 have h39:(N≤549755813888)=True:=eq_true (by omega)
 have m1:((N:Int)≤(N:Int))=True:=eq_true (Int.le_refl _)
 have m2:((N:Int)≤1099511627776)=True:=eq_true (by omega)
 (have hb:=trivial;with_reducible repeat' (first|simp only[hb,Vc.down,seval,Ob.down,hpl,hf1,hf2,h39,m1,m2,aFL]|refine Dp ?_ ?_<;>intro hb|refine fd ?_|fail))
 generalize hLK:(CB.live 4 false wf [[.int .i64 (N:Int),.int .i64 w.need,Eg 9 true w.nn (w.parts.map Aj.cells),.int .i64 d]])=LK
 refine ai2 (lst 85 (aoC N ()) (fun i (_:Unit) t h=>t 0=.ptr 0 0 0∧t 1=.int .i64 (s:Int)∧t 5=.ptr 1 0 0∧t 7=.ptr 3 0 0∧t 23=.int .i64 (N:Int)∧t 24=.int .i64 (i:Int)∧∃f,h=[LK,.live 24 true false [ps],.live 1 true f ((aoC i Fe++aoC (N-i) 0).map Ho),.live 1 false true [[.slr 1 2 0 N]]]) (fun _ _=>())
  (fun _ e t h=>e=.exit 0∧t 0=.ptr 0 0 0∧t 1=.int .i64 (s:Int)∧t 5=.ptr 1 0 0∧t 7=.ptr 3 0 0∧∃f,h=[LK,.live 24 true false [ps],.live 1 true f ((aoC N Fe).map Ho),.live 1 false true [[.slr 1 2 0 N]]]) ?_ ?_ () _ _ ?_) (fun e t h hk=>?_)
 ·rintro _ t h Q' kQ ⟨g0,g1,g5,g7,g23,g24,f,rfl⟩
  rw[awT]at g24
  (have hb:=trivial;with_reducible repeat' (first|simp only[hb,Vc.down,seval,Ob.down,g23,g24,Int.lt_irrefl,decide_false]|refine Dp ?_ ?_<;>intro hb|refine fd ?_|fail))
  exact kQ _ _ _ ⟨rfl,by simp[up,g0],by simp[up,g1],by simp[up,g5],by simp[up,g7],f,by simp⟩
 ·rintro x rest i _ t h J Q' kJ kQ hx hi ⟨g0,g1,g5,g7,g23,g24,f,rfl⟩
  rw[awT]at hi
  have hdd:decide ((i:Int)<(N:Int))=true:=decide_eq_true (by omega)
  have hdi:((i:Int)<(N:Int))=True:=eq_true (by omega)
  have hww:=Iy (n:=N) hi (by unfold maxLen;omega)
  have hrow:((aoC i Fe++aoC (N-i) 0).map Ho)[i]?=some [.int .i64 0]:=by
   rw[azU,as0 (by simp),awT,aAS,aFM,if_pos (by omega)]
   rfl
  have hnx:((aoC i Fe++aoC (N-i) 0).map Ho).set i [.int .i64 1048576]=(aoC (i+1) Fe++aoC (N-(i+1)) 0).map Ho:=by
   have e:N-i=(N-(i+1))+1:=by omega
   rw[show([.int .i64 1048576]:List AV)=Ho Fe from rfl,←aAT,List.set_append_right _ _ (by simp),awT,aAS,e,aFI,List.set_cons_zero,List.replicate_succ',List.append_assoc]
   rfl
  generalize(aoC i Fe++aoC (N-i) 0).map Ho=rows at *
  (have hb:=trivial;with_reducible repeat' (first|simp only[hb,Vc.down,seval,Ob.down,g0,g1,g5,g7,g23,g24,hdd,hdi,hww,hrow,hnx]|refine Dp ?_ ?_<;>intro hb|refine fd ?_|fail))
  exact Fg (kJ _ _ () ⟨by simp[up,g0],by simp[up,g1],by simp[up,g5],by simp[up,g7],by simp[up,g23],by simp[up],true,rfl⟩ rfl)
 ·exact⟨by simp[up,ent],by simp[up,ent],by simp[up],by simp[up],by simp[up],by simp[up],false,by simp[Ho]⟩
 obtain⟨rfl,g0,g1,g5,g7,f,rfl⟩:=hk
 have hrow:s<((aoC N Fe).map Ho).length:=by simpa using hs
 have hz:((aoC N Fe).map Ho)[s]?=some [.int .i64 1048576]:=by rw[azU,aFM,if_pos hs];rfl
 have hin:((aoC N Fe).map Ho).set s [.int .i64 0]=(Do N s Fe).map Ho:=by rw[Do,aAT];rfl
 have o1:((s:Int)<(N:Int))=True:=eq_true (by omega)
 generalize hrw:(aoC N Fe).map Ho=rows at *
 obtain⟨q1,hq1⟩:∃q,Fn.func 56=q:=⟨_,rfl⟩
 obtain⟨q2,hq2⟩:∃q,Fn.func 57=q:=⟨_,rfl⟩
 have hLq:LK.quiet LK.clean=true:=by rw[←hLK];rfl
 obtain⟨es,M,b1,b2,b3,b4,⟨v',fl',b5,b6,b7⟩,b8,_⟩:=aI5 (h:=[LK,.live 24 true false [ps],.live 1 true true ((Do N s Fe).map Ho),.live 1 false true [[.slr 1 2 0 N]],.live 1 false false [[.nils]],.live 1 false true [[.ptr 4 0 0]]]) (ak7 fun c hc=>by
  simp only[aoD,atN,or_false]at hc
  rcases hc with rfl|rfl|rfl|rfl|rfl|rfl
  ·exact hLq
  all_goals rfl) (p:=4) s rfl (.inl ⟨rfl,rfl⟩) (by simp)
 rw[hq1]at b1
 simp only[azX]at b6
 obtain⟨es2,M2,c1,c2,c3,c4,⟨v2,fl2,c5,c6,c7⟩,c8⟩:=aI7 b4 b5 b6 (by simp)
 rw[hq2]at c1
 have k3:=b8 3 _ (by simp[Jq]) rfl
 have k5:=b8 5 _ (by simp[Jq]) rfl
 have j3:=c8 3 _ (by omega) k3
 have j5:=c8 5 _ (by omega) k5
 have j0:=c8 0 _ (by omega) (b8 0 _ (by simp[Jq]) rfl)
 have j1:=c8 1 _ (by omega) (b8 1 _ (by simp[Jq]) rfl)
 have j2:=c8 2 _ (by omega) (b8 2 _ (by simp[Jq]) rfl)
 (have hb:=trivial;with_reducible repeat' (first|simp only[hb,Vc.down,seval,Ob.down,g0,g1,g5,g7,hz,hin,o1,hq1,hq2,b1,b2,c1,c2,k3,k5,j3,j5,aGW,aFL]|refine Dp ?_ ?_<;>intro hb|refine fd ?_|fail))
 generalize hE:edg w (tgt L)=E at *
 have hEo:EOk E N:=by rw[←hE];exact atM hw _
 have I0:=aHV (E:=E) (far:=Fe) hs hEo
 have hsum:(Do N s Fe).sum≤8*1048576:=aC1 n8
 refine ai2 (cnt 85 (fun n (_:Unit) t h=>t 0=.ptr 0 0 0∧t 1=.int .i64 (s:Int)∧t 5=.ptr 1 0 0∧t 7=.ptr 3 0 0∧t 9=.ptr 5 0 0∧∃dd q k,DiH LK true ps N h dd q [k]∧2*dd.sum+q.length≤20000000∧
  ((t 11=.bool true∧∃room w,t 10=.ptr k 0 0∧6≤k∧h[k]?=some (.live 1 true w [[.int .i64 (room:Nat)]])∧DqI E s N Fe dd (room::q) no3∧2*dd.sum+q.length+1≤n)∨(t 11=.bool false∧q=[]∧DqI E s N Fe dd [] no3))) (fun _ _=>())
  (fun _ e t h=>e=.exit 2∧t 7=.ptr 3 0 0∧∃dd k,DiH LK true ps N h dd [] [k]∧DqI E s N Fe dd [] no3) ?_ ?_ (2*(Do N s Fe).sum+1) () _ _ ?_) (fun e t h hk=>?_)
 ·rintro _ t h Q' kQ ⟨g0,g1,g5,g7,g9,dd,q,k,hD,hql,⟨g11,room,w5,g10,_,_,_,hm⟩|⟨g11,rfl,hI⟩⟩
  ·omega
  ·(have hb:=trivial;with_reducible repeat' (first|simp only[hb,Vc.down,seval,Ob.down,g11]|refine Dp ?_ ?_<;>intro hb|refine fd ?_|fail))
   exact kQ _ _ _ ⟨rfl,by simp[up,g7],dd,k,hD,hI⟩
 ·rintro n _ t h J Q' kJ kQ ⟨g0,g1,g5,g7,g9,dd,q,k,hD,hql,⟨g11,room,w5,g10,hk6,hkb,hI,hm⟩|⟨g11,rfl,hI⟩⟩
  ·obtain⟨f,v,fl,w',i0,i1,i2,i3,i5,i4,iQ,iB,iq⟩:=hD
   have hat:=aQT w d (room:Int) false
   rw[hr]at hat
   subst hLK
   (have hb:=trivial;with_reducible repeat' (first|simp only[hb,Vc.down,seval,Ob.down,g0,g1,g5,g7,g9,g10,g11,i0,i1,i2,i3,i5,hkb,hat]|refine Dp ?_ ?_<;>intro hb|refine fd ?_|fail))
   obtain⟨rN,rI⟩:=DqI.take hI
   have hkl:=Am hkb
   generalize hLP:CB.lp _ _ _ _ _=LP
   obtain⟨LK,hLK⟩:∃c:CB,c=CB.live 4 false wf [[.int .i64 (N:Int),.int .i64 w.need,Eg 9 true w.nn (w.parts.map Aj.cells),.int .i64 d]]:=⟨_,rfl⟩
   refine aKC (aP2 hw (d:=d) (r:=(room:Int)) (lb:=h.length) (rb:=h.length+1) (kb:=0) (fun i h'=>∃dd' q',DiH LK.clean false ps N h' dd' q' [k,h.length,h.length+1,h.length+2]∧DqI E s N Fe dd' q' (Lu E room i)∧2*dd'.sum+q'.length≤2*dd.sum+q.length∧(∃w1,h'[k]?=some (.live 1 true w1 [[.int .i64 (room:Nat)]]))∧(∃w1,h'[h.length]?=some (.live 1 false w1 [[.ptr 0 0 0]]))∧(∃w1,h'[h.length+1]?=some (.live 1 true w1 [[.int .i64 (room:Nat)]]))∧h'[h.length+2]?=some LP∧h.length+3≤h'.length∧Og (h++[.live 1 false false [[.ptr 0 0 0]],.live 1 true false [[.int .i64 (room:Nat)]],LP]) h') ?_ ?_ ?_ ?_ ?_ ?_ ?_) ?_
   ·rintro i h' ⟨dd',q',_,_,_,_,hb1,_⟩
    exact hb1
   ·rintro i h' ⟨dd',q',⟨f,v,fl,w',i0,_⟩,_⟩
    rw[hr]
    exact⟨false,by rw[i0,hLK];rfl⟩
   ·rintro i h' ⟨dd',q',_,_,_,_,_,hb2,_⟩
    exact hb2
   ·rintro i h' fl wf rows ⟨dd',q',k1,k3,k4,⟨a0,k5⟩,⟨a1,k6⟩,⟨a2,k7⟩,k8,k9,kO⟩
    exact⟨dd',q',k1.app rfl,k3,k4,⟨a0,An k5 _⟩,⟨a1,An k6 _⟩,⟨a2,An k7 _⟩,An k8 _,by simp;omega,kO.app _⟩
   ·rintro i p u h' hpx hu ⟨dd',q',⟨f',v',fl',w2,j0,j1,j2,j3,j5,j4,jQ,jB,jq⟩,k3,k4,⟨a0,k5⟩,⟨a1,k6⟩,⟨a2,k7⟩,k8,k9,kO⟩
    have round:RnQ Fo ([.int .i64 i,.int .i64 u]++[.yl (h.length+2)]) (Gp h') fun o G=>o=.ret (.bool true)∧Og h' G∧∃dd2 q2,DiH LK.clean false ps N (It h' G) dd2 q2 [k,h.length,h.length+1,h.length+2]∧DqI E s N Fe dd2 q2 (Lu E room (i+1))∧2*dd2.sum+q2.length≤2*dd.sum+q.length∧(∀b∈[k,h.length,h.length+1,h.length+2],(It h' G)[b]?=h'[b]?)∧h'.length≤(It h' G).length:=by
     have hir:room<N:=rN
     have hpo:=hw.part p (ax9 hpx)
     have hil:i<w.parts.length:=(aFN.1 hpx).1
     obtain⟨pc,hpc⟩:∃x,L[i]?=some x:=⟨_,asO (by omega)⟩
     have he:=aD1 hpx hpc
     rw[hE]at he
     obtain⟨to,rfl,htN,hrt,hto⟩:∃to:Nat,u=(to:Int)∧to<N∧room≠to∧(E[i]?=some (room,to,if tgB pc=true then 1 else 0)∨E[i]?=some (to,room,if tgB pc=true then 1 else 0)):=by
      rcases hu with⟨h1,h2⟩|⟨h1,h2,h3⟩
      ·exact⟨p.other.toNat,by omega,by omega,by omega,.inl (by rw[he,h1];rfl)⟩
      ·exact⟨p.one.toNat,by omega,by omega,by omega,.inr (by rw[he,h2];rfl)⟩
     have hi12:((i:Int)<12)=True:=eq_true (by omega)
     have hp24:(i*2+2≤24)=True:=eq_true (by omega)
     have htk:awB 2 (List.drop (i*2) ps)=[.int .i64 pc.1,.bool pc.2]:=by
      rw[hps];exact aCJ _ _ _ _ hpc
     have htt:=aHA pc.1 pc.2
     rw[show(pc.1==0&& !pc.2)=tgB pc from rfl]at htt
     have hdl:=k3.i.len
     have hrm:=atA (d:=dd') (a:=room) (by omega)
     have htm:=atA (d:=dd') (a:=to) (by omega)
     have hst:∀n:Nat,(dd'.map Ho).set to [.int .i64 (n:Int)]=(dd'.set to n).map Ho:=fun n=>by rw[aAT];rfl
     have hrf:=k3.i.le room rN
     have hrf2:dd'.getD room 0≤1048576:=hrf
     have I0:=k3.same hto
     have I1:=fun q'=>k3.less (q':=q') rN htN hrt hto
     have hrN:((room:Int)<(N:Int))=True:=eq_true (by omega)
     have htN':((to:Int)<(N:Int))=True:=eq_true (by omega)
     have hbit:=aOI (tgB pc)
     have hsum:∀x,x<dd'.getD to 0→(dd'.set to x).sum<dd'.sum:=fun x hx=>aC3 (by omega) hx
     generalize dd'.getD room 0=xr at *
     generalize dd'.getD to 0=xt at *
     generalize hrows:dd'.map Ho=rows at *
     have hbc:=Es k8
     have hb0:LP.clean=LP:=by rw[←hLP];rfl
     rw[hb0]at hbc
     have hne2:∀(b:Nat) (c X:CB),b≠h.length+2→h'[b]?=some c→((Gp h').set (h.length+2) X)[b]?=some c.clean:=fun b c X hn hc=>by rw[an9 (fun e=>hn e.symm),Es hc]
     have h6:=Am i5
     have g0':=fun X=>hne2 0 _ X (by omega) j0
     have g1':=fun X=>hne2 1 _ X (by omega) j1
     have g2':=fun X=>hne2 2 _ X (by omega) j2
     have g3':=fun X=>hne2 3 _ X (by omega) j3
     have g5':=fun X=>hne2 5 _ X (by omega) j5
     have gk':=fun X=>hne2 k _ X (by omega) k5
     simp only[CB.clean]at g1' g2' g3' g5' gk'
     have hlw:∀n,n≤1048577→IntKind.i64.wrap (n:Nat)=(n:Int):=fun n hn=>Ia (by omega) (by omega)
     have hself:∀X:CB,((Gp h').set (h.length+2) X)[h.length+2]?=some X:=fun X=>ap8 (Am hbc)
     have hback:∀X:CB,(((Gp h').set (h.length+2) X).set (h.length+2) LP)=Gp h':=fun X=>by
      rw[List.set_set];exact aCM hbc
     have sm:=aGI (l:=[]) jq
     simp only[List.append_nil]at sm
     have fin0:∀(dx:DqI E s N Fe dd' q' (Lu E room (i+1))),(Cb.ret (AV.bool true)=.ret (.bool true))∧Og h' (Gp h')∧∃dd2 q2,DiH LK.clean false ps N (It h' (Gp h')) dd2 q2 [k,h.length,h.length+1,h.length+2]∧DqI E s N Fe dd2 q2 (Lu E room (i+1))∧2*dd2.sum+q2.length≤2*dd.sum+q.length∧(∀b∈[k,h.length,h.length+1,h.length+2],(It h' (Gp h'))[b]?=h'[b]?)∧h'.length≤(It h' (Gp h')).length:=fun dx=>by
      rw[sm.2]
      exact⟨rfl,sm.1,dd',q',⟨f',v',fl',w2,j0,j1,by rw[hrows];exact j2,j3,j5,j4,jQ,jB,jq⟩,dx,k4,fun b _=>rfl,at6 _⟩
     have hq':q'.length≤100000000:=by omega
     have hK6:∀b∈[k,h.length,h.length+1,h.length+2],6≤b∧b<h'.length:=fun b hb1=>by
      simp only[aoD,atN,or_false]at hb1
      omega
     have hnx:∀(b:Nat) (c X Y:CB),b≠h.length+2→b≠2→h'[b]?=some c→(((Gp h').set (h.length+2) X).set 2 Y)[b]?=some c.clean:=fun b c X Y n1 n2 hc=>by rw[an9 (fun e=>n2 e.symm)];exact hne2 b c X n1 hc
     have n5:=fun X Y=>hnx 5 _ X Y (by omega) (by omega) j5
     have n4:=fun X Y=>hnx 4 _ X Y (by omega) (by omega) j4
     have nB:∀X Y:CB,(((Gp h').set (h.length+2) X).set 2 Y)[h.length+2]?=some X:=fun X Y=>by rw[an9 (by omega)];exact hself X
     simp only[CB.clean]at n5 n4
     have nQ:∀X Y,QS v' q' (((Gp h').set (h.length+2) X).set 2 Y) 4:=fun X Y=>by
      rcases QS.cln jQ with h1|⟨b,w0,rows0,r0,h1,h2,h3⟩
      ·exact .inl h1
      ·have hbb:=jB b (by rw[h1];simp[Jq])
       simp only[aoD,atN,or_false,not_or]at hbb
       exact .inr ⟨b,w0,rows0,r0,h1,by rw[an9 (by omega),an9 (by omega)];exact h2,h3⟩
     have hlen2:∀X Y:CB,(((Gp h').set (h.length+2) X).set 2 Y).length=h'.length:=fun X Y=>by simp[Cf]
     have nqt:∀(X:CB) (Y:List (List AV)),X.quiet X.clean=true→Ao (((Gp h').set (h.length+2) X).set 2 (.live 1 true true Y))=true:=fun X Y hX=>Df (Df (Mc jq) _ hX) _ rfl
     have fin1:∀{n:Nat} {q2:List Nat} {M:Aa} {Y:List Nat} {LB:CB} {v2:AV} {fl2:Bool},DqI E s N Fe (dd'.set to n) q2 (Lu E room (i+1))→n<xt→q2.length=q'.length+1→h'.length≤M.length→Ao M=true→M[4]?=some (.live 1 fl2 true [[v2]])→QS v2 q2 M 4→(∀b∈Jq v2,h'.length≤b)→
      (∀b c,b∉Y→(((Gp h').set (h.length+2) LB).set 2 (.live 1 true true ((dd'.set to n).map Ho)))[b]?=some c→M[b]?=some c)→4∈Y→(∀b∈Y,b=4∨(b∈Jq v'∧M[b]?=some .dead))→
      (Cb.ret (AV.bool true)=.ret (.bool true))∧Og h' (M.set (h.length+2) LP)∧∃dd2 q2,DiH LK.clean false ps N (It h' (M.set (h.length+2) LP)) dd2 q2 [k,h.length,h.length+1,h.length+2]∧DqI E s N Fe dd2 q2 (Lu E room (i+1))∧2*dd2.sum+q2.length≤2*dd.sum+q.length∧(∀b∈[k,h.length,h.length+1,h.length+2],(It h' (M.set (h.length+2) LP))[b]?=h'[b]?)∧h'.length≤(It h' (M.set (h.length+2) LP)).length:=fun {n q2 M Y LB v2 fl2} dx hn hq2 m1 m2 m3 m4 m5 m6 hY hY'=>by
      have hr:=aDF (K:=[k,h.length,h.length+1,h.length+2]) j0 j1 (by rw[hrows];exact j2) j3 j5 j4 jQ jB jq k8 (by simp) hK6 hb0 (by rw[←hLP];rfl) m1 m2 m3 m4 m5 m6 hY hY'
      exact⟨rfl,hr.1,dd'.set to n,q2,hr.2.1,dx,by have:=hsum n hn;omega,hr.2.2.1,hr.2.2.2⟩
     have nbv:h.length+2∉4::Jq v':=fun hx=>by
      rcases aoD.1 hx with hx|hx
      ·omega
      ·have:=(jB _ hx).2;simp at this
     have mq:∀x,x∈q'++[to]↔x=to∨x∈q':=fun x=>by simp;exact Or.comm
     have mq2:∀x,x∈to::q'↔x=to∨x∈q':=fun x=>by simp
     cases htb:tgB pc with
     |true=>
      have hw1:IntKind.i64.wrap ((xr:Int)+1)=((xr+1:Nat):Int):=by have:=hlw (xr+1) (by omega);simpa using this
      rw[htb]at htt hbit I0 I1
      simp only[if_true]at I0 I1 hbit
      by_cases hle:xt≤xr+1
      ·have hle':(((xr+1:Nat):Int)≥(xt:Int))=True:=eq_true (by omega)
       have fz:=fin0 (I0 hle)
       subst hLP
       refine aGD hbc rfl ?_
       (have hb:=trivial;with_reducible repeat' (first|simp only[hb,Vc.down,seval,Ob.down,k8,g0,g1,g5,g7,g9,g10,g0',g1',g2',g3',g5',gk',aq1,hi12,hp24,hpl,htk,htt,hbit,hrm,htm,hrN,htN',hw1,hle',hself,hback]|refine Dp ?_ ?_<;>intro hb|refine fd ?_|fail))
       exact⟨_,_,rfl,fz⟩
      ·have hle':(((xr+1:Nat):Int)≥(xt:Int))=False:=eq_false (by omega)
       subst hLP
       refine aGD hbc rfl ?_
       (have hb:=trivial;with_reducible repeat' (first|simp only[hb,Vc.down,seval,Ob.down,k8,g0,g1,g5,g7,g9,g10,g0',g1',g2',g3',g5',gk',aq1,hi12,hp24,hpl,htk,htt,hbit,hrm,htm,hrN,htN',hw1,hle',hst]|refine Dp ?_ ?_<;>intro hb|refine fd ?_|fail))
       generalize hLB:CB.lp _ _ _ _ Gt.busy=LB
       obtain⟨q1,hq1⟩:∃q,Fn.func 56=q:=⟨_,rfl⟩
       obtain⟨es,M,b1,b2,b3,b4,⟨v2,fl2,b5,b6,b7⟩,b8,b9⟩:=aI5 (nqt LB ((dd'.set to (xr+1)).map Ho) (by rw[←hLB];rfl)) to (n4 LB _) (nQ LB _) hq'
       rw[hq1]at b1
       have n5':=n5 LB
       have mB:=b8 _ _ nbv (nB LB _)
       have fz:=fin1 (I1 (q'++[to]) (by omega) mq) (by omega) (by simp) (by rw[hlen2]at b3;exact b3) b4 b5 b6 (by rw[hlen2]at b7;exact b7) b8 (arW ..) (fun b hb1=>(aoD.1 hb1).imp id fun hb1=>⟨hb1,b9 b hb1⟩)
       subst hLB
       (have hb:=trivial;with_reducible repeat' (first|simp only[hb,Vc.down,seval,Ob.down,n5',hq1,b1,b2,mB]|refine Dp ?_ ?_<;>intro hb|refine fd ?_|fail))
       exact⟨_,_,rfl,fz⟩
     |false=>
      have hw1:IntKind.i64.wrap ((xr:Int)+0)=((xr:Nat):Int):=by have:=hlw xr (by omega);simpa using this
      rw[htb]at htt hbit I0 I1
      simp only[aFO,if_false,Nat.add_zero]at I0 I1 hbit
      by_cases hle:xt≤xr
      ·have hle':((xr:Int)≥(xt:Int))=True:=eq_true (by omega)
       have fz:=fin0 (I0 hle)
       subst hLP
       refine aGD hbc rfl ?_
       (have hb:=trivial;with_reducible repeat' (first|simp only[hb,Vc.down,seval,Ob.down,k8,g0,g1,g5,g7,g9,g10,g0',g1',g2',g3',g5',gk',aq1,hi12,hp24,hpl,htk,htt,hbit,hrm,htm,hrN,htN',hw1,hle',hself,hback]|refine Dp ?_ ?_<;>intro hb|refine fd ?_|fail))
       exact⟨_,_,rfl,fz⟩
      ·have hle':((xr:Int)≥(xt:Int))=False:=eq_false (by omega)
       subst hLP
       refine aGD hbc rfl ?_
       (have hb:=trivial;with_reducible repeat' (first|simp only[hb,Vc.down,seval,Ob.down,k8,g0,g1,g5,g7,g9,g10,g0',g1',g2',g3',g5',gk',aq1,hi12,hp24,hpl,htk,htt,hbit,hrm,htm,hrN,htN',hw1,hle',hst]|refine Dp ?_ ?_<;>intro hb|refine fd ?_|fail))
       generalize hLB:CB.lp _ _ _ _ Gt.busy=LB
       obtain⟨q1,hq1⟩:∃q,Fn.func 60=q:=⟨_,rfl⟩
       obtain⟨es,M,b1,b2,b3,b4,⟨v2,fl2,b5,b6,b7⟩,b8⟩:=aNM (nqt LB ((dd'.set to xr).map Ho) (by rw[←hLB];rfl)) to (n4 LB _) (nQ LB _) hq'
       rw[hq1]at b1
       have n5':=n5 LB
       have mB:=b8 _ _ (by omega) (nB LB _)
       have fz:=fin1 (Y:=[4]) (I1 (to::q') (by omega) mq2) (by omega) (by simp) (by rw[hlen2]at b3;exact b3) b4 b5 b6 (by rw[hlen2]at b7;exact b7) (fun b c hn=>b8 b c (by simpa using hn)) (arW ..) (fun b hb1=>.inl (by simpa using hb1))
       subst hLB
       (have hb:=trivial;with_reducible repeat' (first|simp only[hb,Vc.down,seval,Ob.down,n5',hq1,b1,b2,mB]|refine Dp ?_ ?_<;>intro hb|refine fd ?_|fail))
       exact⟨_,_,rfl,fz⟩
    obtain⟨o,G,es,e1,e2,rfl,z0,dd2,q2,z1,z2,z3,z4,z5⟩:=aHY round (fun o G h=>h.2.1.sh)
    refine⟨es,e1,?_⟩
    rw[e2]
    exact⟨dd2,q2,z1,z2,z3,⟨a0,by rw[z4 k (by simp)];exact k5⟩,⟨a1,by rw[z4 _ (by simp)];exact k6⟩,⟨a2,by rw[z4 _ (by simp)];exact k7⟩,by rw[z4 _ (by simp)];exact k8,by omega,kO.trans z0⟩
   ·rintro i p h' hpx n1 n2 ⟨dd',q',k1,k3,k4,k5,k6,k7,k8,k9⟩
    have hpo:=hw.part p (ax9 hpx)
    obtain⟨pc,hpc⟩:∃x,L[i]?=some x:=⟨_,asO (by have:=(aFN.1 hpx).1;omega)⟩
    have he:=aD1 hpx hpc
    rw[hE]at he
    exact⟨dd',q',k1,k3.skip he (by omega) (by omega),k4,k5,k6,k7,k8,k9⟩
   ·have cl:∀(b:Nat) (c:CB),h[b]?=some c→(Gp h++[CB.live 1 false false [[.ptr 0 0 0]],.live 1 true false [[.int .i64 (room:Nat)]],LP])[b]?=some c.clean:=fun b c hc=>An (Es hc) _
    have ca:∀j,(Gp h++[CB.live 1 false false [[.ptr 0 0 0]],.live 1 true false [[.int .i64 (room:Nat)]],LP])[h.length+j]?=[CB.live 1 false false [[.ptr 0 0 0]],.live 1 true false [[.int .i64 (room:Nat)]],LP][j]?:=fun j=>by
     rw[as0 (by rw[Cf];omega),Cf,awW]
    have hLc:LP.clean=LP:=by rw[←hLP];rfl
    have hLq:LP.quiet LP=true:=by rw[←hLP];rfl
    have hok:Og (h++[.live 1 false false [[.ptr 0 0 0]],.live 1 true false [[.int .i64 (room:Nat)]],LP]) (Gp h++[.live 1 false false [[.ptr 0 0 0]],.live 1 true false [[.int .i64 (room:Nat)]],LP]):=by
     have:=Og.cl (H:=h++[.live 1 false false [[.ptr 0 0 0]],.live 1 true false [[.int .i64 (room:Nat)]],LP]) (Dh iq (by simp only[Ao,aAU,hLc,hLq];rfl))
     rw[show Gp (h++[CB.live 1 false false [[.ptr 0 0 0]],.live 1 true false [[.int .i64 (room:Nat)]],LP])=Gp h++[CB.live 1 false false [[.ptr 0 0 0]],.live 1 true false [[.int .i64 (room:Nat)]],LP] by simp only[Gp,aFJ,List.map_cons,List.map_nil,hLc];rfl]at this
     exact this
    refine⟨dd,q,⟨false,v,fl,false,by rw[hLK];exact cl 0 _ i0,cl 1 _ i1,cl 2 _ i2,cl 3 _ i3,cl 5 _ i5,cl 4 _ i4,?_,fun b hb1=>?_,Dh (Mc iq) (by simp only[Ao,aAU,hLc,hLq];rfl)⟩,rI,at6 _,⟨_,cl k _ hkb⟩,⟨false,ca 0⟩,⟨false,ca 1⟩,ca 2,by simp[Cf],hok⟩
    ·rcases QS.cln iQ with h|⟨b,w',rows,r,h1,h2,h3⟩
     ·exact .inl h
     ·exact .inr ⟨b,w',rows,r,h1,An h2 _,h3⟩
    ·have:=(iQ.lt b hb1).1
     have:=iB b hb1
     simp at this ⊢
     omega
   ·rintro o h' ⟨rfl,dd',q',⟨f',v',fl',w2,j0,j1,j2,j3,j5,j4,jQ,jB,jq⟩,k3,k4,⟨a0,k5⟩,⟨a1,k6⟩,⟨a2,k7⟩,k8,k9,kO⟩
    have hl5:=Am i5
    have hLc:LP.clean=LP:=by rw[←hLP];rfl
    have hLq:LP.quiet LP=true:=by rw[←hLP];rfl
    obtain⟨h1,hh1⟩:∃H:Aa,h++[.live 1 false false [[.ptr 0 0 0]],.live 1 true false [[.int .i64 (room:Nat)]],LP]=H:=⟨_,rfl⟩
    have hB1:h1[h.length+2]?=some LP:=by rw[←hh1,as0 (by omega),awW];rfl
    have hq1:Ao h1=true:=by rw[←hh1];exact Dh iq (by simp only[Ao,aAU,hLc,hLq];rfl)
    have hO:∀(b:Nat) (c:CB),h[b]?=some c→h1[b]?=some c:=fun b c hc=>by rw[←hh1];exact An hc _
    simp only[hh1]at kO ⊢
    obtain⟨es,e1,e2⟩:=anV h1 h' [] kO.sh
    have e1':Bo 0 h1 h'=some es:=e1
    simp only[azX]at e2
    have m0:=Og.old (hO 0 _ i0) j0 (by rw[hLK];rfl)
    have m1:=Og.old (hO 1 _ i1) j1 rfl
    obtain⟨x2,m2⟩:=kO.live j2
    have m3:=Og.old (hO 3 _ i3) j3 rfl
    have m5:=Og.old (hO 5 _ i5) j5 rfl
    obtain⟨x4,m4⟩:=kO.live j4
    obtain⟨xk,mk_⟩:=kO.live k5
    have mQ:=jQ.okw kO
    have mB:=Og.old hB1 k8 hLq
    have mqt:=kO.quiet hq1 jq
    have mln:h'.length≤(It h1 h').length:=by rw[amA kO.1];exact at6 _
    generalize hM:It h1 h'=M at *
    rw[atS,e1']
    have dne:∀(b:Nat) (c:CB),b≠h.length+2→M[b]?=some c→(M.set (h.length+2) .dead)[b]?=some c:=fun b c hn hc=>by rw[an9 (fun e=>hn e.symm)];exact hc
    have hkn:k≠h.length+2:=by omega
    have d0:=dne 0 _ (by omega) m0
    have d1:=dne 1 _ (by omega) m1
    have d2:=dne 2 _ (by omega) m2
    have d3:=dne 3 _ (by omega) m3
    have d5:=dne 5 _ (by omega) m5
    have d4:=dne 4 _ (by omega) m4
    have dk:=dne k _ hkn mk_
    have dq:Ao (M.set (h.length+2) .dead)=true:=Df mqt _ rfl
    have dl:(M.set (h.length+2) .dead).length=M.length:=by simp
    have dQ:QS v' q' (M.set (h.length+2) .dead) 4:=by
     rcases mQ with h1|⟨b,w0,rows0,r0,h1,h2,h3⟩
     ·exact .inl h1
     ·have hbb:=jB b (by rw[h1];simp[Jq])
      simp only[aoD,atN,or_false,not_or]at hbb
      exact .inr ⟨b,w0,rows0,r0,h1,dne b _ (by omega) h2,h3⟩
    subst hLP
    (have hb:=trivial;with_reducible repeat' (first|simp only[hb,Vc.down,seval,Ob.down,e2,mB]|refine Dp ?_ ?_<;>intro hb|refine fd ?_|fail))
    generalize hD:M.set (h.length+2) CB.dead=D at *
    (have hb:=trivial;with_reducible repeat' (first|simp only[hb,Vc.down,seval,Ob.down,g0,g1,g5,g7,g9,g10,dk,d5]|refine Dp ?_ ?_<;>intro hb|refine fd ?_|fail))
    have p5:=An d5 [CB.live 1 true true [[.int .i64 (room:Int)]]]
    have p4:=An d4 [CB.live 1 true true [[.int .i64 (room:Int)]]]
    have pq:Ao (D++[CB.live 1 true true [[.int .i64 (room:Int)]]])=true:=Dh dq rfl
    have pQ:=dQ.app [CB.live 1 true true [[.int .i64 (room:Int)]]]
    have pk:(D++[CB.live 1 true true [[.int .i64 (room:Int)]]])[D.length]?=some (.live 1 true true [[.int .i64 (room:Int)]]):=by simp
    have hEl:E.length≤w.parts.length:=by rw[←hE];simp[edg,tgt];omega
    have k3':=k3.done hEl
    have hD6:6≤D.length:=by omega
    have hvD:∀b∈Jq v',6≤b∧b∉[D.length]:=fun b hb1=>by
     have h1:=(dQ.lt b hb1).1
     have h2:=(jB b hb1).1
     exact⟨h2,by simp;omega⟩
    obtain⟨q1,hq1⟩:∃q,Fn.func 57=q:=⟨_,rfl⟩
    cases q' with
    |nil=>
     have b1:=aOZ pq p4 pQ
     rw[hq1]at b1
     (have hb:=trivial;with_reducible repeat' (first|simp only[hb,Vc.down,seval,Ob.down,p5,hq1,b1]|refine Dp ?_ ?_<;>intro hb|refine fd ?_|fail))
     refine Fg (kJ _ _ () ⟨by simp[up,g0],by simp[up,g1],by simp[up,g5],by simp[up,g7],by simp[up,g9],dd',[],D.length,?_,?_,.inr ⟨by simp[up],rfl,k3'⟩⟩ rfl)
     ·exact⟨_,_,_,_,An d0 _,An d1 _,An d2 _,An d3 _,An d5 _,An d4 _,dQ.app _,hvD,Dh dq rfl⟩
     ·omega
    |cons x q'=>
     simp only[aE5]at k4
     obtain⟨es,M4,b1,b2,b3,b4,⟨v2,fl2,b5,b6,b7⟩,b8⟩:=aI7 pq p4 pQ (by omega)
     rw[hq1]at b1
     have r5:=b8 _ _ (by omega) p5
     have rk:=b8 _ _ (by omega) pk
     (have hb:=trivial;with_reducible repeat' (first|simp only[hb,Vc.down,seval,Ob.down,p5,hq1,b1,b2,rk,r5]|refine Dp ?_ ?_<;>intro hb|refine fd ?_|fail))
     have sne:∀(b:Nat) (c:CB),b<D.length→b≠4→D[b]?=some c→(M4.set D.length (.live 1 true true [[.int .i64 (x:Int)]]))[b]?=some c:=fun b c h1 h2 hc=>by
      rw[an9 (by omega)];exact b8 b c h2 (An hc _)
     have hl4:=Am rk
     refine Fg (kJ _ _ () ⟨by simp[up,g0],by simp[up,g1],by simp[up,g5],by simp[up,g7],by simp[up,g9],dd',q',D.length,?_,by omega,.inl ⟨by simp[up],x,true,by simp[up],hD6,ap8 hl4,k3',by omega⟩⟩ rfl)
     refine⟨_,v2,fl2,true,sne 0 _ (by omega) (by omega) d0,sne 1 _ (by omega) (by omega) d1,sne 2 _ (by omega) (by omega) d2,sne 3 _ (by omega) (by omega) d3,sne 5 _ (by omega) (by omega) d5,by rw[an9 (by omega)];exact b5,?_,fun b hb1=>hvD b (by rw[←b7];exact hb1),Df b4 _ rfl⟩
     rcases b6 with h1|⟨b,w0,rows0,r0,h1,h2,h3⟩
     ·exact .inl h1
     ·have hbb:=hvD b (by rw[←b7,h1];simp[Jq])
      simp only[aoD,atN,or_false]at hbb
      exact .inr ⟨b,w0,rows0,r0,h1,by rw[an9 (fun e=>hbb.2 e.symm)];exact h2,h3⟩
  ·(have hb:=trivial;with_reducible repeat' (first|simp only[hb,Vc.down,seval,Ob.down,g11]|refine Dp ?_ ?_<;>intro hb|refine fd ?_|fail))
   exact kQ _ _ _ ⟨rfl,by simp[up,g7],dd,k,hD,hI⟩
 ·refine⟨by simp[up,g0],by simp[up,g1],by simp[up,g5],by simp[up,g7],by simp[up],Do N s Fe,[],M2.length,?_,by simp only[axS];omega,.inl ⟨by simp[up],s,true,by simp[up],by simp at b3;omega,by rw[as0 (at6 _),aAS];rfl,I0,by simp⟩⟩
  refine⟨true,v2,fl2,true,An j0 _,An j1 _,An j2 _,An j3 _,An j5 _,An c5 _,?_,?_,Dh c4 rfl⟩
  ·rcases c6 with h|⟨b,w',rows,r,h1,h2,h3⟩
   ·exact .inl h
   ·exact .inr ⟨b,w',rows,r,h1,An h2 _,h3⟩
  ·intro b hb1
   have:=c6.lt b hb1
   rw[c7]at hb1
   have h6:=b7 b hb1
   simp at h6
   exact⟨h6,by simp;omega⟩
 obtain⟨rfl,g7,dd,k,⟨f,v,fl,w',i0,i1,i2,i3,i5,i4,iQ,iB,iq⟩,hI⟩:=hk
 have hR:=hI.right hs hEo (by unfold Fe;omega)
 have hdl:=hI.i.len
 have hln:(dd.map Ho).length=N:=by simp[hdl]
 subst hLK
 (have hb:=trivial;with_reducible repeat' (first|simp only[hb,Vc.down,seval,Ob.down,g7,i3,i2,i0,hln]|refine Dp ?_ ?_<;>intro hb|refine fd ?_|fail))
 exact⟨f,dd,rfl,hdl,hR⟩
theorem Jg(L:List (Int × Bool)):∀x∈Hq L,(∃n,x=.int .i64 n)∨∃b,x=.bool b:=fun x hx=>by
 simp only[Hq,aFK,aoD,atN,or_false]at hx
 obtain⟨y,_,rfl|rfl⟩:=hx
 ·exact .inl ⟨_,rfl⟩
 ·exact .inr ⟨_,rfl⟩
theorem avS(L:List (Int × Bool)):(Hq L).all AV.flat=true:=awE.2 fun x hx=>by rcases Jg L x hx with⟨n,rfl⟩|⟨b,rfl⟩<;>rfl
theorem avL(L:List (Int × Bool)):(Hq L).all AV.isCell=true:=awE.2 fun x hx=>by rcases Jg L x hx with⟨n,rfl⟩|⟨b,rfl⟩<;>rfl
theorem aEP(L:List (Int × Bool))(d:Nat)(g:HF):Ax (Ek (d+1) g) (Hq L)=some (Hq L):=atC fun x hx=>by rcases Jg L x hx with⟨n,rfl⟩|⟨b,rfl⟩<;>rfl
theorem aB9(L:List (Int × Bool))(d:Nat)(g:HF):(Hq L).flatMap (Ak (d+1) g)=[]:=List.flatMap_eq_nil_iff.2 fun x hx=>by rcases Jg L x hx with⟨n,rfl⟩|⟨b,rfl⟩<;>rfl
theorem aBU(L:List (Int × Bool))(d:Nat)(m:List Nat):Bn.refL (Bn (d+1)) m (Hq L)=some (Hq L,m):=Ez fun x hx=>by rcases Jg L x hx with⟨n,rfl⟩|⟨b,rfl⟩<;>rfl
theorem aJP(L:List (Int × Bool))(d:Nat)(f:Nat→Nat):Ax (Bi (d+1) f) (Hq L)=some (Hq L):=atC fun x hx=>by rcases Jg L x hx with⟨n,rfl⟩|⟨b,rfl⟩<;>rfl
theorem aJ6(L:List (Int × Bool))(d:Nat):(Hq L).any (hasImm (d+1))=false:=List.any_eq_false.2 fun x hx=>by rcases Jg L x hx with⟨n,rfl⟩|⟨b,rfl⟩<;>simp[hasImm]
def nmB(w:Bd)(N:Nat)(L:List (Int × Bool)):Nat:=az6 (edg w (tgt L)) N w.parts.length
theorem avZ{w:Bd}{N:Nat}(hw:WOk w N)(h12:w.parts.length≤12)(d:Int){L:List (Int × Bool)}(hL12:L.length=12)(wf:Bool):
 Fo.call (.fn 43) [.ptr 0 0 0,.agg (Hq L)] [.live 4 false wf [[.int .i64 w.rooms,.int .i64 w.need,Eg 9 true w.nn (w.parts.map Aj.cells),.int .i64 d]]]=some (.ret (.int .i64 (nmB w N L:Nat)),[.live 4 false wf [[.int .i64 w.rooms,.int .i64 w.need,Eg 9 true w.nn (w.parts.map Aj.cells),.int .i64 d]]]):=by
 have n2:=hw.n2
 have n8:=hw.n8
 obtain⟨o,h',hc,f,ds,rfl,rfl,hdl,hR⟩:=avC hw h12 (d:=d) (s:=0) (by omega) hL12 rfl (wf:=false)
 have hne:=aKI (len:=w.parts.length) n2 (by omega) (by unfold Fe;omega) (atM hw (tgt L)) hR
 have hf1:=avS L
 have hf2:=avL L
 have hpl:(Hq L).length=24:=by rw[adS];omega
 have hd1:=atA (d:=ds) (a:=1) (by omega)
 have h1N:((1:Int)<(N:Int))=True:=eq_true (by omega)
 have hle:ds.getD 1 0≤1048576:=by
  by_cases e:ds.getD 1 0=Fe
  ·rw[e];exact at6 _
  ·have:=(On.num hR hR (by unfold Fe;omega) (by unfold Fe;omega) (by omega) (atM hw (tgt L)) (v:=1) (by omega)).2.2 e
   have:ds.getD 1 0<N:=this
   omega
 have hN1:nmB w N L=if ds.getD 1 0=Fe then w.parts.length+1 else ds.getD 1 0:=hne.symm
 rw[hN1]
 have hav:=aEP L
 have hlv:=aB9 L
 have hrf:=aBU L
 simp only[Int.natCast_zero]at hc
 generalize Hq L=ps at *
 have htk:awB 24 ps=ps:=aFG (by omega)
 generalize ds.getD 1 0=x at *
 generalize ds.map Ho=rows at *
 have hwr:IntKind.i64.wrap ((w.parts.length:Int)+1)=((w.parts.length+1:Nat):Int):=by have:=Ia (n:=((w.parts.length+1:Nat):Int)) (by omega) (by omega);simpa using this
 by_cases e:x=Fe
 ·have e1:((x:Int)==1048576)=true:=by rw[e];rfl
  rw[if_pos e]
  refine ce Tryd.func43 ?_
  simp only[Tryd.f43]
  (have hb:=trivial;with_reducible repeat' (first|simp only[hb,Vc.down,seval,aN0.down,hpl,hf1,hf2,htk,hav,hlv,hrf,hc,hd1,h1N,e1,hwr,ar8]|refine Dp ?_ ?_<;>intro hb|refine fd ?_|fail))
 ·have e1:((x:Int)==1048576)=false:=by simp;exact fun h=>e (by unfold Fe;omega)
  rw[if_neg e]
  refine ce Tryd.func43 ?_
  simp only[Tryd.f43]
  (have hb:=trivial;with_reducible repeat' (first|simp only[hb,Vc.down,seval,aN0.down,hpl,hf1,hf2,htk,hav,hlv,hrf,hc,hd1,h1N,e1,ar8]|refine Dp ?_ ?_<;>intro hb|refine fd ?_|fail))
theorem awP{w:Bd}{d:Int}(h12:w.parts.length≤12):(Cm w d).length=12:=by simp[Cm];omega
theorem axI{w:Bd}{N:Nat}{d:Int}:nmB w N (Cm w d)=ay3 w N d:=by unfold nmB ay3;rw[axG]
theorem aAI{w:Bd}{N:Nat}(hw:WOk w N)(h12:w.parts.length≤12)(hs:w.small)(d:Int)(hb0:(Jz w&&aoK d)=true):Fo.call (.fn 17) [.agg [.int .i64 w.rooms,.int .i64 w.need,Eg 9 true w.nn (w.parts.map Aj.cells)],.int .i64 d] []=some (.ret (.tup [.int .i64 (ay3 w N d:Nat),.int .i64 0]),[]):=by
 have h:=ax4 w hs d
 rw[hb0]at h
 have hp:=aDL w d false h12
 have hn:=avZ hw h12 d (awP (d:=d) h12) false
 rw[axI]at hn
 have hf1:=avS (Cm w d)
 have hf2:=avL (Cm w d)
 have hav:=aEP (Cm w d)
 have hlv:=aB9 (Cm w d)
 have hrf:=aBU (Cm w d)
 have hrn:=aJP (Cm w d)
 have hhi:=aJ6 (Cm w d)
 generalize Hq (Cm w d)=ps at *
 (refine ce Tryd.func17 ?_;simp only[Tryd.f17];(have hb:=trivial;with_reducible repeat' (first|simp only[hb,Vc.down,seval,aNA.down,h,hp,hn,hf1,hf2,hav,hlv,hrf,hrn,hhi]|refine Dp ?_ ?_<;>intro hb|refine fd ?_|fail)))
theorem avK{α:Type}{d:List AV→Option α}{f:α→List AV}(hd:∀cs x,d cs=some x→cs=f x):∀{rows:List (List AV)} {l:List α},Ax d rows=some l→rows=l.map f
 | [],l,h=>by simp[Ax]at h;subst h;rfl
 |r::rows,l,h=>by
  simp only[Ax,aFT,aAV]at h
  obtain⟨x,h1,l',h2,rfl⟩:=h
  rw[hd r x h1,avK hd h2];rfl
def dSl{α:Type}(n:Nat)(fl:Bool)(d:List AV→Option α):AV→Option (Bool × List α)
 | .nils=>some (false,[])
 | .imm n' fl' rows=>if n'=n∧fl'=fl then(Ax d rows).map fun l=>(true,l)else none
 |_=>none
theorem aJ4{α:Type}{n:Nat}{fl:Bool}{d:List AV→Option α}{f:α→List AV}(hd:∀cs x,d cs=some x→cs=f x){v:AV}{x:Bool × List α}(h:dSl n fl d v=some x):v=Eg n fl x.1 (x.2.map f):=by
 unfold dSl at h
 split at h
 ·cases h;rfl
 ·split at h
  ·rename_i hq
   obtain⟨rfl,rfl⟩:=hq
   obtain⟨l,h1,rfl⟩:=aAV.1 h
   rw[avK hd h1]
   cases l<;>rfl
  ·cases h
 ·cases h
def aA9:List AV→Option Aj
 | [.int .i64 a,.int .i64 b,.bool c,.bool d,.int .i64 e,.int .i64 f,.bool g,.int .i64 h,.int .i64 i]=>some ⟨a,b,c,d,e,f,g,h,i⟩
 |_=>none
theorem aC9(cs:List AV)(x:Aj)(h:aA9 cs=some x):cs=x.cells:=by
 unfold aA9 at h
 split at h
 ·cases h;rfl
 ·cases h
def aBP:List AV→Option (List (Int × Bool))
 | []=>some []
 | .int .i64 a::.bool b::l=>(aBP l).map fun r=>(a,b)::r
 |_=>none
theorem axV:∀(cs:List AV) (x:List (Int × Bool)),aBP cs=some x→cs=Hq x
 | [],x,h=>by simp[aBP]at h;subst h;rfl
 | .int .i64 a::.bool b::l,x,h=>by
   simp only[aBP,aAV]at h
   obtain⟨r,h1,rfl⟩:=h
   rw[axV l r h1];rfl
def aM8:List AV→Aa→Option (Cb × Aa)
 | [.ptr 0 0 0,.agg ps],[.live 4 false wf [[.int .i64 rooms,.int .i64 need,sl,.int .i64 d]]]=>
   (dSl 9 true aA9 sl).bind fun x=>(aBP ps).bind fun L=>if(Jz ⟨rooms,need,x.1,x.2⟩&&decide (L.length=12))=true then
     some (.ret (.int .i64 (nmB ⟨rooms,need,x.1,x.2⟩ rooms.toNat L:Nat)),[.live 4 false wf [[.int .i64 rooms,.int .i64 need,sl,.int .i64 d]]])else none
 |_,_=>none
def pr2:Ht:=⟨fun f=>if f=43 then some aM8 else pr f,pr.md⟩
theorem aO3(f:Nat)(h:pr2 f=none):pr f=none:=by
 simp only[pr2]at h
 split at h
 ·cases h
 ·exact h
theorem aLM:∀f p,pr2 f=some p→∀a h r,p a h=some r→Fo.call (.fn f) a h=some r:=by
 intro f p hp a h r hr
 simp only[pr2]at hp
 split at hp
 ·rename_i hf
  subst hf
  cases hp
  unfold aM8 at hr
  split at hr
  ·rename_i ps wf rooms need sl d
   simp only[aFT]at hr
   obtain⟨x,h1,L,h2,h3⟩:=hr
   split at h3
   ·rename_i hs
    simp only[Bool.and_eq_true,decide_eq_true_eq]at hs
    cases h3
    obtain⟨N,hw,h12⟩:=ayM hs.1
    have hN:rooms.toNat=N:=by have:=hw.rooms;simp only at this;omega
    rw[aJ4 aC9 h1,axV _ _ h2,hN]
    exact avZ hw h12 d hs.2 wf
   ·cases h3
  ·cases hr
 ·exact aF9 hp hr
theorem aAQ:(Le Tryd.prog pr2 100).call (.fn 10) [] []=some (.ret (.bool true),[]):=by kernel_rfl
theorem aAX:Fo.call (.fn 10) [] []=some (.ret (.bool true),[]):=aDH (pr:=pr) (pr2:=pr2) rfl aO3 aLM aAQ
def axO(w:Bd):Bool:=decide ((w.parts.length:Int)≤15)
theorem aG7(w:Bd):Fo.call (.fn 9) [.agg [.int .i64 w.rooms,.int .i64 w.need,Eg 9 true w.nn (w.parts.map Aj.cells)]] []=some (.ret (.bool (axO w)),[]):=by
 cases c:axO w
 ·have h:decide ((w.parts.length:Int)≤15)=false:=c
  (refine ce Tryd.func9 ?_;simp only[Tryd.f9];(have hb:=trivial;with_reducible repeat' (first|simp only[hb,Va.down,seval,TY9.down,h,ar8]|refine Dp ?_ ?_<;>intro hb|refine fd ?_|fail)))
 ·have h:decide ((w.parts.length:Int)≤15)=true:=c
  (refine ce Tryd.func9 ?_;simp only[Tryd.f9];(have hb:=trivial;with_reducible repeat' (first|simp only[hb,Va.down,seval,TY9.down,h,ar8]|refine Dp ?_ ?_<;>intro hb|refine fd ?_|fail)))
theorem atJ(hk:Fo.call (.fn 10) [] []=some (.ret (.bool true),[]))(w:Bd)(hs:w.small)(d:Int):Fo.call (.fn 7) [.agg [.int .i64 w.rooms,.int .i64 w.need,Eg 9 true w.nn (w.parts.map Aj.cells)],.int .i64 d] []=some (.ret (.bool true),[]):=by
 have h1:=aG7 w
 have h2:=aGT w hs
 have h3:=aJD w hs
 have h4:=aBW d
 have h0:=azP w hs d
 cases c1:axO w with
 |false=>
  rw[c1]at h1
  (refine ce Tryd.func7 ?_;simp only[Tryd.f7];(have hb:=trivial;with_reducible repeat' (first|simp only[hb,Va.down,seval,TY7.down,h1,hk,ar8]|refine Dp ?_ ?_<;>intro hb|refine fd ?_|fail)))
 |true=>
 rw[c1]at h1
 cases c2:Jz w with
 |false=>
  rw[c2]at h0 h2 h3
  have h0:=h0 rfl
  simp only[aFO,if_false]at h2
  (refine ce Tryd.func7 ?_;simp only[Tryd.f7];(have hb:=trivial;with_reducible repeat' (first|simp only[hb,Va.down,seval,TY7.down,h1,hk,h0,h2,h3]|refine Dp ?_ ?_<;>intro hb|refine fd ?_|refine aJL ?_|fail)))
 |true=>
 have h1N:=fun N hw h12=>aAI (N:=N) (w:=w) hw h12 hs d
 rw[c2]at h0 h2 h3 h1N
 simp only[if_true]at h2
 cases c3:aoK d with
 |false=>
  rw[c3]at h0 h4
  have h0:=h0 rfl
  (refine ce Tryd.func7 ?_;simp only[Tryd.f7];(have hb:=trivial;with_reducible repeat' (first|simp only[hb,Va.down,seval,TY7.down,h1,hk,h0,h2,h3,h4]|refine Dp ?_ ?_<;>intro hb|refine fd ?_|refine aJL ?_|fail)))
 |true=>
 rw[c3]at h4 h1N
 obtain⟨N,hw,h12⟩:=ayM c2
 have h5:=h1N N hw h12 rfl
 have h6:=aBX hw d
 have h7:((ay3 w N d:Int)==(ay3 w N d:Int))=true:=by simp
 (refine ce Tryd.func7 ?_;simp only[Tryd.f7];(have hb:=trivial;with_reducible repeat' (first|simp only[hb,Va.down,seval,TY7.down,h1,hk,h2,h3,h4,h5,h6,h7]|refine Dp ?_ ?_<;>intro hb|refine fd ?_|refine aJL ?_|fail)))
theorem atQ(hk:Fo.call (.fn 10) [] []=some (.ret (.bool true),[])):∀avs,awZ Tryd.prog 7 Tryd.f7.params.toList avs→Fo.call (.fn 7) avs []=some (.ret (.bool true),[]):=by
 intro avs h
 rw[show Tryd.f7.params.toList=[24,3]from rfl]at h
 match avs,h with
 | [a,b],h=>
   obtain⟨w,rfl,hs⟩:=aHF h.1
   obtain⟨d,rfl,_⟩:=aJO h.2.1
   exact atJ hk w hs d
 | [],h=>exact h.elim
 | [_],h=>exact h.2.elim
 |_::_::_::_,h=>exact h.2.2.elim
end Go.Proofs.YtckfcfcmfjfchaaDoor
