/- The functions of the layer, walked. -/
import Derived.Test.YtcncggaobhbomaaGreatDoorPartAA
import Derived.Test.YtcncggaobhbomaaGreatDoorLibE
import Derived.Test.YtcncggaobhbomaaGreatDoorLibD
open List renaming getElem?_set_ne→aaN,replicate→adC,mem_cons→adQ,getElem?_append_left→ae2,getElem?_set_self→afJ,mem_cons_self→af8,getElem?_eq_getElem→ag1,getElem?_append_right→ai0,not_mem_nil→ajM,length_map→ajV,take→aj6,getElem?_map→aj8,all_eq_true→akX,length_replicate→akY,length_nil→ak0,mem_of_getElem?→ak2,mem_cons_of_mem→alC,nil_append→aoR,getElem?_eq_some_iff→aq3,map_set→aq5,all_cons→aq6,length_set→aq8,length_cons→arA,take_of_length_le→arB,ext_getElem?→arF,replicate_succ→as4,map_append→atH,mem_flatMap→auE,getElem?_replicate→auQ
open Nat renaming le_refl→ajY,add_sub_cancel_left→akZ,sub_self→aq4
open Option renaming map_eq_some_iff→aq7,bind_eq_some_iff→avR
open Int renaming toNat_natCast→auG
set_option linter.unusedSimpArgs false
set_option linter.unusedVariables false
namespace Go.Proofs.YtcncggaobhbomaaGreatDoor
open Go.Ev Go Go.Ev.Net
set_option maxRecDepth 100000
set_option maxHeartbeats 16000000
def QS(v:AV)(q:List Nat)(H:Qa)(p:Nat):Prop:=
 (v=.nils∧q=[])∨∃b w rows r,v=.slr 1 b r q.length∧H[b]?=some (.live 1 true w rows)∧b≠p∧rows.drop r=q.map Zq∧r+q.length=rows.length
def bV:AV→List Nat
 | .slr _ b _ _=>[b]
 |_=>[]
theorem iK{x:Option (List AV)}{vs:List AV}{h:Qa}{Q:Tu→Qa→Prop}(hx:x=some vs)(k:Q (.ret (bM vs)) h):RtS x h Q:=by subst hx;exact k
theorem ak3{H:Qa}{p:Nat}{fl w:Bool}{v:AV}{q:List Nat}(x:Nat)(hp:H[p]?=some (.live 1 fl w [[v]]))(hQ:QS v q H p)(hq:q.length≤100000000):
 ShQ Up 75 [.ptr p 0 0,.int .i64 (x:Int)] H fun o G=>o=.ret (.tup [])∧∃v' fl',G[p]?=some (.live 1 fl' true [[v']])∧QS v' (q++[x]) G p∧Xr (p::bV v) H G∧(∀b∈bV v,G[b]?=some .dead)∧(Qy H=true→Qy G=true)∧∀b∈bV v',H.length≤b:=by
 have hpl:=Qv hp
 refine ae0 rfl Tryz.func75 rfl rfl ?_
 simp only[Tryz.f75]
 refine Uj (fun KK iN hK=>?_)
 have hA:=Qg hp
 have hS:=Yg hpl
 rcases hQ with⟨rfl,rfl⟩|⟨b,w',rows,r,rfl,hrb,hbp,hd,hl⟩
 ·(have hb:=trivial;with_reducible repeat' (first|simp only[hb,Va.down,seval,avI.down,hp,hA,hS]|refine Qp ?_ ?_<;>intro hb|refine fd ?_|fail))
  refine hK _ ?_
  rw[bB]
  refine iK (vs:=[]) (by simp only[Va.down,seval,avI.down]) ⟨rfl,.slr 1 (H.length+1) 0 1,false,?_,.inr ⟨H.length+1,false,[Zq x],0,rfl,?_,by omega,rfl,rfl⟩,⟨by simp,fun b hb1 hn=>?_⟩,fun b hb1=>by simp[bV]at hb1,fun hqq=>Uz (Uy hqq p rfl) rfl,fun b hb1=>by simp[bV]at hb1;omega⟩
  ·rw[ae2 (by simpa using hpl),afJ hpl]
  ·rw[Zy];rfl
  ·rw[ae2 (by simpa using hb1),aaN (fun e=>hn (by rw[e];exact af8 ..))]
 ·have hbl:=Qv hrb
  have hB:=Qg hrb
  have hSb:=Yg hbl
  have h39:(q.length+1≤549755813888)=True:=eq_true (by omega)
  have hg:∀l,(H.set b .dead++l)[p]?=some (.live 1 fl w [[.slr 1 b r q.length]]):=fun l=>by
   rw[ae2 (by simpa using hpl),aaN hbp];exact hp
  have hg2:∀l c,(H.set b .dead++l).set p c=(H.set b .dead).set p c++l:=fun l c=>Yg (by simpa using hpl) l c
  (have hb:=trivial;with_reducible repeat' (first|simp only[hb,Va.down,seval,avI.down,hp,hA,hS,hrb,hB,hSb,hd,hl,h39,hg,hg2,bP,Zy,aq8,ajV]|refine Qp ?_ ?_<;>intro hb|refine fd ?_|fail))
  have hsl:((H.set b .dead).set p (CB.live 1 false true [[AV.slr 1 (H.length+1) 0 (q.length+1)]])).length=H.length:=by simp
  refine hK _ ?_
  rw[bB]
  refine iK (vs:=[]) (by simp only[Va.down,seval,avI.down]) ⟨rfl,.slr 1 (H.length+1) 0 (q.length+1),false,?_,.inr ⟨H.length+1,false,(q++[x]).map Zq,0,by simp,?_,by omega,rfl,by simp⟩,⟨by simp,fun c hc hn=>?_⟩,fun c hc=>?_,fun hqq=>Uz (Uy (Uy hqq b rfl) p rfl) rfl,fun c hc=>by simp[bV]at hc;omega⟩
  ·rw[ae2 (by omega),afJ (by simpa using hpl)]
  ·rw[ai0 (by omega),hsl,akZ];simp[Zq]
  ·have n1:c≠p:=fun e=>hn (by rw[e];exact af8 ..)
   have n2:c≠b:=fun e=>hn (by rw[e];simp[bV])
   rw[ae2 (by omega),aaN (fun e=>n1 e.symm),aaN (fun e=>n2 e.symm)]
  ·simp[bV]at hc;subst hc
   rw[ae2 (by omega),aaN (fun e=>hbp e.symm),afJ hbl]
theorem aYU(b r k:Nat):slx Tryz.prog 50 (some (.slr 1 b r (k+1))) (some (some (.int .i64 1))) (some none)=some (.ret (.slr 1 b (r+1) k),[]):=by
 have hz:Zo Tryz.prog 3=some 1:=by kernel_rfl
 simp only[slx,Option.bind_some,uM,Tryz.underlying50,hz,Xv]
 simp[Xv,r1]
 omega
theorem as7{H:Qa}{p:Nat}{fl w:Bool}{v:AV}(hp:H[p]?=some (.live 1 fl w [[v]]))(hQ:QS v [] H p):
 Up.call (.sh 76) [.ptr p 0 0] H=some (.ret (.tup [.int .i64 0,.bool false]),H):=by
 rcases hQ with⟨rfl,_⟩|⟨b,w',rows,r,rfl,hrb,hbp,hd,hl⟩
 ·(refine csh Tryz.func76 ?_;simp only[Tryz.f76];(have hb:=trivial;with_reducible repeat' (first|simp only[hb,Va.down,seval,atI.down,hp]|refine Qp ?_ ?_<;>intro hb|refine fd ?_|fail)))
 ·simp only[ak0]at hp
  (refine csh Tryz.func76 ?_;simp only[Tryz.f76];(have hb:=trivial;with_reducible repeat' (first|simp only[hb,Va.down,seval,atI.down,hp]|refine Qp ?_ ?_<;>intro hb|refine fd ?_|fail)))
theorem avU{H:Qa}{p:Nat}{fl w:Bool}{v:AV}{x:Nat}{q:List Nat}(hp:H[p]?=some (.live 1 fl w [[v]]))(hQ:QS v (x::q) H p)(hq:q.length≤100000000):
 ShQ Up 76 [.ptr p 0 0] H fun o G=>o=.ret (.tup [.int .i64 (x:Int),.bool true])∧∃v' fl',G[p]?=some (.live 1 fl' true [[v']])∧QS v' q G p∧Xr [p] H G∧bV v'=bV v∧(Qy H=true→Qy G=true):=by
 have hpl:=Qv hp
 rcases hQ with⟨_,h⟩|⟨b,w',rows,r,rfl,hrb,hbp,hd,hl⟩
 ·cases h
 have hr0:rows[r]?=some [.int .i64 (x:Nat)]:=by
  have:=congrArg (·[0]?) hd
  simpa [Zq]using this
 have hd2:rows.drop (r+1)=q.map Zq:=by
  have:=congrArg (·.drop 1) hd
  simpa [List.drop_drop]using this
 simp only[arA]at hl hp
 have h1:decide (((q.length+1:Nat):Int)=0)=false:=decide_eq_false (by omega)
 have h2:((((q.length+1:Nat):Int))==0)=false:=by simp;omega
 have h3:((0:Int)<((q.length+1:Nat):Int))=True:=eq_true (by omega)
 have h4:((1:Int)≤((q.length+1:Nat):Int))=True:=eq_true (by omega)
 refine ae0 rfl Tryz.func76 rfl rfl ?_
 simp only[Tryz.f76]
 refine Uj (fun KK iN hK=>?_)
 (have hb:=trivial;with_reducible repeat' (first|simp only[hb,Va.down,seval,atI.down,hp,hrb,hr0,h1,h2,h3,h4,aYU]|refine Qp ?_ ?_<;>intro hb|refine fd ?_|fail))
 refine hK _ ?_
 rw[ad3]
 refine iK (vs:=[.int .i64 (x:Int),.bool true]) (by simp only[Va.down,seval,atI.down]) ⟨rfl,.slr 1 b (r+1) q.length,false,afJ hpl,.inr ⟨b,w',rows,r+1,rfl,?_,hbp,hd2,by omega⟩,⟨by simp,fun b' _ hn=>aaN (fun e=>hn (by simp[e]))⟩,rfl,fun hqq=>Uy hqq p rfl⟩
 rw[aaN (fun e=>hbp e.symm)];exact hrb
theorem avK{H:Qa}{p:Nat}{fl w:Bool}{v:AV}{q:List Nat}(x:Nat)(hp:H[p]?=some (.live 1 fl w [[v]]))(hQ:QS v q H p)(hq:q.length≤100000000):
 ShQ Up 79 [.ptr p 0 0,.int .i64 (x:Int)] H fun o G=>o=.ret (.tup [])∧∃v' fl',G[p]?=some (.live 1 fl' true [[v']])∧QS v' (x::q) G p∧Xr [p] H G∧(Qy H=true→Qy G=true)∧∀b∈bV v',H.length≤b:=by
 have hpl:=Qv hp
 have hA:=Qg hp
 have hS:=Yg hpl
 have keep:∀c l,Xr [p] H (H.set p c++l):=fun c l=>⟨by simp,fun b hb1 hn=>by rw[ae2 (by simpa using hb1),aaN (fun e=>hn (by simp[e]))]⟩
 have hg:∀c l,(H.set p c++l)[p]?=some c:=fun c l=>by rw[ae2 (by simpa using hpl),afJ hpl]
 refine ae0 rfl Tryz.func79 rfl rfl ?_
 simp only[Tryz.f79]
 refine Uj (fun KK iN hK=>?_)
 rcases hQ with⟨rfl,rfl⟩|⟨b,w',rows,r,rfl,hrb,hbp,hd,hl⟩
 ·(have hb:=trivial;with_reducible repeat' (first|simp only[hb,Va.down,seval,ahM.down,hp,hA,hS]|refine Qp ?_ ?_<;>intro hb|refine fd ?_|fail))
  refine hK _ ?_
  rw[bB]
  refine iK (vs:=[]) (by simp only[Va.down,seval,ahM.down]) ⟨rfl,_,_,hg _ _,.inr ⟨H.length,false,[Zq x],0,rfl,?_,by omega,rfl,rfl⟩,keep _ _,fun hqq=>Uz (Uy hqq p rfl) rfl,fun b hb1=>by simp[bV]at hb1;omega⟩
  rw[bP];rfl
 ·have hB:=Qg hrb
  cases q with
  |nil=>
   simp only[ak0]at hl hp hA
   have hrl:(r≤rows.length)=True:=eq_true (by omega)
   (have hb:=trivial;with_reducible repeat' (first|simp only[hb,Va.down,seval,ahM.down,hp,hA,hS,hrb,hB,hrl]|refine Qp ?_ ?_<;>intro hb|refine fd ?_|fail))
   refine hK _ ?_
   rw[bB]
   refine iK (vs:=[]) (by simp only[Va.down,seval,ahM.down]) ⟨rfl,_,_,hg _ _,.inr ⟨H.length,false,[Zq x],0,rfl,?_,by omega,rfl,rfl⟩,keep _ _,fun hqq=>Uz (Uy hqq p rfl) rfl,fun b hb1=>by simp[bV]at hb1;omega⟩
   rw[bP];rfl
  |cons y q=>
   have hq2:(1+(q.length+1)≤549755813888)=True:=eq_true (by simp at hq;omega)
   have hrl:(r+(q.length+1)≤rows.length)=True:=eq_true (by simp at hl;omega)
   have htk:aj6 q.length (List.map Zq q)=List.map Zq q:=arB (by simp)
   (have hb:=trivial;with_reducible repeat' (first|simp only[hb,Va.down,seval,ahM.down,hp,hA,hS,hrb,hB,hd,hq2,hrl,htk,bP,Zy,aq8,ajV]|refine Qp ?_ ?_<;>intro hb|refine fd ?_|fail))
   refine hK _ ?_
   rw[bB]
   refine iK (vs:=[]) (by simp only[Va.down,seval,ahM.down]) ⟨rfl,_,_,hg _ _,.inr ⟨H.length+1,false,(x::y::q).map Zq,0,by simp;omega,?_,by omega,rfl,by simp⟩,keep _ _,fun hqq=>Uz (Uy hqq p rfl) rfl,fun b hb1=>by simp[bV]at hb1;omega⟩
   rw[Zy];rfl
theorem bgC(w:Qh)(d r:Int)(wf:Bool):Up.call (.fn 77) [.ptr 0 0 0,.int .i64 r] [.live 4 false wf [[.int .i64 w.rooms,.int .i64 w.need,Rn 9 true w.nn (w.parts.map Qc.cells),.int .i64 d]]]=some (.ret (.func (.func 93) [] [.ptr 1 0 0,.ptr 2 0 0]),[.live 4 false wf [[.int .i64 w.rooms,.int .i64 w.need,Rn 9 true w.nn (w.parts.map Qc.cells),.int .i64 d]],.live 1 false false [[.ptr 0 0 0]],.live 1 true false [[.int .i64 r]]]):=by
 (refine ce Tryz.func77 ?_;simp only[Tryz.f77];(have hb:=trivial;with_reducible repeat' (first|simp only[hb,Vc.down,seval]|refine Qp ?_ ?_<;>intro hb|refine fd ?_|fail)))
theorem bfX{w:Qh}{N:Nat}(hw:qK w N){d r:Int}{y:AV}{lb rb kb:Nat}(cH:Nat→Qa→Prop)
 (hL:∀i h,cH i h→∃w1,h[lb]?=some (.live 1 false w1 [[.ptr kb 0 0]])) (hK:∀i h,cH i h→∃w2,h[kb]?=some (.live 4 false w2 [[.int .i64 w.rooms,.int .i64 w.need,Rn 9 true w.nn (w.parts.map Qc.cells),.int .i64 d]])) (hR:∀i h,cH i h→∃w3,h[rb]?=some (.live 1 true w3 [[.int .i64 r]]))
 (hA:∀i h fl wf (rows:List (List AV)),cH i h→cH i (h++[.live 9 fl wf rows]))
 (hS:∀(i:Nat) (p:Qc) (u:Int) h,w.parts[i]?=some p→((p.one=r∧u=p.other)∨(p.one≠r∧p.other=r∧u=p.one))→cH i h→∃es,cl Up h (some y) (some [.int .i64 i,.int .i64 u])=some (.ret (.bool true),es)∧cH (i+1) (Ry h es))
 (hN:∀(i:Nat) (p:Qc) h,w.parts[i]?=some p→p.one≠r→p.other≠r→cH i h→cH (i+1) h)
 {h0:Qa} (h0I:cH 0 h0):ShQ Up 93 [y,.ptr lb 0 0,.ptr rb 0 0] h0 fun o h'=>o=.ret (.tup [])∧cH w.parts.length h':=by
 obtain⟨w1,hl⟩:=hL _ _ h0I
 obtain⟨w2,hk0⟩:=hK _ _ h0I
 have hlen:=hw.len
 refine ae0 rfl Tryz.func93 rfl rfl ?_
 simp only[Tryz.f93]
 (have hb:=trivial;with_reducible repeat' (first|simp only[hb,Vc.down,seval,aiV.down,hl,hk0,ajV]|refine Qp ?_ ?_<;>intro hb|refine fd ?_|fail))
 refine Wz (lst 41 w.parts (fun i (_:Unit) t h=>t 0=y∧t 1=.ptr lb 0 0∧t 2=.ptr rb 0 0∧t 11=Rn 9 true w.nn (w.parts.map Qc.cells)∧t 12=.int .i64 (w.parts.length:Nat)∧t 13=.int .i64 (i:Int)∧cH i h) (fun _ _=>()) (fun _ e t h=>e=.exit 0∧cH w.parts.length h) ?_ ?_ () _ _ ?_) (fun e t h hk=>?_)
 ·rintro _ t h Q' kQ ⟨g0,g1,g2,g11,g12,g13,hI⟩
  (have hb:=trivial;with_reducible repeat' (first|simp only[hb,Vc.down,seval,aiV.down,g12,g13,Int.lt_irrefl,decide_false]|refine Qp ?_ ?_<;>intro hb|refine fd ?_|fail))
  exact kQ _ _ _ ⟨rfl,hI⟩
 ·rintro p rest i _ t h J Q' kJ kQ hx hi ⟨g0,g1,g2,g11,g12,g13,hI⟩
  have hdd:decide ((i:Int)<(w.parts.length:Int))=true:=decide_eq_true (by omega)
  have hww:=Tc hi (by unfold maxLen;omega)
  have hpo:=hw.part p (ak2 hx)
  obtain⟨w3,hr⟩:=hR _ _ hI
  have hr1:=Qg hr
  have hv1:=hA _ _ true true [p.cells] hI
  have c1:decide ((0:Int)≤p.other)=true:=decide_eq_true hpo.2.1.1
  have c2:decide ((0:Int)≤p.one)=true:=decide_eq_true hpo.1.1
  have c3:decide ((0:Int)≤ -1)=false:=rfl
  by_cases e1:p.one=r
  ·have q1:(r==p.one)=true:=by simp[e1]
   obtain⟨es,hes,hv2⟩:=hS i p p.other _ hx (.inl ⟨e1,rfl⟩) hv1
   simp only[Qc.cells]at hes hv2
   (have hb:=trivial;with_reducible repeat' (first|simp only[hb,Vc.down,seval,aiV.down,g0,g1,g2,g11,g12,g13,hdd,hww,hx,hr,hr1,q1,c1,hes,Qc.cells]|refine Qp ?_ ?_<;>intro hb|refine fd ?_|fail))
   exact Qj (kJ _ _ () ⟨by simp[up,g0],by simp[up,g1],by simp[up,g2],by simp[up,g11],by simp[up,g12],by simp[up],hv2⟩ rfl)
  ·have q1:(r==p.one)=false:=by simp;exact fun e=>e1 e.symm
   by_cases e2:p.other=r
   ·have q2:(r==p.other)=true:=by simp[e2]
    obtain⟨es,hes,hv2⟩:=hS i p p.one _ hx (.inr ⟨e1,e2,rfl⟩) hv1
    simp only[Qc.cells]at hes hv2
    (have hb:=trivial;with_reducible repeat' (first|simp only[hb,Vc.down,seval,aiV.down,g0,g1,g2,g11,g12,g13,hdd,hww,hx,hr,hr1,q1,q2,c2,hes,Qc.cells]|refine Qp ?_ ?_<;>intro hb|refine fd ?_|fail))
    exact Qj (kJ _ _ () ⟨by simp[up,g0],by simp[up,g1],by simp[up,g2],by simp[up,g11],by simp[up,g12],by simp[up],hv2⟩ rfl)
   ·have q2:(r==p.other)=false:=by simp;exact fun e=>e2 e.symm
    have hv2:=hN i p _ hx e1 e2 hv1
    simp only[Qc.cells]at hv2
    (have hb:=trivial;with_reducible repeat' (first|simp only[hb,Vc.down,seval,aiV.down,g0,g1,g2,g11,g12,g13,hdd,hww,hx,hr,hr1,q1,q2,c3,Qc.cells]|refine Qp ?_ ?_<;>intro hb|refine fd ?_|fail))
    exact Qj (kJ _ _ () ⟨by simp[up,g0],by simp[up,g1],by simp[up,g2],by simp[up,g11],by simp[up,g12],by simp[up],hv2⟩ rfl)
 ·exact⟨by simp[up,aU],by simp[up,aU],by simp[up,aU],by simp[up],by simp[up],by simp[up],h0I⟩
 obtain⟨rfl,hI⟩:=hk
 (have hb:=trivial;with_reducible repeat' (first|simp only[hb,Vc.down,seval,aiV.down]|refine Qp ?_ ?_<;>intro hb|refine fd ?_|fail))
 exact hI
theorem QS.cln{v:AV}{q:List Nat}{H:Qa}{p:Nat}(h:QS v q H p):QS v q (Xb H) p:=by
 rcases h with h|⟨b,w,rows,r,h1,h2,h3,h4,h5⟩
 ·exact .inl h
 ·exact .inr ⟨b,false,rows,r,h1,Vf h2,h3,h4,h5⟩
theorem QS.lt{v:AV}{q:List Nat}{H:Qa}{p:Nat}(h:QS v q H p):∀b∈bV v,b<H.length∧∃w rows,H[b]?=some (.live 1 true w rows):=by
 rcases h with⟨rfl,_⟩|⟨b,w,rows,r,rfl,h2,_⟩
 ·intro b hb1;simp[bV]at hb1
 ·intro b' hb1;simp[bV]at hb1;subst hb1;exact⟨Qv h2,w,rows,h2⟩
theorem aw8{h:Qa}(hq:Qy h=true){p:Nat}{fl w:Bool}{v:AV}{q:List Nat}(x:Nat)(hp:h[p]?=some (.live 1 fl w [[v]]))(hQ:QS v q h p)(hl:q.length≤100000000):
 ∃es M,cl Up h (some (.func (.func 75) [] [])) (some [.ptr p 0 0,.int .i64 (x:Int)])=some (.ret (.tup []),es)∧Ry h es=M∧h.length≤M.length∧Qy M=true∧(∃v' fl',M[p]?=some (.live 1 fl' true [[v']])∧QS v' (q++[x]) M p∧∀b∈bV v',h.length≤b)∧(∀b c,b∉p::bV v→h[b]?=some c→M[b]?=some c)∧∀b∈bV v,M[b]?=some .dead:=by
 have hX:∀G:Qa,(∃f row,G[p]?=some (.live 1 f true row))→(∀b∈bV v,G[b]?=some .dead)→∀b∈p::bV v,b<h.length∧∀c0 c,h[b]?=some c0→G[b]?=some c→c0.isLive=true∧c0.quiet c=false:=fun G g1 g2 b hb1=>by
  rcases adQ.1 hb1 with rfl|hb1
  ·obtain⟨f,row,g1⟩:=g1
   refine⟨Qv hp,fun c0 c k1 k2=>?_⟩
   rw[hp]at k1;rw[g1]at k2;cases k1;cases k2;exact⟨rfl,rfl⟩
  ·obtain⟨h1,w',rows,h2⟩:=hQ.lt b hb1
   refine⟨h1,fun c0 c k1 k2=>?_⟩
   rw[h2]at k1;rw[g2 b hb1]at k2;cases k1;cases k2;exact⟨rfl,rfl⟩
 obtain⟨o,G,es,e1,e2,rfl,v',fl',k1,k2,K,k4,k5,k6⟩:=xR rfl rfl (ak3 x (Vf hp) hQ.cln hl) (fun o G hQ=>by
  obtain⟨_,v',fl',k1,k2,K,k4,_⟩:=hQ
  exact(Xz hq K (hX G ⟨_,_,k1⟩ k4)).1)
 have X:=hX G ⟨_,_,k1⟩ k4
 obtain⟨_,m1,m2,m3,m4⟩:=Xz hq K X
 rw[Sm]at k6
 have hle:h.length≤G.length:=by have:=K.len;rwa[Sm]at this
 refine⟨es,_,e1,e2,by rw[m1];exact hle,jC hq K X (k5 (dT hq)),⟨v',fl',m4 p (af8 ..) _ k1,?_,k6⟩,fun b c hn hc=>by rw[m3 b (Qv hc) hn];exact hc,fun b hb=>m4 b (alC _ hb) _ (k4 b hb)⟩
 rcases k2 with h1|⟨b,w',rows,r,h1,h2,h3,h4,h5⟩
 ·exact .inl h1
 ·exact .inr ⟨b,w',rows,r,h1,by rw[m2 b (k6 b (by rw[h1];simp[bV]))];exact h2,h3,h4,h5⟩
theorem agS{h:Qa}{p:Nat}{fl w:Bool}{v:AV}(hp:h[p]?=some (.live 1 fl w [[v]]))(G:Qa)(g1:∃f row,G[p]?=some (.live 1 f true row)):∀b∈[p],b<h.length∧∀c0 c,h[b]?=some c0→G[b]?=some c→c0.isLive=true∧c0.quiet c=false:=fun b hb1=>by
 simp at hb1;subst hb1
 obtain⟨f,row,g1⟩:=g1
 refine⟨Qv hp,fun c0 c k1 k2=>?_⟩
 rw[hp]at k1;rw[g1]at k2;cases k1;cases k2;exact⟨rfl,rfl⟩
theorem beA{h:Qa}(hq:Qy h=true){p:Nat}{fl w:Bool}{v:AV}{q:List Nat}(x:Nat)(hp:h[p]?=some (.live 1 fl w [[v]]))(hQ:QS v q h p)(hl:q.length≤100000000):
 ∃es M,cl Up h (some (.func (.func 79) [] [])) (some [.ptr p 0 0,.int .i64 (x:Int)])=some (.ret (.tup []),es)∧Ry h es=M∧h.length≤M.length∧Qy M=true∧(∃v' fl',M[p]?=some (.live 1 fl' true [[v']])∧QS v' (x::q) M p∧∀b∈bV v',h.length≤b)∧∀b c,b≠p→h[b]?=some c→M[b]?=some c:=by
 obtain⟨o,G,es,e1,e2,rfl,v',fl',k1,k2,K,k5,k6⟩:=xR rfl rfl (avK x (Vf hp) hQ.cln hl) (fun o G hQ=>by
  obtain⟨_,v',fl',k1,k2,K,_⟩:=hQ
  exact(Xz hq K (agS hp G ⟨_,_,k1⟩)).1)
 have X:=agS hp G ⟨_,_,k1⟩
 obtain⟨_,m1,m2,m3,m4⟩:=Xz hq K X
 rw[Sm]at k6
 have hle:h.length≤G.length:=by have:=K.len;rwa[Sm]at this
 refine⟨es,_,e1,e2,by rw[m1];exact hle,jC hq K X (k5 (dT hq)),⟨v',fl',m4 p (af8 ..) _ k1,?_,k6⟩,fun b c hn hc=>by rw[m3 b (Qv hc) (by simpa using hn)];exact hc⟩
 rcases k2 with h1|⟨b,w',rows,r,h1,h2,h3,h4,h5⟩
 ·exact .inl h1
 ·exact .inr ⟨b,w',rows,r,h1,by rw[m2 b (k6 b (by rw[h1];simp[bV]))];exact h2,h3,h4,h5⟩
theorem beB{h:Qa}(hq:Qy h=true){p:Nat}{fl w:Bool}{v:AV}(hp:h[p]?=some (.live 1 fl w [[v]]))(hQ:QS v [] h p):
 cl Up h (some (.func (.func 76) [] [])) (some [.ptr p 0 0])=some (.ret (.tup [.int .i64 0,.bool false]),[]):=
 avH rfl rfl (as7 (Vf hp) hQ.cln) hq
theorem aw3{h:Qa}(hq:Qy h=true){p:Nat}{fl w:Bool}{v:AV}{x:Nat}{q:List Nat}(hp:h[p]?=some (.live 1 fl w [[v]]))(hQ:QS v (x::q) h p)(hl:q.length≤100000000):
 ∃es M,cl Up h (some (.func (.func 76) [] [])) (some [.ptr p 0 0])=some (.ret (.tup [.int .i64 (x:Int),.bool true]),es)∧Ry h es=M∧h.length≤M.length∧Qy M=true∧(∃v' fl',M[p]?=some (.live 1 fl' true [[v']])∧QS v' q M p∧bV v'=bV v)∧∀b c,b≠p→h[b]?=some c→M[b]?=some c:=by
 obtain⟨o,G,es,e1,e2,rfl,v',fl',k1,k2,K,k4,k5⟩:=xR rfl rfl (avU (Vf hp) hQ.cln hl) (fun o G hQ=>by
  obtain⟨_,v',fl',k1,k2,K,_⟩:=hQ
  exact(Xz hq K (agS hp G ⟨_,_,k1⟩)).1)
 have X:=agS hp G ⟨_,_,k1⟩
 obtain⟨_,m1,m2,m3,m4⟩:=Xz hq K X
 have hle:h.length≤G.length:=by have:=K.len;rwa[Sm]at this
 have same:∀b c,b≠p→h[b]?=some c→(aI h G)[b]?=some c:=fun b c hn hc=>by rw[m3 b (Qv hc) (by simpa using hn)];exact hc
 refine⟨es,_,e1,e2,by rw[m1];exact hle,jC hq K X (k5 (dT hq)),⟨v',fl',m4 p (af8 ..) _ k1,?_,k4⟩,same⟩
 rcases k2 with h1|⟨b,w',rows,r,h1,h2,h3,h4,h5⟩
 ·exact .inl h1
 ·have hbv:b∈bV v:=by rw[←k4,h1];simp[bV]
  obtain⟨_,w0,rows0,hh⟩:=hQ.lt b hbv
  have hr:(hf (aI h G) b).bind Si=(hf G b).bind Si:=aj0 hq K X b
  have hM:=same b _ h3 hh
  have e3:rows0=rows:=by
   have a1:((aI h G)[b]?).bind Si=(G[b]?).bind Si:=hr
   rw[hM,h2]at a1
   simp[Si]at a1;exact a1
  subst e3
  exact .inr ⟨b,w0,rows0,r,h1,hM,h3,h4,h5⟩
theorem auK{vs:List AV}{b:Nat}{h:Qa}{ps:List Nat}{asg body:Code}{tm:List AV}{st:Yc}{Q:Tu→Qa→Prop}(hb:h[b]?=some (.lp ps asg body tm st))(hl:ps.length=vs.length)
 (he:RnE b Q (an8 Up Tryz.prog b body (Rx Up Tryz.prog 5000 asg [] ⟨aP tm ps vs,h⟩))):RnQ Up (vs++[.yl b]) h Q:=RnQ.start (pr:=pr) hb hl he
theorem atE{O:Uo}{H:Qa}{b:Nat}{vs:List AV}{Q:Tu→Qa→Prop}(K:RnQ O (vs++[.yl b]) (Xb H) Q)(ok:∀o G,Q o G→zI H G):
 ∃o G es,cl O H (some (.yl b)) (some vs)=some (o,es)∧Ry H es=aI H G∧Q o G:=by
 obtain⟨o,G,hc,hq⟩:=K
 obtain⟨es,e1,e2⟩:=jF H G [] (ok o G hq)
 refine⟨o,G,es,?_,by simpa using e2,hq⟩
 rw[baX,hc,rZ]
 have e1':Rr 0 H G=some es:=e1
 rw[e1'];rfl
def Xk:Nat:=1048576
def DiH(LK:CB)(e:Bool)(ps:List AV)(N:Nat)(h:Qa)(dd q K:List Nat):Prop:=∃f v fl w,
 h[0]?=some LK∧h[1]?=some (.live 24 true false [ps])∧h[2]?=some (.live 1 true f (dd.map Zq))∧h[3]?=some (.live 1 false e [[.slr 1 2 0 N]])∧h[5]?=some (.live 1 false e [[.ptr 4 0 0]])∧h[4]?=some (.live 1 fl w [[v]])∧QS v q h 4∧(∀b∈bV v,6≤b∧b∉K)∧Qy h=true
theorem DiH.app{LK:CB}{e:Bool}{ps:List AV}{N:Nat}{h:Qa}{dd q K:List Nat}(D:DiH LK e ps N h dd q K){L:Qa}(hL:Qy L=true):DiH LK e ps N (h++L) dd q K:=by
 obtain⟨f,v,fl,w',i0,i1,i2,i3,i5,i4,iQ,iB,iq⟩:=D
 refine⟨f,v,fl,w',Qg i0 L,Qg i1 L,Qg i2 L,Qg i3 L,Qg i5 L,Qg i4 L,?_,iB,Uz iq hL⟩
 rcases iQ with h|⟨b,w',rows,r,h1,h2,h3⟩
 ·exact .inl h
 ·exact .inr ⟨b,w',rows,r,h1,Qg h2 _,h3⟩
def fG(H G:Qa):Prop:=H.length≤G.length∧∀(b:Nat) (c0 c:CB),H[b]?=some c0→G[b]?=some c→(c0.quiet c=true∧c0.clean=c.clean)∨(c0.isLive=true∧((∃st fl rows,c=.live st fl true rows)∨c=.dead))
theorem qR{c0 c:CB}(h:c0.isLive=true)(hc:(∃st fl rows,c=.live st fl true rows)∨c=.dead):c0.quiet c=false:=by
 rcases hc with⟨_,_,_,rfl⟩|rfl<;>cases c0<;>first|rfl|(simp[CB.isLive]at h;done)|(simp[CB.quiet,CB.same];done)
theorem fG.sh{H G:Qa}(k:fG H G):zI H G:=⟨k.1,fun b c0 c h0 h1=>(k.2 b c0 c h0 h1).imp (fun h=>h.1) (fun h=>h.1)⟩
theorem aeD{c0 c1:CB}(h:c0.clean=c1.clean)(h1:c1.isLive=true):c0.isLive=true:=by cases c0<;>cases c1<;>first|rfl|(simp[CB.clean]at h;done)|cases h1
theorem rE(c:CB):c.clean.clean=c.clean:=by cases c<;>rfl
theorem fG.app{H G:Qa}(k:fG H G)(l:Qa):fG H (G++l):=⟨by simp;have:=k.1;omega,fun b c0 c h0 h1=>k.2 b c0 c h0 (by
 have:=Qv h0
 have:=k.1
 rw[ae2 (by omega)]at h1;exact h1)⟩
theorem fG.cl{H:Qa}(h:Qy H=true):fG H (Xb H):=⟨by rw[Sm];exact ajY _,fun b c0 c h0 h1=>by
 rw[Vf h0]at h1;cases h1
 exact .inl ⟨We h h0,(rE c0).symm⟩⟩
theorem fG.keep{H G:Qa}{X:List Nat}(h:Qy H=true)(K:Xr X (Xb H) G)(hX:∀b∈X,∃c0 c,H[b]?=some c0∧G[b]?=some c∧c0.isLive=true∧((∃st fl rows,c=.live st fl true rows)∨c=.dead)):fG H G:=⟨by have:=K.len;rwa[Sm]at this,fun b c0 c h0 h1=>by
 by_cases hb:b∈X
 ·obtain⟨d0,d,e0,e1,e2⟩:=hX b hb
  rw[h0]at e0;rw[h1]at e1;cases e0;cases e1
  exact .inr e2
 ·rw[K.same b (by rw[Sm];exact Qv h0) hb,Vf h0]at h1;cases h1
  exact .inl ⟨We h h0,(rE c0).symm⟩⟩
theorem fG.mrg_clean{H G:Qa}(k:fG H G){b:Nat}{c:CB}(hc:G[b]?=some c):∃c',(aI H G)[b]?=some c'∧c'.clean=c.clean:=by
 by_cases hb:b<H.length
 ·have h0:H[b]?=some H[b]:=ag1 hb
  rcases k.2 b _ c h0 hc with⟨h1,h2⟩|⟨h1,h2⟩
  ·exact⟨_,aE h0 hc h1,h2⟩
  ·refine⟨_,jI h0 hc (qR h1 h2),?_⟩
   rcases h2 with⟨_,_,_,rfl⟩|rfl<;>rfl
 ·exact⟨c,by rw[mG k.1 (by omega)];exact hc,rfl⟩
theorem fG.trans{H h' G:Qa}(k:fG H h')(k':fG h' G):fG H (aI h' G):=by
 refine⟨by rw[eK k'.1];exact Nat.le_trans k.1 k'.1,fun b c0 c h0 h1=>?_⟩
 have hb:=Qv h0
 have e1:h'[b]?=some (h'[b]'(by have:=k.1;omega)):=ag1 _
 have e2:G[b]?=some (G[b]'(by have:=k.1;have:=k'.1;omega)):=ag1 _
 generalize h'[b]'(by have:=k.1;omega)=c1 at *
 generalize G[b]'(by have:=k.1;have:=k'.1;omega)=c2 at *
 rcases k'.2 b _ _ e1 e2 with⟨g1,g2⟩|⟨g1,g2⟩
 ·rw[aE e1 e2 g1]at h1;cases h1
  exact k.2 b _ _ h0 e1
 ·rw[jI e1 e2 (qR g1 g2)]at h1
  have:c2.mark=c2:=by rcases g2 with⟨_,_,_,rfl⟩|rfl<;>rfl
  rw[this]at h1;cases h1
  refine .inr ⟨?_,g2⟩
  rcases k.2 b _ _ h0 e1 with⟨_,h⟩|⟨h,_⟩
  ·exact aeD h g1
  ·exact h
theorem fG.old{H G:Qa}{b:Nat}{c0 c:CB}(h0:H[b]?=some c0)(h1:G[b]?=some c)(hq:c0.quiet c=true):(aI H G)[b]?=some c0:=aE h0 h1 hq
theorem amO{c:CB}{st:Nat}{fl w:Bool}{rows:List (List AV)}(h:c.clean=(CB.live st fl w rows).clean):∃w',c=.live st fl w' rows:=by
 cases c<;>simp[CB.clean]at h
 obtain⟨rfl,rfl,rfl⟩:=h
 exact⟨_,rfl⟩
theorem fG.live{H G:Qa}(k:fG H G){b st:Nat}{fl w:Bool}{rows:List (List AV)}(hc:G[b]?=some (.live st fl w rows)):∃w',(aI H G)[b]?=some (.live st fl w' rows):=by
 obtain⟨c',h1,h2⟩:=k.mrg_clean hc
 obtain⟨w',rfl⟩:=amO h2
 exact⟨w',h1⟩
theorem QS.okw{H G:Qa}(k:fG H G){v:AV}{q:List Nat}{p:Nat}(h:QS v q G p):QS v q (aI H G) p:=by
 rcases h with h|⟨b,w,rows,r,h1,h2,h3,h4,h5⟩
 ·exact .inl h
 ·obtain⟨w',h6⟩:=k.live h2
  exact .inr ⟨b,w',rows,r,h1,h6,h3,h4,h5⟩
theorem fG.quiet{H G:Qa}(k:fG H G)(h:Qy H=true)(h':Qy G=true):Qy (aI H G)=true:=by
 refine kD fun c hc=>?_
 obtain⟨b,hb⟩:=List.getElem?_of_mem hc
 have hbl:=Qv hb
 rw[eK k.1]at hbl
 have e2:G[b]?=some G[b]:=ag1 hbl
 generalize G[b]=c2 at *
 by_cases hl:b<H.length
 ·have e1:H[b]?=some H[b]:=ag1 hl
  generalize H[b]=c1 at *
  rcases k.2 b _ _ e1 e2 with⟨g1,g2⟩|⟨g1,g2⟩
  ·rw[aE e1 e2 g1]at hb;cases hb;exact We h e1
  ·rw[jI e1 e2 (qR g1 g2)]at hb;cases hb;exact uL (We h' e2)
 ·rw[mG k.1 (by omega),e2]at hb;cases hb;exact We h' e2
theorem ak8{LK:CB}{e:Bool}{ps:List AV}{N:Nat}{h':Qa}{dd q K:List Nat}{f:Bool}{v:AV}{fl w:Bool}(i0:h'[0]?=some LK)(i1:h'[1]?=some (.live 24 true false [ps]))(i2:h'[2]?=some (.live 1 true f (dd.map Zq)))(i3:h'[3]?=some (.live 1 false e [[.slr 1 2 0 N]]))(i5:h'[5]?=some (.live 1 false e [[.ptr 4 0 0]]))(i4:h'[4]?=some (.live 1 fl w [[v]]))(iQ:QS v q h' 4)(iB:∀b∈bV v,6≤b∧b∉K)(iq:Qy h'=true)
 {B:Nat} {LP LB:CB} (hB:h'[B]?=some LP) (hBK:B∈K) (hK:∀b∈K,6≤b∧b<h'.length) (hLPc:LP.clean=LP) (hLPq:LP.quiet LP=true) {M:Qa} {Y dd2 q2:List Nat} {v2:AV} {fl2:Bool} (m1:h'.length≤M.length) (m2:Qy M=true) (m3:M[4]?=some (.live 1 fl2 true [[v2]])) (m4:QS v2 q2 M 4) (m5:∀b∈bV v2,h'.length≤b)
 (m6:∀b c,b∉Y→(((Xb h').set B LB).set 2 (.live 1 true true (dd2.map Zq)))[b]?=some c→M[b]?=some c) (hY:4∈Y) (hY':∀b∈Y,b=4∨(b∈bV v∧M[b]?=some .dead)):
 fG h' (M.set B LP)∧DiH LK e ps N (aI h' (M.set B LP)) dd2 q2 K∧(∀b∈K,(aI h' (M.set B LP))[b]?=h'[b]?)∧h'.length≤(aI h' (M.set B LP)).length:=by
 have hBl:=Qv hB
 have hB6:=(hK B hBK).1
 have h4l:=Qv i4
 have hY6:∀b∈Y,b=4∨(6≤b∧b∉K):=fun b hb1=>(hY' b hb1).imp id (fun h=>iB b h.1)
 have h2Y:2∉Y:=fun h=>by rcases hY6 2 h with h|h<;>omega
 have hKY:∀b∈K,b∉2::Y:=fun b hb1 h=>by
  have:=(hK b hb1).1
  rcases adQ.1 h with h|h
  ·omega
  ·rcases hY6 b h with h|h
   ·omega
   ·exact h.2 hb1
 have hg2:M[2]?=some (.live 1 true true (dd2.map Zq)):=m6 2 _ h2Y (afJ (by simp[Sm];omega))
 have hK2:Xr (2::Y) (Xb h') (M.set B LP):=⟨by simpa [Sm]using m1,fun b hb1 hn=>by
  rw[Sm]at hb1
  obtain⟨c,hc⟩:∃c,h'[b]?=some c:=⟨_,ag1 hb1⟩
  by_cases e:b=B
  ·subst e
   rw[afJ (by omega),Vf hB,hLPc]
  ·rw[aaN (fun h=>e h.symm)]
   have:=m6 b c.clean (fun h=>hn (alC _ h)) (by
    rw[aaN (fun h=>hn (by rw[←h];exact af8 ..)),aaN (fun h=>e h.symm)];exact Vf hc)
   rw[this,Vf hc]⟩
 have hne:∀b,b≠B→(M.set B LP)[b]?=M[b]?:=fun b h=>aaN (fun e=>h e.symm)
 have X:∀b∈2::Y,∃c0 c,h'[b]?=some c0∧(M.set B LP)[b]?=some c∧c0.isLive=true∧((∃st fl rows,c=.live st fl true rows)∨c=.dead):=fun b hb1=>by
  rcases adQ.1 hb1 with rfl|hb1
  ·exact⟨_,_,i2,by rw[hne 2 (by omega)];exact hg2,rfl,.inl ⟨_,_,_,rfl⟩⟩
  ·rcases hY' b hb1 with rfl|⟨h1,h2⟩
   ·exact⟨_,_,i4,by rw[hne 4 (by omega)];exact m3,rfl,.inl ⟨_,_,_,rfl⟩⟩
   ·obtain⟨h3,w',rows,h5⟩:=iQ.lt b h1
    exact⟨_,_,h5,by rw[hne b (fun e=>(iB b h1).2 (e▸hBK))];exact h2,rfl,.inr rfl⟩
 have ok:=fG.keep iq hK2 X
 have X':∀b∈2::Y,b<h'.length∧∀c0 c,h'[b]?=some c0→(M.set B LP)[b]?=some c→c0.isLive=true∧c0.quiet c=false:=fun b hb1=>by
  obtain⟨c0,c,h1,h2,h3,h4⟩:=X b hb1
  refine⟨Qv h1,fun d0 d k1 k2=>?_⟩
  rw[h1]at k1;rw[h2]at k2;cases k1;cases k2
  exact⟨h3,qR h3 h4⟩
 obtain⟨g1,g2,g3,g4,g5⟩:=Xz iq hK2 X'
 have low:∀b,b<6→b≠2→b≠4→(aI h' (M.set B LP))[b]?=h'[b]?:=fun b h1 h2 h3=>g4 b (by have:=Qv i5;omega) fun h=>by
  rcases adQ.1 h with h|h
  ·exact h2 h
  ·rcases hY6 b h with h|h<;>omega
 refine⟨ok,⟨true,v2,fl2,true,by rw[low 0 (by omega) (by omega) (by omega)];exact i0,by rw[low 1 (by omega) (by omega) (by omega)];exact i1,?_,by rw[low 3 (by omega) (by omega) (by omega)];exact i3,by rw[low 5 (by omega) (by omega) (by omega)];exact i5,?_,?_,fun b hb1=>?_,?_⟩,fun b hb1=>g4 b (hK b hb1).2 (hKY b hb1),by rw[g2];simpa using m1⟩
 ·exact g5 2 (af8 ..) _ (by rw[hne 2 (by omega)];exact hg2)
 ·exact g5 4 (alC _ hY) _ (by rw[hne 4 (by omega)];exact m3)
 ·rcases m4 with h|⟨b,w',rows,r,h1,h2,h3⟩
  ·exact .inl h
  ·have hb1:=m5 b (by rw[h1];simp[bV])
   exact .inr ⟨b,w',rows,r,h1,by rw[g3 b hb1,hne b (by omega)];exact h2,h3⟩
 ·have h1:=m5 b hb1
  exact⟨by omega,fun h=>by have:=(hK b h).2;omega⟩
 ·exact jC iq hK2 X' (Uy m2 B (by rw[hLPc];exact hLPq))
theorem asD{h' l:Qa}(hq:Qy h'=true):fG h' (Xb h'++l)∧aI h' (Xb h'++l)=h'++l:=by
 have K:Xr [] (Xb h') (Xb h'++l):=Xr.app _ _
 have X:∀b∈([]:List Nat),b<h'.length∧∀c0 c,h'[b]?=some c0→(Xb h'++l)[b]?=some c→c0.isLive=true∧c0.quiet c=false:=fun b hb1=>by cases hb1
 obtain⟨g1,g2,g3,g4,_⟩:=Xz hq K X
 refine⟨(fG.cl hq).app l,arF fun b=>?_⟩
 by_cases hb1:b<h'.length
 ·rw[g4 b hb1 (by simp),ae2 hb1]
 ·rw[g3 b (by omega),ai0 (by simp[Sm];omega),ai0 (by omega),Sm]
theorem auC:Qf .nilp=[.nilp]:=Eq.trans rfl rfl
theorem auY(n x:Nat):(adC n x).sum=n*x:=by
 induction n with
 |zero=>simp
 |succ n ih=>rw[as4,List.sum_cons,ih,Nat.succ_mul];omega
theorem aa4:∀(l:List Nat) (s:Nat),(l.set s 0).sum≤l.sum
 | [],s=>by simp
 |a::l,0=>by simp
 |a::l,s+1=>by have:=aa4 l s;simp;omega
theorem apR{N s far:Nat}(h:N≤8):(Zt N s far).sum≤8*far:=by
 unfold Zt
 refine Nat.le_trans (aa4 _ _) ?_
 rw[auY]
 exact Nat.mul_le_mul_right _ h
def rM(x:Int × Bool):Bool:=x.1==0&& !x.2
def tgt(L:List (Int × Bool)):List Bool:=L.map rM
theorem al7{w:Qh}{L:List (Int × Bool)}{i:Nat}{p:Qc}{x:Int × Bool}(hp:w.parts[i]?=some p)(hx:L[i]?=some x):(zE w (tgt L))[i]?=some (p.one.toNat,p.other.toNat,if rM x=true then 1 else 0):=by
 unfold zE tgt
 rw[List.getElem?_zipWith,aj8,hp,hx];rfl
theorem afB{w:Qh}{d:Int}:zE w (tgt (Qb w d))=zE w (ad0 w d):=by
 have e:∀(l:List Qc) (r:List Bool) (f:Qc→Bool→Net.Edge),List.zipWith f l (l.map (fun p=>aeY p d)++r)=List.zipWith f l (l.map fun p=>aeY p d):=by
  intro l;induction l with
  |nil=>intro r f;simp
  |cons a l ih=>intro r f;simp[ih]
 unfold zE tgt Qb ad0
 rw[atH,List.map_map]
 exact e _ _ _
theorem QS.app{v:AV}{q:List Nat}{H:Qa}{p:Nat}(h:QS v q H p)(l:Qa):QS v q (H++l) p:=by
 rcases h with h|⟨b,w,rows,r,h1,h2,h3⟩
 ·exact .inl h
 ·exact .inr ⟨b,w,rows,r,h1,Qg h2 l,h3⟩
theorem ap8{h:Qa}{b:Nat}{c:CB}(hc:h[b]?=some c):h.set b c=h:=by
 refine arF fun i=>?_
 by_cases e:b=i
 ·subst e;rw[afJ (Qv hc),hc]
 ·rw[aaN e]
theorem gG:∀(L:List (Int × Bool)) (i:Nat) (a:Int) (b:Bool),L[i]?=some (a,b)→aj6 2 (List.drop (i*2) (Sv L))=[.int .i64 a,.bool b]
 | [],i,a,b,h=>by simp at h
 |x::L,0,a,b,h=>by simp at h;subst h;simp[Sv]
 |x::L,i+1,a,b,h=>by
  have ih:=gG L i a b (by simpa using h)
  rw[show(i+1)*2=(i*2)+1+1 by omega]
  simpa only[Sv,List.flatMap_cons,List.cons_append,aoR,List.drop_succ_cons]using ih
theorem bA{w:Qh}{d:Int}{i:Nat}{p:Qc}(hx:w.parts[i]?=some p):(Qb w d)[i]?=some (Re p d,p.opn):=by
 unfold Qb
 rw[ae2 (by rw[ajV];exact(aq3.1 hx).1),aj8,hx];rfl
def no3:Nat→Nat→Nat→Prop:=fun _ _ _=>False
theorem aa1{w:Qh}{N:Nat}(hw:qK w N)(h12:w.parts.length≤12){d:Int}{s:Nat}(hs:s<N){ps:List AV}{L:List (Int × Bool)}(hL12:L.length=12)(hps:ps=Sv L){wf:Bool}:
 ClQ Up 58 [.ptr 0 0 0,.int .i64 (s:Int),.agg ps] [.live 4 false wf [[.int .i64 w.rooms,.int .i64 w.need,Rn 9 true w.nn (w.parts.map Qc.cells),.int .i64 d]]] fun o h'=>
  ∃(f:Bool) (ds:List Nat),o=.ret (.slr 1 1 0 N)∧h'=[.live 4 false wf [[.int .i64 w.rooms,.int .i64 w.need,Rn 9 true w.nn (w.parts.map Qc.cells),.int .i64 d]],.live 1 true f (ds.map Zq)]∧ds.length=N∧fM (zE w (tgt L)) s N Xk (fun v=>ds.getD v 0):=by
 have hr:=hw.rooms
 have n2:=hw.n2
 have n8:=hw.n8
 have hpl:ps.length=24:=by rw[hps,Rh];omega
 have hflat:ps.all AV.flat=true∧ps.all AV.isCell=true:=by
  subst hps
  have hform:∀x∈Sv L,(∃n,x=.int .i64 n)∨∃b,x=.bool b:=fun x hx=>by
   simp only[Sv,auE,adQ,ajM,or_false]at hx
   obtain⟨y,_,rfl|rfl⟩:=hx
   ·exact .inl ⟨_,rfl⟩
   ·exact .inr ⟨_,rfl⟩
  exact⟨akX.2 fun x hx=>by rcases hform x hx with⟨n,rfl⟩|⟨b,rfl⟩<;>rfl,akX.2 fun x hx=>by rcases hform x hx with⟨n,rfl⟩|⟨b,rfl⟩<;>rfl⟩
 obtain⟨hf1,hf2⟩:=hflat
 refine baQ rfl Tryz.func58 rfl rfl ?_
 simp only[Tryz.f58]
 simp only[hr]
 have h39:(N≤549755813888)=True:=eq_true (by omega)
 have m1:((N:Int)≤(N:Int))=True:=eq_true (Int.le_refl _)
 have m2:((N:Int)≤1099511627776)=True:=eq_true (by omega)
 (have hb:=trivial;with_reducible repeat' (first|simp only[hb,Vc.down,seval,fE.down,hpl,hf1,hf2,h39,m1,m2,auG]|refine Qp ?_ ?_<;>intro hb|refine fd ?_|fail))
 generalize hLK:(CB.live 4 false wf [[.int .i64 (N:Int),.int .i64 w.need,Rn 9 true w.nn (w.parts.map Qc.cells),.int .i64 d]])=LK
 refine Wz (lst 85 (adC N ()) (fun i (_:Unit) t h=>t 0=.ptr 0 0 0∧t 1=.int .i64 (s:Int)∧t 5=.ptr 1 0 0∧t 7=.ptr 3 0 0∧t 23=.int .i64 (N:Int)∧t 24=.int .i64 (i:Int)∧∃f,h=[LK,.live 24 true false [ps],.live 1 true f ((adC i Xk++adC (N-i) 0).map Zq),.live 1 false true [[.slr 1 2 0 N]]]) (fun _ _=>())
  (fun _ e t h=>e=.exit 0∧t 0=.ptr 0 0 0∧t 1=.int .i64 (s:Int)∧t 5=.ptr 1 0 0∧t 7=.ptr 3 0 0∧∃f,h=[LK,.live 24 true false [ps],.live 1 true f ((adC N Xk).map Zq),.live 1 false true [[.slr 1 2 0 N]]]) ?_ ?_ () _ _ ?_) (fun e t h hk=>?_)
 ·rintro _ t h Q' kQ ⟨g0,g1,g5,g7,g23,g24,f,rfl⟩
  rw[akY]at g24
  (have hb:=trivial;with_reducible repeat' (first|simp only[hb,Vc.down,seval,fE.down,g23,g24,Int.lt_irrefl,decide_false]|refine Qp ?_ ?_<;>intro hb|refine fd ?_|fail))
  exact kQ _ _ _ ⟨rfl,by simp[up,g0],by simp[up,g1],by simp[up,g5],by simp[up,g7],f,by simp⟩
 ·rintro x rest i _ t h J Q' kJ kQ hx hi ⟨g0,g1,g5,g7,g23,g24,f,rfl⟩
  rw[akY]at hi
  have hdd:decide ((i:Int)<(N:Int))=true:=decide_eq_true (by omega)
  have hdi:((i:Int)<(N:Int))=True:=eq_true (by omega)
  have hww:=Tc (n:=N) hi (by unfold maxLen;omega)
  have hrow:((adC i Xk++adC (N-i) 0).map Zq)[i]?=some [.int .i64 0]:=by
   rw[aj8,ai0 (by simp),akY,aq4,auQ,if_pos (by omega)]
   rfl
  have hnx:((adC i Xk++adC (N-i) 0).map Zq).set i [.int .i64 1048576]=(adC (i+1) Xk++adC (N-(i+1)) 0).map Zq:=by
   have e:N-i=(N-(i+1))+1:=by omega
   rw[show([.int .i64 1048576]:List AV)=Zq Xk from rfl,←aq5,List.set_append_right _ _ (by simp),akY,aq4,e,as4,List.set_cons_zero,List.replicate_succ',List.append_assoc]
   rfl
  generalize(adC i Xk++adC (N-i) 0).map Zq=rows at *
  (have hb:=trivial;with_reducible repeat' (first|simp only[hb,Vc.down,seval,fE.down,g0,g1,g5,g7,g23,g24,hdd,hdi,hww,hrow,hnx]|refine Qp ?_ ?_<;>intro hb|refine fd ?_|fail))
  exact Qj (kJ _ _ () ⟨by simp[up,g0],by simp[up,g1],by simp[up,g5],by simp[up,g7],by simp[up,g23],by simp[up],true,rfl⟩ rfl)
 ·exact⟨by simp[up,aU],by simp[up,aU],by simp[up],by simp[up],by simp[up],by simp[up],false,by simp[Zq]⟩
 obtain⟨rfl,g0,g1,g5,g7,f,rfl⟩:=hk
 have hrow:s<((adC N Xk).map Zq).length:=by simpa using hs
 have hz:((adC N Xk).map Zq)[s]?=some [.int .i64 1048576]:=by rw[aj8,auQ,if_pos hs];rfl
 have hin:((adC N Xk).map Zq).set s [.int .i64 0]=(Zt N s Xk).map Zq:=by rw[Zt,aq5];rfl
 have o1:((s:Int)<(N:Int))=True:=eq_true (by omega)
 generalize hrw:(adC N Xk).map Zq=rows at *
 obtain⟨q1,hq1⟩:∃q,Fn.func 75=q:=⟨_,rfl⟩
 obtain⟨q2,hq2⟩:∃q,Fn.func 76=q:=⟨_,rfl⟩
 have hLq:LK.quiet LK.clean=true:=by rw[←hLK];rfl
 obtain⟨es,M,b1,b2,b3,b4,⟨v',fl',b5,b6,b7⟩,b8,_⟩:=aw8 (h:=[LK,.live 24 true false [ps],.live 1 true true ((Zt N s Xk).map Zq),.live 1 false true [[.slr 1 2 0 N]],.live 1 false false [[.nils]],.live 1 false true [[.ptr 4 0 0]]]) (kD fun c hc=>by
  simp only[adQ,ajM,or_false]at hc
  rcases hc with rfl|rfl|rfl|rfl|rfl|rfl
  ·exact hLq
  all_goals rfl) (p:=4) s rfl (.inl ⟨rfl,rfl⟩) (by simp)
 rw[hq1]at b1
 simp only[aoR]at b6
 obtain⟨es2,M2,c1,c2,c3,c4,⟨v2,fl2,c5,c6,c7⟩,c8⟩:=aw3 b4 b5 b6 (by simp)
 rw[hq2]at c1
 have k3:=b8 3 _ (by simp[bV]) rfl
 have k5:=b8 5 _ (by simp[bV]) rfl
 have j3:=c8 3 _ (by omega) k3
 have j5:=c8 5 _ (by omega) k5
 have j0:=c8 0 _ (by omega) (b8 0 _ (by simp[bV]) rfl)
 have j1:=c8 1 _ (by omega) (b8 1 _ (by simp[bV]) rfl)
 have j2:=c8 2 _ (by omega) (b8 2 _ (by simp[bV]) rfl)
 (have hb:=trivial;with_reducible repeat' (first|simp only[hb,Vc.down,seval,fE.down,g0,g1,g5,g7,hz,hin,o1,hq1,hq2,b1,b2,c1,c2,k3,k5,j3,j5,auC,auG]|refine Qp ?_ ?_<;>intro hb|refine fd ?_|fail))
 generalize hE:zE w (tgt L)=E at *
 have hEo:uO E N:=by rw[←hE];exact uK hw _
 have I0:=asY (E:=E) (far:=Xk) hs hEo
 have hsum:(Zt N s Xk).sum≤8*1048576:=apR n8
 refine Wz (cnt 85 (fun n (_:Unit) t h=>t 0=.ptr 0 0 0∧t 1=.int .i64 (s:Int)∧t 5=.ptr 1 0 0∧t 7=.ptr 3 0 0∧t 9=.ptr 5 0 0∧∃dd q k,DiH LK true ps N h dd q [k]∧2*dd.sum+q.length≤20000000∧
  ((t 11=.bool true∧∃room w,t 10=.ptr k 0 0∧6≤k∧h[k]?=some (.live 1 true w [[.int .i64 (room:Nat)]])∧nK E s N Xk dd (room::q) no3∧2*dd.sum+q.length+1≤n)∨(t 11=.bool false∧q=[]∧nK E s N Xk dd [] no3))) (fun _ _=>())
  (fun _ e t h=>e=.exit 2∧t 7=.ptr 3 0 0∧∃dd k,DiH LK true ps N h dd [] [k]∧nK E s N Xk dd [] no3) ?_ ?_ (2*(Zt N s Xk).sum+1) () _ _ ?_) (fun e t h hk=>?_)
 ·rintro _ t h Q' kQ ⟨g0,g1,g5,g7,g9,dd,q,k,hD,hql,⟨g11,room,w5,g10,_,_,_,hm⟩|⟨g11,rfl,hI⟩⟩
  ·omega
  ·(have hb:=trivial;with_reducible repeat' (first|simp only[hb,Vc.down,seval,fE.down,g11]|refine Qp ?_ ?_<;>intro hb|refine fd ?_|fail))
   exact kQ _ _ _ ⟨rfl,by simp[up,g7],dd,k,hD,hI⟩
 ·rintro n _ t h J Q' kJ kQ ⟨g0,g1,g5,g7,g9,dd,q,k,hD,hql,⟨g11,room,w5,g10,hk6,hkb,hI,hm⟩|⟨g11,rfl,hI⟩⟩
  ·obtain⟨f,v,fl,w',i0,i1,i2,i3,i5,i4,iQ,iB,iq⟩:=hD
   have hat:=bgC w d (room:Int) false
   rw[hr]at hat
   subst hLK
   (have hb:=trivial;with_reducible repeat' (first|simp only[hb,Vc.down,seval,fE.down,g0,g1,g5,g7,g9,g10,g11,i0,i1,i2,i3,i5,hkb,hat]|refine Qp ?_ ?_<;>intro hb|refine fd ?_|fail))
   obtain⟨rN,rI⟩:=nK.take hI
   have hkl:=Qv hkb
   generalize hLP:CB.lp _ _ _ _ _=LP
   obtain⟨LK,hLK⟩:∃c:CB,c=CB.live 4 false wf [[.int .i64 (N:Int),.int .i64 w.need,Rn 9 true w.nn (w.parts.map Qc.cells),.int .i64 d]]:=⟨_,rfl⟩
   refine aRB (bfX hw (d:=d) (r:=(room:Int)) (lb:=h.length) (rb:=h.length+1) (kb:=0) (fun i h'=>∃dd' q',DiH LK.clean false ps N h' dd' q' [k,h.length,h.length+1,h.length+2]∧nK E s N Xk dd' q' (dL E room i)∧2*dd'.sum+q'.length≤2*dd.sum+q.length∧(∃w1,h'[k]?=some (.live 1 true w1 [[.int .i64 (room:Nat)]]))∧(∃w1,h'[h.length]?=some (.live 1 false w1 [[.ptr 0 0 0]]))∧(∃w1,h'[h.length+1]?=some (.live 1 true w1 [[.int .i64 (room:Nat)]]))∧h'[h.length+2]?=some LP∧h.length+3≤h'.length∧fG (h++[.live 1 false false [[.ptr 0 0 0]],.live 1 true false [[.int .i64 (room:Nat)]],LP]) h') ?_ ?_ ?_ ?_ ?_ ?_ ?_) ?_
   ·rintro i h' ⟨dd',q',_,_,_,_,hb1,_⟩
    exact hb1
   ·rintro i h' ⟨dd',q',⟨f,v,fl,w',i0,_⟩,_⟩
    rw[hr]
    exact⟨false,by rw[i0,hLK];rfl⟩
   ·rintro i h' ⟨dd',q',_,_,_,_,_,hb2,_⟩
    exact hb2
   ·rintro i h' fl wf rows ⟨dd',q',k1,k3,k4,⟨a0,k5⟩,⟨a1,k6⟩,⟨a2,k7⟩,k8,k9,kO⟩
    exact⟨dd',q',k1.app rfl,k3,k4,⟨a0,Qg k5 _⟩,⟨a1,Qg k6 _⟩,⟨a2,Qg k7 _⟩,Qg k8 _,by simp;omega,kO.app _⟩
   ·rintro i p u h' hpx hu ⟨dd',q',⟨f',v',fl',w2,j0,j1,j2,j3,j5,j4,jQ,jB,jq⟩,k3,k4,⟨a0,k5⟩,⟨a1,k6⟩,⟨a2,k7⟩,k8,k9,kO⟩
    have round:RnQ Up ([.int .i64 i,.int .i64 u]++[.yl (h.length+2)]) (Xb h') fun o G=>o=.ret (.bool true)∧fG h' G∧∃dd2 q2,DiH LK.clean false ps N (aI h' G) dd2 q2 [k,h.length,h.length+1,h.length+2]∧nK E s N Xk dd2 q2 (dL E room (i+1))∧2*dd2.sum+q2.length≤2*dd.sum+q.length∧(∀b∈[k,h.length,h.length+1,h.length+2],(aI h' G)[b]?=h'[b]?)∧h'.length≤(aI h' G).length:=by
     have hir:room<N:=rN
     have hpo:=hw.part p (ak2 hpx)
     have hil:i<w.parts.length:=(aq3.1 hpx).1
     obtain⟨pc,hpc⟩:∃x,L[i]?=some x:=⟨_,ag1 (by omega)⟩
     have he:=al7 hpx hpc
     rw[hE]at he
     obtain⟨to,rfl,htN,hrt,hto⟩:∃to:Nat,u=(to:Int)∧to<N∧room≠to∧(E[i]?=some (room,to,if rM pc=true then 1 else 0)∨E[i]?=some (to,room,if rM pc=true then 1 else 0)):=by
      rcases hu with⟨h1,h2⟩|⟨h1,h2,h3⟩
      ·exact⟨p.other.toNat,by omega,by omega,by omega,.inl (by rw[he,h1];rfl)⟩
      ·exact⟨p.one.toNat,by omega,by omega,by omega,.inr (by rw[he,h2];rfl)⟩
     have hi12:((i:Int)<12)=True:=eq_true (by omega)
     have hp24:(i*2+2≤24)=True:=eq_true (by omega)
     have htk:aj6 2 (List.drop (i*2) ps)=[.int .i64 pc.1,.bool pc.2]:=by
      rw[hps];exact gG _ _ _ _ hpc
     have htt:=agP pc.1 pc.2
     rw[show(pc.1==0&& !pc.2)=rM pc from rfl]at htt
     have hdl:=k3.i.len
     have hrm:=yD (d:=dd') (a:=room) (by omega)
     have htm:=yD (d:=dd') (a:=to) (by omega)
     have hst:∀n:Nat,(dd'.map Zq).set to [.int .i64 (n:Int)]=(dd'.set to n).map Zq:=fun n=>by rw[aq5];rfl
     have hrf:=k3.i.le room rN
     have hrf2:dd'.getD room 0≤1048576:=hrf
     have I0:=k3.same hto
     have I1:=fun q'=>k3.less (q':=q') rN htN hrt hto
     have hrN:((room:Int)<(N:Int))=True:=eq_true (by omega)
     have htN':((to:Int)<(N:Int))=True:=eq_true (by omega)
     have hbit:=bcM (rM pc)
     have hsum:∀x,x<dd'.getD to 0→(dd'.set to x).sum<dd'.sum:=fun x hx=>lT (by omega) hx
     generalize dd'.getD room 0=xr at *
     generalize dd'.getD to 0=xt at *
     generalize hrows:dd'.map Zq=rows at *
     have hbc:=Vf k8
     have hb0:LP.clean=LP:=by rw[←hLP];rfl
     rw[hb0]at hbc
     have hne2:∀(b:Nat) (c X:CB),b≠h.length+2→h'[b]?=some c→((Xb h').set (h.length+2) X)[b]?=some c.clean:=fun b c X hn hc=>by rw[aaN (fun e=>hn e.symm),Vf hc]
     have h6:=Qv i5
     have g0':=fun X=>hne2 0 _ X (by omega) j0
     have g1':=fun X=>hne2 1 _ X (by omega) j1
     have g2':=fun X=>hne2 2 _ X (by omega) j2
     have g3':=fun X=>hne2 3 _ X (by omega) j3
     have g5':=fun X=>hne2 5 _ X (by omega) j5
     have gk':=fun X=>hne2 k _ X (by omega) k5
     simp only[CB.clean]at g1' g2' g3' g5' gk'
     have hlw:∀n,n≤1048577→IntKind.i64.wrap (n:Nat)=(n:Int):=fun n hn=>Us (by omega) (by omega)
     have hself:∀X:CB,((Xb h').set (h.length+2) X)[h.length+2]?=some X:=fun X=>afJ (Qv hbc)
     have hback:∀X:CB,(((Xb h').set (h.length+2) X).set (h.length+2) LP)=Xb h':=fun X=>by
      rw[List.set_set];exact ap8 hbc
     have sm:=asD (l:=[]) jq
     simp only[List.append_nil]at sm
     have fin0:∀(dx:nK E s N Xk dd' q' (dL E room (i+1))),(Tu.ret (AV.bool true)=.ret (.bool true))∧fG h' (Xb h')∧∃dd2 q2,DiH LK.clean false ps N (aI h' (Xb h')) dd2 q2 [k,h.length,h.length+1,h.length+2]∧nK E s N Xk dd2 q2 (dL E room (i+1))∧2*dd2.sum+q2.length≤2*dd.sum+q.length∧(∀b∈[k,h.length,h.length+1,h.length+2],(aI h' (Xb h'))[b]?=h'[b]?)∧h'.length≤(aI h' (Xb h')).length:=fun dx=>by
      rw[sm.2]
      exact⟨rfl,sm.1,dd',q',⟨f',v',fl',w2,j0,j1,by rw[hrows];exact j2,j3,j5,j4,jQ,jB,jq⟩,dx,k4,fun b _=>rfl,ajY _⟩
     have hq':q'.length≤100000000:=by omega
     have hK6:∀b∈[k,h.length,h.length+1,h.length+2],6≤b∧b<h'.length:=fun b hb1=>by
      simp only[adQ,ajM,or_false]at hb1
      omega
     have hnx:∀(b:Nat) (c X Y:CB),b≠h.length+2→b≠2→h'[b]?=some c→(((Xb h').set (h.length+2) X).set 2 Y)[b]?=some c.clean:=fun b c X Y n1 n2 hc=>by rw[aaN (fun e=>n2 e.symm)];exact hne2 b c X n1 hc
     have n5:=fun X Y=>hnx 5 _ X Y (by omega) (by omega) j5
     have n4:=fun X Y=>hnx 4 _ X Y (by omega) (by omega) j4
     have nB:∀X Y:CB,(((Xb h').set (h.length+2) X).set 2 Y)[h.length+2]?=some X:=fun X Y=>by rw[aaN (by omega)];exact hself X
     simp only[CB.clean]at n5 n4
     have nQ:∀X Y,QS v' q' (((Xb h').set (h.length+2) X).set 2 Y) 4:=fun X Y=>by
      rcases QS.cln jQ with h1|⟨b,w0,rows0,r0,h1,h2,h3⟩
      ·exact .inl h1
      ·have hbb:=jB b (by rw[h1];simp[bV])
       simp only[adQ,ajM,or_false,not_or]at hbb
       exact .inr ⟨b,w0,rows0,r0,h1,by rw[aaN (by omega),aaN (by omega)];exact h2,h3⟩
     have hlen2:∀X Y:CB,(((Xb h').set (h.length+2) X).set 2 Y).length=h'.length:=fun X Y=>by simp[Sm]
     have nqt:∀(X:CB) (Y:List (List AV)),X.quiet X.clean=true→Qy (((Xb h').set (h.length+2) X).set 2 (.live 1 true true Y))=true:=fun X Y hX=>Uy (Uy (dT jq) _ hX) _ rfl
     have fin1:∀{n:Nat} {q2:List Nat} {M:Qa} {Y:List Nat} {LB:CB} {v2:AV} {fl2:Bool},nK E s N Xk (dd'.set to n) q2 (dL E room (i+1))→n<xt→q2.length=q'.length+1→h'.length≤M.length→Qy M=true→M[4]?=some (.live 1 fl2 true [[v2]])→QS v2 q2 M 4→(∀b∈bV v2,h'.length≤b)→
      (∀b c,b∉Y→(((Xb h').set (h.length+2) LB).set 2 (.live 1 true true ((dd'.set to n).map Zq)))[b]?=some c→M[b]?=some c)→4∈Y→(∀b∈Y,b=4∨(b∈bV v'∧M[b]?=some .dead))→
      (Tu.ret (AV.bool true)=.ret (.bool true))∧fG h' (M.set (h.length+2) LP)∧∃dd2 q2,DiH LK.clean false ps N (aI h' (M.set (h.length+2) LP)) dd2 q2 [k,h.length,h.length+1,h.length+2]∧nK E s N Xk dd2 q2 (dL E room (i+1))∧2*dd2.sum+q2.length≤2*dd.sum+q.length∧(∀b∈[k,h.length,h.length+1,h.length+2],(aI h' (M.set (h.length+2) LP))[b]?=h'[b]?)∧h'.length≤(aI h' (M.set (h.length+2) LP)).length:=fun {n q2 M Y LB v2 fl2} dx hn hq2 m1 m2 m3 m4 m5 m6 hY hY'=>by
      have hr:=ak8 (K:=[k,h.length,h.length+1,h.length+2]) j0 j1 (by rw[hrows];exact j2) j3 j5 j4 jQ jB jq k8 (by simp) hK6 hb0 (by rw[←hLP];rfl) m1 m2 m3 m4 m5 m6 hY hY'
      exact⟨rfl,hr.1,dd'.set to n,q2,hr.2.1,dx,by have:=hsum n hn;omega,hr.2.2.1,hr.2.2.2⟩
     have nbv:h.length+2∉4::bV v':=fun hx=>by
      rcases adQ.1 hx with hx|hx
      ·omega
      ·have:=(jB _ hx).2;simp at this
     have mq:∀x,x∈q'++[to]↔x=to∨x∈q':=fun x=>by simp;exact Or.comm
     have mq2:∀x,x∈to::q'↔x=to∨x∈q':=fun x=>by simp
     cases htb:rM pc with
     |true=>
      have hw1:IntKind.i64.wrap ((xr:Int)+1)=((xr+1:Nat):Int):=by have:=hlw (xr+1) (by omega);simpa using this
      rw[htb]at htt hbit I0 I1
      simp only[if_true]at I0 I1 hbit
      by_cases hle:xt≤xr+1
      ·have hle':(((xr+1:Nat):Int)≥(xt:Int))=True:=eq_true (by omega)
       have fz:=fin0 (I0 hle)
       subst hLP
       refine auK hbc rfl ?_
       (have hb:=trivial;with_reducible repeat' (first|simp only[hb,Vc.down,seval,fE.down,k8,g0,g1,g5,g7,g9,g10,g0',g1',g2',g3',g5',gk',Tn,hi12,hp24,hpl,htk,htt,hbit,hrm,htm,hrN,htN',hw1,hle',hself,hback]|refine Qp ?_ ?_<;>intro hb|refine fd ?_|fail))
       exact⟨_,_,rfl,fz⟩
      ·have hle':(((xr+1:Nat):Int)≥(xt:Int))=False:=eq_false (by omega)
       subst hLP
       refine auK hbc rfl ?_
       (have hb:=trivial;with_reducible repeat' (first|simp only[hb,Vc.down,seval,fE.down,k8,g0,g1,g5,g7,g9,g10,g0',g1',g2',g3',g5',gk',Tn,hi12,hp24,hpl,htk,htt,hbit,hrm,htm,hrN,htN',hw1,hle',hst]|refine Qp ?_ ?_<;>intro hb|refine fd ?_|fail))
       generalize hLB:CB.lp _ _ _ _ Yc.busy=LB
       obtain⟨q1,hq1⟩:∃q,Fn.func 75=q:=⟨_,rfl⟩
       obtain⟨es,M,b1,b2,b3,b4,⟨v2,fl2,b5,b6,b7⟩,b8,b9⟩:=aw8 (nqt LB ((dd'.set to (xr+1)).map Zq) (by rw[←hLB];rfl)) to (n4 LB _) (nQ LB _) hq'
       rw[hq1]at b1
       have n5':=n5 LB
       have mB:=b8 _ _ nbv (nB LB _)
       have fz:=fin1 (I1 (q'++[to]) (by omega) mq) (by omega) (by simp) (by rw[hlen2]at b3;exact b3) b4 b5 b6 (by rw[hlen2]at b7;exact b7) b8 (af8 ..) (fun b hb1=>(adQ.1 hb1).imp id fun hb1=>⟨hb1,b9 b hb1⟩)
       subst hLB
       (have hb:=trivial;with_reducible repeat' (first|simp only[hb,Vc.down,seval,fE.down,n5',hq1,b1,b2,mB]|refine Qp ?_ ?_<;>intro hb|refine fd ?_|fail))
       exact⟨_,_,rfl,fz⟩
     |false=>
      have hw1:IntKind.i64.wrap ((xr:Int)+0)=((xr:Nat):Int):=by have:=hlw xr (by omega);simpa using this
      rw[htb]at htt hbit I0 I1
      simp only[Bool.false_eq_true,if_false,Nat.add_zero]at I0 I1 hbit
      by_cases hle:xt≤xr
      ·have hle':((xr:Int)≥(xt:Int))=True:=eq_true (by omega)
       have fz:=fin0 (I0 hle)
       subst hLP
       refine auK hbc rfl ?_
       (have hb:=trivial;with_reducible repeat' (first|simp only[hb,Vc.down,seval,fE.down,k8,g0,g1,g5,g7,g9,g10,g0',g1',g2',g3',g5',gk',Tn,hi12,hp24,hpl,htk,htt,hbit,hrm,htm,hrN,htN',hw1,hle',hself,hback]|refine Qp ?_ ?_<;>intro hb|refine fd ?_|fail))
       exact⟨_,_,rfl,fz⟩
      ·have hle':((xr:Int)≥(xt:Int))=False:=eq_false (by omega)
       subst hLP
       refine auK hbc rfl ?_
       (have hb:=trivial;with_reducible repeat' (first|simp only[hb,Vc.down,seval,fE.down,k8,g0,g1,g5,g7,g9,g10,g0',g1',g2',g3',g5',gk',Tn,hi12,hp24,hpl,htk,htt,hbit,hrm,htm,hrN,htN',hw1,hle',hst]|refine Qp ?_ ?_<;>intro hb|refine fd ?_|fail))
       generalize hLB:CB.lp _ _ _ _ Yc.busy=LB
       obtain⟨q1,hq1⟩:∃q,Fn.func 79=q:=⟨_,rfl⟩
       obtain⟨es,M,b1,b2,b3,b4,⟨v2,fl2,b5,b6,b7⟩,b8⟩:=beA (nqt LB ((dd'.set to xr).map Zq) (by rw[←hLB];rfl)) to (n4 LB _) (nQ LB _) hq'
       rw[hq1]at b1
       have n5':=n5 LB
       have mB:=b8 _ _ (by omega) (nB LB _)
       have fz:=fin1 (Y:=[4]) (I1 (to::q') (by omega) mq2) (by omega) (by simp) (by rw[hlen2]at b3;exact b3) b4 b5 b6 (by rw[hlen2]at b7;exact b7) (fun b c hn=>b8 b c (by simpa using hn)) (af8 ..) (fun b hb1=>.inl (by simpa using hb1))
       subst hLB
       (have hb:=trivial;with_reducible repeat' (first|simp only[hb,Vc.down,seval,fE.down,n5',hq1,b1,b2,mB]|refine Qp ?_ ?_<;>intro hb|refine fd ?_|fail))
       exact⟨_,_,rfl,fz⟩
    obtain⟨o,G,es,e1,e2,rfl,z0,dd2,q2,z1,z2,z3,z4,z5⟩:=atE round (fun o G h=>h.2.1.sh)
    refine⟨es,e1,?_⟩
    rw[e2]
    exact⟨dd2,q2,z1,z2,z3,⟨a0,by rw[z4 k (by simp)];exact k5⟩,⟨a1,by rw[z4 _ (by simp)];exact k6⟩,⟨a2,by rw[z4 _ (by simp)];exact k7⟩,by rw[z4 _ (by simp)];exact k8,by omega,kO.trans z0⟩
   ·rintro i p h' hpx n1 n2 ⟨dd',q',k1,k3,k4,k5,k6,k7,k8,k9⟩
    have hpo:=hw.part p (ak2 hpx)
    obtain⟨pc,hpc⟩:∃x,L[i]?=some x:=⟨_,ag1 (by have:=(aq3.1 hpx).1;omega)⟩
    have he:=al7 hpx hpc
    rw[hE]at he
    exact⟨dd',q',k1,k3.skip he (by omega) (by omega),k4,k5,k6,k7,k8,k9⟩
   ·have cl:∀(b:Nat) (c:CB),h[b]?=some c→(Xb h++[CB.live 1 false false [[.ptr 0 0 0]],.live 1 true false [[.int .i64 (room:Nat)]],LP])[b]?=some c.clean:=fun b c hc=>Qg (Vf hc) _
    have ca:∀j,(Xb h++[CB.live 1 false false [[.ptr 0 0 0]],.live 1 true false [[.int .i64 (room:Nat)]],LP])[h.length+j]?=[CB.live 1 false false [[.ptr 0 0 0]],.live 1 true false [[.int .i64 (room:Nat)]],LP][j]?:=fun j=>by
     rw[ai0 (by rw[Sm];omega),Sm,akZ]
    have hLc:LP.clean=LP:=by rw[←hLP];rfl
    have hLq:LP.quiet LP=true:=by rw[←hLP];rfl
    have hok:fG (h++[.live 1 false false [[.ptr 0 0 0]],.live 1 true false [[.int .i64 (room:Nat)]],LP]) (Xb h++[.live 1 false false [[.ptr 0 0 0]],.live 1 true false [[.int .i64 (room:Nat)]],LP]):=by
     have:=fG.cl (H:=h++[.live 1 false false [[.ptr 0 0 0]],.live 1 true false [[.int .i64 (room:Nat)]],LP]) (Uz iq (by simp only[Qy,aq6,hLc,hLq];rfl))
     rw[show Xb (h++[CB.live 1 false false [[.ptr 0 0 0]],.live 1 true false [[.int .i64 (room:Nat)]],LP])=Xb h++[CB.live 1 false false [[.ptr 0 0 0]],.live 1 true false [[.int .i64 (room:Nat)]],LP] by simp only[Xb,atH,List.map_cons,List.map_nil,hLc];rfl]at this
     exact this
    refine⟨dd,q,⟨false,v,fl,false,by rw[hLK];exact cl 0 _ i0,cl 1 _ i1,cl 2 _ i2,cl 3 _ i3,cl 5 _ i5,cl 4 _ i4,?_,fun b hb1=>?_,Uz (dT iq) (by simp only[Qy,aq6,hLc,hLq];rfl)⟩,rI,ajY _,⟨_,cl k _ hkb⟩,⟨false,ca 0⟩,⟨false,ca 1⟩,ca 2,by simp[Sm],hok⟩
    ·rcases QS.cln iQ with h|⟨b,w',rows,r,h1,h2,h3⟩
     ·exact .inl h
     ·exact .inr ⟨b,w',rows,r,h1,Qg h2 _,h3⟩
    ·have:=(iQ.lt b hb1).1
     have:=iB b hb1
     simp at this ⊢
     omega
   ·rintro o h' ⟨rfl,dd',q',⟨f',v',fl',w2,j0,j1,j2,j3,j5,j4,jQ,jB,jq⟩,k3,k4,⟨a0,k5⟩,⟨a1,k6⟩,⟨a2,k7⟩,k8,k9,kO⟩
    have hl5:=Qv i5
    have hLc:LP.clean=LP:=by rw[←hLP];rfl
    have hLq:LP.quiet LP=true:=by rw[←hLP];rfl
    obtain⟨h1,hh1⟩:∃H:Qa,h++[.live 1 false false [[.ptr 0 0 0]],.live 1 true false [[.int .i64 (room:Nat)]],LP]=H:=⟨_,rfl⟩
    have hB1:h1[h.length+2]?=some LP:=by rw[←hh1,ai0 (by omega),akZ];rfl
    have hq1:Qy h1=true:=by rw[←hh1];exact Uz iq (by simp only[Qy,aq6,hLc,hLq];rfl)
    have hO:∀(b:Nat) (c:CB),h[b]?=some c→h1[b]?=some c:=fun b c hc=>by rw[←hh1];exact Qg hc _
    simp only[hh1]at kO ⊢
    obtain⟨es,e1,e2⟩:=jF h1 h' [] kO.sh
    have e1':Rr 0 h1 h'=some es:=e1
    simp only[aoR]at e2
    have m0:=fG.old (hO 0 _ i0) j0 (by rw[hLK];rfl)
    have m1:=fG.old (hO 1 _ i1) j1 rfl
    obtain⟨x2,m2⟩:=kO.live j2
    have m3:=fG.old (hO 3 _ i3) j3 rfl
    have m5:=fG.old (hO 5 _ i5) j5 rfl
    obtain⟨x4,m4⟩:=kO.live j4
    obtain⟨xk,mk_⟩:=kO.live k5
    have mQ:=jQ.okw kO
    have mB:=fG.old hB1 k8 hLq
    have mqt:=kO.quiet hq1 jq
    have mln:h'.length≤(aI h1 h').length:=by rw[eK kO.1];exact ajY _
    generalize hM:aI h1 h'=M at *
    rw[rZ,e1']
    have dne:∀(b:Nat) (c:CB),b≠h.length+2→M[b]?=some c→(M.set (h.length+2) .dead)[b]?=some c:=fun b c hn hc=>by rw[aaN (fun e=>hn e.symm)];exact hc
    have hkn:k≠h.length+2:=by omega
    have d0:=dne 0 _ (by omega) m0
    have d1:=dne 1 _ (by omega) m1
    have d2:=dne 2 _ (by omega) m2
    have d3:=dne 3 _ (by omega) m3
    have d5:=dne 5 _ (by omega) m5
    have d4:=dne 4 _ (by omega) m4
    have dk:=dne k _ hkn mk_
    have dq:Qy (M.set (h.length+2) .dead)=true:=Uy mqt _ rfl
    have dl:(M.set (h.length+2) .dead).length=M.length:=by simp
    have dQ:QS v' q' (M.set (h.length+2) .dead) 4:=by
     rcases mQ with h1|⟨b,w0,rows0,r0,h1,h2,h3⟩
     ·exact .inl h1
     ·have hbb:=jB b (by rw[h1];simp[bV])
      simp only[adQ,ajM,or_false,not_or]at hbb
      exact .inr ⟨b,w0,rows0,r0,h1,dne b _ (by omega) h2,h3⟩
    subst hLP
    (have hb:=trivial;with_reducible repeat' (first|simp only[hb,Vc.down,seval,fE.down,e2,mB]|refine Qp ?_ ?_<;>intro hb|refine fd ?_|fail))
    generalize hD:M.set (h.length+2) CB.dead=D at *
    (have hb:=trivial;with_reducible repeat' (first|simp only[hb,Vc.down,seval,fE.down,g0,g1,g5,g7,g9,g10,dk,d5]|refine Qp ?_ ?_<;>intro hb|refine fd ?_|fail))
    have p5:=Qg d5 [CB.live 1 true true [[.int .i64 (room:Int)]]]
    have p4:=Qg d4 [CB.live 1 true true [[.int .i64 (room:Int)]]]
    have pq:Qy (D++[CB.live 1 true true [[.int .i64 (room:Int)]]])=true:=Uz dq rfl
    have pQ:=dQ.app [CB.live 1 true true [[.int .i64 (room:Int)]]]
    have pk:(D++[CB.live 1 true true [[.int .i64 (room:Int)]]])[D.length]?=some (.live 1 true true [[.int .i64 (room:Int)]]):=by simp
    have hEl:E.length≤w.parts.length:=by rw[←hE];simp[zE,tgt];omega
    have k3':=k3.done hEl
    have hD6:6≤D.length:=by omega
    have hvD:∀b∈bV v',6≤b∧b∉[D.length]:=fun b hb1=>by
     have h1:=(dQ.lt b hb1).1
     have h2:=(jB b hb1).1
     exact⟨h2,by simp;omega⟩
    obtain⟨q1,hq1⟩:∃q,Fn.func 76=q:=⟨_,rfl⟩
    cases q' with
    |nil=>
     have b1:=beB pq p4 pQ
     rw[hq1]at b1
     (have hb:=trivial;with_reducible repeat' (first|simp only[hb,Vc.down,seval,fE.down,p5,hq1,b1]|refine Qp ?_ ?_<;>intro hb|refine fd ?_|fail))
     refine Qj (kJ _ _ () ⟨by simp[up,g0],by simp[up,g1],by simp[up,g5],by simp[up,g7],by simp[up,g9],dd',[],D.length,?_,?_,.inr ⟨by simp[up],rfl,k3'⟩⟩ rfl)
     ·exact⟨_,_,_,_,Qg d0 _,Qg d1 _,Qg d2 _,Qg d3 _,Qg d5 _,Qg d4 _,dQ.app _,hvD,Uz dq rfl⟩
     ·omega
    |cons x q'=>
     simp only[arA]at k4
     obtain⟨es,M4,b1,b2,b3,b4,⟨v2,fl2,b5,b6,b7⟩,b8⟩:=aw3 pq p4 pQ (by omega)
     rw[hq1]at b1
     have r5:=b8 _ _ (by omega) p5
     have rk:=b8 _ _ (by omega) pk
     (have hb:=trivial;with_reducible repeat' (first|simp only[hb,Vc.down,seval,fE.down,p5,hq1,b1,b2,rk,r5]|refine Qp ?_ ?_<;>intro hb|refine fd ?_|fail))
     have sne:∀(b:Nat) (c:CB),b<D.length→b≠4→D[b]?=some c→(M4.set D.length (.live 1 true true [[.int .i64 (x:Int)]]))[b]?=some c:=fun b c h1 h2 hc=>by
      rw[aaN (by omega)];exact b8 b c h2 (Qg hc _)
     have hl4:=Qv rk
     refine Qj (kJ _ _ () ⟨by simp[up,g0],by simp[up,g1],by simp[up,g5],by simp[up,g7],by simp[up,g9],dd',q',D.length,?_,by omega,.inl ⟨by simp[up],x,true,by simp[up],hD6,afJ hl4,k3',by omega⟩⟩ rfl)
     refine⟨_,v2,fl2,true,sne 0 _ (by omega) (by omega) d0,sne 1 _ (by omega) (by omega) d1,sne 2 _ (by omega) (by omega) d2,sne 3 _ (by omega) (by omega) d3,sne 5 _ (by omega) (by omega) d5,by rw[aaN (by omega)];exact b5,?_,fun b hb1=>hvD b (by rw[←b7];exact hb1),Uy b4 _ rfl⟩
     rcases b6 with h1|⟨b,w0,rows0,r0,h1,h2,h3⟩
     ·exact .inl h1
     ·have hbb:=hvD b (by rw[←b7,h1];simp[bV])
      simp only[adQ,ajM,or_false]at hbb
      exact .inr ⟨b,w0,rows0,r0,h1,by rw[aaN (fun e=>hbb.2 e.symm)];exact h2,h3⟩
  ·(have hb:=trivial;with_reducible repeat' (first|simp only[hb,Vc.down,seval,fE.down,g11]|refine Qp ?_ ?_<;>intro hb|refine fd ?_|fail))
   exact kQ _ _ _ ⟨rfl,by simp[up,g7],dd,k,hD,hI⟩
 ·refine⟨by simp[up,g0],by simp[up,g1],by simp[up,g5],by simp[up,g7],by simp[up],Zt N s Xk,[],M2.length,?_,by simp only[ak0];omega,.inl ⟨by simp[up],s,true,by simp[up],by simp at b3;omega,by rw[ai0 (ajY _),aq4];rfl,I0,by simp⟩⟩
  refine⟨true,v2,fl2,true,Qg j0 _,Qg j1 _,Qg j2 _,Qg j3 _,Qg j5 _,Qg c5 _,?_,?_,Uz c4 rfl⟩
  ·rcases c6 with h|⟨b,w',rows,r,h1,h2,h3⟩
   ·exact .inl h
   ·exact .inr ⟨b,w',rows,r,h1,Qg h2 _,h3⟩
  ·intro b hb1
   have:=c6.lt b hb1
   rw[c7]at hb1
   have h6:=b7 b hb1
   simp at h6
   exact⟨h6,by simp;omega⟩
 obtain⟨rfl,g7,dd,k,⟨f,v,fl,w',i0,i1,i2,i3,i5,i4,iQ,iB,iq⟩,hI⟩:=hk
 have hR:=hI.right hs hEo (by unfold Xk;omega)
 have hdl:=hI.i.len
 have hln:(dd.map Zq).length=N:=by simp[hdl]
 subst hLK
 (have hb:=trivial;with_reducible repeat' (first|simp only[hb,Vc.down,seval,fE.down,g7,i3,i2,i0,hln]|refine Qp ?_ ?_<;>intro hb|refine fd ?_|fail))
 exact⟨f,dd,rfl,hdl,hR⟩
theorem Ya(L:List (Int × Bool)):∀x∈Sv L,(∃n,x=.int .i64 n)∨∃b,x=.bool b:=fun x hx=>by
 simp only[Sv,auE,adQ,ajM,or_false]at hx
 obtain⟨y,_,rfl|rfl⟩:=hx
 ·exact .inl ⟨_,rfl⟩
 ·exact .inr ⟨_,rfl⟩
theorem Vo(L:List (Int × Bool)):(Sv L).all AV.flat=true:=akX.2 fun x hx=>by rcases Ya L x hx with⟨n,rfl⟩|⟨b,rfl⟩<;>rfl
theorem Vn(L:List (Int × Bool)):(Sv L).all AV.isCell=true:=akX.2 fun x hx=>by rcases Ya L x hx with⟨n,rfl⟩|⟨b,rfl⟩<;>rfl
theorem eV(L:List (Int × Bool))(d:Nat)(g:HF):Ri (Vp (d+1) g) (Sv L)=some (Sv L):=yA fun x hx=>by rcases Ya L x hx with⟨n,rfl⟩|⟨b,rfl⟩<;>rfl
theorem eD(L:List (Int × Bool))(d:Nat)(g:HF):(Sv L).flatMap (Qu (d+1) g)=[]:=List.flatMap_eq_nil_iff.2 fun x hx=>by rcases Ya L x hx with⟨n,rfl⟩|⟨b,rfl⟩<;>rfl
theorem aK(L:List (Int × Bool))(d:Nat)(m:List Nat):Rl.refL (Rl (d+1)) m (Sv L)=some (Sv L,m):=Vt fun x hx=>by rcases Ya L x hx with⟨n,rfl⟩|⟨b,rfl⟩<;>rfl
theorem kP(L:List (Int × Bool))(d:Nat)(f:Nat→Nat):Ri (Su (d+1) f) (Sv L)=some (Sv L):=yA fun x hx=>by rcases Ya L x hx with⟨n,rfl⟩|⟨b,rfl⟩<;>rfl
theorem kT(L:List (Int × Bool))(d:Nat):(Sv L).any (hasImm (d+1))=false:=List.any_eq_false.2 fun x hx=>by rcases Ya L x hx with⟨n,rfl⟩|⟨b,rfl⟩<;>simp[hasImm]
def dO(w:Qh)(N:Nat)(L:List (Int × Bool)):Nat:=uU (zE w (tgt L)) N w.parts.length
theorem dS{w:Qh}{N:Nat}(hw:qK w N)(h12:w.parts.length≤12)(d:Int){L:List (Int × Bool)}(hL12:L.length=12)(wf:Bool):
 Up.call (.fn 51) [.ptr 0 0 0,.agg (Sv L)] [.live 4 false wf [[.int .i64 w.rooms,.int .i64 w.need,Rn 9 true w.nn (w.parts.map Qc.cells),.int .i64 d]]]=some (.ret (.int .i64 (dO w N L:Nat)),[.live 4 false wf [[.int .i64 w.rooms,.int .i64 w.need,Rn 9 true w.nn (w.parts.map Qc.cells),.int .i64 d]]]):=by
 have n2:=hw.n2
 have n8:=hw.n8
 obtain⟨o,h',hc,f,ds,rfl,rfl,hdl,hR⟩:=aa1 hw h12 (d:=d) (s:=0) (by omega) hL12 rfl (wf:=false)
 have hne:=axE (len:=w.parts.length) n2 (by omega) (by unfold Xk;omega) (uK hw (tgt L)) hR
 have hf1:=Vo L
 have hf2:=Vn L
 have hpl:(Sv L).length=24:=by rw[Rh];omega
 have hd1:=yD (d:=ds) (a:=1) (by omega)
 have h1N:((1:Int)<(N:Int))=True:=eq_true (by omega)
 have hle:ds.getD 1 0≤1048576:=by
  by_cases e:ds.getD 1 0=Xk
  ·rw[e];exact ajY _
  ·have:=(fM.num hR hR (by unfold Xk;omega) (by unfold Xk;omega) (by omega) (uK hw (tgt L)) (v:=1) (by omega)).2.2 e
   have:ds.getD 1 0<N:=this
   omega
 have hN1:dO w N L=if ds.getD 1 0=Xk then w.parts.length+1 else ds.getD 1 0:=hne.symm
 rw[hN1]
 have hav:=eV L
 have hlv:=eD L
 have hrf:=aK L
 simp only[Int.natCast_zero]at hc
 generalize Sv L=ps at *
 have htk:aj6 24 ps=ps:=arB (by omega)
 generalize ds.getD 1 0=x at *
 generalize ds.map Zq=rows at *
 have hwr:IntKind.i64.wrap ((w.parts.length:Int)+1)=((w.parts.length+1:Nat):Int):=by have:=Us (n:=((w.parts.length+1:Nat):Int)) (by omega) (by omega);simpa using this
 by_cases e:x=Xk
 ·have e1:((x:Int)==1048576)=true:=by rw[e];rfl
  rw[if_pos e]
  refine ce Tryz.func51 ?_
  simp only[Tryz.f51]
  (have hb:=trivial;with_reducible repeat' (first|simp only[hb,Vc.down,seval,baT.down,hpl,hf1,hf2,htk,hav,hlv,hrf,hc,hd1,h1N,e1,hwr,ajV]|refine Qp ?_ ?_<;>intro hb|refine fd ?_|fail))
 ·have e1:((x:Int)==1048576)=false:=by simp;exact fun h=>e (by unfold Xk;omega)
  rw[if_neg e]
  refine ce Tryz.func51 ?_
  simp only[Tryz.f51]
  (have hb:=trivial;with_reducible repeat' (first|simp only[hb,Vc.down,seval,baT.down,hpl,hf1,hf2,htk,hav,hlv,hrf,hc,hd1,h1N,e1,ajV]|refine Qp ?_ ?_<;>intro hb|refine fd ?_|fail))
theorem bJ{w:Qh}{d:Int}(h12:w.parts.length≤12):(Qb w d).length=12:=by simp[Qb];omega
theorem aeV{w:Qh}{N:Nat}{d:Int}:dO w N (Qb w d)=amY w N d:=by unfold dO amY;rw[afB]
theorem acL{α:Type}{d:List AV→Option α}{f:α→List AV}(hd:∀cs x,d cs=some x→cs=f x):∀{rows:List (List AV)} {l:List α},Ri d rows=some l→rows=l.map f
 | [],l,h=>by simp[Ri]at h;subst h;rfl
 |r::rows,l,h=>by
  simp only[Ri,avR,aq7]at h
  obtain⟨x,h1,l',h2,rfl⟩:=h
  rw[hd r x h1,acL hd h2];rfl
def dSl{α:Type}(n:Nat)(fl:Bool)(d:List AV→Option α):AV→Option (Bool × List α)
 | .nils=>some (false,[])
 | .imm n' fl' rows=>if n'=n∧fl'=fl then(Ri d rows).map fun l=>(true,l)else none
 |_=>none
theorem aC8{α:Type}{n:Nat}{fl:Bool}{d:List AV→Option α}{f:α→List AV}(hd:∀cs x,d cs=some x→cs=f x){v:AV}{x:Bool × List α}(h:dSl n fl d v=some x):v=Rn n fl x.1 (x.2.map f):=by
 unfold dSl at h
 split at h
 ·cases h;rfl
 ·split at h
  ·rename_i hq
   obtain⟨rfl,rfl⟩:=hq
   obtain⟨l,h1,rfl⟩:=aq7.1 h
   rw[acL hd h1]
   cases l<;>rfl
  ·cases h
 ·cases h
def aqZ:List AV→Option Qc
 | [.int .i64 a,.int .i64 b,.bool c,.bool d,.int .i64 e,.int .i64 f,.bool g,.int .i64 h,.int .i64 i]=>some ⟨a,b,c,d,e,f,g,h,i⟩
 |_=>none
theorem aoK(cs:List AV)(x:Qc)(h:aqZ cs=some x):cs=x.cells:=by
 unfold aqZ at h
 split at h
 ·cases h;rfl
 ·cases h
def amP:List AV→Option (List (Int × Bool))
 | []=>some []
 | .int .i64 a::.bool b::l=>(amP l).map fun r=>(a,b)::r
 |_=>none
theorem afQ:∀(cs:List AV) (x:List (Int × Bool)),amP cs=some x→cs=Sv x
 | [],x,h=>by simp[amP]at h;subst h;rfl
 | .int .i64 a::.bool b::l,x,h=>by
   simp only[amP,aq7]at h
   obtain⟨r,h1,rfl⟩:=h
   rw[afQ l r h1];rfl
def a32:List AV→Qa→Option (Tu × Qa)
 | [.ptr 0 0 0,.agg ps],[.live 4 false wf [[.int .i64 rooms,.int .i64 need,sl,.int .i64 d]]]=>
   (dSl 9 true aqZ sl).bind fun x=>(amP ps).bind fun L=>if(Vw ⟨rooms,need,x.1,x.2⟩&&decide (L.length=12))=true then
     some (.ret (.int .i64 (dO ⟨rooms,need,x.1,x.2⟩ rooms.toNat L:Nat)),[.live 4 false wf [[.int .i64 rooms,.int .i64 need,sl,.int .i64 d]]])else none
 |_,_=>none
def pr2:aC:={ pr with at_:=fun f=>if f=51 then some a32 else pr f }
theorem a3T(f:Nat)(h:pr2 f=none):pr f=none:=by
 simp only[pr2]at h
 split at h
 ·cases h
 ·exact h
theorem aI5:∀f p,pr2 f=some p→∀a h r,p a h=some r→Up.call (.fn f) a h=some r:=by
 intro f p hp a h r hr
 simp only[pr2]at hp
 split at hp
 ·rename_i hf
  subst hf
  cases hp
  unfold a32 at hr
  split at hr
  ·rename_i ps wf rooms need sl d
   simp only[avR]at hr
   obtain⟨x,h1,L,h2,h3⟩:=hr
   split at h3
   ·rename_i hs
    simp only[Bool.and_eq_true,decide_eq_true_eq]at hs
    cases h3
    obtain⟨N,hw,h12⟩:=agT hs.1
    have hN:rooms.toNat=N:=by have:=hw.rooms;simp only at this;omega
    rw[aC8 aoK h1,afQ _ _ h2,hN]
    exact dS hw h12 d hs.2 wf
   ·cases h3
  ·cases hr
 ·exact ag8 hp hr
theorem ajJ:(dC Tryz.prog pr2 100).call (.fn 10) [] []=some (.ret (.bool true),[]):=by kernel_rfl
theorem anT:Up.call (.fn 10) [] []=some (.ret (.bool true),[]):=adF (pr:=pr) (pr2:=pr2) rfl a3T aI5 ajJ
end Go.Proofs.YtcncggaobhbomaaGreatDoor
