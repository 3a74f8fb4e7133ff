/- The functions of the layer, walked. -/
import Derived.Test.YtcncggaobhbomaaGreatDoorPartAA
import Derived.Test.YtcncggaobhbomaaGreatDoorLibE
import Derived.Test.YtcncggaobhbomaaGreatDoorLibD
open List renaming replicate→agX,getElem?_set_ne→ao8,mem_cons→aqM,getElem?_eq_getElem→aqT,take→awX,mem_cons_self→aAR,not_mem_nil→aC4,take_of_length_le→aC5,getElem?_append_right→aC7,length_map→aC8,getElem?_set_self→aEY,nil_append→aE6,all_eq_true→aFD,length_replicate→aHS,getElem?_eq_some_iff→aH6,mem_of_getElem?→aIS,mem_cons_of_mem→aJY,getElem?_map→aJ1,drop→aJ9,cons_append→aKY,map_set→aM0,all_cons→aM7,getElem?_append_left→aNU,ext_getElem?→aNV,replicate_succ→aNZ,flatMap_cons→aN0,drop_succ_cons→aOE,mem_flatMap→aP8,getElem?_replicate→aRR
open Nat renaming le_refl→aC6,sub_self→aLK,add_sub_cancel_left→aRS
open Option renaming map_eq_some_iff→aIF,bind_some→aNT,bind_eq_some_iff→aR1
open Int renaming toNat_natCast→aQ4
set_option linter.unusedSimpArgs false
set_option linter.unusedVariables false
namespace Go.Proofs.YtcncggaobhbomaaGreatDoor
open Go.Ev Go Go.Ev.Net
set_option maxRecDepth 100000
set_option maxHeartbeats 16000000
theorem bcM(w:Am)(d r:Int)(wf:Bool):Ei.call (.fn 77) [.ptr 0 0 0,.int .i64 r] [.live 4 false wf [[.int .i64 w.rooms,.int .i64 w.need,Bo 9 true w.nn (w.parts.map Ai.cells),.int .i64 d]]]=some (.ret (.func (.func 93) [] [.ptr 1 0 0,.ptr 2 0 0]),[.live 4 false wf [[.int .i64 w.rooms,.int .i64 w.need,Bo 9 true w.nn (w.parts.map Ai.cells),.int .i64 d]],.live 1 false false [[.ptr 0 0 0]],.live 1 true false [[.int .i64 r]]]):=by
 (refine ce Tryz.func77 ?_;simp only[Tryz.f77];(have hb:=trivial;with_reducible repeat' (first|simp only[hb,Vc.down,seval]|refine Av ?_ ?_<;>intro hb|refine fd ?_|fail)))
theorem bc6{w:Am}{N:Nat}(hw:WOk w N){d r:Int}{y:AV}{lb rb kb:Nat}(Oa:Nat→Aa→Prop)
 (hL:∀i h,Oa i h→∃w1,h[lb]?=some (.live 1 false w1 [[.ptr kb 0 0]])) (hK:∀i h,Oa i h→∃w2,h[kb]?=some (.live 4 false w2 [[.int .i64 w.rooms,.int .i64 w.need,Bo 9 true w.nn (w.parts.map Ai.cells),.int .i64 d]])) (hR:∀i h,Oa i h→∃w3,h[rb]?=some (.live 1 true w3 [[.int .i64 r]]))
 (hA:∀i h fl wf (rows:List (List AV)),Oa i h→Oa i (h++[.live 9 fl wf rows]))
 (hS:∀(i:Nat) (p:Ai) (u:Int) h,w.parts[i]?=some p→((p.one=r∧u=p.other)∨(p.one≠r∧p.other=r∧u=p.one))→Oa i h→∃es,cl Ei h (some y) (some [.int .i64 i,.int .i64 u])=some (.ret (.bool true),es)∧Oa (i+1) (Bn h es))
 (hN:∀(i:Nat) (p:Ai) h,w.parts[i]?=some p→p.one≠r→p.other≠r→Oa i h→Oa (i+1) h)
 {h0:Aa} (h0I:Oa 0 h0):ShQ Ei 93 [y,.ptr lb 0 0,.ptr rb 0 0] h0 fun o h'=>o=.ret (.tup [])∧Oa w.parts.length h':=by
 obtain⟨w1,hl⟩:=hL _ _ h0I
 obtain⟨w2,hk0⟩:=hK _ _ h0I
 have hlen:=hw.len
 refine aPE rfl Tryz.func93 rfl rfl ?_
 simp only[Tryz.f93]
 (have hb:=trivial;with_reducible repeat' (first|simp only[hb,Vc.down,seval,aTQ.down,hl,hk0,aC8]|refine Av ?_ ?_<;>intro hb|refine fd ?_|fail))
 refine Hn (lst 41 w.parts (fun i (_:Unit) t h=>t 0=y∧t 1=.ptr lb 0 0∧t 2=.ptr rb 0 0∧t 11=Bo 9 true w.nn (w.parts.map Ai.cells)∧t 12=.int .i64 (w.parts.length:Nat)∧t 13=.int .i64 (i:Int)∧Oa i h) (fun _ _=>()) (fun _ e t h=>e=.exit 0∧Oa w.parts.length h) ?_ ?_ () _ _ ?_) (fun e t h hk=>?_)
 ·rintro _ t h Q' kQ ⟨g0,g1,g2,g11,g12,g13,hI⟩
  (have hb:=trivial;with_reducible repeat' (first|simp only[hb,Vc.down,seval,aTQ.down,g12,g13,Int.lt_irrefl,decide_false]|refine Av ?_ ?_<;>intro hb|refine fd ?_|fail))
  exact kQ _ _ _ ⟨rfl,hI⟩
 ·rintro p rest i _ t h J Q' kJ kQ hx hi ⟨g0,g1,g2,g11,g12,g13,hI⟩
  have hdd:decide ((i:Int)<(w.parts.length:Int))=true:=decide_eq_true (by omega)
  have hww:=Ci hi (by unfold maxLen;omega)
  have hpo:=hw.part p (aIS hx)
  obtain⟨w3,hr⟩:=hR _ _ hI
  have hr1:=Ah hr
  have hv1:=hA _ _ true true [p.cells] hI
  have c1:decide ((0:Int)≤p.other)=true:=decide_eq_true hpo.2.1.1
  have c2:decide ((0:Int)≤p.one)=true:=decide_eq_true hpo.1.1
  have c3:decide ((0:Int)≤ -1)=false:=rfl
  by_cases e1:p.one=r
  ·have q1:(r==p.one)=true:=by simp[e1]
   obtain⟨es,hes,hv2⟩:=hS i p p.other _ hx (.inl ⟨e1,rfl⟩) hv1
   simp only[Ai.cells]at hes hv2
   (have hb:=trivial;with_reducible repeat' (first|simp only[hb,Vc.down,seval,aTQ.down,g0,g1,g2,g11,g12,g13,hdd,hww,hx,hr,hr1,q1,c1,hes,Ai.cells]|refine Av ?_ ?_<;>intro hb|refine fd ?_|fail))
   exact Bh (kJ _ _ () ⟨by simp[up,g0],by simp[up,g1],by simp[up,g2],by simp[up,g11],by simp[up,g12],by simp[up],hv2⟩ rfl)
  ·have q1:(r==p.one)=false:=by simp;exact fun e=>e1 e.symm
   by_cases e2:p.other=r
   ·have q2:(r==p.other)=true:=by simp[e2]
    obtain⟨es,hes,hv2⟩:=hS i p p.one _ hx (.inr ⟨e1,e2,rfl⟩) hv1
    simp only[Ai.cells]at hes hv2
    (have hb:=trivial;with_reducible repeat' (first|simp only[hb,Vc.down,seval,aTQ.down,g0,g1,g2,g11,g12,g13,hdd,hww,hx,hr,hr1,q1,q2,c2,hes,Ai.cells]|refine Av ?_ ?_<;>intro hb|refine fd ?_|fail))
    exact Bh (kJ _ _ () ⟨by simp[up,g0],by simp[up,g1],by simp[up,g2],by simp[up,g11],by simp[up,g12],by simp[up],hv2⟩ rfl)
   ·have q2:(r==p.other)=false:=by simp;exact fun e=>e2 e.symm
    have hv2:=hN i p _ hx e1 e2 hv1
    simp only[Ai.cells]at hv2
    (have hb:=trivial;with_reducible repeat' (first|simp only[hb,Vc.down,seval,aTQ.down,g0,g1,g2,g11,g12,g13,hdd,hww,hx,hr,hr1,q1,q2,c3,Ai.cells]|refine Av ?_ ?_<;>intro hb|refine fd ?_|fail))
    exact Bh (kJ _ _ () ⟨by simp[up,g0],by simp[up,g1],by simp[up,g2],by simp[up,g11],by simp[up,g12],by simp[up],hv2⟩ rfl)
 ·exact⟨by simp[up,Oc],by simp[up,Oc],by simp[up,Oc],by simp[up],by simp[up],by simp[up],h0I⟩
 obtain⟨rfl,hI⟩:=hk
 (have hb:=trivial;with_reducible repeat' (first|simp only[hb,Vc.down,seval,aTQ.down]|refine Av ?_ ?_<;>intro hb|refine fd ?_|fail))
 exact hI
theorem QS.cln{v:AV}{q:List Nat}{H:Aa}{p:Nat}(h:QS v q H p):QS v q (Gt H) p:=by
 rcases h with h|⟨b,w,rows,r,h1,h2,h3,h4,h5⟩
 ·exact .inl h
 ·exact .inr ⟨b,false,rows,r,h1,Ej h2,h3,h4,h5⟩
theorem QS.lt{v:AV}{q:List Nat}{H:Aa}{p:Nat}(h:QS v q H p):∀b∈Nk v,b<H.length∧∃w rows,H[b]?=some (.live 1 true w rows):=by
 rcases h with⟨rfl,_⟩|⟨b,w,rows,r,rfl,h2,_⟩
 ·intro b hb1;simp[Nk]at hb1
 ·intro b' hb1;simp[Nk]at hb1;subst hb1;exact⟨Ap h2,w,rows,h2⟩
theorem a3Y{h:Aa}(hq:Ar h=true){p:Nat}{fl w:Bool}{v:AV}{q:List Nat}(x:Nat)(hp:h[p]?=some (.live 1 fl w [[v]]))(hQ:QS v q h p)(hl:q.length≤100000000):
 ∃es M,cl Ei h (some (.func (.func 75) [] [])) (some [.ptr p 0 0,.int .i64 (x:Int)])=some (.ret (.tup []),es)∧Bn h es=M∧h.length≤M.length∧Ar M=true∧(∃v' fl',M[p]?=some (.live 1 fl' true [[v']])∧QS v' (q++[x]) M p∧∀b∈Nk v',h.length≤b)∧(∀b c,b∉p::Nk v→h[b]?=some c→M[b]?=some c)∧∀b∈Nk v,M[b]?=some .dead:=by
 have hX:∀G:Aa,(∃f row,G[p]?=some (.live 1 f true row))→(∀b∈Nk v,G[b]?=some .dead)→∀b∈p::Nk v,b<h.length∧∀c0 c,h[b]?=some c0→G[b]?=some c→c0.isLive=true∧c0.quiet c=false:=fun G g1 g2 b hb1=>by
  rcases aqM.1 hb1 with rfl|hb1
  ·obtain⟨f,row,g1⟩:=g1
   refine⟨Ap hp,fun c0 c k1 k2=>?_⟩
   rw[hp]at k1;rw[g1]at k2;cases k1;cases k2;exact⟨rfl,rfl⟩
  ·obtain⟨h1,w',rows,h2⟩:=hQ.lt b hb1
   refine⟨h1,fun c0 c k1 k2=>?_⟩
   rw[h2]at k1;rw[g2 b hb1]at k2;cases k1;cases k2;exact⟨rfl,rfl⟩
 obtain⟨o,G,es,e1,e2,rfl,v',fl',k1,k2,K,k4,k5,k6⟩:=aKQ rfl rfl (aXW x (Ej hp) hQ.cln hl) (fun o G hQ=>by
  obtain⟨_,v',fl',k1,k2,K,k4,_⟩:=hQ
  exact(Hy hq K (hX G ⟨_,_,k1⟩ k4)).1)
 have X:=hX G ⟨_,_,k1⟩ k4
 obtain⟨_,m1,m2,m3,m4⟩:=Hy hq K X
 rw[Bv]at k6
 have hle:h.length≤G.length:=by have:=K.len;rwa[Bv]at this
 refine⟨es,_,e1,e2,by rw[m1];exact hle,az7 hq K X (k5 (Oz hq)),⟨v',fl',m4 p (aAR ..) _ k1,?_,k6⟩,fun b c hn hc=>by rw[m3 b (Ap hc) hn];exact hc,fun b hb=>m4 b (aJY _ hb) _ (k4 b hb)⟩
 rcases k2 with h1|⟨b,w',rows,r,h1,h2,h3,h4,h5⟩
 ·exact .inl h1
 ·exact .inr ⟨b,w',rows,r,h1,by rw[m2 b (k6 b (by rw[h1];simp[Nk]))];exact h2,h3,h4,h5⟩
theorem aP0{h:Aa}{p:Nat}{fl w:Bool}{v:AV}(hp:h[p]?=some (.live 1 fl w [[v]]))(G:Aa)(g1:∃f row,G[p]?=some (.live 1 f true row)):∀b∈[p],b<h.length∧∀c0 c,h[b]?=some c0→G[b]?=some c→c0.isLive=true∧c0.quiet c=false:=fun b hb1=>by
 simp at hb1;subst hb1
 obtain⟨f,row,g1⟩:=g1
 refine⟨Ap hp,fun c0 c k1 k2=>?_⟩
 rw[hp]at k1;rw[g1]at k2;cases k1;cases k2;exact⟨rfl,rfl⟩
theorem a9M{h:Aa}(hq:Ar h=true){p:Nat}{fl w:Bool}{v:AV}{q:List Nat}(x:Nat)(hp:h[p]?=some (.live 1 fl w [[v]]))(hQ:QS v q h p)(hl:q.length≤100000000):
 ∃es M,cl Ei h (some (.func (.func 79) [] [])) (some [.ptr p 0 0,.int .i64 (x:Int)])=some (.ret (.tup []),es)∧Bn h es=M∧h.length≤M.length∧Ar M=true∧(∃v' fl',M[p]?=some (.live 1 fl' true [[v']])∧QS v' (x::q) M p∧∀b∈Nk v',h.length≤b)∧∀b c,b≠p→h[b]?=some c→M[b]?=some c:=by
 obtain⟨o,G,es,e1,e2,rfl,v',fl',k1,k2,K,k5,k6⟩:=aKQ rfl rfl (a2E x (Ej hp) hQ.cln hl) (fun o G hQ=>by
  obtain⟨_,v',fl',k1,k2,K,_⟩:=hQ
  exact(Hy hq K (aP0 hp G ⟨_,_,k1⟩)).1)
 have X:=aP0 hp G ⟨_,_,k1⟩
 obtain⟨_,m1,m2,m3,m4⟩:=Hy hq K X
 rw[Bv]at k6
 have hle:h.length≤G.length:=by have:=K.len;rwa[Bv]at this
 refine⟨es,_,e1,e2,by rw[m1];exact hle,az7 hq K X (k5 (Oz hq)),⟨v',fl',m4 p (aAR ..) _ k1,?_,k6⟩,fun b c hn hc=>by rw[m3 b (Ap hc) (by simpa using hn)];exact hc⟩
 rcases k2 with h1|⟨b,w',rows,r,h1,h2,h3,h4,h5⟩
 ·exact .inl h1
 ·exact .inr ⟨b,w',rows,r,h1,by rw[m2 b (k6 b (by rw[h1];simp[Nk]))];exact h2,h3,h4,h5⟩
theorem baW{h:Aa}(hq:Ar h=true){p:Nat}{fl w:Bool}{v:AV}(hp:h[p]?=some (.live 1 fl w [[v]]))(hQ:QS v [] h p):
 cl Ei h (some (.func (.func 76) [] [])) (some [.ptr p 0 0])=some (.ret (.tup [.int .i64 0,.bool false]),[]):=
 aZV rfl rfl (aZH (Ej hp) hQ.cln) hq
theorem a34{h:Aa}(hq:Ar h=true){p:Nat}{fl w:Bool}{v:AV}{x:Nat}{q:List Nat}(hp:h[p]?=some (.live 1 fl w [[v]]))(hQ:QS v (x::q) h p)(hl:q.length≤100000000):
 ∃es M,cl Ei h (some (.func (.func 76) [] [])) (some [.ptr p 0 0])=some (.ret (.tup [.int .i64 (x:Int),.bool true]),es)∧Bn h es=M∧h.length≤M.length∧Ar M=true∧(∃v' fl',M[p]?=some (.live 1 fl' true [[v']])∧QS v' q M p∧Nk v'=Nk v)∧∀b c,b≠p→h[b]?=some c→M[b]?=some c:=by
 obtain⟨o,G,es,e1,e2,rfl,v',fl',k1,k2,K,k4,k5⟩:=aKQ rfl rfl (a2N (Ej hp) hQ.cln hl) (fun o G hQ=>by
  obtain⟨_,v',fl',k1,k2,K,_⟩:=hQ
  exact(Hy hq K (aP0 hp G ⟨_,_,k1⟩)).1)
 have X:=aP0 hp G ⟨_,_,k1⟩
 obtain⟨_,m1,m2,m3,m4⟩:=Hy hq K X
 have hle:h.length≤G.length:=by have:=K.len;rwa[Bv]at this
 have same:∀b c,b≠p→h[b]?=some c→(Kv h G)[b]?=some c:=fun b c hn hc=>by rw[m3 b (Ap hc) (by simpa using hn)];exact hc
 refine⟨es,_,e1,e2,by rw[m1];exact hle,az7 hq K X (k5 (Oz hq)),⟨v',fl',m4 p (aAR ..) _ k1,?_,k4⟩,same⟩
 rcases k2 with h1|⟨b,w',rows,r,h1,h2,h3,h4,h5⟩
 ·exact .inl h1
 ·have hbv:b∈Nk v:=by rw[←k4,h1];simp[Nk]
  obtain⟨_,w0,rows0,hh⟩:=hQ.lt b hbv
  have hr:(hf (Kv h G) b).bind Bq=(hf G b).bind Bq:=aR9 hq K X b
  have hM:=same b _ h3 hh
  have e3:rows0=rows:=by
   have a1:((Kv h G)[b]?).bind Bq=(G[b]?).bind Bq:=hr
   rw[hM,h2]at a1
   simp[Bq]at a1;exact a1
  subst e3
  exact .inr ⟨b,w0,rows0,r,h1,hM,h3,h4,h5⟩
theorem aZY{vs:List AV}{b:Nat}{h:Aa}{ps:List Nat}{asg body:Code}{tm:List AV}{st:Ib}{Q:Dm→Aa→Prop}(hb:h[b]?=some (.lp ps asg body tm st))(hl:ps.length=vs.length)
 (he:RnE b Q (aVY Ei Tryz.prog b body (Bl Ei Tryz.prog 5000 asg [] ⟨Kx tm ps vs,h⟩))):RnQ Ei (vs++[.yl b]) h Q:=RnQ.start (pr:=pr) hb hl he
theorem a2M{O:Dx}{H:Aa}{b:Nat}{vs:List AV}{Q:Dm→Aa→Prop}(K:RnQ O (vs++[.yl b]) (Gt H) Q)(ok:∀o G,Q o G→aMF H G):
 ∃o G es,cl O H (some (.yl b)) (some vs)=some (o,es)∧Bn H es=Kv H G∧Q o G:=by
 obtain⟨o,G,hc,hq⟩:=K
 obtain⟨es,e1,e2⟩:=az3 H G [] (ok o G hq)
 refine⟨o,G,es,?_,by simpa using e2,hq⟩
 rw[a8P,hc,aFX]
 have e1':Bg 0 H G=some es:=e1
 rw[e1'];rfl
def Gz:Nat:=1048576
def DiH(LK:CB)(e:Bool)(ps:List AV)(N:Nat)(h:Aa)(dd q K:List Nat):Prop:=∃f v fl w,
 h[0]?=some LK∧h[1]?=some (.live 24 true false [ps])∧h[2]?=some (.live 1 true f (dd.map nvv))∧h[3]?=some (.live 1 false e [[.slr 1 2 0 N]])∧h[5]?=some (.live 1 false e [[.ptr 4 0 0]])∧h[4]?=some (.live 1 fl w [[v]])∧QS v q h 4∧(∀b∈Nk v,6≤b∧b∉K)∧Ar h=true
theorem DiH.app{LK:CB}{e:Bool}{ps:List AV}{N:Nat}{h:Aa}{dd q K:List Nat}(D:DiH LK e ps N h dd q K){L:Aa}(hL:Ar L=true):DiH LK e ps N (h++L) dd q K:=by
 obtain⟨f,v,fl,w',i0,i1,i2,i3,i5,i4,iQ,iB,iq⟩:=D
 refine⟨f,v,fl,w',Ah i0 L,Ah i1 L,Ah i2 L,Ah i3 L,Ah i5 L,Ah i4 L,?_,iB,Ef iq hL⟩
 rcases iQ with h|⟨b,w',rows,r,h1,h2,h3⟩
 ·exact .inl h
 ·exact .inr ⟨b,w',rows,r,h1,Ah h2 _,h3⟩
def Okw(H G:Aa):Prop:=H.length≤G.length∧∀(b:Nat) (c0 c:CB),H[b]?=some c0→G[b]?=some c→(c0.quiet c=true∧c0.clean=c.clean)∨(c0.isLive=true∧((∃st fl rows,c=.live st fl true rows)∨c=.dead))
theorem aFA{c0 c:CB}(h:c0.isLive=true)(hc:(∃st fl rows,c=.live st fl true rows)∨c=.dead):c0.quiet c=false:=by
 rcases hc with⟨_,_,_,rfl⟩|rfl<;>cases c0<;>first|rfl|(simp[CB.isLive]at h;done)|(simp[CB.quiet,CB.same];done)
theorem Okw.sh{H G:Aa}(k:Okw H G):aMF H G:=⟨k.1,fun b c0 c h0 h1=>(k.2 b c0 c h0 h1).imp (fun h=>h.1) (fun h=>h.1)⟩
theorem aOG{c0 c1:CB}(h:c0.clean=c1.clean)(h1:c1.isLive=true):c0.isLive=true:=by cases c0<;>cases c1<;>first|rfl|(simp[CB.clean]at h;done)|cases h1
theorem aGV(c:CB):c.clean.clean=c.clean:=by cases c<;>rfl
theorem Okw.app{H G:Aa}(k:Okw H G)(l:Aa):Okw H (G++l):=⟨by simp;have:=k.1;omega,fun b c0 c h0 h1=>k.2 b c0 c h0 (by
 have:=Ap h0
 have:=k.1
 rw[aNU (by omega)]at h1;exact h1)⟩
theorem Okw.cl{H:Aa}(h:Ar H=true):Okw H (Gt H):=⟨by rw[Bv];exact aC6 _,fun b c0 c h0 h1=>by
 rw[Ej h0]at h1;cases h1
 exact .inl ⟨Fp h h0,(aGV c0).symm⟩⟩
theorem Okw.keep{H G:Aa}{X:List Nat}(h:Ar H=true)(K:Hv X (Gt H) G)(hX:∀b∈X,∃c0 c,H[b]?=some c0∧G[b]?=some c∧c0.isLive=true∧((∃st fl rows,c=.live st fl true rows)∨c=.dead)):Okw H G:=⟨by have:=K.len;rwa[Bv]at this,fun b c0 c h0 h1=>by
 by_cases hb:b∈X
 ·obtain⟨d0,d,e0,e1,e2⟩:=hX b hb
  rw[h0]at e0;rw[h1]at e1;cases e0;cases e1
  exact .inr e2
 ·rw[K.same b (by rw[Bv];exact Ap h0) hb,Ej h0]at h1;cases h1
  exact .inl ⟨Fp h h0,(aGV c0).symm⟩⟩
theorem Okw.mrg_clean{H G:Aa}(k:Okw H G){b:Nat}{c:CB}(hc:G[b]?=some c):∃c',(Kv H G)[b]?=some c'∧c'.clean=c.clean:=by
 by_cases hb:b<H.length
 ·have h0:H[b]?=some H[b]:=aqT hb
  rcases k.2 b _ c h0 hc with⟨h1,h2⟩|⟨h1,h2⟩
  ·exact⟨_,Jt h0 hc h1,h2⟩
  ·refine⟨_,azS h0 hc (aFA h1 h2),?_⟩
   rcases h2 with⟨_,_,_,rfl⟩|rfl<;>rfl
 ·exact⟨c,by rw[aCJ k.1 (by omega)];exact hc,rfl⟩
theorem Okw.trans{H h' G:Aa}(k:Okw H h')(k':Okw h' G):Okw H (Kv h' G):=by
 refine⟨by rw[adL k'.1];exact Nat.le_trans k.1 k'.1,fun b c0 c h0 h1=>?_⟩
 have hb:=Ap h0
 have e1:h'[b]?=some (h'[b]'(by have:=k.1;omega)):=aqT _
 have e2:G[b]?=some (G[b]'(by have:=k.1;have:=k'.1;omega)):=aqT _
 generalize h'[b]'(by have:=k.1;omega)=c1 at *
 generalize G[b]'(by have:=k.1;have:=k'.1;omega)=c2 at *
 rcases k'.2 b _ _ e1 e2 with⟨g1,g2⟩|⟨g1,g2⟩
 ·rw[Jt e1 e2 g1]at h1;cases h1
  exact k.2 b _ _ h0 e1
 ·rw[azS e1 e2 (aFA g1 g2)]at h1
  have:c2.mark=c2:=by rcases g2 with⟨_,_,_,rfl⟩|rfl<;>rfl
  rw[this]at h1;cases h1
  refine .inr ⟨?_,g2⟩
  rcases k.2 b _ _ h0 e1 with⟨_,h⟩|⟨h,_⟩
  ·exact aOG h g1
  ·exact h
theorem Okw.old{H G:Aa}{b:Nat}{c0 c:CB}(h0:H[b]?=some c0)(h1:G[b]?=some c)(hq:c0.quiet c=true):(Kv H G)[b]?=some c0:=Jt h0 h1 hq
theorem aU0{c:CB}{st:Nat}{fl w:Bool}{rows:List (List AV)}(h:c.clean=(CB.live st fl w rows).clean):∃w',c=.live st fl w' rows:=by
 cases c<;>simp[CB.clean]at h
 obtain⟨rfl,rfl,rfl⟩:=h
 exact⟨_,rfl⟩
theorem Okw.live{H G:Aa}(k:Okw H G){b st:Nat}{fl w:Bool}{rows:List (List AV)}(hc:G[b]?=some (.live st fl w rows)):∃w',(Kv H G)[b]?=some (.live st fl w' rows):=by
 obtain⟨c',h1,h2⟩:=k.mrg_clean hc
 obtain⟨w',rfl⟩:=aU0 h2
 exact⟨w',h1⟩
theorem QS.okw{H G:Aa}(k:Okw H G){v:AV}{q:List Nat}{p:Nat}(h:QS v q G p):QS v q (Kv H G) p:=by
 rcases h with h|⟨b,w,rows,r,h1,h2,h3,h4,h5⟩
 ·exact .inl h
 ·obtain⟨w',h6⟩:=k.live h2
  exact .inr ⟨b,w',rows,r,h1,h6,h3,h4,h5⟩
theorem Okw.quiet{H G:Aa}(k:Okw H G)(h:Ar H=true)(h':Ar G=true):Ar (Kv H G)=true:=by
 refine aA7 fun c hc=>?_
 obtain⟨b,hb⟩:=List.getElem?_of_mem hc
 have hbl:=Ap hb
 rw[adL k.1]at hbl
 have e2:G[b]?=some G[b]:=aqT hbl
 generalize G[b]=c2 at *
 by_cases hl:b<H.length
 ·have e1:H[b]?=some H[b]:=aqT hl
  generalize H[b]=c1 at *
  rcases k.2 b _ _ e1 e2 with⟨g1,g2⟩|⟨g1,g2⟩
  ·rw[Jt e1 e2 g1]at hb;cases hb;exact Fp h e1
  ·rw[azS e1 e2 (aFA g1 g2)]at hb;cases hb;exact aF3 (Fp h' e2)
 ·rw[aCJ k.1 (by omega),e2]at hb;cases hb;exact Fp h' e2
theorem aUQ{LK:CB}{e:Bool}{ps:List AV}{N:Nat}{h':Aa}{dd q K:List Nat}{f:Bool}{v:AV}{fl w:Bool}(i0:h'[0]?=some LK)(i1:h'[1]?=some (.live 24 true false [ps]))(i2:h'[2]?=some (.live 1 true f (dd.map nvv)))(i3:h'[3]?=some (.live 1 false e [[.slr 1 2 0 N]]))(i5:h'[5]?=some (.live 1 false e [[.ptr 4 0 0]]))(i4:h'[4]?=some (.live 1 fl w [[v]]))(iQ:QS v q h' 4)(iB:∀b∈Nk v,6≤b∧b∉K)(iq:Ar h'=true)
 {B:Nat} {LP LB:CB} (hB:h'[B]?=some LP) (hBK:B∈K) (hK:∀b∈K,6≤b∧b<h'.length) (hLPc:LP.clean=LP) (hLPq:LP.quiet LP=true) {M:Aa} {Y dd2 q2:List Nat} {v2:AV} {fl2:Bool} (m1:h'.length≤M.length) (m2:Ar M=true) (m3:M[4]?=some (.live 1 fl2 true [[v2]])) (m4:QS v2 q2 M 4) (m5:∀b∈Nk v2,h'.length≤b)
 (m6:∀b c,b∉Y→(((Gt h').set B LB).set 2 (.live 1 true true (dd2.map nvv)))[b]?=some c→M[b]?=some c) (hY:4∈Y) (hY':∀b∈Y,b=4∨(b∈Nk v∧M[b]?=some .dead)):
 Okw h' (M.set B LP)∧DiH LK e ps N (Kv h' (M.set B LP)) dd2 q2 K∧(∀b∈K,(Kv h' (M.set B LP))[b]?=h'[b]?)∧h'.length≤(Kv h' (M.set B LP)).length:=by
 have hBl:=Ap hB
 have hB6:=(hK B hBK).1
 have h4l:=Ap i4
 have hY6:∀b∈Y,b=4∨(6≤b∧b∉K):=fun b hb1=>(hY' b hb1).imp id (fun h=>iB b h.1)
 have h2Y:2∉Y:=fun h=>by rcases hY6 2 h with h|h<;>omega
 have hKY:∀b∈K,b∉2::Y:=fun b hb1 h=>by
  have:=(hK b hb1).1
  rcases aqM.1 h with h|h
  ·omega
  ·rcases hY6 b h with h|h
   ·omega
   ·exact h.2 hb1
 have hg2:M[2]?=some (.live 1 true true (dd2.map nvv)):=m6 2 _ h2Y (aEY (by simp[Bv];omega))
 have hK2:Hv (2::Y) (Gt h') (M.set B LP):=⟨by simpa [Bv]using m1,fun b hb1 hn=>by
  rw[Bv]at hb1
  obtain⟨c,hc⟩:∃c,h'[b]?=some c:=⟨_,aqT hb1⟩
  by_cases e:b=B
  ·subst e
   rw[aEY (by omega),Ej hB,hLPc]
  ·rw[ao8 (fun h=>e h.symm)]
   have:=m6 b c.clean (fun h=>hn (aJY _ h)) (by
    rw[ao8 (fun h=>hn (by rw[←h];exact aAR ..)),ao8 (fun h=>e h.symm)];exact Ej hc)
   rw[this,Ej hc]⟩
 have hne:∀b,b≠B→(M.set B LP)[b]?=M[b]?:=fun b h=>ao8 (fun e=>h e.symm)
 have X:∀b∈2::Y,∃c0 c,h'[b]?=some c0∧(M.set B LP)[b]?=some c∧c0.isLive=true∧((∃st fl rows,c=.live st fl true rows)∨c=.dead):=fun b hb1=>by
  rcases aqM.1 hb1 with rfl|hb1
  ·exact⟨_,_,i2,by rw[hne 2 (by omega)];exact hg2,rfl,.inl ⟨_,_,_,rfl⟩⟩
  ·rcases hY' b hb1 with rfl|⟨h1,h2⟩
   ·exact⟨_,_,i4,by rw[hne 4 (by omega)];exact m3,rfl,.inl ⟨_,_,_,rfl⟩⟩
   ·obtain⟨h3,w',rows,h5⟩:=iQ.lt b h1
    exact⟨_,_,h5,by rw[hne b (fun e=>(iB b h1).2 (e▸hBK))];exact h2,rfl,.inr rfl⟩
 have ok:=Okw.keep iq hK2 X
 have X':∀b∈2::Y,b<h'.length∧∀c0 c,h'[b]?=some c0→(M.set B LP)[b]?=some c→c0.isLive=true∧c0.quiet c=false:=fun b hb1=>by
  obtain⟨c0,c,h1,h2,h3,h4⟩:=X b hb1
  refine⟨Ap h1,fun d0 d k1 k2=>?_⟩
  rw[h1]at k1;rw[h2]at k2;cases k1;cases k2
  exact⟨h3,aFA h3 h4⟩
 obtain⟨g1,g2,g3,g4,g5⟩:=Hy iq hK2 X'
 have low:∀b,b<6→b≠2→b≠4→(Kv h' (M.set B LP))[b]?=h'[b]?:=fun b h1 h2 h3=>g4 b (by have:=Ap i5;omega) fun h=>by
  rcases aqM.1 h with h|h
  ·exact h2 h
  ·rcases hY6 b h with h|h<;>omega
 refine⟨ok,⟨true,v2,fl2,true,by rw[low 0 (by omega) (by omega) (by omega)];exact i0,by rw[low 1 (by omega) (by omega) (by omega)];exact i1,?_,by rw[low 3 (by omega) (by omega) (by omega)];exact i3,by rw[low 5 (by omega) (by omega) (by omega)];exact i5,?_,?_,fun b hb1=>?_,?_⟩,fun b hb1=>g4 b (hK b hb1).2 (hKY b hb1),by rw[g2];simpa using m1⟩
 ·exact g5 2 (aAR ..) _ (by rw[hne 2 (by omega)];exact hg2)
 ·exact g5 4 (aJY _ hY) _ (by rw[hne 4 (by omega)];exact m3)
 ·rcases m4 with h|⟨b,w',rows,r,h1,h2,h3⟩
  ·exact .inl h
  ·have hb1:=m5 b (by rw[h1];simp[Nk])
   exact .inr ⟨b,w',rows,r,h1,by rw[g3 b hb1,hne b (by omega)];exact h2,h3⟩
 ·have h1:=m5 b hb1
  exact⟨by omega,fun h=>by have:=(hK b h).2;omega⟩
 ·exact az7 iq hK2 X' (Eh m2 B (by rw[hLPc];exact hLPq))
theorem a1G{h' l:Aa}(hq:Ar h'=true):Okw h' (Gt h'++l)∧Kv h' (Gt h'++l)=h'++l:=by
 have K:Hv [] (Gt h') (Gt h'++l):=Hv.app _ _
 have X:∀b∈([]:List Nat),b<h'.length∧∀c0 c,h'[b]?=some c0→(Gt h'++l)[b]?=some c→c0.isLive=true∧c0.quiet c=false:=fun b hb1=>by cases hb1
 obtain⟨g1,g2,g3,g4,_⟩:=Hy hq K X
 refine⟨(Okw.cl hq).app l,aNV fun b=>?_⟩
 by_cases hb1:b<h'.length
 ·rw[g4 b hb1 (by simp),aNU hb1]
 ·rw[g3 b (by omega),aC7 (by simp[Bv];omega),aC7 (by omega),Bv]
theorem aKL:Ad .nilp=[.nilp]:=Eq.trans rfl rfl
theorem a1F(n x:Nat):(agX n x).sum=n*x:=by
 induction n with
 |zero=>simp
 |succ n ih=>rw[aNZ,List.sum_cons,ih,Nat.succ_mul];omega
theorem aNB:∀(l:List Nat) (s:Nat),(l.set s 0).sum≤l.sum
 | [],s=>by simp
 |a::l,0=>by simp
 |a::l,s+1=>by have:=aNB l s;simp;omega
theorem aVK{N s far:Nat}(h:N≤8):(Jx N s far).sum≤8*far:=by
 unfold Jx
 refine Nat.le_trans (aNB _ _) ?_
 rw[a1F]
 exact Nat.mul_le_mul_right _ h
def tgB(x:Int × Bool):Bool:=x.1==0&& !x.2
def tgt(L:List (Int × Bool)):List Bool:=L.map tgB
theorem aW5{w:Am}{L:List (Int × Bool)}{i:Nat}{p:Ai}{x:Int × Bool}(hp:w.parts[i]?=some p)(hx:L[i]?=some x):(edg w (tgt L))[i]?=some (p.one.toNat,p.other.toNat,if tgB x=true then 1 else 0):=by
 unfold edg tgt
 rw[List.getElem?_zipWith,aJ1,hp,hx];rfl
theorem QS.app{v:AV}{q:List Nat}{H:Aa}{p:Nat}(h:QS v q H p)(l:Aa):QS v q (H++l) p:=by
 rcases h with h|⟨b,w,rows,r,h1,h2,h3⟩
 ·exact .inl h
 ·exact .inr ⟨b,w,rows,r,h1,Ah h2 l,h3⟩
theorem aUH{h:Aa}{b:Nat}{c:CB}(hc:h[b]?=some c):h.set b c=h:=by
 refine aNV fun i=>?_
 by_cases e:b=i
 ·subst e;rw[aEY (Ap hc),hc]
 ·rw[ao8 e]
theorem aDA:∀(L:List (Int × Bool)) (i:Nat) (a:Int) (b:Bool),L[i]?=some (a,b)→awX 2 (aJ9 (i*2) (Cf L))=[.int .i64 a,.bool b]
 | [],i,a,b,h=>by simp at h
 |x::L,0,a,b,h=>by simp at h;subst h;simp[Cf]
 |x::L,i+1,a,b,h=>by
  have ih:=aDA L i a b (by simpa using h)
  rw[show(i+1)*2=(i*2)+1+1 by omega]
  simpa only[Cf,aN0,aKY,aE6,aOE]using ih
def no3:Nat→Nat→Nat→Prop:=fun _ _ _=>False
theorem aMH{w:Am}{N:Nat}(hw:WOk w N)(h12:w.parts.length≤12){d:Int}{s:Nat}(hs:s<N){ps:List AV}{L:List (Int × Bool)}(hL12:L.length=12)(hps:ps=Cf L){wf:Bool}:
 ClQ Ei 58 [.ptr 0 0 0,.int .i64 (s:Int),.agg ps] [.live 4 false wf [[.int .i64 w.rooms,.int .i64 w.need,Bo 9 true w.nn (w.parts.map Ai.cells),.int .i64 d]]] fun o h'=>
  ∃(f:Bool) (ds:List Nat),o=.ret (.slr 1 1 0 N)∧h'=[.live 4 false wf [[.int .i64 w.rooms,.int .i64 w.need,Bo 9 true w.nn (w.parts.map Ai.cells),.int .i64 d]],.live 1 true f (ds.map nvv)]∧ds.length=N∧azI (edg w (tgt L)) s N Gz (fun v=>ds.getD v 0):=by
 have hr:=hw.rooms
 have n2:=hw.n2
 have n8:=hw.n8
 have hpl:ps.length=24:=by rw[hps,Bd];omega
 have hflat:ps.all AV.flat=true∧ps.all AV.isCell=true:=by
  subst hps
  have hform:∀x∈Cf L,(∃n,x=.int .i64 n)∨∃b,x=.bool b:=fun x hx=>by
   simp only[Cf,aP8,aqM,aC4,or_false]at hx
   obtain⟨y,_,rfl|rfl⟩:=hx
   ·exact .inl ⟨_,rfl⟩
   ·exact .inr ⟨_,rfl⟩
  exact⟨aFD.2 fun x hx=>by rcases hform x hx with⟨n,rfl⟩|⟨b,rfl⟩<;>rfl,aFD.2 fun x hx=>by rcases hform x hx with⟨n,rfl⟩|⟨b,rfl⟩<;>rfl⟩
 obtain⟨hf1,hf2⟩:=hflat
 refine a89 rfl Tryz.func58 rfl rfl ?_
 simp only[Tryz.f58]
 simp only[hr]
 have h39:(N≤549755813888)=True:=eq_true (by omega)
 have m1:((N:Int)≤(N:Int))=True:=eq_true (Int.le_refl _)
 have m2:((N:Int)≤1099511627776)=True:=eq_true (by omega)
 (have hb:=trivial;with_reducible repeat' (first|simp only[hb,Vc.down,seval,ap6.down,hpl,hf1,hf2,h39,m1,m2,aQ4]|refine Av ?_ ?_<;>intro hb|refine fd ?_|fail))
 generalize hLK:(CB.live 4 false wf [[.int .i64 (N:Int),.int .i64 w.need,Bo 9 true w.nn (w.parts.map Ai.cells),.int .i64 d]])=LK
 refine Hn (lst 85 (agX N ()) (fun i (_:Unit) t h=>t 0=.ptr 0 0 0∧t 1=.int .i64 (s:Int)∧t 5=.ptr 1 0 0∧t 7=.ptr 3 0 0∧t 23=.int .i64 (N:Int)∧t 24=.int .i64 (i:Int)∧∃f,h=[LK,.live 24 true false [ps],.live 1 true f ((agX i Gz++agX (N-i) 0).map nvv),.live 1 false true [[.slr 1 2 0 N]]]) (fun _ _=>())
  (fun _ e t h=>e=.exit 0∧t 0=.ptr 0 0 0∧t 1=.int .i64 (s:Int)∧t 5=.ptr 1 0 0∧t 7=.ptr 3 0 0∧∃f,h=[LK,.live 24 true false [ps],.live 1 true f ((agX N Gz).map nvv),.live 1 false true [[.slr 1 2 0 N]]]) ?_ ?_ () _ _ ?_) (fun e t h hk=>?_)
 ·rintro _ t h Q' kQ ⟨g0,g1,g5,g7,g23,g24,f,rfl⟩
  rw[aHS]at g24
  (have hb:=trivial;with_reducible repeat' (first|simp only[hb,Vc.down,seval,ap6.down,g23,g24,Int.lt_irrefl,decide_false]|refine Av ?_ ?_<;>intro hb|refine fd ?_|fail))
  exact kQ _ _ _ ⟨rfl,by simp[up,g0],by simp[up,g1],by simp[up,g5],by simp[up,g7],f,by simp⟩
 ·rintro x rest i _ t h J Q' kJ kQ hx hi ⟨g0,g1,g5,g7,g23,g24,f,rfl⟩
  rw[aHS]at hi
  have hdd:decide ((i:Int)<(N:Int))=true:=decide_eq_true (by omega)
  have hdi:((i:Int)<(N:Int))=True:=eq_true (by omega)
  have hww:=Ci (n:=N) hi (by unfold maxLen;omega)
  have hrow:((agX i Gz++agX (N-i) 0).map nvv)[i]?=some [.int .i64 0]:=by
   rw[aJ1,aC7 (by simp),aHS,aLK,aRR,if_pos (by omega)]
   rfl
  have hnx:((agX i Gz++agX (N-i) 0).map nvv).set i [.int .i64 1048576]=(agX (i+1) Gz++agX (N-(i+1)) 0).map nvv:=by
   have e:N-i=(N-(i+1))+1:=by omega
   rw[show([.int .i64 1048576]:List AV)=nvv Gz from rfl,←aM0,List.set_append_right _ _ (by simp),aHS,aLK,e,aNZ,List.set_cons_zero,List.replicate_succ',List.append_assoc]
   rfl
  generalize(agX i Gz++agX (N-i) 0).map nvv=rows at *
  (have hb:=trivial;with_reducible repeat' (first|simp only[hb,Vc.down,seval,ap6.down,g0,g1,g5,g7,g23,g24,hdd,hdi,hww,hrow,hnx]|refine Av ?_ ?_<;>intro hb|refine fd ?_|fail))
  exact Bh (kJ _ _ () ⟨by simp[up,g0],by simp[up,g1],by simp[up,g5],by simp[up,g7],by simp[up,g23],by simp[up],true,rfl⟩ rfl)
 ·exact⟨by simp[up,Oc],by simp[up,Oc],by simp[up],by simp[up],by simp[up],by simp[up],false,by simp[nvv]⟩
 obtain⟨rfl,g0,g1,g5,g7,f,rfl⟩:=hk
 have hrow:s<((agX N Gz).map nvv).length:=by simpa using hs
 have hz:((agX N Gz).map nvv)[s]?=some [.int .i64 1048576]:=by rw[aJ1,aRR,if_pos hs];rfl
 have hin:((agX N Gz).map nvv).set s [.int .i64 0]=(Jx N s Gz).map nvv:=by rw[Jx,aM0];rfl
 have o1:((s:Int)<(N:Int))=True:=eq_true (by omega)
 generalize hrw:(agX N Gz).map nvv=rows at *
 obtain⟨q1,hq1⟩:∃q,Fn.func 75=q:=⟨_,rfl⟩
 obtain⟨q2,hq2⟩:∃q,Fn.func 76=q:=⟨_,rfl⟩
 have hLq:LK.quiet LK.clean=true:=by rw[←hLK];rfl
 obtain⟨es,M,b1,b2,b3,b4,⟨v',fl',b5,b6,b7⟩,b8,_⟩:=a3Y (h:=[LK,.live 24 true false [ps],.live 1 true true ((Jx N s Gz).map nvv),.live 1 false true [[.slr 1 2 0 N]],.live 1 false false [[.nils]],.live 1 false true [[.ptr 4 0 0]]]) (aA7 fun c hc=>by
  simp only[aqM,aC4,or_false]at hc
  rcases hc with rfl|rfl|rfl|rfl|rfl|rfl
  ·exact hLq
  all_goals rfl) (p:=4) s rfl (.inl ⟨rfl,rfl⟩) (by simp)
 rw[hq1]at b1
 simp only[aE6]at b6
 obtain⟨es2,M2,c1,c2,c3,c4,⟨v2,fl2,c5,c6,c7⟩,c8⟩:=a34 b4 b5 b6 (by simp)
 rw[hq2]at c1
 have k3:=b8 3 _ (by simp[Nk]) rfl
 have k5:=b8 5 _ (by simp[Nk]) rfl
 have j3:=c8 3 _ (by omega) k3
 have j5:=c8 5 _ (by omega) k5
 have j0:=c8 0 _ (by omega) (b8 0 _ (by simp[Nk]) rfl)
 have j1:=c8 1 _ (by omega) (b8 1 _ (by simp[Nk]) rfl)
 have j2:=c8 2 _ (by omega) (b8 2 _ (by simp[Nk]) rfl)
 (have hb:=trivial;with_reducible repeat' (first|simp only[hb,Vc.down,seval,ap6.down,g0,g1,g5,g7,hz,hin,o1,hq1,hq2,b1,b2,c1,c2,k3,k5,j3,j5,aKL,aQ4]|refine Av ?_ ?_<;>intro hb|refine fd ?_|fail))
 generalize hE:edg w (tgt L)=E at *
 have hEo:EOk E N:=by rw[←hE];exact aFN hw _
 have I0:=aZO (E:=E) (far:=Gz) hs hEo
 have hsum:(Jx N s Gz).sum≤8*1048576:=aVK n8
 refine Hn (cnt 85 (fun n (_:Unit) t h=>t 0=.ptr 0 0 0∧t 1=.int .i64 (s:Int)∧t 5=.ptr 1 0 0∧t 7=.ptr 3 0 0∧t 9=.ptr 5 0 0∧∃dd q k,DiH LK true ps N h dd q [k]∧2*dd.sum+q.length≤20000000∧
  ((t 11=.bool true∧∃room w,t 10=.ptr k 0 0∧6≤k∧h[k]?=some (.live 1 true w [[.int .i64 (room:Nat)]])∧DqI E s N Gz dd (room::q) no3∧2*dd.sum+q.length+1≤n)∨(t 11=.bool false∧q=[]∧DqI E s N Gz dd [] no3))) (fun _ _=>())
  (fun _ e t h=>e=.exit 2∧t 7=.ptr 3 0 0∧∃dd k,DiH LK true ps N h dd [] [k]∧DqI E s N Gz dd [] no3) ?_ ?_ (2*(Jx N s Gz).sum+1) () _ _ ?_) (fun e t h hk=>?_)
 ·rintro _ t h Q' kQ ⟨g0,g1,g5,g7,g9,dd,q,k,hD,hql,⟨g11,room,w5,g10,_,_,_,hm⟩|⟨g11,rfl,hI⟩⟩
  ·omega
  ·(have hb:=trivial;with_reducible repeat' (first|simp only[hb,Vc.down,seval,ap6.down,g11]|refine Av ?_ ?_<;>intro hb|refine fd ?_|fail))
   exact kQ _ _ _ ⟨rfl,by simp[up,g7],dd,k,hD,hI⟩
 ·rintro n _ t h J Q' kJ kQ ⟨g0,g1,g5,g7,g9,dd,q,k,hD,hql,⟨g11,room,w5,g10,hk6,hkb,hI,hm⟩|⟨g11,rfl,hI⟩⟩
  ·obtain⟨f,v,fl,w',i0,i1,i2,i3,i5,i4,iQ,iB,iq⟩:=hD
   have hat:=bcM w d (room:Int) false
   rw[hr]at hat
   subst hLK
   (have hb:=trivial;with_reducible repeat' (first|simp only[hb,Vc.down,seval,ap6.down,g0,g1,g5,g7,g9,g10,g11,i0,i1,i2,i3,i5,hkb,hat]|refine Av ?_ ?_<;>intro hb|refine fd ?_|fail))
   obtain⟨rN,rI⟩:=DqI.take hI
   have hkl:=Ap hkb
   generalize hLP:CB.lp _ _ _ _ _=LP
   obtain⟨LK,hLK⟩:∃c:CB,c=CB.live 4 false wf [[.int .i64 (N:Int),.int .i64 w.need,Bo 9 true w.nn (w.parts.map Ai.cells),.int .i64 d]]:=⟨_,rfl⟩
   refine a58 (bc6 hw (d:=d) (r:=(room:Int)) (lb:=h.length) (rb:=h.length+1) (kb:=0) (fun i h'=>∃dd' q',DiH LK.clean false ps N h' dd' q' [k,h.length,h.length+1,h.length+2]∧DqI E s N Gz dd' q' (Pe E room i)∧2*dd'.sum+q'.length≤2*dd.sum+q.length∧(∃w1,h'[k]?=some (.live 1 true w1 [[.int .i64 (room:Nat)]]))∧(∃w1,h'[h.length]?=some (.live 1 false w1 [[.ptr 0 0 0]]))∧(∃w1,h'[h.length+1]?=some (.live 1 true w1 [[.int .i64 (room:Nat)]]))∧h'[h.length+2]?=some LP∧h.length+3≤h'.length∧Okw (h++[.live 1 false false [[.ptr 0 0 0]],.live 1 true false [[.int .i64 (room:Nat)]],LP]) h') ?_ ?_ ?_ ?_ ?_ ?_ ?_) ?_
   ·rintro i h' ⟨dd',q',_,_,_,_,hb1,_⟩
    exact hb1
   ·rintro i h' ⟨dd',q',⟨f,v,fl,w',i0,_⟩,_⟩
    rw[hr]
    exact⟨false,by rw[i0,hLK];rfl⟩
   ·rintro i h' ⟨dd',q',_,_,_,_,_,hb2,_⟩
    exact hb2
   ·rintro i h' fl wf rows ⟨dd',q',k1,k3,k4,⟨a0,k5⟩,⟨a1,k6⟩,⟨a2,k7⟩,k8,k9,kO⟩
    exact⟨dd',q',k1.app rfl,k3,k4,⟨a0,Ah k5 _⟩,⟨a1,Ah k6 _⟩,⟨a2,Ah k7 _⟩,Ah k8 _,by simp;omega,kO.app _⟩
   ·rintro i p u h' hpx hu ⟨dd',q',⟨f',v',fl',w2,j0,j1,j2,j3,j5,j4,jQ,jB,jq⟩,k3,k4,⟨a0,k5⟩,⟨a1,k6⟩,⟨a2,k7⟩,k8,k9,kO⟩
    have round:RnQ Ei ([.int .i64 i,.int .i64 u]++[.yl (h.length+2)]) (Gt h') fun o G=>o=.ret (.bool true)∧Okw h' G∧∃dd2 q2,DiH LK.clean false ps N (Kv h' G) dd2 q2 [k,h.length,h.length+1,h.length+2]∧DqI E s N Gz dd2 q2 (Pe E room (i+1))∧2*dd2.sum+q2.length≤2*dd.sum+q.length∧(∀b∈[k,h.length,h.length+1,h.length+2],(Kv h' G)[b]?=h'[b]?)∧h'.length≤(Kv h' G).length:=by
     have hir:room<N:=rN
     have hpo:=hw.part p (aIS hpx)
     have hil:i<w.parts.length:=(aH6.1 hpx).1
     obtain⟨pc,hpc⟩:∃x,L[i]?=some x:=⟨_,aqT (by omega)⟩
     have he:=aW5 hpx hpc
     rw[hE]at he
     obtain⟨to,rfl,htN,hrt,hto⟩:∃to:Nat,u=(to:Int)∧to<N∧room≠to∧(E[i]?=some (room,to,if tgB pc=true then 1 else 0)∨E[i]?=some (to,room,if tgB pc=true then 1 else 0)):=by
      rcases hu with⟨h1,h2⟩|⟨h1,h2,h3⟩
      ·exact⟨p.other.toNat,by omega,by omega,by omega,.inl (by rw[he,h1];rfl)⟩
      ·exact⟨p.one.toNat,by omega,by omega,by omega,.inr (by rw[he,h2];rfl)⟩
     have hi12:((i:Int)<12)=True:=eq_true (by omega)
     have hp24:(i*2+2≤24)=True:=eq_true (by omega)
     have htk:awX 2 (aJ9 (i*2) ps)=[.int .i64 pc.1,.bool pc.2]:=by
      rw[hps];exact aDA _ _ _ _ hpc
     have htt:=aZF pc.1 pc.2
     rw[show(pc.1==0&& !pc.2)=tgB pc from rfl]at htt
     have hdl:=k3.i.len
     have hrm:=aJ4 (d:=dd') (a:=room) (by omega)
     have htm:=aJ4 (d:=dd') (a:=to) (by omega)
     have hst:∀n:Nat,(dd'.map nvv).set to [.int .i64 (n:Int)]=(dd'.set to n).map nvv:=fun n=>by rw[aM0];rfl
     have hrf:=k3.i.le room rN
     have hrf2:dd'.getD room 0≤1048576:=hrf
     have I0:=k3.same hto
     have I1:=fun q'=>k3.less (q':=q') rN htN hrt hto
     have hrN:((room:Int)<(N:Int))=True:=eq_true (by omega)
     have htN':((to:Int)<(N:Int))=True:=eq_true (by omega)
     have hbit:=a9F (tgB pc)
     have hsum:∀x,x<dd'.getD to 0→(dd'.set to x).sum<dd'.sum:=fun x hx=>aCK (by omega) hx
     generalize dd'.getD room 0=xr at *
     generalize dd'.getD to 0=xt at *
     generalize hrows:dd'.map nvv=rows at *
     have hbc:=Ej k8
     have hb0:LP.clean=LP:=by rw[←hLP];rfl
     rw[hb0]at hbc
     have hne2:∀(b:Nat) (c X:CB),b≠h.length+2→h'[b]?=some c→((Gt h').set (h.length+2) X)[b]?=some c.clean:=fun b c X hn hc=>by rw[ao8 (fun e=>hn e.symm),Ej hc]
     have h6:=Ap i5
     have g0':=fun X=>hne2 0 _ X (by omega) j0
     have g1':=fun X=>hne2 1 _ X (by omega) j1
     have g2':=fun X=>hne2 2 _ X (by omega) j2
     have g3':=fun X=>hne2 3 _ X (by omega) j3
     have g5':=fun X=>hne2 5 _ X (by omega) j5
     have gk':=fun X=>hne2 k _ X (by omega) k5
     simp only[CB.clean]at g1' g2' g3' g5' gk'
     have hlw:∀n,n≤1048577→IntKind.i64.wrap (n:Nat)=(n:Int):=fun n hn=>It (by omega) (by omega)
     have hself:∀X:CB,((Gt h').set (h.length+2) X)[h.length+2]?=some X:=fun X=>aEY (Ap hbc)
     have hback:∀X:CB,(((Gt h').set (h.length+2) X).set (h.length+2) LP)=Gt h':=fun X=>by
      rw[List.set_set];exact aUH hbc
     have sm:=a1G (l:=[]) jq
     simp only[List.append_nil]at sm
     have fin0:∀(dx:DqI E s N Gz dd' q' (Pe E room (i+1))),(Dm.ret (AV.bool true)=.ret (.bool true))∧Okw h' (Gt h')∧∃dd2 q2,DiH LK.clean false ps N (Kv h' (Gt h')) dd2 q2 [k,h.length,h.length+1,h.length+2]∧DqI E s N Gz dd2 q2 (Pe E room (i+1))∧2*dd2.sum+q2.length≤2*dd.sum+q.length∧(∀b∈[k,h.length,h.length+1,h.length+2],(Kv h' (Gt h'))[b]?=h'[b]?)∧h'.length≤(Kv h' (Gt h')).length:=fun dx=>by
      rw[sm.2]
      exact⟨rfl,sm.1,dd',q',⟨f',v',fl',w2,j0,j1,by rw[hrows];exact j2,j3,j5,j4,jQ,jB,jq⟩,dx,k4,fun b _=>rfl,aC6 _⟩
     have hq':q'.length≤100000000:=by omega
     have hK6:∀b∈[k,h.length,h.length+1,h.length+2],6≤b∧b<h'.length:=fun b hb1=>by
      simp only[aqM,aC4,or_false]at hb1
      omega
     have hnx:∀(b:Nat) (c X Y:CB),b≠h.length+2→b≠2→h'[b]?=some c→(((Gt h').set (h.length+2) X).set 2 Y)[b]?=some c.clean:=fun b c X Y n1 n2 hc=>by rw[ao8 (fun e=>n2 e.symm)];exact hne2 b c X n1 hc
     have n5:=fun X Y=>hnx 5 _ X Y (by omega) (by omega) j5
     have n4:=fun X Y=>hnx 4 _ X Y (by omega) (by omega) j4
     have nB:∀X Y:CB,(((Gt h').set (h.length+2) X).set 2 Y)[h.length+2]?=some X:=fun X Y=>by rw[ao8 (by omega)];exact hself X
     simp only[CB.clean]at n5 n4
     have nQ:∀X Y,QS v' q' (((Gt h').set (h.length+2) X).set 2 Y) 4:=fun X Y=>by
      rcases QS.cln jQ with h1|⟨b,w0,rows0,r0,h1,h2,h3⟩
      ·exact .inl h1
      ·have hbb:=jB b (by rw[h1];simp[Nk])
       simp only[aqM,aC4,or_false,not_or]at hbb
       exact .inr ⟨b,w0,rows0,r0,h1,by rw[ao8 (by omega),ao8 (by omega)];exact h2,h3⟩
     have hlen2:∀X Y:CB,(((Gt h').set (h.length+2) X).set 2 Y).length=h'.length:=fun X Y=>by simp[Bv]
     have nqt:∀(X:CB) (Y:List (List AV)),X.quiet X.clean=true→Ar (((Gt h').set (h.length+2) X).set 2 (.live 1 true true Y))=true:=fun X Y hX=>Eh (Eh (Oz jq) _ hX) _ rfl
     have fin1:∀{n:Nat} {q2:List Nat} {M:Aa} {Y:List Nat} {LB:CB} {v2:AV} {fl2:Bool},DqI E s N Gz (dd'.set to n) q2 (Pe E room (i+1))→n<xt→q2.length=q'.length+1→h'.length≤M.length→Ar M=true→M[4]?=some (.live 1 fl2 true [[v2]])→QS v2 q2 M 4→(∀b∈Nk v2,h'.length≤b)→
      (∀b c,b∉Y→(((Gt h').set (h.length+2) LB).set 2 (.live 1 true true ((dd'.set to n).map nvv)))[b]?=some c→M[b]?=some c)→4∈Y→(∀b∈Y,b=4∨(b∈Nk v'∧M[b]?=some .dead))→
      (Dm.ret (AV.bool true)=.ret (.bool true))∧Okw h' (M.set (h.length+2) LP)∧∃dd2 q2,DiH LK.clean false ps N (Kv h' (M.set (h.length+2) LP)) dd2 q2 [k,h.length,h.length+1,h.length+2]∧DqI E s N Gz dd2 q2 (Pe E room (i+1))∧2*dd2.sum+q2.length≤2*dd.sum+q.length∧(∀b∈[k,h.length,h.length+1,h.length+2],(Kv h' (M.set (h.length+2) LP))[b]?=h'[b]?)∧h'.length≤(Kv h' (M.set (h.length+2) LP)).length:=fun {n q2 M Y LB v2 fl2} dx hn hq2 m1 m2 m3 m4 m5 m6 hY hY'=>by
      have hr:=aUQ (K:=[k,h.length,h.length+1,h.length+2]) j0 j1 (by rw[hrows];exact j2) j3 j5 j4 jQ jB jq k8 (by simp) hK6 hb0 (by rw[←hLP];rfl) m1 m2 m3 m4 m5 m6 hY hY'
      exact⟨rfl,hr.1,dd'.set to n,q2,hr.2.1,dx,by have:=hsum n hn;omega,hr.2.2.1,hr.2.2.2⟩
     have nbv:h.length+2∉4::Nk v':=fun hx=>by
      rcases aqM.1 hx with hx|hx
      ·omega
      ·have:=(jB _ hx).2;simp at this
     have mq:∀x,x∈q'++[to]↔x=to∨x∈q':=fun x=>by simp;exact Or.comm
     have mq2:∀x,x∈to::q'↔x=to∨x∈q':=fun x=>by simp
     cases htb:tgB pc with
     |true=>
      have hw1:IntKind.i64.wrap ((xr:Int)+1)=((xr+1:Nat):Int):=by have:=hlw (xr+1) (by omega);simpa using this
      rw[htb]at htt hbit I0 I1
      simp only[if_true]at I0 I1 hbit
      by_cases hle:xt≤xr+1
      ·have hle':(((xr+1:Nat):Int)≥(xt:Int))=True:=eq_true (by omega)
       have fz:=fin0 (I0 hle)
       subst hLP
       refine aZY hbc rfl ?_
       (have hb:=trivial;with_reducible repeat' (first|simp only[hb,Vc.down,seval,ap6.down,k8,g0,g1,g5,g7,g9,g10,g0',g1',g2',g3',g5',gk',Gg,hi12,hp24,hpl,htk,htt,hbit,hrm,htm,hrN,htN',hw1,hle',hself,hback]|refine Av ?_ ?_<;>intro hb|refine fd ?_|fail))
       exact⟨_,_,rfl,fz⟩
      ·have hle':(((xr+1:Nat):Int)≥(xt:Int))=False:=eq_false (by omega)
       subst hLP
       refine aZY hbc rfl ?_
       (have hb:=trivial;with_reducible repeat' (first|simp only[hb,Vc.down,seval,ap6.down,k8,g0,g1,g5,g7,g9,g10,g0',g1',g2',g3',g5',gk',Gg,hi12,hp24,hpl,htk,htt,hbit,hrm,htm,hrN,htN',hw1,hle',hst]|refine Av ?_ ?_<;>intro hb|refine fd ?_|fail))
       generalize hLB:CB.lp _ _ _ _ Ib.busy=LB
       obtain⟨q1,hq1⟩:∃q,Fn.func 75=q:=⟨_,rfl⟩
       obtain⟨es,M,b1,b2,b3,b4,⟨v2,fl2,b5,b6,b7⟩,b8,b9⟩:=a3Y (nqt LB ((dd'.set to (xr+1)).map nvv) (by rw[←hLB];rfl)) to (n4 LB _) (nQ LB _) hq'
       rw[hq1]at b1
       have n5':=n5 LB
       have mB:=b8 _ _ nbv (nB LB _)
       have fz:=fin1 (I1 (q'++[to]) (by omega) mq) (by omega) (by simp) (by rw[hlen2]at b3;exact b3) b4 b5 b6 (by rw[hlen2]at b7;exact b7) b8 (aAR ..) (fun b hb1=>(aqM.1 hb1).imp id fun hb1=>⟨hb1,b9 b hb1⟩)
       subst hLB
       (have hb:=trivial;with_reducible repeat' (first|simp only[hb,Vc.down,seval,ap6.down,n5',hq1,b1,b2,mB]|refine Av ?_ ?_<;>intro hb|refine fd ?_|fail))
       exact⟨_,_,rfl,fz⟩
     |false=>
      have hw1:IntKind.i64.wrap ((xr:Int)+0)=((xr:Nat):Int):=by have:=hlw xr (by omega);simpa using this
      rw[htb]at htt hbit I0 I1
      simp only[Bool.false_eq_true,if_false,Nat.add_zero]at I0 I1 hbit
      by_cases hle:xt≤xr
      ·have hle':((xr:Int)≥(xt:Int))=True:=eq_true (by omega)
       have fz:=fin0 (I0 hle)
       subst hLP
       refine aZY hbc rfl ?_
       (have hb:=trivial;with_reducible repeat' (first|simp only[hb,Vc.down,seval,ap6.down,k8,g0,g1,g5,g7,g9,g10,g0',g1',g2',g3',g5',gk',Gg,hi12,hp24,hpl,htk,htt,hbit,hrm,htm,hrN,htN',hw1,hle',hself,hback]|refine Av ?_ ?_<;>intro hb|refine fd ?_|fail))
       exact⟨_,_,rfl,fz⟩
      ·have hle':((xr:Int)≥(xt:Int))=False:=eq_false (by omega)
       subst hLP
       refine aZY hbc rfl ?_
       (have hb:=trivial;with_reducible repeat' (first|simp only[hb,Vc.down,seval,ap6.down,k8,g0,g1,g5,g7,g9,g10,g0',g1',g2',g3',g5',gk',Gg,hi12,hp24,hpl,htk,htt,hbit,hrm,htm,hrN,htN',hw1,hle',hst]|refine Av ?_ ?_<;>intro hb|refine fd ?_|fail))
       generalize hLB:CB.lp _ _ _ _ Ib.busy=LB
       obtain⟨q1,hq1⟩:∃q,Fn.func 79=q:=⟨_,rfl⟩
       obtain⟨es,M,b1,b2,b3,b4,⟨v2,fl2,b5,b6,b7⟩,b8⟩:=a9M (nqt LB ((dd'.set to xr).map nvv) (by rw[←hLB];rfl)) to (n4 LB _) (nQ LB _) hq'
       rw[hq1]at b1
       have n5':=n5 LB
       have mB:=b8 _ _ (by omega) (nB LB _)
       have fz:=fin1 (Y:=[4]) (I1 (to::q') (by omega) mq2) (by omega) (by simp) (by rw[hlen2]at b3;exact b3) b4 b5 b6 (by rw[hlen2]at b7;exact b7) (fun b c hn=>b8 b c (by simpa using hn)) (aAR ..) (fun b hb1=>.inl (by simpa using hb1))
       subst hLB
       (have hb:=trivial;with_reducible repeat' (first|simp only[hb,Vc.down,seval,ap6.down,n5',hq1,b1,b2,mB]|refine Av ?_ ?_<;>intro hb|refine fd ?_|fail))
       exact⟨_,_,rfl,fz⟩
    obtain⟨o,G,es,e1,e2,rfl,z0,dd2,q2,z1,z2,z3,z4,z5⟩:=a2M round (fun o G h=>h.2.1.sh)
    refine⟨es,e1,?_⟩
    rw[e2]
    exact⟨dd2,q2,z1,z2,z3,⟨a0,by rw[z4 k (by simp)];exact k5⟩,⟨a1,by rw[z4 _ (by simp)];exact k6⟩,⟨a2,by rw[z4 _ (by simp)];exact k7⟩,by rw[z4 _ (by simp)];exact k8,by omega,kO.trans z0⟩
   ·rintro i p h' hpx n1 n2 ⟨dd',q',k1,k3,k4,k5,k6,k7,k8,k9⟩
    have hpo:=hw.part p (aIS hpx)
    obtain⟨pc,hpc⟩:∃x,L[i]?=some x:=⟨_,aqT (by have:=(aH6.1 hpx).1;omega)⟩
    have he:=aW5 hpx hpc
    rw[hE]at he
    exact⟨dd',q',k1,k3.skip he (by omega) (by omega),k4,k5,k6,k7,k8,k9⟩
   ·have cl:∀(b:Nat) (c:CB),h[b]?=some c→(Gt h++[CB.live 1 false false [[.ptr 0 0 0]],.live 1 true false [[.int .i64 (room:Nat)]],LP])[b]?=some c.clean:=fun b c hc=>Ah (Ej hc) _
    have ca:∀j,(Gt h++[CB.live 1 false false [[.ptr 0 0 0]],.live 1 true false [[.int .i64 (room:Nat)]],LP])[h.length+j]?=[CB.live 1 false false [[.ptr 0 0 0]],.live 1 true false [[.int .i64 (room:Nat)]],LP][j]?:=fun j=>by
     rw[aC7 (by rw[Bv];omega),Bv,aRS]
    have hLc:LP.clean=LP:=by rw[←hLP];rfl
    have hLq:LP.quiet LP=true:=by rw[←hLP];rfl
    have hok:Okw (h++[.live 1 false false [[.ptr 0 0 0]],.live 1 true false [[.int .i64 (room:Nat)]],LP]) (Gt h++[.live 1 false false [[.ptr 0 0 0]],.live 1 true false [[.int .i64 (room:Nat)]],LP]):=by
     have:=Okw.cl (H:=h++[.live 1 false false [[.ptr 0 0 0]],.live 1 true false [[.int .i64 (room:Nat)]],LP]) (Ef iq (by simp only[Ar,aM7,hLc,hLq];rfl))
     rw[show Gt (h++[CB.live 1 false false [[.ptr 0 0 0]],.live 1 true false [[.int .i64 (room:Nat)]],LP])=Gt h++[CB.live 1 false false [[.ptr 0 0 0]],.live 1 true false [[.int .i64 (room:Nat)]],LP] by simp only[Gt,List.map_append,List.map_cons,List.map_nil,hLc];rfl]at this
     exact this
    refine⟨dd,q,⟨false,v,fl,false,by rw[hLK];exact cl 0 _ i0,cl 1 _ i1,cl 2 _ i2,cl 3 _ i3,cl 5 _ i5,cl 4 _ i4,?_,fun b hb1=>?_,Ef (Oz iq) (by simp only[Ar,aM7,hLc,hLq];rfl)⟩,rI,aC6 _,⟨_,cl k _ hkb⟩,⟨false,ca 0⟩,⟨false,ca 1⟩,ca 2,by simp[Bv],hok⟩
    ·rcases QS.cln iQ with h|⟨b,w',rows,r,h1,h2,h3⟩
     ·exact .inl h
     ·exact .inr ⟨b,w',rows,r,h1,Ah h2 _,h3⟩
    ·have:=(iQ.lt b hb1).1
     have:=iB b hb1
     simp at this ⊢
     omega
   ·rintro o h' ⟨rfl,dd',q',⟨f',v',fl',w2,j0,j1,j2,j3,j5,j4,jQ,jB,jq⟩,k3,k4,⟨a0,k5⟩,⟨a1,k6⟩,⟨a2,k7⟩,k8,k9,kO⟩
    have hl5:=Ap i5
    have hLc:LP.clean=LP:=by rw[←hLP];rfl
    have hLq:LP.quiet LP=true:=by rw[←hLP];rfl
    obtain⟨h1,hh1⟩:∃H:Aa,h++[.live 1 false false [[.ptr 0 0 0]],.live 1 true false [[.int .i64 (room:Nat)]],LP]=H:=⟨_,rfl⟩
    have hB1:h1[h.length+2]?=some LP:=by rw[←hh1,aC7 (by omega),aRS];rfl
    have hq1:Ar h1=true:=by rw[←hh1];exact Ef iq (by simp only[Ar,aM7,hLc,hLq];rfl)
    have hO:∀(b:Nat) (c:CB),h[b]?=some c→h1[b]?=some c:=fun b c hc=>by rw[←hh1];exact Ah hc _
    simp only[hh1]at kO ⊢
    obtain⟨es,e1,e2⟩:=az3 h1 h' [] kO.sh
    have e1':Bg 0 h1 h'=some es:=e1
    simp only[aE6]at e2
    have m0:=Okw.old (hO 0 _ i0) j0 (by rw[hLK];rfl)
    have m1:=Okw.old (hO 1 _ i1) j1 rfl
    obtain⟨x2,m2⟩:=kO.live j2
    have m3:=Okw.old (hO 3 _ i3) j3 rfl
    have m5:=Okw.old (hO 5 _ i5) j5 rfl
    obtain⟨x4,m4⟩:=kO.live j4
    obtain⟨xk,mk_⟩:=kO.live k5
    have mQ:=jQ.okw kO
    have mB:=Okw.old hB1 k8 hLq
    have mqt:=kO.quiet hq1 jq
    have mln:h'.length≤(Kv h1 h').length:=by rw[adL kO.1];exact aC6 _
    generalize hM:Kv h1 h'=M at *
    rw[aFX,e1']
    have dne:∀(b:Nat) (c:CB),b≠h.length+2→M[b]?=some c→(M.set (h.length+2) .dead)[b]?=some c:=fun b c hn hc=>by rw[ao8 (fun e=>hn e.symm)];exact hc
    have hkn:k≠h.length+2:=by omega
    have d0:=dne 0 _ (by omega) m0
    have d1:=dne 1 _ (by omega) m1
    have d2:=dne 2 _ (by omega) m2
    have d3:=dne 3 _ (by omega) m3
    have d5:=dne 5 _ (by omega) m5
    have d4:=dne 4 _ (by omega) m4
    have dk:=dne k _ hkn mk_
    have dq:Ar (M.set (h.length+2) .dead)=true:=Eh mqt _ rfl
    have dl:(M.set (h.length+2) .dead).length=M.length:=by simp
    have dQ:QS v' q' (M.set (h.length+2) .dead) 4:=by
     rcases mQ with h1|⟨b,w0,rows0,r0,h1,h2,h3⟩
     ·exact .inl h1
     ·have hbb:=jB b (by rw[h1];simp[Nk])
      simp only[aqM,aC4,or_false,not_or]at hbb
      exact .inr ⟨b,w0,rows0,r0,h1,dne b _ (by omega) h2,h3⟩
    subst hLP
    (have hb:=trivial;with_reducible repeat' (first|simp only[hb,Vc.down,seval,ap6.down,e2,mB]|refine Av ?_ ?_<;>intro hb|refine fd ?_|fail))
    generalize hD:M.set (h.length+2) CB.dead=D at *
    (have hb:=trivial;with_reducible repeat' (first|simp only[hb,Vc.down,seval,ap6.down,g0,g1,g5,g7,g9,g10,dk,d5]|refine Av ?_ ?_<;>intro hb|refine fd ?_|fail))
    have p5:=Ah d5 [CB.live 1 true true [[.int .i64 (room:Int)]]]
    have p4:=Ah d4 [CB.live 1 true true [[.int .i64 (room:Int)]]]
    have pq:Ar (D++[CB.live 1 true true [[.int .i64 (room:Int)]]])=true:=Ef dq rfl
    have pQ:=dQ.app [CB.live 1 true true [[.int .i64 (room:Int)]]]
    have pk:(D++[CB.live 1 true true [[.int .i64 (room:Int)]]])[D.length]?=some (.live 1 true true [[.int .i64 (room:Int)]]):=by simp
    have hEl:E.length≤w.parts.length:=by rw[←hE];simp[edg,tgt];omega
    have k3':=k3.done hEl
    have hD6:6≤D.length:=by omega
    have hvD:∀b∈Nk v',6≤b∧b∉[D.length]:=fun b hb1=>by
     have h1:=(dQ.lt b hb1).1
     have h2:=(jB b hb1).1
     exact⟨h2,by simp;omega⟩
    obtain⟨q1,hq1⟩:∃q,Fn.func 76=q:=⟨_,rfl⟩
    cases q' with
    |nil=>
     have b1:=baW pq p4 pQ
     rw[hq1]at b1
     (have hb:=trivial;with_reducible repeat' (first|simp only[hb,Vc.down,seval,ap6.down,p5,hq1,b1]|refine Av ?_ ?_<;>intro hb|refine fd ?_|fail))
     refine Bh (kJ _ _ () ⟨by simp[up,g0],by simp[up,g1],by simp[up,g5],by simp[up,g7],by simp[up,g9],dd',[],D.length,?_,?_,.inr ⟨by simp[up],rfl,k3'⟩⟩ rfl)
     ·exact⟨_,_,_,_,Ah d0 _,Ah d1 _,Ah d2 _,Ah d3 _,Ah d5 _,Ah d4 _,dQ.app _,hvD,Ef dq rfl⟩
     ·omega
    |cons x q'=>
     simp only[List.length_cons]at k4
     obtain⟨es,M4,b1,b2,b3,b4,⟨v2,fl2,b5,b6,b7⟩,b8⟩:=a34 pq p4 pQ (by omega)
     rw[hq1]at b1
     have r5:=b8 _ _ (by omega) p5
     have rk:=b8 _ _ (by omega) pk
     (have hb:=trivial;with_reducible repeat' (first|simp only[hb,Vc.down,seval,ap6.down,p5,hq1,b1,b2,rk,r5]|refine Av ?_ ?_<;>intro hb|refine fd ?_|fail))
     have sne:∀(b:Nat) (c:CB),b<D.length→b≠4→D[b]?=some c→(M4.set D.length (.live 1 true true [[.int .i64 (x:Int)]]))[b]?=some c:=fun b c h1 h2 hc=>by
      rw[ao8 (by omega)];exact b8 b c h2 (Ah hc _)
     have hl4:=Ap rk
     refine Bh (kJ _ _ () ⟨by simp[up,g0],by simp[up,g1],by simp[up,g5],by simp[up,g7],by simp[up,g9],dd',q',D.length,?_,by omega,.inl ⟨by simp[up],x,true,by simp[up],hD6,aEY hl4,k3',by omega⟩⟩ rfl)
     refine⟨_,v2,fl2,true,sne 0 _ (by omega) (by omega) d0,sne 1 _ (by omega) (by omega) d1,sne 2 _ (by omega) (by omega) d2,sne 3 _ (by omega) (by omega) d3,sne 5 _ (by omega) (by omega) d5,by rw[ao8 (by omega)];exact b5,?_,fun b hb1=>hvD b (by rw[←b7];exact hb1),Eh b4 _ rfl⟩
     rcases b6 with h1|⟨b,w0,rows0,r0,h1,h2,h3⟩
     ·exact .inl h1
     ·have hbb:=hvD b (by rw[←b7,h1];simp[Nk])
      simp only[aqM,aC4,or_false]at hbb
      exact .inr ⟨b,w0,rows0,r0,h1,by rw[ao8 (fun e=>hbb.2 e.symm)];exact h2,h3⟩
  ·(have hb:=trivial;with_reducible repeat' (first|simp only[hb,Vc.down,seval,ap6.down,g11]|refine Av ?_ ?_<;>intro hb|refine fd ?_|fail))
   exact kQ _ _ _ ⟨rfl,by simp[up,g7],dd,k,hD,hI⟩
 ·refine⟨by simp[up,g0],by simp[up,g1],by simp[up,g5],by simp[up,g7],by simp[up],Jx N s Gz,[],M2.length,?_,by simp only[List.length_nil];omega,.inl ⟨by simp[up],s,true,by simp[up],by simp at b3;omega,by rw[aC7 (aC6 _),aLK];rfl,I0,by simp⟩⟩
  refine⟨true,v2,fl2,true,Ah j0 _,Ah j1 _,Ah j2 _,Ah j3 _,Ah j5 _,Ah c5 _,?_,?_,Ef c4 rfl⟩
  ·rcases c6 with h|⟨b,w',rows,r,h1,h2,h3⟩
   ·exact .inl h
   ·exact .inr ⟨b,w',rows,r,h1,Ah h2 _,h3⟩
  ·intro b hb1
   have:=c6.lt b hb1
   rw[c7]at hb1
   have h6:=b7 b hb1
   simp at h6
   exact⟨h6,by simp;omega⟩
 obtain⟨rfl,g7,dd,k,⟨f,v,fl,w',i0,i1,i2,i3,i5,i4,iQ,iB,iq⟩,hI⟩:=hk
 have hR:=hI.right hs hEo (by unfold Gz;omega)
 have hdl:=hI.i.len
 have hln:(dd.map nvv).length=N:=by simp[hdl]
 subst hLK
 (have hb:=trivial;with_reducible repeat' (first|simp only[hb,Vc.down,seval,ap6.down,g7,i3,i2,i0,hln]|refine Av ?_ ?_<;>intro hb|refine fd ?_|fail))
 exact⟨f,dd,rfl,hdl,hR⟩
theorem Hw(L:List (Int × Bool)):∀x∈Cf L,(∃n,x=.int .i64 n)∨∃b,x=.bool b:=fun x hx=>by
 simp only[Cf,aP8,aqM,aC4,or_false]at hx
 obtain⟨y,_,rfl|rfl⟩:=hx
 ·exact .inl ⟨_,rfl⟩
 ·exact .inr ⟨_,rfl⟩
theorem Gh(L:List (Int × Bool)):(Cf L).all AV.flat=true:=aFD.2 fun x hx=>by rcases Hw L x hx with⟨n,rfl⟩|⟨b,rfl⟩<;>rfl
theorem Gi(L:List (Int × Bool)):(Cf L).all AV.isCell=true:=aFD.2 fun x hx=>by rcases Hw L x hx with⟨n,rfl⟩|⟨b,rfl⟩<;>rfl
theorem aAW(L:List (Int × Bool))(d:Nat)(g:HF):Ba (Fj (d+1) g) (Cf L)=some (Cf L):=aKB fun x hx=>by rcases Hw L x hx with⟨n,rfl⟩|⟨b,rfl⟩<;>rfl
theorem aA9(L:List (Int × Bool))(d:Nat)(g:HF):(Cf L).flatMap (Ao (d+1) g)=[]:=List.flatMap_eq_nil_iff.2 fun x hx=>by rcases Hw L x hx with⟨n,rfl⟩|⟨b,rfl⟩<;>rfl
theorem Ou(L:List (Int × Bool))(d:Nat)(m:List Nat):Bc.refL (Bc (d+1)) m (Cf L)=some (Cf L,m):=Fb fun x hx=>by rcases Hw L x hx with⟨n,rfl⟩|⟨b,rfl⟩<;>rfl
theorem aDT(L:List (Int × Bool))(d:Nat)(f:Nat→Nat):Ba (Cb (d+1) f) (Cf L)=some (Cf L):=aKB fun x hx=>by rcases Hw L x hx with⟨n,rfl⟩|⟨b,rfl⟩<;>rfl
theorem aDI(L:List (Int × Bool))(d:Nat):(Cf L).any (hasImm (d+1))=false:=List.any_eq_false.2 fun x hx=>by rcases Hw L x hx with⟨n,rfl⟩|⟨b,rfl⟩<;>simp[hasImm]
def nmB(w:Am)(N:Nat)(L:List (Int × Bool)):Nat:=aJU (edg w (tgt L)) N w.parts.length
theorem aCQ{w:Am}{N:Nat}(hw:WOk w N)(h12:w.parts.length≤12)(d:Int){L:List (Int × Bool)}(hL12:L.length=12)(wf:Bool):
 Ei.call (.fn 51) [.ptr 0 0 0,.agg (Cf L)] [.live 4 false wf [[.int .i64 w.rooms,.int .i64 w.need,Bo 9 true w.nn (w.parts.map Ai.cells),.int .i64 d]]]=some (.ret (.int .i64 (nmB w N L:Nat)),[.live 4 false wf [[.int .i64 w.rooms,.int .i64 w.need,Bo 9 true w.nn (w.parts.map Ai.cells),.int .i64 d]]]):=by
 have n2:=hw.n2
 have n8:=hw.n8
 obtain⟨o,h',hc,f,ds,rfl,rfl,hdl,hR⟩:=aMH hw h12 (d:=d) (s:=0) (by omega) hL12 rfl (wf:=false)
 have hne:=a45 (len:=w.parts.length) n2 (by omega) (by unfold Gz;omega) (aFN hw (tgt L)) hR
 have hf1:=Gh L
 have hf2:=Gi L
 have hpl:(Cf L).length=24:=by rw[Bd];omega
 have hd1:=aJ4 (d:=ds) (a:=1) (by omega)
 have h1N:((1:Int)<(N:Int))=True:=eq_true (by omega)
 have hle:ds.getD 1 0≤1048576:=by
  by_cases e:ds.getD 1 0=Gz
  ·rw[e];exact aC6 _
  ·have:=(azI.num hR hR (by unfold Gz;omega) (by unfold Gz;omega) (by omega) (aFN hw (tgt L)) (v:=1) (by omega)).2.2 e
   have:ds.getD 1 0<N:=this
   omega
 have hN1:nmB w N L=if ds.getD 1 0=Gz then w.parts.length+1 else ds.getD 1 0:=hne.symm
 rw[hN1]
 have hav:=aAW L
 have hlv:=aA9 L
 have hrf:=Ou L
 simp only[Int.natCast_zero]at hc
 generalize Cf L=ps at *
 have htk:awX 24 ps=ps:=aC5 (by omega)
 generalize ds.getD 1 0=x at *
 generalize ds.map nvv=rows at *
 have hwr:IntKind.i64.wrap ((w.parts.length:Int)+1)=((w.parts.length+1:Nat):Int):=by have:=It (n:=((w.parts.length+1:Nat):Int)) (by omega) (by omega);simpa using this
 by_cases e:x=Gz
 ·have e1:((x:Int)==1048576)=true:=by rw[e];rfl
  rw[if_pos e]
  refine ce Tryz.func51 ?_
  simp only[Tryz.f51]
  (have hb:=trivial;with_reducible repeat' (first|simp only[hb,Vc.down,seval,a8W.down,hpl,hf1,hf2,htk,hav,hlv,hrf,hc,hd1,h1N,e1,hwr,aC8]|refine Av ?_ ?_<;>intro hb|refine fd ?_|fail))
 ·have e1:((x:Int)==1048576)=false:=by simp;exact fun h=>e (by unfold Gz;omega)
  rw[if_neg e]
  refine ce Tryz.func51 ?_
  simp only[Tryz.f51]
  (have hb:=trivial;with_reducible repeat' (first|simp only[hb,Vc.down,seval,a8W.down,hpl,hf1,hf2,htk,hav,hlv,hrf,hc,hd1,h1N,e1,aC8]|refine Av ?_ ?_<;>intro hb|refine fd ?_|fail))
theorem aBF{w:Am}{d:Int}(h12:w.parts.length≤12):(Af w d).length=12:=by simp[Af];omega
theorem aK3{α:Type}{d:List AV→Option α}{f:α→List AV}(hd:∀cs x,d cs=some x→cs=f x):∀{rows:List (List AV)} {l:List α},Ba d rows=some l→rows=l.map f
 | [],l,h=>by simp[Ba]at h;subst h;rfl
 |r::rows,l,h=>by
  simp only[Ba,aR1,aIF]at h
  obtain⟨x,h1,l',h2,rfl⟩:=h
  rw[hd r x h1,aK3 hd h2];rfl
def dSl{α:Type}(n:Nat)(fl:Bool)(d:List AV→Option α):AV→Option (Bool × List α)
 | .nils=>some (false,[])
 | .imm n' fl' rows=>if n'=n∧fl'=fl then(Ba d rows).map fun l=>(true,l)else none
 |_=>none
theorem a57{α:Type}{n:Nat}{fl:Bool}{d:List AV→Option α}{f:α→List AV}(hd:∀cs x,d cs=some x→cs=f x){v:AV}{x:Bool × List α}(h:dSl n fl d v=some x):v=Bo n fl x.1 (x.2.map f):=by
 unfold dSl at h
 split at h
 ·cases h;rfl
 ·split at h
  ·rename_i hq
   obtain⟨rfl,rfl⟩:=hq
   obtain⟨l,h1,rfl⟩:=aIF.1 h
   rw[aK3 hd h1]
   cases l<;>rfl
  ·cases h
 ·cases h
def aVW:List AV→Option Ai
 | [.int .i64 a,.int .i64 b,.bool c,.bool d,.int .i64 e,.int .i64 f,.bool g,.int .i64 h,.int .i64 i]=>some ⟨a,b,c,d,e,f,g,h,i⟩
 |_=>none
theorem aXA(cs:List AV)(x:Ai)(h:aVW cs=some x):cs=x.cells:=by
 unfold aVW at h
 split at h
 ·cases h;rfl
 ·cases h
def aWU:List AV→Option (List (Int × Bool))
 | []=>some []
 | .int .i64 a::.bool b::l=>(aWU l).map fun r=>(a,b)::r
 |_=>none
theorem aQJ:∀(cs:List AV) (x:List (Int × Bool)),aWU cs=some x→cs=Cf x
 | [],x,h=>by simp[aWU]at h;subst h;rfl
 | .int .i64 a::.bool b::l,x,h=>by
   simp only[aWU,aIF]at h
   obtain⟨r,h1,rfl⟩:=h
   rw[aQJ l r h1];rfl
def ba0:List AV→Aa→Option (Dm × Aa)
 | [.ptr 0 0 0,.agg ps],[.live 4 false wf [[.int .i64 rooms,.int .i64 need,sl,.int .i64 d]]]=>
   (dSl 9 true aVW sl).bind fun x=>(aWU ps).bind fun L=>if(Hz ⟨rooms,need,x.1,x.2⟩&&decide (L.length=12))=true then
     some (.ret (.int .i64 (nmB ⟨rooms,need,x.1,x.2⟩ rooms.toNat L:Nat)),[.live 4 false wf [[.int .i64 rooms,.int .i64 need,sl,.int .i64 d]]])else none
 |_,_=>none
def pr2:Kr:={ pr with at_:=fun f=>if f=51 then some ba0 else pr f }
theorem a96(f:Nat)(h:pr2 f=none):pr f=none:=by
 simp only[pr2]at h
 split at h
 ·cases h
 ·exact h
theorem a5H:∀f p,pr2 f=some p→∀a h r,p a h=some r→Ei.call (.fn f) a h=some r:=by
 intro f p hp a h r hr
 simp only[pr2]at hp
 split at hp
 ·rename_i hf
  subst hf
  cases hp
  unfold ba0 at hr
  split at hr
  ·rename_i ps wf rooms need sl d
   simp only[aR1]at hr
   obtain⟨x,h1,L,h2,h3⟩:=hr
   split at h3
   ·rename_i hs
    simp only[Bool.and_eq_true,decide_eq_true_eq]at hs
    cases h3
    obtain⟨N,hw,h12⟩:=aQ0 hs.1
    have hN:rooms.toNat=N:=by have:=hw.rooms;simp only at this;omega
    rw[a57 aXA h1,aQJ _ _ h2,hN]
    exact aCQ hw h12 d hs.2 wf
   ·cases h3
  ·cases hr
 ·exact aQP hp hr
theorem aRL:(Oe Tryz.prog pr2 100).call (.fn 10) [] []=some (.ret (.bool true),[]):=by kernel_rfl
theorem aXV:Ei.call (.fn 10) [] []=some (.ret (.bool true),[]):=aL4 (pr:=pr) (pr2:=pr2) rfl a96 a5H aRL
def aOH(w:Am):Bool:=decide ((w.parts.length:Int)≤15)
theorem a0C(w:Am):Ei.call (.fn 9) [.agg [.int .i64 w.rooms,.int .i64 w.need,Bo 9 true w.nn (w.parts.map Ai.cells)]] []=some (.ret (.bool (aOH w)),[]):=by
 cases c:aOH w
 ·have h:decide ((w.parts.length:Int)≤15)=false:=c
  (refine ce Tryz.func9 ?_;simp only[Tryz.f9];(have hb:=trivial;with_reducible repeat' (first|simp only[hb,Va.down,seval,TY9.down,h,aC8]|refine Av ?_ ?_<;>intro hb|refine fd ?_|fail)))
 ·have h:decide ((w.parts.length:Int)≤15)=true:=c
  (refine ce Tryz.func9 ?_;simp only[Tryz.f9];(have hb:=trivial;with_reducible repeat' (first|simp only[hb,Va.down,seval,TY9.down,h,aC8]|refine Av ?_ ?_<;>intro hb|refine fd ?_|fail)))
theorem aM4:∀(L:List (Int × Bool)) (i:Nat) (a:Int) (b:Bool),i<L.length→awX (i*2) (Cf L)++(.int .i64 a::.bool b::aJ9 (i*2+2) (Cf L))=Cf (L.set i (a,b))
 | [],i,a,b,h=>by simp at h
 |x::L,0,a,b,h=>by simp[Cf]
 |x::L,i+1,a,b,h=>by
  have ih:=aM4 L i a b (by simpa using h)
  rw[show(i+1)*2=(i*2)+1+1 by omega,show(i*2)+1+1+2=(i*2+2)+1+1 by omega]
  simp only[Cf,aN0,aKY,aE6,List.take_succ_cons,aOE,List.set_cons_succ]at ih ⊢
  rw[←ih]
theorem am1(L:List (Int × Bool))(d:Nat):(Cf L).all (Aq (d+1))=true:=aFD.2 fun x hx=>by rcases Hw L x hx with⟨n,rfl⟩|⟨b,rfl⟩<;>rfl
def Db(k:Int)(b:Bool)(x:Int × Bool):Int × Bool:=if k=1 then(x.1,true)else if k=2 then(x.1,false)else if k=3 then(if b=true then(0,x.2)else(2,x.2))else(0,x.2)
theorem aUD(c:Int)(o b:Bool):Ei.call (.fn 112) [.agg [.int .i64 c,.bool o],.bool b] []=some (.ret (.agg [.int .i64 c,.bool true]),[]):=by
 (refine ce Tryz.func112 ?_;simp only[Tryz.f112];(have hb:=trivial;with_reducible repeat' (first|simp only[hb,Vc.down,seval,baF.down]|refine Av ?_ ?_<;>intro hb|refine fd ?_|fail)))
theorem aVI(c:Int)(o b:Bool):Ei.call (.fn 113) [.agg [.int .i64 c,.bool o],.bool b] []=some (.ret (.agg [.int .i64 c,.bool false]),[]):=by
 (refine ce Tryz.func113 ?_;simp only[Tryz.f113];(have hb:=trivial;with_reducible repeat' (first|simp only[hb,Vc.down,seval,a9P.down]|refine Av ?_ ?_<;>intro hb|refine fd ?_|fail)))
theorem aWZ(c:Int)(o b:Bool):Ei.call (.fn 114) [.agg [.int .i64 c,.bool o],.bool b] []=some (.ret (.agg [.int .i64 (if b=true then 0 else 2),.bool o]),[]):=by
 cases b<;>(refine ce Tryz.func114 ?_;simp only[Tryz.f114];(have hb:=trivial;with_reducible repeat' (first|simp only[hb,Vc.down,seval,a9D.down]|refine Av ?_ ?_<;>intro hb|refine fd ?_|fail)))
theorem aSJ(c:Int)(o b:Bool):Ei.call (.fn 115) [.agg [.int .i64 c,.bool o],.bool b] []=some (.ret (.agg [.int .i64 0,.bool o]),[]):=by
 (refine ce Tryz.func115 ?_;simp only[Tryz.f115];(have hb:=trivial;with_reducible repeat' (first|simp only[hb,Vc.down,seval,a9U.down]|refine Av ?_ ?_<;>intro hb|refine fd ?_|fail)))
def aH9:CB:=.lp [] .skip .skip [.int .i64 1,.func (.func 112) [] [],.int .i64 2,.func (.func 113) [] [],.int .i64 3,.func (.func 114) [] [],.int .i64 4,.func (.func 115) [] []] .map
theorem aJV:Ei.call (.fn 92) [] []=some (.ret (.mapr 0),[aH9]):=by
 exact aL4 (pr:=pr) (pr2:=pr) (n:=10) rfl (fun f hf=>hf) (fun f p hp a h r hr=>aQP hp hr) (by kernel_rfl)
def fnD(k:Int):Nat:=if k=1 then 112 else if k=2 then 113 else if k=3 then 114 else 115
theorem aZX{h:Aa}{b:Nat}(hb:h[b]?=some aH9){k:Int}(hk:k=1∨k=2∨k=3∨k=4):lk Tryz.prog h 146 (some (.mapr b)) (some (.int .i64 k)) false=some (.ret (.func (.func (fnD k)) [] []),[]):=by
 have key:∀k:Int,k=1∨k=2∨k=3∨k=4→(Ek Tryz.prog (fun _=>some aH9) 146 (.mapr 0) (.int .i64 k) false).map (fun d=>(d.v,d.es))=some (.func (.func (fnD k)) [] [],[]):=fun k hk=>by
  rcases hk with rfl|rfl|rfl|rfl<;>kernel_rfl
 have e:(Ek Tryz.prog (hf h) 146 (.mapr b) (.int .i64 k) false).map (fun d=>(d.v,d.es))=(Ek Tryz.prog (fun _=>some aH9) 146 (.mapr 0) (.int .i64 k) false).map (fun d=>(d.v,d.es)):=by
  unfold Ek
  simp only[Tryz.underlying146]
  have hm:Me (hf h) b=Me (fun _=>some aH9) 0:=by simp only[Me,hf,hb]
  simp only[hm]
  split
  ·generalize Me (fun _=>some aH9) 0=m
   cases m with
   |none=>rfl
   |some kvs=>
    simp only[aNT]
    generalize aoM _ _ _ kvs 0=r
    cases r with
    |none=>rfl
    |some r=>
     simp only[aNT]
     generalize Es _ _=z
     cases z<;>rfl
  ·rfl
 rw[key k hk]at e
 simp only[lk,aNT]
 obtain⟨d,hd,h2⟩:=aIF.1 e
 rw[hd]
 simp only[Prod.mk.injEq]at h2
 obtain⟨v,es,fs⟩:=d
 obtain⟨rfl,rfl⟩:=h2
 rfl
theorem aKV{L:List (Int × Bool)}(hL:L.length=12){i:Nat}{x:Int × Bool}(hx:L[i]?=some x){k:Int}(hk:k=1∨k=2∨k=3∨k=4)(b:Bool):
 Ei.call (.fn 74) [.agg (Cf L),.agg [.int .i64 k,.int .i64 (i:Int)],.bool b] []=some (.ret (.agg (Cf (L.set i (Db k b x)))),[]):=by
 have hi:i<L.length:=(aH6.1 hx).1
 have hpl:(Cf L).length=24:=by rw[Bd];omega
 have hf1:=Gh L
 have hf2:=Gi L
 have htk:=aDA _ _ _ _ hx
 have hst:=fun a b=>aM4 L i a b hi
 have hpl2:∀a b,(Cf (L.set i (a,b))).length=24:=fun a b=>by rw[Bd];simp;omega
 have hfl2:=fun a b=>Gh (L.set i (a,b))
 have hce2:=fun a b=>Gi (L.set i (a,b))
 have hrf2:=fun a b=>Ou (L.set i (a,b))
 have hpv2:=fun a b=>am1 (L.set i (a,b))
 have i12:((i:Int)<12)=True:=eq_true (by omega)
 have hp24:(i*2+2≤24)=True:=eq_true (by omega)
 have htk24:awX 24 (Cf L)=Cf L:=aC5 (by omega)
 have htk2:∀a b,awX (24-i*2) [AV.int .i64 a,AV.bool b]=[AV.int .i64 a,AV.bool b]:=fun a b=>aC5 (by simp;omega)
 have htk3:∀a b,awX 24 (Cf (L.set i (a,b)))=Cf (L.set i (a,b)):=fun a b=>aC5 (by rw[hpl2];omega)
 obtain⟨a,o⟩:=x
 have hrm:∀f,Ho f aH9=some aH9:=fun f=>rfl
 have him:aH9.hasImm=false:=rfl
 have rv:∀(f:Nat→Nat) (b:Nat),Cb 8 f (.mapr b)=some (.mapr (f b)):=fun _ _=>rfl
 have hlk:=fun(h:Aa) (b':Nat) (hb':h[b']?=some aH9)=>aZX hb' hk
 have q1:=aUD a o b
 have q2:=aVI a o b
 have q3:=aWZ a o b
 have q4:=aSJ a o b
 rcases hk with rfl|rfl|rfl|rfl
 ·rw[show fnD 1=112 from rfl]at hlk
  rw[show Db 1 b (a,o)=(a,true)from rfl]
  refine ce Tryz.func74 ?_
  simp only[Tryz.f74]
  (have hb:=trivial;with_reducible repeat' (first|simp only[hb,Vc.down,seval,aZK.down,hpl,hf1,hf2,htk,aJV,i12,hp24,hrm,him,rv,hlk,q1,Gg,hst,hpl2,hfl2,hce2,hrf2,htk24,htk2,htk3,hpv2]|refine Av ?_ ?_<;>intro hb|refine fd ?_|fail))
 ·rw[show fnD 2=113 from rfl]at hlk
  rw[show Db 2 b (a,o)=(a,false)from rfl]
  refine ce Tryz.func74 ?_
  simp only[Tryz.f74]
  (have hb:=trivial;with_reducible repeat' (first|simp only[hb,Vc.down,seval,aZK.down,hpl,hf1,hf2,htk,aJV,i12,hp24,hrm,him,rv,hlk,q2,Gg,hst,hpl2,hfl2,hce2,hrf2,htk24,htk2,htk3,hpv2]|refine Av ?_ ?_<;>intro hb|refine fd ?_|fail))
 ·rw[show fnD 3=114 from rfl]at hlk
  rw[show Db 3 b (a,o)=(if b=true then(0,o)else(2,o))from rfl]
  rw[show(if b=true then((0:Int),o)else(2,o))=((if b=true then 0 else 2),o) by cases b<;>rfl]
  refine ce Tryz.func74 ?_
  simp only[Tryz.f74]
  (have hb:=trivial;with_reducible repeat' (first|simp only[hb,Vc.down,seval,aZK.down,hpl,hf1,hf2,htk,aJV,i12,hp24,hrm,him,rv,hlk,q3,Gg,hst,hpl2,hfl2,hce2,hrf2,htk24,htk2,htk3,hpv2]|refine Av ?_ ?_<;>intro hb|refine fd ?_|fail))
 ·rw[show fnD 4=115 from rfl]at hlk
  rw[show Db 4 b (a,o)=(0,o)from rfl]
  refine ce Tryz.func74 ?_
  simp only[Tryz.f74]
  (have hb:=trivial;with_reducible repeat' (first|simp only[hb,Vc.down,seval,aZK.down,hpl,hf1,hf2,htk,aJV,i12,hp24,hrm,him,rv,hlk,q4,Gg,hst,hpl2,hfl2,hce2,hrf2,htk24,htk2,htk3,hpv2]|refine Av ?_ ?_<;>intro hb|refine fd ?_|fail))
def aO2(p:Ai)(x:Int × Bool)(k:Int):Bool:=if k=1 then p.valve&& !x.2 else if k=2 then p.valve&&x.2 else if k=3 then !x.2&&x.1==1 else !x.2
theorem a9L(p:Ai)(x:Int × Bool){k:Int}(hk:k=1∨k=2∨k=3∨k=4):Ei.call (.fn 54) [.agg p.cells,.agg [.int .i64 x.1,.bool x.2],.int .i64 k] []=some (.ret (.bool (aO2 p x k)),[]):=by
 obtain⟨a,o⟩:=x
 obtain⟨p1,p2,p3,p4,p5,p6,p7,p8,p9⟩:=p
 simp only[Ai.cells]
 rcases hk with rfl|rfl|rfl|rfl
 ·cases p3<;>cases o<;>(refine ce Tryz.func54 ?_;simp only[Tryz.f54];(have hb:=trivial;with_reducible repeat' (first|simp only[hb,Vc.down,seval,aZU.down]|refine Av ?_ ?_<;>intro hb|refine fd ?_|fail)))
  all_goals rfl
 ·cases p3<;>cases o<;>(refine ce Tryz.func54 ?_;simp only[Tryz.f54];(have hb:=trivial;with_reducible repeat' (first|simp only[hb,Vc.down,seval,aZU.down]|refine Av ?_ ?_<;>intro hb|refine fd ?_|fail)))
  all_goals rfl
 ·cases o<;>cases h:(a==1)<;>(refine ce Tryz.func54 ?_;simp only[Tryz.f54];(have hb:=trivial;with_reducible repeat' (first|simp only[hb,Vc.down,seval,aZU.down,h]|refine Av ?_ ?_<;>intro hb|refine fd ?_|fail)))
  all_goals (simp only[aO2,h];rfl)
 ·cases o<;>(refine ce Tryz.func54 ?_;simp only[Tryz.f54];(have hb:=trivial;with_reducible repeat' (first|simp only[hb,Vc.down,seval,aZU.down]|refine Av ?_ ?_<;>intro hb|refine fd ?_|fail)))
  all_goals rfl
theorem a2K(p:Ai){k:Int}(hk:k=1∨k=2∨k=3∨k=4):Ei.call (.fn 57) [.agg p.cells,.int .i64 k] []=some (.ret (.int .i64 (if k=3 then p.test else if k=4 then p.change else 1)),[]):=by
 simp only[Ai.cells]
 rcases hk with rfl|rfl|rfl|rfl<;>(refine ce Tryz.func57 ?_;simp only[Tryz.f57];(have hb:=trivial;with_reducible repeat' (first|simp only[hb,Vc.down,seval,bcD.down]|refine Av ?_ ?_<;>intro hb|refine fd ?_|fail)))
 all_goals rfl
def Oo(w:Am)(N:Nat)(L:List (Int × Bool)):Int:=if(nmB w N L:Int)<w.need then(nmB w N L:Int)else w.need
def aD7(w:Am)(N:Nat)(L:List (Int × Bool))(k:Int)(i:Nat)(b:Bool)(x:Int × Bool):Bool:=
 (!(k==4)|| !decide ((nmB w N (L.set i (2,x.2)):Int)<Oo w N L))&&decide ((nmB w N (L.set i (Db k b x)):Int)≥Oo w N L)
theorem a52{w:Am}{N:Nat}(hw:WOk w N)(h12:w.parts.length≤12)(d:Int){L:List (Int × Bool)}(hL:L.length=12){i:Nat}{x:Int × Bool}(hx:L[i]?=some x){k:Int}(hk:k=1∨k=2∨k=3∨k=4)(b:Bool)(wf:Bool):
 Ei.call (.fn 55) [.ptr 0 0 0,.agg (Cf L),.agg [.int .i64 k,.int .i64 (i:Int)],.bool b] [.live 4 false wf [[.int .i64 w.rooms,.int .i64 w.need,Bo 9 true w.nn (w.parts.map Ai.cells),.int .i64 d]]]=some (.ret (.bool (aD7 w N L k i b x)),[.live 4 false wf [[.int .i64 w.rooms,.int .i64 w.need,Bo 9 true w.nn (w.parts.map Ai.cells),.int .i64 d]]]):=by
 have hi:i<L.length:=(aH6.1 hx).1
 have hn0:=aCQ hw h12 d hL false
 have hn1:=aCQ hw h12 d (L:=L.set i (2,x.2)) (by simpa using hL) false
 have hn2:=aCQ hw h12 d (L:=L.set i (Db k b x)) (by simpa using hL) false
 have ha:=aKV hL hx hk b
 have hlb:Oo w N L=if(nmB w N L:Int)<w.need then(nmB w N L:Int)else w.need:=rfl
 have hsf:aD7 w N L k i b x=((!(k==4)|| !decide ((nmB w N (L.set i (2,x.2)):Int)<Oo w N L))&&decide ((nmB w N (L.set i (Db k b x)):Int)≥Oo w N L)):=rfl
 rw[hsf]
 have hmn:aD6 (.int .i64 w.need) (.int .i64 (nmB w N L:Nat))=some (.int .i64 (Oo w N L)):=rfl
 generalize Oo w N L=lb at *
 generalize(nmB w N L:Nat)=n0 at *
 generalize(nmB w N (L.set i (2,x.2)):Nat)=n1 at *
 generalize(nmB w N (L.set i (Db k b x)):Nat)=n2 at *
 have f0:=Gh L
 have c0:=Gi L
 have v0:=aAW L
 have l0:=aA9 L
 have r0:=Ou L
 have p0:=am1 L
 have hpl:(Cf L).length=24:=by rw[Bd];omega
 have htk:=aC5 (l:=Cf L) (i:=24) (by omega)
 have f2:=Gh (L.set i (Db k b x))
 have c2:=Gi (L.set i (Db k b x))
 have v2:=aAW (L.set i (Db k b x))
 have l2:=aA9 (L.set i (Db k b x))
 have r2:=Ou (L.set i (Db k b x))
 have p2:=am1 (L.set i (Db k b x))
 have n2':=aDT (L.set i (Db k b x))
 have i2:=aDI (L.set i (Db k b x))
 generalize Cf (L.set i (Db k b x))=ps2 at *
 have i12:((i:Int)<12)=True:=eq_true (by omega)
 have hpz:(i*2≤23)=True:=eq_true (by omega)
 have hs1:=aHJ L i x.1 2 x.2 hx
 have ht1:awX (24-i*2) [AV.int .i64 2]=[AV.int .i64 2]:=aC5 (by simp;omega)
 have f1:=Gh (L.set i (2,x.2))
 have c1:=Gi (L.set i (2,x.2))
 have v1:=aAW (L.set i (2,x.2))
 have l1:=aA9 (L.set i (2,x.2))
 have r1:=Ou (L.set i (2,x.2))
 have hpl1:(Cf (L.set i (2,x.2))).length=24:=by rw[Bd];simp;omega
 have htk1:=aC5 (l:=Cf (L.set i (2,x.2))) (i:=24) (by omega)
 simp only[aKY,aE6]at hs1
 generalize Cf (L.set i (2,x.2))=ps1 at *
 generalize Cf L=ps at *
 refine ce Tryz.func55 ?_
 simp only[Tryz.f55]
 rw[hlb]
 cases q4:(k==4)
 ·cases q2:decide ((n2:Int)≥if(n0:Int)<w.need then(n0:Int)else w.need)
  all_goals (have hb:=trivial;with_reducible repeat' (first|simp only[hb,Vc.down,seval,a6F.down,q4,hn0,hn2,ha,hmn,f0,c0,v0,l0,r0,p0,hpl,htk,f2,c2,v2,l2,r2,p2,n2',i2]|refine Av ?_ ?_<;>intro hb|refine fd ?_|fail))
  all_goals simp only[ge_iff_le]at q2
  all_goals rw[q2]
 ·cases q1:decide ((n1:Int)<if(n0:Int)<w.need then(n0:Int)else w.need)
  ·cases q2:decide ((n2:Int)≥if(n0:Int)<w.need then(n0:Int)else w.need)
   all_goals (have hb:=trivial;with_reducible repeat' (first|simp only[hb,Vc.down,seval,a6F.down,q1,q4,hn0,hn1,hn2,ha,hmn,f0,c0,v0,l0,r0,p0,hpl,htk,f1,c1,v1,l1,r1,hpl1,htk1,f2,c2,v2,l2,r2,p2,n2',i2,Gg,i12,hpz,hs1,ht1]|refine Av ?_ ?_<;>intro hb|refine fd ?_|fail))
   all_goals simp only[ge_iff_le]at q2
   all_goals rw[q2]
  ·(have hb:=trivial;with_reducible repeat' (first|simp only[hb,Vc.down,seval,a6F.down,q1,q4,hn0,hn1,hn2,ha,hmn,f0,c0,v0,l0,r0,p0,hpl,htk,f1,c1,v1,l1,r1,hpl1,htk1,f2,c2,v2,l2,r2,p2,n2',i2,Gg,i12,hpz,hs1,ht1]|refine Av ?_ ?_<;>intro hb|refine fd ?_|fail))
abbrev St:=List (Int × Bool) × Nat
def Bm(s:St):List AV:=Cf s.1++[.int .i64 (s.2:Int)]
def aOX(p:Ai)(k:Int):Int:=if k=3 then p.test else if k=4 then p.change else 1
structure Je where
 k:Int
 i:Nat
 c:Int
 to:List St
def toF(L:List (Int × Bool))(f:Nat)(k:Int)(i:Nat)(x:Int × Bool):List St:=(L.set i (Db k true x),f)::if k=3∧0<f then [(L.set i (Db k false x),f-1)]else []
def aJ3(w:Am)(N:Nat)(s:St)(k:Int)(i:Nat):Option Je:=
 match w.parts[i]?,s.1[i]? with
 |some p,some x=>if(aO2 p x k&&aD7 w N s.1 k i true x)=true then some ⟨k,i,aOX p k,toF s.1 s.2 k i x⟩else none
 |_,_=>none
def aHZ(w:Am)(N:Nat)(s:St)(k:Int):List Je:=(List.range w.parts.length).filterMap (aJ3 w N s k)
def Dj(w:Am)(N:Nat)(s:St):List Je:=aHZ w N s 1++(aHZ w N s 2++(aHZ w N s 3++aHZ w N s 4))
structure Dq where
 part:Int
 opn:Bool
 good:Bool
def Dq.cells(x:Dq):List AV:=[.int .i64 x.part,.bool x.opn,.bool x.good]
def aPF(L:List (Int × Bool))(x:Dq):Bool:=match L[x.part.toNat]? with
 |some q=>q.2==x.opn&&(!x.good||q.1==0)
 |none=>false
def aJX(L:List (Int × Bool))(l:List Dq):Bool:=l.all (aPF L)
def Jv(w:Am)(N:Nat)(l:List Dq):Go.Ev.Sys St:=⟨fun s=>aJX s.1 l,fun s=>(Dj w N s).map fun o=>(o.c.toNat,o.to)⟩
end Go.Proofs.YtcncggaobhbomaaGreatDoor
