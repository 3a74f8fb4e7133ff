/- The functions of the layer, walked. -/
import Derived.Test.YtfkokgjfpojeoaaPartAD
import Derived.Test.YtfkokgjfpojeoaaLibE
open List renaming getElem?_set_ne→aaA,length_map→aaK,getElem?_set_self→aa0,mem_append→aa3,getElem?_append_left→aa9,length_cons→abO,mem_cons→acM,not_mem_nil→acY,append_assoc→adV,getElem?_eq_none→ae2,mem_of_getElem?→ae4,take_add_one→ae7,getElem?_eq_getElem→afR,getElem?_eq_some_iff→af4,map_cons→af5,nil_append→af6,map_append→af7,map_congr_left→af8,length_append→agA,getElem?_append_right→ai2,drop_eq_getElem_cons→ajM,take_of_length_le→aj8,cons_append→alV,mem_append_right→alX,map_nil→alY,length_nil→alZ,length_set→al0,flatMap_cons→al1,all_eq_true→al2,ext_getElem?→am9,take_length→anV,drop_length→an6,mem_flatMap→apR,take_zero→ap6,length_eq_zero_iff→aqB,take_set_of_le→aqF,take_take→aqG,mem_range→aqJ
open Bool renaming and_eq_true→acI,false_eq_true→apM
open Int renaming toNat_natCast→af9,lt_irrefl→agB
open Nat renaming zero_add→aiO
set_option linter.unusedSimpArgs false
set_option linter.unusedVariables false
namespace Go.Proofs.Ytfkokgjfpojeoaa
open Go.Ev Go
set_option maxRecDepth 100000
set_option maxHeartbeats 16000000
def Si(s:Ba)(vs:List Ag):List Int:=[-10000,s.lo,s.hi+1]++vs.flatMap fun v=>[v.level,v.level+1]
theorem Wc(s:Ba):∀vs:List Ag,(Si s vs).length=3+2*vs.length
 | []=>rfl
 |v::vs=>by
  have:=Wc s vs
  simp only[Si,agA,abO,al1]at this ⊢
  simp at this ⊢;omega
theorem jK{m:Ac}(h:Be m=true){s:Ba}(hs:s∈m.sens): -10000≤s.lo∧s.lo≤s.hi∧s.hi≤10000:=by
 unfold Be at h
 simp only[acI,al2]at h
 have:=h.1.1.1.2 s hs
 simp only[dA,Kw,Ie,acI,Bool.not_eq_true',decide_eq_true_eq,decide_eq_false_iff_not]at this
 omega
theorem tM{m:Ac}(h:Be m=true){v:Ag}(hv:v∈m.votes): -10000≤v.level∧v.level≤10000:=by
 unfold Be at h
 simp only[acI,al2]at h
 have:=h.1.1.2 v hv
 simp only[Qo,Kw,Ie,acI,decide_eq_true_eq]at this
 omega
theorem auR{h:Aa}(hq:Am h=true){b:Nat}{w:Bool}{zs:List Int}(hb:h[b]?=some (.live 1 true w (zs.map iv)))(h1:1≤zs.length)(h2:zs.length≤1000):
 ∃es,cl Bh h (some (.func (.func 96) [] [])) (some [.slr 1 b 0 zs.length])=some (.ret (.tup []),es)∧Bo h es=h.set b (.live 1 true true ((Ns zs).map iv)):=by
 have hbl:=Ap hb
 have hbc:=Fh hb
 simp only[CB.clean]at hbc
 have hp:oI [.slr 1 b 0 zs.length] (Df h)=some (.ret (.tup []),(Df h).set b (.live 1 true true ((Ns zs).map iv))):=by
  simp only[oI,hbc]
  rw[if_pos ⟨by simp,h1,by omega⟩]
  have:Wb (zs.map iv)=some zs:=zL zs
  rw[this];rfl
 have K:kZ Bh 96 [.slr 1 b 0 zs.length] (Df h) fun o G=>o=.ret (.tup [])∧G=(Df h).set b (.live 1 true true ((Ns zs).map iv)):=⟨_,_,agH (P:=Try.prog) (pr:=pr) (p:=oI) rfl hp,rfl,rfl⟩
 have kp:Io [b] (Df h) ((Df h).set b (.live 1 true true ((Ns zs).map iv))):=⟨by simp,fun i hi hn=>by rw[aaA (fun e=>hn (by simp[e]))]⟩
 have hX:∀i∈[b],i<h.length∧∀c0 c,h[i]?=some c0→((Df h).set b (.live 1 true true ((Ns zs).map iv)))[i]?=some c→c0.isLive=true∧c0.quiet c=false:=fun i hi=>by
  simp at hi;subst hi
  refine⟨hbl,fun c0 c k1 k2=>?_⟩
  rw[hb]at k1;rw[aa0 (by rw[Bg];exact hbl)]at k2
  cases k1;cases k2;exact⟨rfl,rfl⟩
 obtain⟨g1,g2,g3,g4,g5⟩:=Wp hq kp hX
 obtain⟨o,G,es,e1,e2,rfl,rfl⟩:=aaY rfl rfl K (fun o G hQ=>by obtain⟨_,rfl⟩:=hQ;exact g1)
 refine⟨es,e1,?_⟩
 rw[e2]
 apply am9
 intro i
 by_cases hi:i<h.length
 ·by_cases e:i=b
  ·subst e
   rw[aa0 hbl]
   exact g5 i (List.mem_cons_self ..) _ (aa0 (by rw[Bg];exact hbl))
  ·rw[g4 i hi (by simpa using e),aaA (fun q=>e q.symm)]
 ·rw[ae2 (by rw[g2];simp[Bg];omega),ae2 (by simp;omega)]
theorem azU{h l:Aa}{b q b':Nat}{d e c:CB}(n1:b'≠b)(n2:b'≠q)(g:h[b']?=some c):((h.set b d++l).set q e)[b']?=some c:=by
 rw[aaA (fun e=>n2 e.symm),aa9 (by simpa using Ap g),aaA (fun e=>n1 e.symm)];exact g
def RdI(m:Ac)(k:Int)(H:Aa)(vs:List Ag)(h:Aa):Prop:=Io [] H h∧Am h=true∧(∃x,h[H.length]?=some (.live 7 false x [m.cells]))∧(∃x,h[H.length+1]?=some (.live 1 true x [[.int .i64 k]]))∧(∃x,h[H.length+2]?=some (.live 3 true x [(Jm m k).cells]))∧
     ∃b x y,H.length+2<b∧b≠H.length+4∧h[H.length+4]?=some (.live 1 false x [[.slr 1 b 0 (Si (Jm m k) vs).length]])∧h[b]?=some (.live 1 true y ((Si (Jm m k) vs).map iv))
theorem yQ(m:Ac)(hs:m.small)(hm:Be m=true){k:Int}(h0:0≤k)(hk:k.toNat<m.sens.length){H:Aa}(hq:Am H=true):
 kZ Bh 79 [.agg [Ad 3 true m.nS (m.sens.map Ba.cells),Ad 4 false m.nV (m.votes.map Ag.cells),Ad 5 false m.nM (m.moves.map Ai.cells),.int .i64 m.states,.int .i64 m.cmds,.int .i64 m.bgn,Ad 1 true m.nO (m.opn.map iv)],.int .i64 k] H fun o G=>Io [] H G∧Am G=true∧o=.ret (.func (.func 97) [] [.ptr (H.length+4) 0 0,.ptr H.length 0 0,.ptr (H.length+1) 0 0,.ptr (H.length+2) 0 0])∧
  (∃x,G[H.length]?=some (.live 7 false x [m.cells]))∧(∃x,G[H.length+1]?=some (.live 1 true x [[.int .i64 k]]))∧(∃x,G[H.length+2]?=some (.live 3 true x [(Jm m k).cells]))∧
  ∃b x y,H.length+2<b∧b≠H.length+4∧G[H.length+4]?=some (.live 1 false x [[.slr 1 b 0 (Si (Jm m k) m.votes).length]])∧G[b]?=some (.live 1 true y ((Ns (Si (Jm m k) m.votes)).map iv)):=by
 have hsv:=hs.votes
 have hget:=Up hk
 have hmem:=ae4 hget
 obtain⟨s1,s2,s3⟩:=jK hm hmem
 have hd0:(0≤k)=True:=eq_true h0
 have hwh:IntKind.i64.wrap ((Jm m k).hi+1)=(Jm m k).hi+1:=Du (by omega) (by omega)
 refine We rfl Try.func79 rfl rfl ?_
 simp only[Try.f79]
 (have hb:=trivial;with_reducible repeat' (first|simp only[hb,Vc.down,seval,aqA.down,hget,hd0,hwh,Ba.cells,aaK]|refine An ?_ ?_<;>intro hb|refine fd ?_|fail))
 refine Ci (Lp 39 m.votes (fun i (_:Unit) t h=>t 2=.ptr H.length 0 0∧t 3=.ptr (H.length+1) 0 0∧t 5=.ptr (H.length+2) 0 0∧t 6=.ptr (H.length+4) 0 0∧t 21=Ad 4 false m.nV (m.votes.map Ag.cells)∧t 22=.int .i64 (m.votes.length:Nat)∧t 23=.int .i64 (i:Int)∧RdI m k H (m.votes.take i) h) (fun _ _=>()) (fun _ e t h=>e=.exit 0∧t 2=.ptr H.length 0 0∧t 3=.ptr (H.length+1) 0 0∧t 5=.ptr (H.length+2) 0 0∧t 6=.ptr (H.length+4) 0 0∧RdI m k H m.votes h) ?_ ?_ () _ _ ?_) (fun e t h hk=>?_)
 ·rintro _ t h Q' kQ ⟨g2,g3,g5,g6,g21,g22,g23,hI⟩
  (have hb:=trivial;with_reducible repeat' (first|simp only[hb,Vc.down,seval,aqA.down,g22,g23,agB,decide_false]|refine An ?_ ?_<;>intro hb|refine fd ?_|fail))
  rw[anV]at hI
  exact kQ _ _ _ ⟨rfl,by simp[up,g2],by simp[up,g3],by simp[up,g5],by simp[up,g6],hI⟩
 ·rintro v rest i _ t h J Q' kJ kQ hx hi ⟨g2,g3,g5,g6,g21,g22,g23,hI⟩
  have hdd:decide ((i:Int)<(m.votes.length:Int))=true:=decide_eq_true (by omega)
  have hww:=Aq hi hsv
  obtain⟨l1,l2⟩:=tM hm (ae4 hx)
  have hwl:IntKind.i64.wrap (v.level+1)=v.level+1:=Du (by omega) (by omega)
  obtain⟨K,hqh,⟨x0,a0⟩,⟨x1,a1⟩,⟨x2,a2⟩,b,x,y,hb,hb4,a4,a5⟩:=hI
  have hLl:(Si (Jm m k) (m.votes.take i)).length≤3+2*1000:=by
   rw[Wc];have:=List.length_take_le i m.votes;have:=Nq hm;omega
  have hnx:Si (Jm m k) (m.votes.take (i+1))=Si (Jm m k) (m.votes.take i)++[v.level,v.level+1]:=by
   rw[ae7,hx];simp[Si]
  obtain⟨L,hL⟩:∃L,Si (Jm m k) (m.votes.take i)=L:=⟨_,rfl⟩
  rw[hL]at a4 a5 hLl hnx
  have a4A:=Ab a4
  have a5A:=Ab a5
  have h39:(L.length+2≤549755813888)=True:=eq_true (by omega)
  have hS:=Gj (Ap a5)
  have a4S:=fun c l=>Ja (b:=b) c hb4 a4 l
  (have hb:=trivial;with_reducible repeat' (first|simp only[hb,Vc.down,seval,aqA.down,g2,g3,g5,g6,g21,g22,g23,hdd,hww,hx,hwl,a4A,a5A,hS,a4S,h39,Ag.cells,aaK,aiO]|refine An ?_ ?_<;>intro hb|refine fd ?_|fail))
  have hb0:h.length≠H.length+4:=by have:=Ap a4;omega
  have G2:=fun(b':Nat) (c:CB) (n1:b'≠b) (n2:b'≠H.length+4) (g:h[b']?=some c)=>azU (d:=CB.dead) (e:=.live 1 false true [[.slr 1 (h.length+2) 0 (L.length+2)]]) (l:=[.live 4 false true [[Ad 1 true v.nn (v.sens.map iv),.int .i64 v.need,.int .i64 v.level,.bool v.above]],.live 1 true false [[.int .i64 v.level],[.int .i64 (v.level+1)]],.live 1 true false (L.map iv++[[.int .i64 v.level],[.int .i64 (v.level+1)]])]) n1 n2 g
  have hl4:=Ap a4
  refine Av (kJ _ _ () ⟨by simp[up,g2],by simp[up,g3],by simp[up,g5],by simp[up,g6],by simp[up,g21],by simp[up,g22],by simp[up],⟨⟨by have:=K.len;simp;omega,fun b' hb' _=>?_⟩,?_,⟨x0,G2 _ _ (by omega) (by omega) a0⟩,⟨x1,G2 _ _ (by omega) (by omega) a1⟩,⟨x2,G2 _ _ (by omega) (by omega) a2⟩,h.length+2,true,false,by omega,by omega,?_,?_⟩⟩ rfl)
  ·rw[←K.same b' hb' (by simp)]
   obtain⟨c,hc⟩:∃c,h[b']?=some c:=⟨_,afR (by have:=K.len;omega)⟩
   rw[hc];exact G2 _ _ (by omega) (by omega) hc
  ·exact Bj (Ax (Bj hqh _ rfl) rfl) _ rfl
  ·rw[aa0 (by simp;omega),hnx,agA];rfl
  ·rw[aaA (by omega),Ei,hnx];simp[iv]
 ·have p0:∀(n:Nat) (l:Aa),(H++l)[H.length+n]?=l[n]?:=fun n l=>by rw[ai2 (by omega),Nat.add_sub_cancel_left]
  refine⟨by simp[up,Cj],by simp[up,Cj],by simp[up,Cj],by simp[up,Cj],by simp[up,Cj],by simp[up,Cj],by simp[up,Cj],Io.app _ _,Ax hq rfl,⟨false,?_⟩,⟨false,?_⟩,⟨true,?_⟩,H.length+3,true,false,by omega,by omega,?_,?_⟩
  ·exact p0 0 _
  ·exact p0 1 _
  ·exact p0 2 _
  ·exact p0 4 _
  ·exact p0 3 _
 obtain⟨rfl,g2,g3,g5,g6,K,hqh,⟨x0,a0⟩,⟨x1,a1⟩,⟨x2,a2⟩,b,x,y,hbb,hb4,a4,a5⟩:=hk
 have hl1:1≤(Si (Jm m k) m.votes).length:=by rw[Wc];omega
 have hl2:(Si (Jm m k) m.votes).length≤1000:=by rw[Wc];have:=Nq hm;omega
 generalize Si (Jm m k) m.votes=L at *
 obtain⟨es,e1,e2⟩:=auR hqh a5 hl1 hl2
 have e1':yK h (Bh.call (.sh 96) [.slr 1 b 0 L.length] (Df h))=some (.ret (.tup []),es):=e1
 (have hb:=trivial;with_reducible repeat' (first|simp only[hb,Vc.down,seval,aqA.down,g2,g3,g5,g6,a4,e1',e2]|refine An ?_ ?_<;>intro hb|refine fd ?_|fail))
 have ne:∀(b':Nat) (c:CB),b'≠b→h[b']?=some c→(h.set b (.live 1 true true ((Ns L).map iv)))[b']?=some c:=fun b' c n g=>by rw[aaA (fun e=>n e.symm)];exact g
 refine⟨⟨by have:=K.len;simp;omega,fun b' hb' _=>?_⟩,Bj hqh _ rfl,⟨x0,ne _ _ (by omega) a0⟩,⟨x1,ne _ _ (by omega) a1⟩,⟨x2,ne _ _ (by omega) a2⟩,b,x,true,hbb,hb4,ne _ _ (by omega) a4,aa0 (Ap a5)⟩
 rw[aaA (by omega)];exact K.same b' hb' (by simp)
end Go.Proofs.Ytfkokgjfpojeoaa
namespace Go.Proofs.Ytfkokgjfpojeoaa
open Go.Ev Go Go.Ev.Bfs
set_option maxRecDepth 100000
set_option maxHeartbeats 16000000
def kI(n:Int):AV:=.int .i64 n
def Vu{α:Type}(_:α):AV:=.bool true
theorem adH:fR Try.prog 3 kI (fun _=>True):=⟨fun a _=>by
 unfold qU fO kI
 simp only[Try.underlying3]
 rfl,fun a b _ _=>by
 unfold Vs kI
 simp only[Try.underlying3,if_true,Option.some.injEq]
 by_cases e:a=b<;>simp[e],fun a _=>by
 simp[kI,AV.sameKey,AV.same]⟩
theorem au5{m:Ac}(hs:m.small)(hm:Be m=true){k:Int}{s:Ba}{L:List Int}{y:AV}{lb mb kb sb b M0:Nat}(hL9:L.length≤1000)(Qp:Nat→List Int→Aa→Prop)
 (hl:∀i w h,Qp i w h→∃x,h[lb]?=some (.live 1 false x [[.slr 1 b 0 L.length]])) (hlb:∀i w h,Qp i w h→∃x,h[b]?=some (.live 1 true x (L.map iv))) (hmb:∀i w h,Qp i w h→∃x,h[mb]?=some (.live 7 false x [m.cells]))
 (hkb:∀i w h,Qp i w h→∃x,h[kb]?=some (.live 1 true x [[.int .i64 k]])) (hsb:∀i w h,Qp i w h→∃x,h[sb]?=some (.live 3 true x [s.cells])) (hM:∀i w h,Qp i w h→h[M0]?=some (Dc (Np kI Vu w)))
 (hA:∀i w h (r:List (List AV)),Qp i w h→Qp i w (h++[.live 4 false true r]))
 (hS:∀i w n h,L[i]?=some n→Kw n=true→Ln k s n m.votes∉w→Qp i w h→∃es,cl Bh (h.set M0 (Dc (Np kI Vu (w++[Ln k s n m.votes])))) (some y) (some [.int .i64 n])=some (.ret (.bool true),es)∧Qp (i+1) (w++[Ln k s n m.votes]) (Bo (h.set M0 (Dc (Np kI Vu (w++[Ln k s n m.votes])))) es))
 (hN:∀i w n h,L[i]?=some n→¬(Kw n=true∧Ln k s n m.votes∉w)→Qp i w h→Qp (i+1) w h)
 {h0:Aa} (hM0:M0=h0.length) (h0I:Qp 0 [] (h0++[Dc []])):kZ Bh 97 [y,.ptr lb 0 0,.ptr mb 0 0,.ptr kb 0 0,.ptr sb 0 0] h0 fun o h'=>o=.ret (.tup [])∧∃w,Qp L.length w h':=by
 have hsv:=hs.votes
 obtain⟨x1,hl1⟩:=hl _ _ _ h0I
 obtain⟨x2,hl2⟩:=hlb _ _ _ h0I
 unfold Dc at hl1 hl2
 refine We rfl Try.func97 rfl rfl ?_
 simp only[Try.f97]
 (have hb:=trivial;with_reducible repeat' (first|simp only[hb,Vc.down,seval,lF.down,Jh.down,hl1,hl2,aaK]|refine An ?_ ?_<;>intro hb|refine fd ?_|fail))
 refine Ci (Lp 57 L (fun i (w:List Int) t h=>t 0=y∧t 2=.ptr mb 0 0∧t 3=.ptr kb 0 0∧t 4=.ptr sb 0 0∧t 6=.mapr M0∧t 13=.slr 1 b 0 L.length∧t 14=.int .i64 (L.length:Nat)∧t 15=.int .i64 (i:Int)∧Qp i w h) (fun _ _=>()) (fun _ e t h=>e=.exit 0∧∃w,Qp L.length w h) ?_ ?_ [] _ _ ?_) (fun e t h hk=>?_)
 ·rintro w t h Q' kQ ⟨g0,g2,g3,g4,g6,g13,g14,g15,hI⟩
  (have hb:=trivial;with_reducible repeat' (first|simp only[hb,Vc.down,seval,lF.down,g14,g15,agB,decide_false]|refine An ?_ ?_<;>intro hb|refine fd ?_|fail))
  exact kQ _ _ _ ⟨rfl,w,hI⟩
 ·rintro n rest i w t h J Q' kJ kQ hx hi ⟨g0,g2,g3,g4,g6,g13,g14,g15,hI⟩
  have hdd:decide ((i:Int)<(L.length:Int))=true:=decide_eq_true (by omega)
  have hdp:((i:Int)<(L.length:Int))=True:=eq_true (by omega)
  have hww:=Aq hi (by unfold maxLen;omega)
  obtain⟨x3,hb3⟩:=hlb _ _ _ hI
  obtain⟨x4,hm4⟩:=hmb _ _ _ hI
  (have hb:=trivial;with_reducible repeat' (first|simp only[hb,Vc.down,seval,lF.down,g0,g2,g3,g4,g6,g13,g14,g15,hdd,hdp,hx,hb3,hm4,iv,aaK]|refine An ?_ ?_<;>intro hb|refine fd ?_|fail))
  refine Ci (Lp 57 m.votes (fun j (c:Int) t h=>t 0=y∧t 2=.ptr mb 0 0∧t 3=.ptr kb 0 0∧t 4=.ptr sb 0 0∧t 6=.mapr M0∧t 13=.slr 1 b 0 L.length∧t 14=.int .i64 (L.length:Nat)∧t 15=.int .i64 (i:Int)∧t 8=.int .i64 n∧t 9=.int .i64 c∧t 20=Ad 4 false m.nV (m.votes.map Ag.cells)∧t 21=.int .i64 (m.votes.length:Nat)∧t 22=.int .i64 (j:Int)∧Qp i w h∧Oi (bH k s n (m.votes.drop j)) j c=Ln k s n m.votes) (fun _ _=>())
   (fun _ e t h=>e=.exit 2∧t 0=y∧t 2=.ptr mb 0 0∧t 3=.ptr kb 0 0∧t 4=.ptr sb 0 0∧t 6=.mapr M0∧t 13=.slr 1 b 0 L.length∧t 14=.int .i64 (L.length:Nat)∧t 15=.int .i64 (i:Int)∧t 8=.int .i64 n∧t 9=.int .i64 (Ln k s n m.votes)∧Qp i w h) ?_ ?_ 0 _ _ ?_) (fun e t h hk'=>?_)
  ·rintro c t h Q'' kQ ⟨g0,g2,g3,g4,g6,g13,g14,g15,g8,g9,g20,g21,g22,hI,hc⟩
   (have hb:=trivial;with_reducible repeat' (first|simp only[hb,Vc.down,seval,lF.down,g21,g22,agB,decide_false]|refine An ?_ ?_<;>intro hb|refine fd ?_|fail))
   rw[an6]at hc
   exact kQ _ _ _ ⟨rfl,by simp[up,g0],by simp[up,g2],by simp[up,g3],by simp[up,g4],by simp[up,g6],by simp[up,g13],by simp[up,g14],by simp[up,g15],by simp[up,g8],by simp only[up];rw[if_neg (by decide),g9,←hc];rfl,hI⟩
  ·rintro v rest2 j c t h J' Q'' kJ' kQ' hv hj ⟨g0,g2,g3,g4,g6,g13,g14,g15,g8,g9,g20,g21,g22,hI,hc⟩
   have hd2:decide ((j:Int)<(m.votes.length:Int))=true:=decide_eq_true (by omega)
   have hw2:=Aq hj hsv
   have hvs:=hs.vs v (ae4 hv)
   have hA1:=hA i w h [v.cells] hI
   obtain⟨x5,hk5⟩:=hkb _ _ _ hA1
   obtain⟨x6,hs6⟩:=hsb _ _ _ hA1
   have hC:=lO (l:=v.sens) (nn:=v.nn) k hvs
   have hS1:=qC s v n
   have hdj:m.votes.drop j=v::m.votes.drop (j+1):=by
    obtain⟨h1,h2⟩:=af4.1 hv
    rw[ajM h1,h2]
   rw[hdj]at hc
   simp only[bH,af5,Oi]at hc
   simp only[Ag.cells]at hk5 hs6 hA1
   simp only[Ba.cells]at hs6
   cases c1:(v.sens.any fun x=>k==x)with
   |false=>
    rw[c1]at hC hc
    simp only[Bool.false_and,apM,if_false]at hc
    (have hb:=trivial;with_reducible repeat' (first|simp only[hb,Vc.down,seval,lF.down,g0,g2,g3,g4,g6,g13,g14,g15,g8,g9,g20,g21,g22,hd2,hw2,hv,hk5,hs6,hC,hS1,pH,Ag.cells,aaK]|refine An ?_ ?_<;>intro hb|refine fd ?_|fail))
    exact Av (kJ' _ _ c ⟨by simp[up,g0],by simp[up,g2],by simp[up,g3],by simp[up,g4],by simp[up,g6],by simp[up,g13],by simp[up,g14],by simp[up,g15],by simp[up,g8],by simp[up,g9],by simp[up,g20],by simp[up,g21],by simp[up],hA1,hc⟩ rfl)
   |true=>
    rw[c1]at hC hc
    simp only[Bool.true_and]at hc
    cases c2:Lm s v n with
    |false=>
     rw[c2]at hS1 hc
     simp only[apM,if_false]at hc
     (have hb:=trivial;with_reducible repeat' (first|simp only[hb,Vc.down,seval,lF.down,g0,g2,g3,g4,g6,g13,g14,g15,g8,g9,g20,g21,g22,hd2,hw2,hv,hk5,hs6,hC,hS1,pH,Ag.cells,aaK]|refine An ?_ ?_<;>intro hb|refine fd ?_|fail))
     exact Av (kJ' _ _ c ⟨by simp[up,g0],by simp[up,g2],by simp[up,g3],by simp[up,g4],by simp[up,g6],by simp[up,g13],by simp[up,g14],by simp[up,g15],by simp[up,g8],by simp[up,g9],by simp[up,g20],by simp[up,g21],by simp[up],hA1,hc⟩ rfl)
    |true=>
     rw[c2]at hS1 hc
     simp only[if_true]at hc
     (have hb:=trivial;with_reducible repeat' (first|simp only[hb,Vc.down,seval,lF.down,g0,g2,g3,g4,g6,g13,g14,g15,g8,g9,g20,g21,g22,hd2,hw2,hv,hk5,hs6,hC,hS1,pH,Ag.cells,aaK]|refine An ?_ ?_<;>intro hb|refine fd ?_|fail))
     exact Av (kJ' _ _ (orN c (uF j)) ⟨by simp[up,g0],by simp[up,g2],by simp[up,g3],by simp[up,g4],by simp[up,g6],by simp[up,g13],by simp[up,g14],by simp[up,g15],by simp[up,g8],by simp[up,g9],by simp[up,g20],by simp[up,g21],by simp[up],hA1,hc⟩ rfl)
  ·exact⟨by simp[up,g0],by simp[up,g2],by simp[up,g3],by simp[up,g4],by simp[up,g6],by simp[up,g13],by simp[up,g14],by simp[up,g15],by simp[up],by simp[up],by simp[up],by simp[up],by simp[up],hI,by rw[List.drop_zero];rfl⟩
  obtain⟨rfl,g0,g2,g3,g4,g6,g13,g14,g15,g8,g9,hI⟩:=hk'
  have hmp:=hM _ _ _ hI
  have hV:=Vj n
  by_cases hkp:Kw n=true∧Ln k s n m.votes∉w
  ·obtain⟨k1,k2⟩:=hkp
   rw[k1]at hV
   have hlk:=adH.lk_no (ty:=129) (z:=.bool false) Try.underlying129 (by kernel_rfl) hmp (fun _ _=>trivial) trivial k2 false
   have hms:=adH.ms_new (ty:=129) Try.underlying129 hmp (fun _ _=>trivial) trivial k2 (.bool true)
   obtain⟨es,e1,e2⟩:=hS i w n h hx k1 k2 hI
   have hyy:(Np kI (fun y_1=>if y_1=Ln k s n m.votes then AV.bool true else Vu y_1) (w++[Ln k s n m.votes]))=Np kI Vu (w++[Ln k s n m.votes]):=by
    congr 1;funext q;split<;>rfl
   rw[hyy]at hms
   unfold kI at hlk hms e1 e2
   simp only[cond_false]at hlk
   (have hb:=trivial;with_reducible repeat' (first|simp only[hb,Vc.down,seval,lF.down,Jh.down,g0,g2,g3,g4,g6,g13,g14,g15,g8,g9,hww,hV,hlk,hms,e1]|refine An ?_ ?_<;>intro hb|refine fd ?_|fail))
   exact Av (kJ _ _ (w++[Ln k s n m.votes]) ⟨by simp[up,g0],by simp[up,g2],by simp[up,g3],by simp[up,g4],by simp[up,g6],by simp[up,g13],by simp[up,g14],by simp[up],e2⟩ rfl)
  ·have e2:=hN i w n h hx hkp hI
   cases cV:Kw n with
   |false=>
    rw[cV]at hV
    (have hb:=trivial;with_reducible repeat' (first|simp only[hb,Vc.down,seval,lF.down,Jh.down,g0,g2,g3,g4,g6,g13,g14,g15,g8,g9,hww,hV]|refine An ?_ ?_<;>intro hb|refine fd ?_|fail))
    exact Av (kJ _ _ w ⟨by simp[up,g0],by simp[up,g2],by simp[up,g3],by simp[up,g4],by simp[up,g6],by simp[up,g13],by simp[up,g14],by simp[up],e2⟩ rfl)
   |true=>
    rw[cV]at hV
    have k2:Ln k s n m.votes∈w:=Classical.not_not.1 fun h2=>hkp ⟨cV,h2⟩
    have hlk:=adH.lk_yes (ty:=129) (z:=.bool false) Try.underlying129 (by kernel_rfl) hmp (fun _ _=>trivial) k2 false
    unfold kI at hlk
    simp only[cond_false,Vu]at hlk
    (have hb:=trivial;with_reducible repeat' (first|simp only[hb,Vc.down,seval,lF.down,Jh.down,g0,g2,g3,g4,g6,g13,g14,g15,g8,g9,hww,hV,hlk]|refine An ?_ ?_<;>intro hb|refine fd ?_|fail))
    exact Av (kJ _ _ w ⟨by simp[up,g0],by simp[up,g2],by simp[up,g3],by simp[up,g4],by simp[up,g6],by simp[up,g13],by simp[up,g14],by simp[up],e2⟩ rfl)
 ·exact⟨by simp[up,Cj],by simp[up,Cj],by simp[up,Cj],by simp[up,Cj],by simp[up,Cj,hM0],by simp[up,Cj],by simp[up,Cj],by simp[up,Cj],h0I⟩
 obtain⟨rfl,hI⟩:=hk
 (have hb:=trivial;with_reducible repeat' (first|simp only[hb,Vc.down,seval,lF.down]|refine An ?_ ?_<;>intro hb|refine fd ?_|fail))
 exact hI
theorem anZ{n:Nat}{h:Aa}{nfl:Bool}{a b r len:Nat}{rows:List (List AV)}(hr:rows≠[]):sU n h (some (.slr a b r len)) (some (nfl,rows))=apS n h.length b r len nfl rows (h[b]?):=by
 obtain⟨x,l,rfl⟩:=List.exists_cons_of_ne_nil hr
 rfl
theorem aiE(l:List Int)(hl:l.length≤1000):
 Bh.call (.fn 65) [Ad 1 true true (l.map iv)] []=some (.ret (.slr 1 0 0 l.length),[.live 1 true false (l.map iv)]):=by
 by_cases hne:l=[]
 ·subst hne
  rw[show Ad 1 true true (([]:List Int).map iv)=.imm 1 true []from rfl]
  (refine ce Try.func65 ?_;simp only[Try.f65];(have hb:=trivial;with_reducible repeat' (first|simp only[hb,Vc.down,seval,aj9.down]|refine An ?_ ?_<;>intro hb|refine fd ?_|fail)))
 ·have h2:l.map iv≠[]:=by simpa using hne
  have h3:((l.map iv).length≤549755813888)=True:=eq_true (by simp;omega)
  have hs:Ad 1 true true (l.map iv)=.imm 1 true (l.map iv):=arU h2
  rw[hs]
  have h4:=fun(h:Aa) a b r len=>anZ (n:=1) (h:=h) (nfl:=true) (a:=a) (b:=b) (r:=r) (len:=len) h2
  simp only[aaK]at h3
  (refine ce Try.func65 ?_;simp only[Try.f65];(have hb:=trivial;with_reducible repeat' (first|simp only[hb,Vc.down,seval,aj9.down,h3,h4,aaK]|refine An ?_ ?_<;>intro hb|refine fd ?_|fail)))
theorem bV{m:Ac}(h:Be m=true):m.sens.length≤6:=by simp[Be,Lj]at h;omega
theorem Ye{m:Ac}(h:Be m=true):0≤m.cmds∧m.cmds≤4:=by simp[Be,Lj,Ie]at h;omega
def Ha(m:Ac):List Int:=(List.range (m.cmds+1).toNat).map fun(i:Nat)=>(i:Int)-1
theorem nU{m:Ac}(hm:Be m=true):((Ha m).length:Int)=m.cmds+1:=by have:=Ye hm;simp[Ha];omega
theorem afW{m:Ac}{i:Nat}{c:Int}(h:(Ha m)[i]?=some c):c=(i:Int)-1:=by
 unfold Ha at h
 rw[List.getElem?_map]at h
 obtain⟨j,h1,rfl⟩:=Option.map_eq_some_iff.1 h
 obtain⟨h2,h3⟩:=af4.1 h1
 simp at h3;omega
def Dx(m:Ac)(r:List Int):Int:=Ir m r m.votes 0 0
def tsc(x:List Int × Int):Bw:=⟨true,x.1,x.2⟩
def zZ(m:Ac)(x:List Int × Int):List AV:=[.int .i64 (Dx m x.1),.int .i64 x.2]
def scA(p:Nat):List AV:=[.ptr (p+6) 0 0,.ptr p 0 0,.ptr (p+4) 0 0,.ptr (p+1) 0 0,.ptr (p+2) 0 0,.ptr (p+7) 0 0]
def Jg:AV→List Nat
 | .slr _ b _ _=>[b]
 |_=>[]
structure dY(m:Ac)(p:Nat)(W:List Int)(X:List (List Int × Int))(now:List Int)(lv sv:AV)(rows:List (List AV))(Ro:List Nat)(H:Aa):Prop where
 h0:∃x,H[p]?=some (.live 7 false x [m.cells])
 h1:∃x,H[p+1]?=some (.live 1 false x [[lv]])
 h2:∃x,H[p+2]?=some (.live 1 false x [[sv]])
 h3:H[p+3]?=some (Dc (Np kI Vu W))
 h4:∃x,H[p+4]?=some (.live 1 false x [[.mapr (p+3)]])
 h5:∃x,H[p+5]?=some (.live 1 true x (now.map iv))
 h6:∃x,H[p+6]?=some (.live 1 false x [[.slr 1 (p+5) 0 now.length]])
 h7:∃x,H[p+7]?=some (.live 1 false x [[.func (.func 78) [] (scA p)]])
 L:mC 2 (p+8) lv H rows (X.map fun x=>(tsc x).cells) Ro
 S:(X=[]∧sv=.nils)∨∃b x,sv=.slr 2 b 0 X.length∧H[b]?=some (.live 2 true x (X.map (zZ m)))∧p+8≤b∧b∉Ro∧b∉Jg lv∧X≠[]
 len:rows.length=X.length
theorem dY.cl{m:Ac}{p:Nat}{W:List Int}{X:List (List Int × Int)}{now:List Int}{lv sv:AV}{rows:List (List AV)}{Ro:List Nat}{H G:Aa}(h:dY m p W X now lv sv rows Ro H)(e:Df H=Df G):dY m p W X now lv sv rows Ro G:=
 ⟨Fq e h.h0,Fq e h.h1,Fq e h.h2,zX e h.h3,Fq e h.h4,Fq e h.h5,Fq e h.h6,Fq e h.h7,h.L.cl e,by
   rcases h.S with h|⟨b,x,h1,h2,h3⟩
   ·exact .inl h
   ·obtain⟨x',h4⟩:=Fq e ⟨x,h2⟩
    exact .inr ⟨b,x',h1,h4,h3⟩,h.len⟩
def Zp(p:Nat)(lv sv:AV):List Nat:=[p+1,p+2,p+3,p+5]++Jg lv++Jg sv
theorem dY.keep{m:Ac}{p:Nat}{W W':List Int}{X:List (List Int × Int)}{now:List Int}{lv sv:AV}{rows:List (List AV)}{Ro:List Nat}{H G:Aa}(h:dY m p W X now lv sv rows Ro H)(hl:H.length≤G.length)(k:∀b,b<H.length→b≠p+3→Dm H G b)(h3:G[p+3]?=some (Dc (Np kI Vu W'))):dY m p W' X now lv sv rows Ro G:=by
 obtain⟨h0,h1,h2,_,h4,h5,h6,h7,hL,hS,hl'⟩:=h
 have l:=fun {b st:Nat} {fl:Bool} {r:List (List AV)} (g:∃x,H[b]?=some (.live st fl x r)) (hn:b≠p+3)=>(k b (by obtain⟨x,g⟩:=g;exact Ap g) hn).live g
 refine⟨l h0 (by omega),l h1 (by omega),l h2 (by omega),h3,l h4 (by omega),l h5 (by omega),l h6 (by omega),l h7 (by omega),hL.sm hl fun b b1 b2=>k b b2 (by omega),?_,hl'⟩
 rcases hS with h|⟨b,x,g1,g2,g3,g4⟩
 ·exact .inl h
 ·obtain⟨x',g5⟩:=l ⟨x,g2⟩ (by omega)
  exact .inr ⟨b,x',g1,g5,g3,g4⟩
theorem amV{m:Ac}(hs:m.small)(hm:Be m=true){p:Nat}{W:List Int}{X:List (List Int × Int)}{now:List Int}{lv sv:AV}{rows:List (List AV)}{Ro:List Nat}{H:Aa}(hq:Am H=true)(hF:dY m p W X now lv sv rows Ro H)(hnl:now.length=m.sens.length)(hin:Dx m now∈W):
 kZ Bh 78 ([.int .i64 (now.length:Int)]++scA p) H fun o G=>o=.ret (.tup [])∧Df G=Df (H++[.live 1 true false [[.int .i64 (now.length:Int)]]])∧Hv H G:=by
 obtain⟨⟨x0,h0⟩,⟨x1,h1⟩,⟨x2,h2⟩,h3,⟨x4,h4⟩,⟨x5,h5⟩,⟨x6,h6⟩,⟨x7,h7⟩,hL,hS,hl⟩:=id hF
 have hv:=Xx m (l:=now) (nn:=true) hnl hs (Wa hm)
 rw[Sz]at hv
 have htk:List.take now.length (now.map iv)=now.map iv:=aj8 (by simp)
 have hlk:=fun l=>adH.lk_yes (ty:=129) (z:=.bool false) Try.underlying129 (by kernel_rfl) (Ab h3 l) (fun _ _=>trivial) hin false
 unfold kI at hlk
 simp only[cond_false,Vu,Dx]at hlk
 refine We rfl Try.func78 rfl rfl ?_
 simp only[Try.f78,scA,alV,af6]
 (have hb:=trivial;with_reducible repeat' (first|simp only[hb,Vc.down,seval,mF.down,Jh.down,Ab h0,Ab h4,Ab h5,Ab h6,hv,htk,hlk,aaK,beq_self_eq_true]|refine An ?_ ?_<;>intro hb|refine fd ?_|fail))
 exact(Hv.refl _).app _
structure ScL(m:Ac)(p:Nat)(W:List Int)(X:List (List Int × Int))(now:List Int)(lv sv:AV)(H h:Aa):Prop where
 F:∃lv' sv' rows' Ro',dY m p W X now lv' sv' rows' Ro' h∧∀b∈Jg lv'++Jg sv',b∈Jg lv++Jg sv∨H.length≤b
 w:Hv H h
 q:Am h=true
 k:∀b,b<H.length→b∉Zp p lv sv→Dm H h b
theorem Xd:∀(l:List AV),(∀x∈l,AV.sameKey x x=true)→AV.sameL l l=true
 | [],_=>rfl
 |a::l,h=>by
  simp only[AV.sameL,acI]
  exact⟨h a (by simp),Xd l fun x hx=>h x (by simp[hx])⟩
theorem alR(W:List Int):(Dc (Np kI Vu W)).quiet (Dc (Np kI Vu W)).clean=true:=Xd _ fun x hx=>by
 unfold Np at hx
 obtain⟨n,_,hx⟩:=apR.1 hx
 simp only[acM,acY,or_false]at hx
 rcases hx with rfl|rfl<;>simp[kI,Vu,AV.sameKey,AV.same]
theorem ScL.step{m:Ac}{p:Nat}{W:List Int}{Y:List (List Int × Int)}{now:List Int}{lv sv lv' sv':AV}{rows':List (List AV)}{Ro':List Nat}{H h G:Aa}(F:dY m p W Y now lv' sv' rows' Ro' h)(hnb:∀b∈Jg lv'++Jg sv',b∈Jg lv++Jg sv∨H.length≤b)(hk:∀b,b<H.length→b∉Zp p lv sv→Dm H h b)(hHh:H.length≤h.length)
 {c:Int} {b0 m1 m2 n:Nat} (hn:n=Y.length+1) (d1:h.length≤b0) (d2:h.length≤m1) (d3:h.length≤m2) (d4:b0≠m1) (d5:b0≠m2) (d6:m1≠m2) (hl:h.length≤G.length)
 (e1:∃x,G[p+1]?=some (.live 1 false x [[.slr 2 m1 0 n]])) (e2:∃x,G[p+2]?=some (.live 1 false x [[.slr 2 m2 0 n]])) (e3:∃x,G[m1]?=some (.live 2 false x (rows'++[[.slr 1 b0 0 now.length,.int .i64 c]]))) (e4:∃x,G[m2]?=some (.live 2 true x (Y.map (zZ m)++[zZ m (now,c)]))) (e5:∃x,G[b0]?=some (.live 1 true x (now.map iv)))
 (e6:∀b,b<h.length→b≠p+1→b≠p+2→b∉Jg lv'→b∉Jg sv'→Dm h G b) (hw:Hv H G) (hq:Am G=true):ScL m p W (Y++[(now,c)]) now lv sv H G:=by
 obtain⟨h0,h1,h2,h3,h4,h5,h6,h7,hL,hS,hl'⟩:=F
 have lvb:∀b∈Jg lv',p+8≤b∧b∉Ro':=fun b hb=>by
  cases lv'<;>simp[Jg]at hb
  subst hb
  obtain⟨a1,a2,_⟩:=hL.dov _ _ _ _ rfl
  exact⟨a1,a2⟩
 have svb:∀b∈Jg sv',p+8≤b∧b∉Ro':=fun b hb=>by
  rcases hS with⟨_,rfl⟩|⟨b',x,rfl,g2,g3,g4,g5⟩
  ·simp[Jg]at hb
  ·simp[Jg]at hb;subst hb;exact⟨g3,g4⟩
 have hph:p+7<h.length:=by obtain⟨x,h7⟩:=h7;exact Ap h7
 have sm:∀b,b<p+8→b≠p+1→b≠p+2→Dm h G b:=fun b hb n1 n2=>e6 b (by omega) n1 n2 (fun hb2=>by have:=(lvb b hb2).1;omega) (fun hb2=>by have:=(svb b hb2).1;omega)
 have lR:=cR (by omega) hL.q
 obtain⟨x5,e5⟩:=e5
 obtain⟨x3,e3⟩:=e3
 obtain⟨x4,e4⟩:=e4
 have hr:Kt (rd 5 (hf G)) [.slr 1 b0 0 now.length,.int .i64 c]=some ((tsc (now,c)).cells,[b0]):=by
  have:=Cb (f:=rd 5 (hf G)) (Oq (g:=hf G) (d:=4) (st:=1) (b:=b0) (n:=now.length) (rows:=now.map iv) (by show(G[b0]?).bind Bc=_;rw[e5];rfl) (by simp)) (Cb (Jz (g:=hf G) (d:=4) .i64 c) Za)
  simpa [Bw.cells,tsc,Sz]using this
 refine⟨⟨.slr 2 m1 0 n,.slr 2 m2 0 n,rows'++[[.slr 1 b0 0 now.length,.int .i64 c]],Ro'++[b0],⟨(sm p (by omega) (by omega) (by omega)).live h0,e1,e2,(sm _ (by omega) (by omega) (by omega)).map h3,(sm _ (by omega) (by omega) (by omega)).live h4,(sm _ (by omega) (by omega) (by omega)).live h5,(sm _ (by omega) (by omega) (by omega)).live h6,(sm _ (by omega) (by omega) (by omega)).live h7,?_,.inr ⟨m2,x4,by simp[hn],by rw[af7];exact e4,by omega,?_,by simp[Jg];omega,by simp⟩,?_⟩,fun b hb=>?_⟩,hw,hq,fun b hb hn'=>?_⟩
 ·rw[af7]
  refine hL.step e3 (fun j hj z hz=>(e6 j (lR j hj) (by have:=hL.dx j hj;omega) (by have:=hL.dx j hj;omega) (fun hb=>(lvb j hb).2 hj) (fun hb=>(svb j hb).2 hj)).rows hz) hr (fun b hb=>by simp at hb;subst hb;exact⟨by omega,d4⟩) (by omega) (fun hb=>by have:=lR _ hb;omega) (by rw[hl',hn])
 ·intro hb
  rcases aa3.1 hb with hb|hb
  ·have:=lR _ hb;omega
  ·simp at hb;omega
 ·simp[hl']
 ·simp[Jg]at hb
  right;omega
 ·have hn2:b∉Jg lv'∧b∉Jg sv':=by
   constructor<;>intro hb2
   ·rcases hnb b (List.mem_append_left _ hb2)with h|h
    ·exact hn' (aa3.2 (by rcases aa3.1 h with h|h;exact .inl (alX _ h);exact .inr h))
    ·omega
   ·rcases hnb b (alX _ hb2)with h|h
    ·exact hn' (aa3.2 (by rcases aa3.1 h with h|h;exact .inl (alX _ h);exact .inr h))
    ·omega
  exact(hk b hb hn').trans (e6 b (by omega) (fun e=>hn' (by simp[Zp,e])) (fun e=>hn' (by simp[Zp,e])) hn2.1 hn2.2)
theorem aoO{m:Ac}(hs:m.small)(hm:Be m=true){p:Nat}{W:List Int}{X:List (List Int × Int)}{now:List Int}{lv sv:AV}{rows:List (List AV)}{Ro:List Nat}{H:Aa}(hq:Am H=true)(hF:dY m p W X now lv sv rows Ro H)(hnl:now.length=m.sens.length)(hin:Dx m now∉W)(hX:X.length≤1000):
 kZ Bh 78 ([.int .i64 (now.length:Int)]++scA p) H fun o G=>o=.ret (.tup [])∧ScL m p (W++[Dx m now]) (X++(Ha m).map fun c=>(now,c)) now lv sv H G:=by
 obtain⟨⟨x0,h0⟩,⟨x1,h1⟩,⟨x2,h2⟩,h3,⟨x4,h4⟩,⟨x5,h5⟩,⟨x6,h6⟩,⟨x7,h7⟩,hL,hS,hl⟩:=id hF
 have hv:=Xx m (l:=now) (nn:=true) hnl hs (Wa hm)
 rw[Sz]at hv
 have htk:List.take now.length (now.map iv)=now.map iv:=aj8 (by simp)
 have hlk:=fun l=>adH.lk_no (ty:=129) (z:=.bool false) Try.underlying129 (by kernel_rfl) (Ab h3 l) (fun _ _=>trivial) trivial hin false
 have hms:=fun l=>adH.ms_new (ty:=129) Try.underlying129 (Ab h3 l) (fun _ _=>trivial) trivial hin (.bool true)
 have hyy:(Np kI (fun y_1=>if y_1=Dx m now then AV.bool true else Vu y_1) (W++[Dx m now]))=Np kI Vu (W++[Dx m now]):=by
  congr 1;funext q;split<;>rfl
 rw[hyy]at hms
 obtain⟨bt,hbt⟩:∃bt,Ir m now m.votes 0 0=bt:=⟨_,rfl⟩
 have hbt':Dx m now=bt:=hbt
 rw[hbt]at hv
 rw[hbt']at hlk hms ⊢
 unfold kI at hlk hms
 simp only[cond_false]at hlk
 obtain⟨mp,hmp⟩:∃mp,Np (fun n=>AV.int .i64 n) Vu (W++[bt])=mp:=⟨_,rfl⟩
 rw[hmp]at hms
 have hsa:=Gj (Ap h3)
 refine We rfl Try.func78 rfl rfl ?_
 simp only[Try.f78,scA,alV,af6]
 (have hb:=trivial;with_reducible repeat' (first|simp only[hb,Vc.down,seval,mF.down,Jh.down,Ab h0,Ab h4,Ab h5,Ab h6,hv,htk,hlk,hms,hsa,aaK,beq_self_eq_true]|refine An ?_ ?_<;>intro hb|refine fd ?_|fail))
 have st0:ScL m p (W++[bt]) (X++((Ha m).take 0).map fun c=>(now,c)) now lv sv H (H.set (p+3) (Dc mp)++[.live 1 true false [[.int .i64 (now.length:Int)]]]):=by
  have hsm:∀b,b<H.length→b≠p+3→Dm H (H.set (p+3) (Dc mp)++[.live 1 true false [[.int .i64 (now.length:Int)]]]) b:=fun b hb hn=>((Dm.refl H b).set (fun e=>hn e.symm) _).app (by simpa using hb) _
  refine⟨⟨lv,sv,rows,Ro,?_,fun b hb=>.inl hb⟩,((Hv.refl H).map h3 mp).app _,Ax (Bj hq _ ?_) rfl,fun b hb hn=>hsm b hb (by simp[Zp]at hn;omega)⟩
  ·rw[ap6,alY,List.append_nil]
   refine hF.keep (by simp) hsm ?_
   rw[aa9 (by simpa using Ap h3),aa0 (Ap h3),←hmp];rfl
  ·rw[←hmp];exact alR _
 have hcl:=nU hm
 have hc4:=Ye hm
 refine Ci (Lp 54 (Ha m) (fun i (_:Unit) t h=>t 1=.ptr (p+6) 0 0∧t 2=.ptr p 0 0∧t 4=.ptr (p+1) 0 0∧t 5=.ptr (p+2) 0 0∧t 8=.int .i64 bt∧t 9=.int .i64 ((i:Int)-1)∧ScL m p (W++[bt]) (X++((Ha m).take i).map fun c=>(now,c)) now lv sv H h) (fun _ _=>()) (fun _ e t h=>e=.exit 0∧ScL m p (W++[bt]) (X++(Ha m).map fun c=>(now,c)) now lv sv H h) ?_ ?_ () _ _ ?_) (fun e t h hk=>?_)
 ·rintro _ t h Q' kQ ⟨g1,g2,g4,g5,g8,g9,hI⟩
  obtain⟨lv',sv',rows',Ro',F',_⟩:=hI.F
  obtain⟨y0,k0⟩:=F'.h0
  have hdd:decide (((Ha m).length:Int)-1<m.cmds)=false:=decide_eq_false (by omega)
  rw[anV]at hI
  (have hb:=trivial;with_reducible repeat' (first|simp only[hb,Vc.down,seval,mF.down,g2,g9,k0,hdd]|refine An ?_ ?_<;>intro hb|refine fd ?_|fail))
  exact kQ _ _ _ ⟨rfl,hI⟩
 ·rintro c rest i _ t h J Q' kJ kQ hx hi ⟨g1,g2,g4,g5,g8,g9,hI⟩
  have hce:=afW hx
  have hdd:decide ((i:Int)-1<m.cmds)=true:=decide_eq_true (by omega)
  rw[←hce]at g9 hdd
  have hww:IntKind.i64.wrap (c+1)=c+1:=Du (by omega) (by omega)
  obtain⟨⟨lv',sv',rows',Ro',F',hnb⟩,hw,hqh,hk⟩:=hI
  obtain⟨⟨y0,k0⟩,⟨y1,k1⟩,⟨y2,k2⟩,k3,⟨y4,k4⟩,⟨y5,k5⟩,⟨y6,k6⟩,⟨y7,k7⟩,kL,kS,kl'⟩:=id F'
  have hcn:=aiE now (by have:=bV hm;omega)
  rw[Sz]at hcn
  rcases kS with⟨hX0,rfl⟩|⟨b2,w2,rfl,kb2,kp2,kr2,kn2,kne⟩
  ·have hr0:rows'=[]:=by rw[hX0]at kl';exact aqB.1 kl'
   subst hr0
   have hlv:=kL.nil rfl
   subst hlv
   have hpl:p+7<h.length:=Ap k7
   obtain⟨sf,s1,s2,s5,s6,sn,sk⟩:∃sf:Nat→Nat,sf (p+1)=1∧sf (p+2)=2∧sf (p+5)=5∧sf (p+6)=6∧sf h.length=10∧∀k,sf (h.length+k)=k+10:=⟨fun b=>if h.length≤b then b-h.length+10 else b-p,by simp;omega,by simp;omega,by simp;omega,by simp;omega,by simp,fun k=>by simp⟩
   have hS1:=Gj (Ap k1)
   have k2S:=fun c l=>Ja (b:=p+1) c (by omega) k2 l
   (have hb:=trivial;with_reducible repeat' (first|simp only[hb,Vc.down,seval,mF.down,g1,g2,g4,g5,g8,g9,k0,k1,k2,k5,k6,Ab k0,Ab k1,Ab k2,Ab k5,Ab k6,hS1,k2S,hdd,hww,hcn,htk,aaK]|refine An ?_ ?_<;>intro hb|((refine Zv (aG (sf) ?_) ?_);(simp (discharger:=decide) only[Uu,Pn,af5,alY,Jk,Qn,Us,Ry,Vg,La,Pl,abO,alZ,s1,s2,s5,s6,sn,sk];kernel_rfl);intro _)|refine fdq ?_|fail))
   obtain⟨N,hN⟩:∃N:Aa,[CB.live 1 true false (now.map iv),.live 2 false false [[.slr 1 h.length 0 now.length,.int .i64 c]],.live 2 false false [[.slr 1 h.length 0 now.length,.int .i64 c]],.live 2 true false [[.int .i64 bt,.int .i64 c]],.live 2 true false [[.int .i64 bt,.int .i64 c]]]=N:=⟨_,rfl⟩
   rw[hN]
   have tk:(Ha m).take (i+1)=(Ha m).take i++[c]:=by rw[ae7,hx];rfl
   have gk:∀(k:Nat) (d1 d2:CB),((h.set (p+1) d1++N).set (p+2) d2)[h.length+k]?=N[k]?:=fun k d1 d2=>by rw[aaA (by omega),Ei]
   have hNl:N.length=5:=by rw[←hN];rfl
   refine Av (kJ _ _ () ⟨by simp[up,g1],by simp[up,g2],by simp[up,g4],by simp[up,g5],by simp[up,g8],by simp[up];omega,?_⟩ rfl)
   rw[tk,af7,←adV]
   have hYl:(X++((Ha m).take i).map fun c=>(now,c)).length=0:=by rw[hX0];rfl
   refine ScL.step F' hnb hk hw.1 (c:=c) (b0:=h.length) (m1:=h.length+2) (m2:=h.length+4) (n:=1) (by rw[hYl]) (by omega) (by omega) (by omega) (by omega) (by omega) (by omega) (by simp) ⟨true,?_⟩ ⟨true,?_⟩ ⟨false,?_⟩ ⟨false,?_⟩ ⟨false,?_⟩ (fun b hb n1 n2 _ _=>?_) ?_ ?_
   ·rw[aaA (by omega),aa9 (by simp;omega),aa0 (by omega)]
   ·rw[aa0 (by simp;omega)]
   ·rw[gk,←hN];rfl
   ·rw[gk,←hN,hX0,←hbt'];rfl
   ·exact(gk 0 _ _).trans (by rw[←hN];rfl)
   ·exact(((Dm.refl h b).set (fun e=>n1 e.symm) _).app (by simpa using hb) _).set (fun e=>n2 e.symm) _
   ·exact((hw.put k1 1 false _).app N).put (by rw[aa9 (by simp;omega),aaA (by omega)];exact k2) 1 false _
   ·exact Bj (Ax (Bj hqh _ rfl) (by rw[←hN];rfl)) _ rfl
  ·rcases kL.own with⟨hr0,rfl⟩|⟨b1,w1,rfl,kb1⟩
   ·rw[hr0]at kl';exact absurd (aqB.1 kl'.symm) kne
   obtain⟨Y,hY⟩:∃Y,X++((Ha m).take i).map (fun c=>(now,c))=Y:=⟨_,rfl⟩
   rw[hY]at F' kL kb2 kl' kne k2
   have hYl:Y.length≤2000:=by rw[←hY];simp;omega
   obtain⟨kd1,kd2,kd3⟩:=kL.dov _ _ _ _ rfl
   have hn12:b1≠b2:=fun e=>kn2 (by simp[Jg,e])
   have hpl:p+7<h.length:=Ap k7
   have h2l:=Ap kb2
   obtain⟨sf,s1,s2,s5,s6,s7,s8,sn,sk⟩:∃sf:Nat→Nat,sf (p+1)=1∧sf (p+2)=2∧sf (p+5)=5∧sf (p+6)=6∧sf b1=7∧sf b2=8∧sf h.length=10∧∀k,sf (h.length+k)=k+10:=⟨fun b=>if h.length≤b then b-h.length+10 else if b=b1 then 7 else if b=b2 then 8 else b-p,by show(if _ then _ else _)=_;rw[if_neg (by omega),if_neg (by omega),if_neg (by omega)];omega,by show(if _ then _ else _)=_;rw[if_neg (by omega),if_neg (by omega),if_neg (by omega)];omega,by show(if _ then _ else _)=_;rw[if_neg (by omega),if_neg (by omega),if_neg (by omega)];omega,by show(if _ then _ else _)=_;rw[if_neg (by omega),if_neg (by omega),if_neg (by omega)];omega,by show(if _ then _ else _)=_;rw[if_neg (by omega),if_pos rfl],by show(if _ then _ else _)=_;rw[if_neg (by omega),if_neg (by omega),if_pos rfl],by simp,fun k=>by simp⟩
   have hb1A:=Ab kb1
   have hb2A:=Ab kb2
   have e39:(rows'.length+1≤549755813888)=True:=eq_true (by omega)
   have f39:(Y.length+1≤549755813888)=True:=eq_true (by omega)
   have hSb:=Gj (Ap kb1)
   have b2S:=fun c l=>Ja (b:=b1) c hn12 kb2 l
   have k2b:=fun c l=>Ja (b:=b1) c (by omega) k2 l
   have hSb2:=fun l c=>Gj (h:=h.set b1 CB.dead) (b:=b2) (by simp;omega) l c
   have gq:∀(b:Nat) (cb:CB),b≠b1→b≠b2→h[b]?=some cb→((h.set b1 CB.dead).set b2 CB.dead)[b]?=some cb:=fun b cb n1 n2 g=>by
    rw[aaA (fun e=>n2 e.symm),aaA (fun e=>n1 e.symm)];exact g
   have k1q:=Ab (gq _ _ (by omega) (by omega) k1)
   have hS1q:=Gj (h:=(h.set b1 CB.dead).set b2 CB.dead) (b:=p+1) (by simp;omega)
   have k2q:=fun c l=>Ja (b:=p+1) c (by omega) (gq _ _ (by omega) (by omega) k2) l
   (have hb:=trivial;with_reducible repeat' (first|simp only[hb,Vc.down,seval,mF.down,g1,g2,g4,g5,g8,g9,k0,k1,k2,k5,k6,Ab k0,Ab k1,Ab k2,Ab k5,Ab k6,hb1A,hb2A,hSb,b2S,k2b,hSb2,k1q,hS1q,k2q,Ei,Gp,al0,e39,f39,hdd,hww,hcn,htk,aaK]|refine An ?_ ?_<;>intro hb|((refine Zv (aG (sf) ?_) ?_);(simp (discharger:=decide) only[Uu,Pn,af5,alY,Jk,Qn,Us,Ry,Vg,La,Pl,abO,alZ,s1,s2,s5,s6,s7,s8,sn,sk];kernel_rfl);intro _)|refine fdq ?_|fail))
   rw[kl']at *
   obtain⟨N,hN⟩:∃N:Aa,[CB.live 1 true false (now.map iv),.live 2 false false [[.slr 1 h.length 0 now.length,.int .i64 c]],.live 2 false false (rows'++[[.slr 1 h.length 0 now.length,.int .i64 c]]),.live 2 true false [[.int .i64 bt,.int .i64 c]],.live 2 true false (Y.map (zZ m)++[[.int .i64 bt,.int .i64 c]])]=N:=⟨_,rfl⟩
   rw[hN]
   have tk:(Ha m).take (i+1)=(Ha m).take i++[c]:=by rw[ae7,hx];rfl
   have gk:∀(k:Nat) (d1 d2:CB),((((h.set b1 CB.dead).set b2 CB.dead).set (p+1) d1++N).set (p+2) d2)[h.length+k]?=N[k]?:=fun k d1 d2=>by
    have:=Ei (h:=(h.set b1 CB.dead).set b2 CB.dead) (b:=p+1) d1 N k
    simp only[al0]at this
    rw[aaA (by omega),this]
   have hNl:N.length=5:=by rw[←hN];rfl
   refine Av (kJ _ _ () ⟨by simp[up,g1],by simp[up,g2],by simp[up,g4],by simp[up,g5],by simp[up,g8],by simp[up];omega,?_⟩ rfl)
   rw[tk,af7,←adV,hY]
   refine ScL.step F' hnb hk hw.1 (c:=c) (b0:=h.length) (m1:=h.length+2) (m2:=h.length+4) (n:=Y.length+1) rfl (by omega) (by omega) (by omega) (by omega) (by omega) (by omega) (by simp) ⟨true,?_⟩ ⟨true,?_⟩ ⟨false,?_⟩ ⟨false,?_⟩ ⟨false,?_⟩ (fun b hb n1 n2 n3 n4=>?_) ?_ ?_
   ·rw[aaA (by omega),aa9 (by simp;omega),aa0 (by simp;omega)]
   ·rw[aa0 (by simp;omega)]
   ·rw[gk,←hN];rfl
   ·rw[gk,←hN,←hbt'];rfl
   ·exact(gk 0 _ _).trans (by rw[←hN];rfl)
   ·simp only[Jg,acM,acY,or_false]at n3 n4
    exact(((((Dm.refl h b).set (fun e=>n3 e.symm) _).set (fun e=>n4 e.symm) _).set (fun e=>n1 e.symm) _).app (by simpa using hb) _).set (fun e=>n2 e.symm) _
   ·exact((((hw.kill kb1).kill (by rw[aaA hn12];exact kb2)).put (gq _ _ (by omega) (by omega) k1) 1 false _).app N).put (by rw[aa9 (by simp;omega),aaA (by omega)];exact gq _ _ (by omega) (by omega) k2) 1 false _
   ·exact Bj (Ax (Bj (Bj (Bj hqh _ rfl) _ rfl) _ rfl) (by rw[←hN];rfl)) _ rfl
 ·exact⟨by simp[up,Cj],by simp[up,Cj],by simp[up,Cj],by simp[up,Cj],by simp[up],by simp[up],st0⟩
 obtain⟨rfl,hI⟩:=hk
 (have hb:=trivial;with_reducible repeat' (first|simp only[hb,Vc.down,seval,mF.down]|refine An ?_ ?_<;>intro hb|refine fd ?_|fail))
 exact hI
def rdF(m:Ac)(k:Nat):List Int:=Lq Kw (fun n=>Ln k (Jm m k) n m.votes) (Ns (Si (Jm m k) m.votes)) []
def Xm(m:Ac)(s:List Int × List (List Int × Int))(r:List Int):List Int × List (List Int × Int):=if Dx m r∈s.1 then s else(s.1++[Dx m r],s.2++(Ha m).map fun c=>(r,c))
theorem anT:∀l:List Bool,l.length≤6→0≤Oi l 0 0∧Oi l 0 0<64:=by
 intro l hl
 rcases l with _|⟨a,_|⟨b,_|⟨c,_|⟨d,_|⟨e,_|⟨f,_|⟨g,l⟩⟩⟩⟩⟩⟩⟩
 ·exact⟨by decide,by decide⟩
 ·cases a<;>decide
 ·cases a<;>cases b<;>decide
 ·cases a<;>cases b<;>cases c<;>decide
 ·cases a<;>cases b<;>cases c<;>cases d<;>decide
 ·cases a<;>cases b<;>cases c<;>cases d<;>cases e<;>decide
 ·cases a<;>cases b<;>cases c<;>cases d<;>cases e<;>cases f<;>decide
 ·simp only[abO]at hl;omega
theorem ajQ{m:Ac}(hm:Be m=true)(r:List Int):0≤Dx m r∧Dx m r<64:=by
 unfold Dx
 rw[Xz]
 exact anT _ (by rw[aaK];exact Nq hm)
theorem gZ:∀(n:Nat) (l:List Int),l.Nodup→(∀x∈l,0≤x∧x<n)→l.length≤n
 |0,[],_,_=>by simp
 |0,a::l,_,h=>by have:=h a (by simp);omega
 |n+1,l,hn,h=>by
  by_cases e:(n:Int)∈l
  ·have h1:=gZ n (l.erase n) (hn.erase _) fun x hx=>by
    have h2:=h x (List.mem_of_mem_erase hx)
    have h3:x≠n:=fun e2=>by subst e2;exact(hn.not_mem_erase) hx
    omega
   rw[List.length_erase_of_mem e]at h1
   omega
  ·exact Nat.le_succ_of_le (gZ n l hn fun x hx=>by
    have h2:=h x hx
    have h3:x≠n:=fun e2=>e (e2▸hx)
    omega)
structure Few(m:Ac)(s:List Int × List (List Int × Int)):Prop where
 nd:s.1.Nodup
 lt:∀x∈s.1,0≤x∧x<64
 len:s.2.length=s.1.length*(Ha m).length
theorem Few.put{m:Ac}(hm:Be m=true){s:List Int × List (List Int × Int)}(h:Few m s)(r:List Int):Few m (Xm m s r):=by
 unfold Xm
 split
 ·exact h
 ·rename_i hn
  refine⟨List.nodup_append.2 ⟨h.nd,by simp,fun a ha b hb=>by simp at hb;subst hb;exact fun e=>hn (e▸ha)⟩,fun x hx=>?_,?_⟩
  ·rcases aa3.1 hx with hx|hx
   ·exact h.lt x hx
   ·simp at hx;subst hx;exact ajQ hm r
  ·simp only[agA,aaK,abO,alZ,h.len,aiO,Nat.add_mul,Nat.one_mul]
theorem Few.le{m:Ac}(hm:Be m=true){s:List Int × List (List Int × Int)}(h:Few m s):s.2.length≤320:=by
 have h1:=gZ 64 s.1 h.nd h.lt
 have h2:=nU hm
 have h3:=Ye hm
 rw[h.len]
 calc s.1.length*(Ha m).length≤64*5:=Nat.mul_le_mul h1 (by omega)
  _=320:=rfl
theorem Few.start(m:Ac):Few m ([],[]):=⟨by simp,by simp,by simp⟩
theorem azI{vs:List AV}{b:Nat}{h:Aa}{ps:List Nat}{asg body:Code}{tm:List AV}{st:Ju}{Q:Dk→Aa→Prop}(hb:h[b]?=some (.lp ps asg body tm st))(hl:ps.length=vs.length)
 (he:RnE b Q (ajW Bh Try.prog b body (Ce Bh Try.prog 5000 asg [] ⟨Ou tm ps vs,h⟩))):RnQ Bh (vs++[.yl b]) h Q:=RnQ.start (pr:=pr) hb hl he
theorem cK{m:Ac}(hm:Be m=true):∀(l:List (List Int)) {s:List Int × List (List Int × Int)},Few m s→Few m (l.foldl (Xm m) s)
 | [],_,h=>h
 |r::l,_,h=>cK hm l (h.put hm r)
def Tf(m:Ac)(k d:Nat):List (List Int):=(List.range d).map fun j=>rdF m (k+j)
theorem jL(m:Ac)(k d:Nat):Tf m k (d+1)=rdF m k::Tf m (k+1) d:=by
 unfold Tf
 rw[List.range_succ_eq_map,af5,List.map_map]
 congr 1
 refine af8 fun j _=>?_
 simp only[Function.comp,Nat.succ_eq_add_one]
 congr 1;omega
def Rw(m:Ac)(k d:Nat)(now:List Int)(s:List Int × List (List Int × Int)):List Int × List (List Int × Int):=((Qx (Tf m k d)).map (now.take k++·)).foldl (Xm m) s
def alA(m:Ac)(k:Nat)(n:Int):Int:=Ln k (Jm m k) n m.votes
def eM(m:Ac)(k:Nat):List Int:=Ns (Si (Jm m k) m.votes)
def acG(m:Ac)(k d:Nat)(now:List Int)(R:List Int)(s:List Int × List (List Int × Int)):List Int × List (List Int × Int):=(R.flatMap fun n=>(Qx (Tf m (k+1) d)).map fun q=>now.take k++n::q).foldl (Xm m) s
theorem akK(m:Ac)(k d:Nat)(now:List Int)(s:List Int × List (List Int × Int)):acG m k d now (rdF m k) s=Rw m k (d+1) now s:=by
 unfold acG Rw
 rw[jL,show Qx (rdF m k::Tf m (k+1) d)=(rdF m k).flatMap fun n=>(Qx (Tf m (k+1) d)).map (n::·)from rfl,List.map_flatMap]
 congr 1
 congr 1
 funext n
 rw[List.map_map];rfl
theorem ad4(m:Ac)(k d:Nat)(now:List Int)(n:Int)(R:List Int)(s:List Int × List (List Int × Int)){now':List Int}(ht:now'.take k=now.take k)(hk:k<now'.length):acG m k d now (n::R) s=acG m k d now R (Rw m (k+1) d (now'.set k n) s):=by
 unfold acG Rw
 rw[al1,List.foldl_append]
 congr 2
 refine af8 fun q _=>?_
 have:(now'.set k n).take (k+1)=now'.take k++[n]:=by
  rw[ae7,aa0 hk,aqF (by omega)];rfl
 rw[this,ht];simp
structure ScI(m:Ac)(p k d:Nat)(now:List Int)(fin:List Int × List (List Int × Int))(lv sv:AV)(H h1:Aa)(LP:CB)(b B:Nat)(i:Nat)(w:List Int)(h:Aa):Prop where
 F:∃now' st lv' sv' rows' Ro',now'.length=now.length∧now'.take k=now.take k∧Few m st∧dY m p st.1 st.2 now' lv' sv' rows' Ro' h∧(∀c∈Jg lv'++Jg sv',c∈Jg lv++Jg sv∨B+1<c)∧acG m k d now (Lq Kw (alA m k) ((eM m k).drop i) w) st=fin
 ws:Hv h1 h
 q:Am h=true
 kp:∀c,c<H.length→c∉Zp p lv sv→Dm H h c
 b0:∃x,h[H.length]?=some (.live 1 true x [[.int .i64 (k:Int)]])
 b1:∃x,h[H.length+1]?=some (.live 7 false x [m.cells])
 b2:∃x,h[H.length+2]?=some (.live 1 true x [[.int .i64 (k:Int)]])
 b3:∃x,h[H.length+3]?=some (.live 3 true x [(Jm m k).cells])
 b5:∃x,h[H.length+5]?=some (.live 1 false x [[.slr 1 b 0 (eM m k).length]])
 bb:∃x,h[b]?=some (.live 1 true x ((eM m k).map iv))
 lp:h[B]?=some LP
 mp:h[B+1]?=some (Dc (Np kI Vu w))
theorem qE{a:List Nat}{b c:Code}{e:List AV}{st:Ju}(d:CB)(hd:d.clean=(CB.lp a b c e st).clean):d=.lp a b c e st:=by
 cases d<;>simp_all[CB.clean]
theorem dY.app{m:Ac}{p:Nat}{W:List Int}{X:List (List Int × Int)}{now:List Int}{lv sv:AV}{rows:List (List AV)}{Ro:List Nat}{H:Aa}(h:dY m p W X now lv sv rows Ro H)(l:Aa):dY m p W X now lv sv rows Ro (H++l):=
 h.keep (by simp) (fun b hb _=>(Dm.refl H b).app hb l) (Ab h.h3 l)
theorem dY.put{m:Ac}{p:Nat}{W:List Int}{X:List (List Int × Int)}{now:List Int}{lv sv:AV}{rows:List (List AV)}{Ro:List Nat}{H:Aa}(h:dY m p W X now lv sv rows Ro H){B:Nat}{d:CB}(hB:p+8≤B)(g:H[B]?=some d)(hn:Bc d=none)(c:CB):dY m p W X now lv sv rows Ro (H.set B c):=by
 obtain⟨h0,h1,h2,h3,h4,h5,h6,h7,hL,hS,hl⟩:=h
 have l:=fun {b st:Nat} {fl:Bool} {r:List (List AV)} (gg:∃x,H[b]?=some (.live st fl x r)) (hn:b≠B)=>((Dm.refl H b).set (fun e=>hn e.symm) c).live gg
 refine⟨l h0 (by omega),l h1 (by omega),l h2 (by omega),by rw[aaA (by omega)];exact h3,l h4 (by omega),l h5 (by omega),l h6 (by omega),l h7 (by omega),hL.put g hn c,?_,hl⟩
 rcases hS with h|⟨b,x,g1,g2,g3⟩
 ·exact .inl h
 ·obtain⟨x',g5⟩:=l ⟨x,g2⟩ (fun e=>by rw[e,g]at g2;cases g2;cases hn)
  exact .inr ⟨b,x',g1,g5,g3⟩
theorem Ll{O:Ea}{H:Aa}{f:Nat}{args:List AV}{Q:Dk→Aa→Prop}(hq:Am H=true)(K:kZ O f args (Df H) fun o G=>Q o G∧Hv (Df H) G∧Am G=true):
 ∃o G es M,yK H (O.call (.sh f) args (Df H))=some (o,es)∧Bo H es=M∧Q o G∧Df M=Df G∧Hv H M∧Am M=true:=by
 obtain⟨o,G,hc,hQ,hw,hg⟩:=K
 obtain⟨es,M,m1,m2,m3,m4,m5⟩:=zY (o:=o) hq hw hg
 exact⟨o,G,es,M,by rw[hc];exact m1,m2,hQ,m3,m4,m5⟩
theorem dY.now{m:Ac}{p:Nat}{W:List Int}{X:List (List Int × Int)}{now now2:List Int}{lv sv:AV}{rows:List (List AV)}{Ro:List Nat}{H:Aa}(h:dY m p W X now lv sv rows Ro H)(hn:now2.length=now.length)(x:Bool):dY m p W X now2 lv sv rows Ro (H.set (p+5) (.live 1 true x (now2.map iv))):=by
 obtain⟨h0,h1,h2,h3,h4,h5,h6,h7,hL,hS,hl⟩:=h
 have sm:∀b,b≠p+5→Dm H (H.set (p+5) (.live 1 true x (now2.map iv))) b:=fun b hb=>(Dm.refl H b).set (fun e=>hb e.symm) _
 refine⟨(sm _ (by omega)).live h0,(sm _ (by omega)).live h1,(sm _ (by omega)).live h2,(sm _ (by omega)).map h3,(sm _ (by omega)).live h4,⟨x,?_⟩,?_,(sm _ (by omega)).live h7,hL.sm (by simp) (fun b hb _=>sm b (by omega)),?_,hl⟩
 ·obtain⟨z,h5⟩:=h5
  exact aa0 (Ap h5)
 ·rw[hn];exact(sm _ (by omega)).live h6
 ·rcases hS with h|⟨b,z,g1,g2,g3⟩
  ·exact .inl h
  ·obtain⟨z',g5⟩:=(sm b (by omega)).live ⟨z,g2⟩
   exact .inr ⟨b,z',g1,g5,g3⟩
theorem ar4{m:Ac}(hs:m.small)(hm:Be m=true){p:Nat}:∀(d k:Nat) (W:List Int) (X:List (List Int × Int)) (now:List Int) (lv sv:AV) (rows:List (List AV)) (Ro:List Nat) (H:Aa),
 Am H=true→dY m p W X now lv sv rows Ro H→Few m (W,X)→now.length=m.sens.length→k+d=m.sens.length→
 kZ Bh 78 ([.int .i64 (k:Int)]++scA p) H fun o G=>o=.ret (.tup [])∧∃now',now'.length=now.length∧now'.take k=now.take k∧ScL m p (Rw m k d now (W,X)).1 (Rw m k d now (W,X)).2 now' lv sv H G:=by
 intro d
 induction d with
 |zero=>
  intro k W X now lv sv rows Ro H hq hF hf hnl hkd
  have e1:Rw m k 0 now (W,X)=Xm m (W,X) now:=by
   unfold Rw Tf
   rw[aj8 (by omega)]
   simp[Qx]
  rw[e1]
  obtain rfl:k=now.length:=by omega
  by_cases hin:Dx m now∈W
  ·obtain⟨o,G,hc,rfl,hcl,hw⟩:=amV hs hm hq hF hnl hin
   have e2:Xm m (W,X) now=(W,X):=if_pos hin
   rw[e2]
   have hsm:∀b,b<H.length→Dm H G b:=fun b hb=>((Dm.refl H b).app hb _).eqR hcl.symm
   refine⟨_,G,hc,rfl,now,rfl,rfl,⟨lv,sv,rows,Ro,hF.keep hw.1 (fun b hb _=>hsm b hb) ((hsm _ (Ap hF.h3)).map hF.h3),fun b hb=>.inl hb⟩,hw,dW hcl.symm (Ax hq rfl),fun b hb _=>hsm b hb⟩
  ·have e2:Xm m (W,X) now=(W++[Dx m now],X++(Ha m).map fun c=>(now,c)):=if_neg hin
   rw[e2]
   obtain⟨o,G,hc,rfl,hL⟩:=aoO hs hm hq hF hnl hin (by have:=hf.le hm;simp only at this;omega)
   exact⟨_,G,hc,rfl,now,rfl,rfl,hL⟩
 |succ d ih=>
  intro k W X now lv sv rows Ro H hq hF hf hnl hkd
  obtain⟨⟨x0,h0⟩,⟨x1,h1⟩,⟨x2,h2⟩,h3,⟨x4,h4⟩,⟨x5,h5⟩,⟨x6,h6⟩,⟨x7,h7⟩,hL,hS,hl⟩:=id hF
  have hne:((k:Int)==(now.length:Int))=false:=by simp;omega
  have hq1:Am (H++[.live 1 true false [[.int .i64 (k:Int)]]])=true:=Ax hq rfl
  obtain⟨o,G1,es,M,e1,e2,⟨hK,hgq,rfl,b0,b1,b2,b,xb,yb,hbl,hbn,b4,b5⟩,hcl,hw,hqM⟩:=asL (O:=Bh) (f:=79) (vs:=[.agg m.cells,.int .i64 (k:Int)]) (cap:=[]) hq1 rfl rfl (by
   have:=yQ m hs hm (k:=(k:Int)) (by omega) (by rw[af9];omega) (Ej hq1)
   obtain⟨o,G,c1,c2⟩:=this
   exact⟨o,G,c1,c2,c2.1.wst,c2.2.1⟩)
  have hlen:(Df (H++[.live 1 true false [[.int .i64 (k:Int)]]])).length=H.length+1:=by simp[Bg]
  rw[hlen]at e1 b0 b1 b2 b4 hbl hbn
  have hca:Df (H++[.live 1 true false [[.int .i64 (k:Int)]]])=Df H++[.live 1 true false [[.int .i64 (k:Int)]]]:=by simp[Df,CB.clean]
  have e1':yK (H++[.live 1 true false [[.int .i64 (k:Int)]]]) (Bh.call (.sh 79) [.agg [Ad 3 true m.nS (m.sens.map Ba.cells),Ad 4 false m.nV (m.votes.map Ag.cells),Ad 5 false m.nM (m.moves.map Ai.cells),.int .i64 m.states,.int .i64 m.cmds,.int .i64 m.bgn,Ad 1 true m.nO (m.opn.map iv)],.int .i64 (k:Int)] (Df H++[.live 1 true false [[.int .i64 (k:Int)]]]))=some (.ret (.func (.func 97) [] [.ptr (H.length+5) 0 0,.ptr (H.length+1) 0 0,.ptr (H.length+2) 0 0,.ptr (H.length+3) 0 0]),es):=by
   rw[←hca]
   exact e1
  refine We rfl Try.func78 rfl rfl ?_
  simp only[Try.f78,scA,alV,af6]
  (have hb:=trivial;with_reducible repeat' (first|simp only[hb,Vc.down,seval,mF.down,Jh.down,Ab h0,Ab h6,hne,e1',e2,aaK]|refine An ?_ ?_<;>intro hb|refine fd ?_|fail))
  generalize hLP:CB.lp _ _ _ _ _=LP
  have hgetk:=Up (m:=m) (k:=(k:Int)) (by rw[af9];omega)
  have hlen2:(eM m k).length=(Si (Jm m k) m.votes).length:=nP _
  have hlm:(eM m k).length≤1000:=by rw[hlen2,Wc];have:=Nq hm;omega
  have smM:∀c,c<H.length+1→Dm (H++[.live 1 true false [[.int .i64 (k:Int)]]]) M c:=fun c hc=>by
   have:Dm (Df (H++[.live 1 true false [[.int .i64 (k:Int)]]])) G1 c:=Dm.of (hK.same c (by rw[hlen];exact hc) (by simp))
   exact(this.eqL (Ed _)).eqR hcl.symm
  have hMl:H.length+6≤M.length:=by
   have:=jO hcl
   have:=Ap b4
   omega
  have bM:b<M.length:=by have:=jO hcl;have:=Ap b5;omega
  refine at6 (au5 hs hm (k:=(k:Int)) (s:=Jm m k) (L:=eM m k) (lb:=H.length+5) (mb:=H.length+1) (kb:=H.length+2) (sb:=H.length+3) (b:=b) (M0:=M.length+1) hlm (ScI m p k d now (Rw m k (d+1) now (W,X)) lv sv H (Df M++[LP]) LP b M.length) (fun i w h I=>I.b5) (fun i w h I=>I.bb) (fun i w h I=>I.b1) (fun i w h I=>I.b2) (fun i w h I=>I.b3) (fun i w h I=>I.mp) ?_ ?_ ?_ ?_ ?_) ?_
  ·intro i w h r I
   obtain⟨⟨now',st,lv',sv',rows',Ro',a1,a2,a3,a4,a5,a6⟩,a7,a8,a9,⟨y0,k0⟩,⟨y1,k1⟩,⟨y2,k2⟩,⟨y3,k3⟩,⟨y5,k5⟩,⟨yb,kb⟩,kl,km⟩:=I
   have hHl:H.length<h.length:=Ap k0
   exact⟨⟨now',st,lv',sv',rows',Ro',a1,a2,a3,a4.app _,a5,a6⟩,a7.app _,Ax a8 rfl,fun c hc hn=>(a9 c hc hn).app (by omega) _,⟨y0,Ab k0 _⟩,⟨y1,Ab k1 _⟩,⟨y2,Ab k2 _⟩,⟨y3,Ab k3 _⟩,⟨y5,Ab k5 _⟩,⟨yb,Ab kb _⟩,Ab kl _,Ab km _⟩
  ·intro i w n h hx hvn hnw I
   obtain⟨⟨now',st,lv',sv',rows',Ro',a1,a2,a3,a4,a5,a6⟩,a7,a8,a9,k0,k1,k2,k3,k5,kb,kl,km⟩:=I
   obtain⟨mv,hmv⟩:∃mv,Dc (Np kI Vu (w++[Ln (k:Int) (Jm m (k:Int)) n m.votes]))=mv:=⟨_,rfl⟩
   rw[hmv]
   have hp8:p+7<H.length:=Ap h7
   have hBl:M.length+1<h.length:=Ap km
   obtain⟨h1,hh1⟩:∃h1,h.set (M.length+1) mv=h1:=⟨_,rfl⟩
   rw[hh1]
   have sm1:∀c,c≠M.length+1→Dm h h1 c:=fun c hc=>by rw[←hh1];exact(Dm.refl h c).set (fun e=>hc e.symm) mv
   have hq1:Am h1=true:=by rw[←hh1,←hmv];exact Bj a8 _ (alR _)
   have hl1:h1.length=h.length:=by rw[←hh1];simp
   have sc1:∀c,c≠M.length+1→c≠M.length→∀X:CB,Dm h ((Df h1).set M.length X) c:=fun c n1 n2 X=>((sm1 c n1).eqR (Ed h1).symm).set (fun e=>n2 e.symm) X
   have lpc:(Df h1)[M.length]?=some LP:=((sm1 M.length (by omega)).eqR (Ed h1).symm).keep kl fun d hd=>by rw[←hLP]at hd ⊢;exact qE d hd
   obtain⟨z5,j5⟩:=a4.h5
   have live:∀{c st:Nat} {fl:Bool} {r:List (List AV)},(∃x,h[c]?=some (.live st fl x r))→c≠M.length+1→c≠M.length→∀X:CB,((Df h1).set M.length X)[c]?=some (.live st fl false r):=fun {c st fl r} g n1 n2 X=>by
    obtain⟨x,g⟩:=(sm1 c n1).live g
    rw[aaA (fun e=>n2 e.symm),Fh g];rfl
   have f0:=fun X=>live k0 (by omega) (by omega) X
   have f5:=fun X=>live a4.h5 (by omega) (by omega) X
   have f6:=fun X=>live a4.h6 (by omega) (by omega) X
   have f7:=fun X=>live a4.h7 (by omega) (by omega) X
   have hk6:=bV hm
   have hwk:IntKind.i64.wrap ((k:Int)+1)=((k+1:Nat):Int):=by rw[Du (by omega) (by omega)];rfl
   have hkN:((k:Int)<(now'.length:Int))=True:=eq_true (by omega)
   have hset:(now'.map iv).set k [.int .i64 n]=(now'.set k n).map iv:=by rw[List.map_set];rfl
   have hlv:∀c∈Jg lv++Jg sv,c<H.length:=fun c hc=>by
    rcases aa3.1 hc with hc|hc
    ·cases lv<;>simp[Jg]at hc
     subst hc
     exact(hL.dov _ _ _ _ rfl).2.2
    ·rcases hS with⟨_,rfl⟩|⟨b',x,rfl,g2,_⟩
     ·simp[Jg]at hc
     ·simp[Jg]at hc;subst hc;exact Ap g2
   have own':∀c,c≤M.length+1→c∉Zp p lv sv→c∉Zp p lv' sv':=fun c hc hn hm=>by
    simp only[Zp,adV,aa3,acM,acY,or_false]at hn hm
    rcases hm with hm|hm
    ·exact hn (.inl hm)
    ·rcases a5 c (aa3.2 hm)with h|h
     ·exact hn (.inr (aa3.1 h))
     ·omega
   have ownH:∀c,H.length≤c→c≤M.length+1→c∉Zp p lv sv:=fun c hc _ hm=>by
    simp only[Zp,adV,aa3,acM,acY,or_false]at hm
    rcases hm with hm|hm
    ·omega
    ·have:=hlv c (aa3.2 hm);omega
   have lpq:LP.quiet LP.clean=true:=by rw[←hLP];rfl
   obtain⟨y9,hgk⟩:∃y,now'[k]?=some y:=⟨now'[k]'(by omega),afR _⟩
   obtain⟨o,G3,es,M3,y1,y2,⟨rfl,ylp,now2,l2,t2,⟨lv2,sv2,rows2,Ro2,F2,b2⟩,sm2⟩,ycl,yw,yq⟩:=asJ (O:=Bh) (H:=h1) (b:=M.length) (vs:=[.int .i64 n]) (Q:=fun o G=>o=.ret (.bool true)∧G[M.length]?=some LP∧∃now2,now2.length=now.length∧now2.take (k+1)=(now'.set k n).take (k+1)∧(∃lv2 sv2 rows2 Ro2,dY m p (Rw m (k+1) d (now'.set k n) st).1 (Rw m (k+1) d (now'.set k n) st).2 now2 lv2 sv2 rows2 Ro2 G∧∀c∈Jg lv2++Jg sv2,c∈Jg lv'++Jg sv'∨h.length≤c)∧∀c,c<h.length→c∉Zp p lv' sv'→c≠M.length→Dm h1 G c) hq1 (by
    obtain⟨Hc,hHc⟩:∃Hc,Df h1=Hc:=⟨_,rfl⟩
    rw[hHc]at lpc f0 f5 f6 f7 ⊢
    have e7:∀X Y:CB,((Hc.set M.length X).set (p+5) Y)[p+7]?=_:=fun X Y=>(aaA (by omega)).trans (f7 X)
    have e0:∀X Y:CB,((Hc.set M.length X).set (p+5) Y)[H.length]?=_:=fun X Y=>(aaA (by omega)).trans (f0 X)
    subst hLP
    refine azI lpc rfl ?_
    (have hb:=trivial;with_reducible repeat' (first|simp only[hb,Vc.down,seval,mF.down,lpc,f0,f5,f6,f7,e7,e0,hwk,hkN,hset,hgk,iv,al0,aaK]|refine An ?_ ?_<;>intro hb|refine fd ?_|fail))
    generalize hLB:CB.lp _ _ _ _ Ju.busy=LB
    obtain⟨H2,hH2⟩:∃H2,(Hc.set M.length LB).set (p+5) (CB.live 1 true true (List.map iv (now'.set k n)))=H2:=⟨_,rfl⟩
    rw[hH2]
    have hLBc:∀d:CB,d.clean=LB.clean→d=LB:=fun d hd=>by rw[←hLB]at hd ⊢;exact qE d hd
    have hLBq:LB.quiet LB.clean=true:=by rw[←hLB];rfl
    have F1:dY m p st.1 st.2 now' lv' sv' rows' Ro' h1:=by rw[←hh1];exact a4.put (by omega) km rfl _
    have F2:dY m p st.1 st.2 now' lv' sv' rows' Ro' Hc:=by rw[←hHc];exact F1.cl (Ed h1).symm
    have F3:dY m p st.1 st.2 now' lv' sv' rows' Ro' (Hc.set M.length LB):=F2.put (by omega) lpc rfl _
    have F4:dY m p st.1 st.2 (now'.set k n) lv' sv' rows' Ro' H2:=by rw[←hH2];exact F3.now (by simp) _
    have hqc:Am Hc=true:=by rw[←hHc];exact Ej hq1
    have hq2:Am H2=true:=by rw[←hH2];exact Bj (Bj hqc _ hLBq) _ rfl
    have hl2:H2.length=h.length:=by rw[←hH2,←hHc];simp[Bg,hl1]
    have w1:Hv (Hc.set M.length LB) H2:=by
     obtain⟨z,g⟩:=F3.h5
     rw[←hH2];exact(Hv.refl _).put g 1 true _
    obtain⟨o,G,es,M2,g1,g2,⟨rfl,now2,l2,t2,SL⟩,g4,g5,g6⟩:=Ll (O:=Bh) (H:=H2) (f:=78) (args:=.int .i64 ((k+1:Nat):Int)::scA p) (Q:=fun o G=>o=.ret (.tup [])∧∃now2,now2.length=(now'.set k n).length∧now2.take (k+1)=(now'.set k n).take (k+1)∧ScL m p (Rw m (k+1) d (now'.set k n) st).1 (Rw m (k+1) d (now'.set k n) st).2 now2 lv' sv' (Df H2) G) hq2 (by
     obtain⟨o,G,c,rfl,now2,x1,x2,SL⟩:=ih (k+1) st.1 st.2 (now'.set k n) lv' sv' rows' Ro' (Df H2) (Ej hq2) (F4.cl (Ed H2).symm) a3 (by simp;omega) (by omega)
     exact⟨_,G,c,⟨rfl,now2,x1,x2,SL⟩,SL.w,SL.q⟩)
    rw[g1]
    have smH:∀c,c<h.length→c∉Zp p lv' sv'→c≠M.length→Dm h1 M2 c:=fun c c1 c2 c3=>by
     have e1:Dm h1 H2 c:=by
      rw[←hH2,←hHc]
      exact(((Dm.refl h1 c).eqR (Ed h1).symm).set (fun e=>c3 e.symm) LB).set (fun e=>c2 (by simp[Zp,e])) _
     exact((e1.eqR (Ed H2).symm).trans (SL.k c (by rw[Bg];omega) c2)).eqR g4.symm
    have mB:M2[M.length]?=some LB:=by
     have e1:(Df H2)[M.length]?=some LB:=by
      have:H2[M.length]?=some LB:=by rw[←hH2,aaA (by omega),aa0 (Ap lpc)]
      exact((Dm.refl H2 M.length).eqR (Ed H2).symm).keep this hLBc
     exact bN g4.symm ((SL.k M.length (by rw[Bg];omega) (own' _ (by omega) (ownH _ (by omega) (by omega)))).keep e1 hLBc) hLBc
    subst hLB
    (have hb:=trivial;with_reducible repeat' (first|simp only[hb,Vc.down,seval,mF.down,g2,mB]|refine An ?_ ?_<;>intro hb|refine fd ?_|fail))
    obtain⟨⟨lv2,sv2,rows2,Ro2,G5,G6⟩,_,_,_⟩:=SL
    refine⟨_,_,rfl,⟨rfl,aa0 (Ap mB),now2,by rw[l2];simp;omega,t2,⟨lv2,sv2,rows2,Ro2,(G5.cl g4.symm).put (by omega) mB rfl _,fun c hc=>by have:=G6 c hc;rwa[Bg,hl2]at this⟩,fun c c1 c2 c3=>(smH c c1 c2 c3).set (fun e=>c3 e.symm) _⟩,(w1.trans g5).back lpc,Bj g6 _ (by rfl)⟩
    )
   have bl:∀c,H.length≤c→c<M.length→Dm h M3 c:=fun c c1 c2=>((sm1 c (by omega)).trans (sm2 c (by omega) (own' c (by omega) (ownH c c1 (by omega))) (by omega))).eqR ycl.symm
   refine⟨es,y1,?_⟩
   rw[y2]
   refine⟨⟨now2,Rw m (k+1) d (now'.set k n) st,lv2,sv2,rows2,Ro2,l2,?_,by unfold Rw;exact cK hm _ a3,F2.cl ycl.symm,fun c hc=>?_,?_⟩,(a7.trans ?_).trans yw,yq,fun c c1 c2=>((a9 c c1 c2).trans ((sm1 c (by omega)).trans (sm2 c (by omega) (own' c (by omega) c2) (by omega)))).eqR ycl.symm,(bl _ (by omega) (by omega)).live k0,(bl _ (by omega) (by omega)).live k1,(bl _ (by omega) (by omega)).live k2,(bl _ (by omega) (by omega)).live k3,(bl _ (by omega) (by omega)).live k5,(bl _ (by omega) (by omega)).live kb,bN ycl.symm ylp fun d hd=>by rw[←hLP]at hd ⊢;exact qE d hd,?_⟩
   ·have e1:now2.take k=(now2.take (k+1)).take k:=by rw[aqG];congr 1;omega
    rw[e1,t2,aqG,show min k (k+1)=k by omega,aqF (by omega),a2]
   ·rcases b2 c hc with h|h
    ·exact a5 c h
    ·right;omega
   ·obtain⟨q1,q2⟩:=af4.1 hx
    rw[ajM q1,q2,Lq,if_pos (show Kw n=true∧alA m k n∉w from⟨hvn,hnw⟩)]at a6
    rw[←a6]
    exact(ad4 m k d now n _ st a2 (by omega)).symm
   ·rw[←hh1,←hmv];exact(Hv.refl h).map km _
   ·have e1:h1[M.length+1]?=some (Dc (Np kI Vu (w++[Ln (k:Int) (Jm m (k:Int)) n m.votes]))):=by rw[←hh1,hmv];exact aa0 hBl
    exact((sm2 (M.length+1) (by omega) (own' _ (by omega) (ownH _ (by omega) (by omega))) (by omega)).eqR ycl.symm).map e1
  ·intro i w n h hx hnk I
   obtain⟨⟨now',st,lv',sv',rows',Ro',a1,a2,a3,a4,a5,a6⟩,a7,a8,a9,k0,k1,k2,k3,k5,kb,kl,km⟩:=I
   refine⟨⟨now',st,lv',sv',rows',Ro',a1,a2,a3,a4,a5,?_⟩,a7,a8,a9,k0,k1,k2,k3,k5,kb,kl,km⟩
   obtain⟨q1,q2⟩:=af4.1 hx
   rw[ajM q1,q2,Lq,if_neg (show ¬(Kw n=true∧alA m k n∉w)from hnk)]at a6
   exact a6
  ·simp[Bg]
  ·have hs2:∀c,c<H.length+1→Dm (H++[.live 1 true false [[.int .i64 (k:Int)]]]) (Df M++[LP]++[Dc []]) c:=fun c hc=>((((smM c hc).trans (Dm.refl M c)).eqR (Ed M).symm).app (by rw[Bg];omega) _).app (by simp[Bg];omega) _
   have hs3:∀c,c<H.length→Dm H (Df M++[LP]++[Dc []]) c:=fun c hc=>((Dm.refl H c).app hc _).trans (hs2 c (by omega))
   have gM:∀{c st:Nat} {fl:Bool} {r:List (List AV)},(∃x,G1[c]?=some (.live st fl x r))→∃x,(Df M++[LP]++[Dc []])[c]?=some (.live st fl x r):=fun {c st fl r} g=>by
    obtain⟨x,g⟩:=Fq (hcl.symm.trans (Ed M).symm) g
    exact⟨x,Ab (Ab g _) _⟩
   refine⟨⟨now,(W,X),lv,sv,rows,Ro,rfl,rfl,hf,hF.keep (by simp[Bg];omega) (fun c hc _=>hs3 c hc) ((hs3 _ (Ap h3)).map h3),fun c hc=>.inl hc,akK m k d now (W,X)⟩,(Hv.refl _).app _,?_,fun c hc _=>hs3 c hc,(hs2 H.length (by omega)).live ⟨false,by simp⟩,gM b0,gM b1,gM b2,gM ⟨xb,by rw[hlen2];exact b4⟩,gM ⟨yb,b5⟩,?_,?_⟩
   ·refine Ax (Ax (Ej hqM) ?_) (alR [])
    rw[←hLP];rfl
   ·rw[aa9 (by simp[Bg]),ai2 (by rw[Bg];omega),Bg,Nat.sub_self];rfl
   ·rw[ai2 (by simp[Bg])];simp[Bg,Np]
  ·rintro o h' ⟨rfl,w,I⟩
   obtain⟨⟨now',st,lv',sv',rows',Ro',a1,a2,a3,a4,a5,a6⟩,a7,a8,a9,k0,k1,k2,k3,k5,kb,kl,km⟩:=I
   have hLq:Am [LP]=true:=by rw[←hLP];rfl
   have hLc:Df (M++[LP])=Df M++[LP]:=by rw[←hLP];simp[Df,CB.clean]
   obtain⟨es2,M2,f1,f2,f3,f4,f5⟩:=zY (o:=.ret (.tup [])) (Ax hqM hLq) (by rw[hLc];exact a7) a8
   have mB:M2[M.length]?=some LP:=bN f3.symm kl fun d hd=>by rw[←hLP]at hd ⊢;exact qE d hd
   rw[f1]
   subst hLP
   (have hb:=trivial;with_reducible repeat' (first|simp only[hb,Vc.down,seval,mF.down,f2,mB]|refine An ?_ ?_<;>intro hb|refine fd ?_|fail))
   have hdr:(eM m k).drop (eM m k).length=[]:=an6
   rw[hdr]at a6
   have e6:st=Rw m k (d+1) now (W,X):=by rw[←a6];rfl
   subst e6
   refine⟨now',a1,a2,⟨⟨lv',sv',rows',Ro',(a4.cl f3.symm).put (by have:=Ap h7;omega) mB rfl _,fun c hc=>(a5 c hc).imp id fun h=>by omega⟩,?_,Bj f5 _ rfl,fun c hc hn=>?_⟩⟩
   ·exact(((((Hv.refl H).app _).trans hw).app _).trans f4).hi (by omega) _
   ·exact((a9 c hc hn).eqR f3.symm).set (by omega) _
def wh(m:Ac)(k:Nat)(r:Int):Int:=Ln k (Jm m k) r m.votes
theorem aeM{s:Ba}{v:Ag}{n:Int}(hl:s.lo≤s.hi)(h1:n≠s.lo)(h2:n≠s.hi+1)(h3:s.byp=true∨¬(n=(if v.above=true then v.level else v.level+1)∧s.lo<n∧n≤s.hi)):Lm s v n=Lm s v (n-1):=by
 cases hb:s.byp with
 |true=>unfold Lm;rw[hb];rfl
 |false=>
  have h3:=h3.resolve_left (by rw[hb];simp)
  rw[Bool.eq_iff_iff]
  cases ha:v.above<;>simp[ha]at h3<;>simp[Lm,ha,hb,Ie]<;>omega
theorem ac8{m:Ac}{k:Nat}{n:Int}(hl:(Jm m k).lo≤(Jm m k).hi)(h1:n≠(Jm m k).lo)(h2:n≠(Jm m k).hi+1)(h3:(Jm m k).byp=true∨∀v∈m.votes,¬(n=(if v.above=true then v.level else v.level+1)∧(Jm m k).lo<n∧n≤(Jm m k).hi)):wh m k n=wh m k (n-1):=by
 unfold wh Ln bH
 congr 1
 refine af8 fun v hv=>?_
 rw[aeM hl h1 h2 (h3.imp id fun h=>h v hv)]
theorem wP(n:Int):Kw n=true↔ -10000≤n∧n≤10000:=by simp[Kw,Ie]
theorem aaD{m:Ac}{k:Nat}(hk:k<m.sens.length):Jm m k∈m.sens:=ae4 (Up (k:=(k:Int)) (by simpa using hk))
theorem aoS{m:Ac}(hm:Be m=true){k:Nat}(hk:k<m.sens.length):Sep (-10000) 10000 (wh m k) (rdF m k):=by
 obtain⟨q1,q2,q3⟩:=jK hm (aaD hk)
 have mem:∀n,n∈Ns (Si (Jm m k) m.votes)↔n∈Si (Jm m k) m.votes:=fun n=>(Ur _).mem_iff
 refine agS wP (Ul _) ((mem _).2 (by simp[Si])) fun n h1 h2 h3=>(mem n).2 (Classical.byContradiction fun hn=>h3 ?_)
 simp only[Si,aa3,acM,acY,or_false,apR,not_or,not_exists,not_and]at hn
 refine ac8 q2 hn.1.2.1 hn.1.2.2 (.inr fun v hv hc=>?_)
 have:=hn.2 v hv
 split at hc<;>omega
def aq4(m:Ac)(k:Nat):List Int:=(Jm m k).lo::((Jm m k).hi+1)::m.votes.flatMap fun v=>if(Jm m k).lo<(if v.above=true then v.level else v.level+1)∧(if v.above=true then v.level else v.level+1)≤(Jm m k).hi then [if v.above=true then v.level else v.level+1]else []
def vC:Nat→Int→List Int
 |0,_=>[]
 |d+1,n=>n::vC d (n+1)
def eY(m:Ac)(k:Nat):List Int:= -10000::if(Jm m k).byp=true then []else(vC 20000 (-9999)).filter fun n=>decide (n∈aq4 m k)
theorem oK{m:Ac}(hm:Be m=true):∀(d k:Nat),k+d=m.sens.length→bR (-10000) 10000 (wh m) k (Tf m k d)
 |0,_,_=>trivial
 |d+1,k,h=>by rw[jL];exact⟨aoS hm (by omega),oK hm d (k+1) (by omega)⟩
theorem cP(m:Ac)(k d:Nat):(Tf m k d).length=d:=by simp[Tf]
theorem abD{C:Type}{w:Nat→Int→C}:∀{p q:List Int} {k:Nat},Cls w k p q→p.length=q.length∧∀i,i<p.length→w (k+i) (p.getD i 0)=w (k+i) (q.getD i 0)
 | [],[],_,_=>⟨rfl,fun i h=>by simp at h⟩
 | [],_::_,_,h=>by cases h
 |_::_,[],_,h=>by cases h
 |a::p,b::q,k,h=>by
  obtain⟨h1,h2⟩:=abD h.2
  refine⟨by simp[h1],fun i hi=>?_⟩
  cases i with
  |zero=>exact h.1
  |succ i=>
   have:=h2 i (by simpa using hi)
   rw[show k+1+i=k+(i+1) by omega]at this
   simpa using this
theorem aeR{a b:List Bool}(ha:a.length≤6)(hl:a.length=b.length)(h:Oi a 0 0=Oi b 0 0):a=b:=by
 apply am9
 intro i
 by_cases hi:i<a.length
 ·rw[qW a ha i hi,qW b (by omega) i (by omega),h]
 ·rw[ae2 (by omega),ae2 (by omega)]
theorem ag5{m:Ac}(hm:Be m=true){k:Nat}{a b:Int}(h:wh m k a=wh m k b){v:Ag}(hv:v∈m.votes)(hk:(k:Int)∈v.sens):Lm (Jm m k) v a=Lm (Jm m k) v b:=by
 have h1:bH k (Jm m k) a m.votes=bH k (Jm m k) b m.votes:=aeR (by simp[bH];exact Nq hm) (by simp[bH]) h
 unfold bH at h1
 have h2:=List.map_inj_left.1 h1 v hv
 have h3:(v.sens.any fun x=>(k:Int)==x)=true:=List.any_eq_true.2 ⟨k,hk,by simp⟩
 simpa [h3]using h2
theorem vZ{m:Ac}{p q:List Int}{v:Ag}:∀(l:List Int) (c:Int),(∀k∈l,Lm (Jm m k) v (rAt p k)=Lm (Jm m k) v (rAt q k))→Yp m v p l c=Yp m v q l c
 | [],_,_=>rfl
 |k::l,c,h=>by
  unfold Yp
  rw[h k (by simp)]
  exact vZ l _ fun k hk=>h k (by simp[hk])
theorem alH{m:Ac}(hm:Be m=true){p q:List Int}(hl:p.length=m.sens.length)(h:Cls (wh m) 0 p q):Dx m p=Dx m q:=by
 obtain⟨h1,h2⟩:=abD h
 unfold Dx
 rw[Xz,Xz]
 congr 1
 refine af8 fun v hv=>?_
 unfold Yq
 rw[vZ v.sens 0 fun k hk=>?_]
 obtain⟨k0,k1⟩:=Wa hm v hv k hk
 obtain⟨j,rfl⟩:∃j:Nat,k=j:=⟨k.toNat,by omega⟩
 simp only[af9]at k1
 have:=h2 j (by omega)
 rw[aiO]at this
 simp only[rAt,af9]
 exact ag5 hm this hv hk
def stp(m:Ac)(v:Int × Int)(x:List Int × Int):Int × Int:=Zb m v.1 v.2 (tsc x)
theorem wS{m:Ac}{a b:List Int × Int}(h1:Dx m a.1=Dx m b.1)(h2:a.2=b.2)(v:Int × Int):stp m v a=stp m v b:=by
 unfold stp Zb tsc
 unfold Dx at h1
 simp only[h1,h2]
def Leg(m:Ac)(a:List Int × Int):Prop:=a.1.length=m.sens.length∧(∀n∈a.1,-10000≤n∧n≤10000)∧ -1≤a.2∧a.2<m.cmds
theorem pG{m:Ac}(hm:Be m=true){c:Int}:c∈Ha m↔ -1≤c∧c<m.cmds:=by
 have:=Ye hm
 unfold Ha
 rw[List.mem_map]
 constructor
 ·rintro⟨i,hi,rfl⟩
  have:=aqJ.1 hi
  omega
 ·intro h
  exact⟨(c+1).toNat,aqJ.2 (by omega),by omega⟩
theorem ahF(m:Ac):(Ha m).Pairwise (· < ·):=by
 unfold Ha
 exact List.pairwise_map.2 (List.pairwise_lt_range.imp fun h=>by omega)
structure dL(m:Ac)(X:List (List Int × Int)):Prop where
 pw:X.Pairwise ltS
 leg:∀a∈X,Leg m a
 rep:∀a,Leg m a→∃b∈X,Dx m b.1=Dx m a.1∧b.2=a.2∧(b=a∨ltS b a)
theorem acJ{m:Ac}(hm:Be m=true){R:List (List Int)}(hp:R.Pairwise ltR)(hl:∀r∈R,r.length=m.sens.length∧∀n∈r,-10000≤n∧n≤10000)(hr:∀x:List Int,x.length=m.sens.length→(∀n∈x,-10000≤n∧n≤10000)→∃y∈R,Dx m y=Dx m x∧(y=x∨ltR y x)):dL m (eS (Ha m) R):=by
 refine⟨ajV (ahF m) hp,fun a ha=>?_,fun a ha=>?_⟩
 ·obtain⟨h1,h2⟩:=oM.1 ha
  obtain⟨h3,h4⟩:=hl _ h1
  exact⟨h3,h4,(pG hm).1 h2⟩
 ·obtain⟨a1,a2,a3⟩:=ha
  obtain⟨y,y1,y2,y3⟩:=hr a.1 a1 a2
  refine⟨(y,a.2),oM.2 ⟨y1,(pG hm).2 a3⟩,y2,rfl,?_⟩
  rcases y3 with rfl|y3
  ·exact .inl rfl
  ·exact .inr (.inl y3)
theorem dB(m:Ac):∀(rows:List (List Int)) (W:List Int) (X:List (List Int × Int)),(rows.foldl (Xm m) (W,X)).2=X++eS (Ha m) (Lq (fun _=>true) (Dx m) rows W)
 | [],W,X=>by simp[Lq,eS]
 |r::rows,W,X=>by
  rw[List.foldl_cons]
  by_cases h:Dx m r∈W
  ·have e:Xm m (W,X) r=(W,X):=if_pos h
   rw[e,dB,Lq,if_neg (by simp[h])]
  ·have e:Xm m (W,X) r=(W++[Dx m r],X++(Ha m).map fun c=>(r,c)):=if_neg h
   rw[e,dB,Lq,if_pos ⟨rfl,h⟩]
   simp[eS,adV]
def Dh(m:Ac):List (List Int × Int):=eS (Ha m) (Lq (fun _=>true) (Dx m) (Qx (Tf m 0 m.sens.length)) [])
theorem lI(m:Ac)(now:List Int):(Rw m 0 m.sens.length now ([],[])).2=Dh m:=by
 unfold Rw Dh
 rw[dB,af6,ap6]
 simp
theorem Sm{m:Ac}(hm:Be m=true):dL m (Dh m):=by
 have hS:=oK hm m.sens.length 0 (by omega)
 have hp:(Qx (Tf m 0 m.sens.length)).Pairwise ltR:=sL hS.inc
 refine acJ hm (bK (R:=ltR) (fun a b h _=>h) hp) (fun r hr=>?_) fun x h1 h2=>?_
 ·have:=bR.row hS r (Tq hr).1
  rw[cP]at this;exact this
 ·obtain⟨y,y1,y2,y3⟩:=bR.all hS x (by rw[cP];exact h1) h2
  have hyl:y.length=m.sens.length:=by have:=(bR.row hS y y1).1;rwa[cP]at this
  rcases Yn (ok:=fun _=>true) (w:=Dx m) (met:=[]) hp y1 rfl with h|⟨b,b1,b2,b3⟩
  ·cases h
  ·refine⟨b,b1,b2.trans (alH hm hyl y2),?_⟩
   rcases b3 with rfl|b3
   ·exact y3
   ·rcases y3 with rfl|y3
    ·exact .inr b3
    ·exact .inr (xT b3 y3)
def gS(X:List (List Int × Int))(i:Nat):List Int × Int:=X.getD i ([],0)
theorem rS{X:List (List Int × Int)}{i:Nat}{x:List Int × Int}(h:X[i]?=some x):gS X i=x:=by simp[gS,h]
theorem dL.inc{m:Ac}{X:List (List Int × Int)}(h:dL m X):∀i j,i<j→j<X.length→ltS (gS X i) (gS X j):=atI h.pw
theorem dL.reps{m:Ac}{X:List (List Int × Int)}(h:dL m X){a:List Int × Int}(ha:Leg m a):aq9 ltS (stp m) (gS X) X.length a:=by
 obtain⟨b,b1,b2,b3,b4⟩:=h.rep a ha
 obtain⟨i,hi,rfl⟩:=List.getElem_of_mem b1
 refine⟨i,hi,fun v=>?_,?_⟩
 ·rw[rS (afR hi)];exact wS b2 b3 v
 ·rw[rS (afR hi)];exact b4
abbrev Fnd(m:Ac)(X:List (List Int × Int))(D:List ((Int × Int) × List Nat)):Prop:=BF (fun v i=>stp m v (gS X i)) X.length (m.bgn,0) D D.length 0
end Go.Proofs.Ytfkokgjfpojeoaa
