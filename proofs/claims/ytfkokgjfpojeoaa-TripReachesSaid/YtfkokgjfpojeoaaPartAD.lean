/- The functions of the layer, walked. -/
import Derived.Test.YtfkokgjfpojeoaaPartAC
import Derived.Test.YtfkokgjfpojeoaaLibE
open List renaming getElem?_set_ne→acE,length_map→acG,getElem?_set_self→acK,mem_append→acZ,getElem?_append_left→adD,length_cons→ahZ,take_add_one→aiC,getElem?_eq_some_iff→aiH,map_cons→aiI,mem_cons→aiK,not_mem_nil→al2,map_append→al3,append_assoc→al4,length_append→al5,mem_of_getElem?→al6,getElem?_append_right→al9,drop_eq_getElem_cons→amP,take_of_length_le→anC,cons_append→anF,nil_append→an5,mem_append_right→aoC,map_nil→ao3,length_nil→apC,length_set→apH,flatMap_cons→apN,all_eq_true→ap9,getElem?_eq_none→asB,take_length→asI,getElem?_eq_getElem→asS,drop_length→asX,length_eq_zero_iff→as8,map_congr_left→as9,take_set_of_le→atA,take_take→atX
open Bool renaming and_eq_true→ah3,false_eq_true→as6
open Int renaming lt_irrefl→al7,toNat_natCast→atB
set_option linter.unusedSimpArgs false
set_option linter.unusedVariables false
namespace Go.Proofs.Ytfkokgjfpojeoaa
open Go.Ev Go
set_option maxRecDepth 100000
set_option maxHeartbeats 16000000
def dI(s:Bz)(vs:List Aj):List Int:=[-10000,s.lo,s.hi+1]++vs.flatMap fun v=>[v.level,v.level+1]
theorem lG(s:Bz):∀vs:List Aj,(dI s vs).length=3+2*vs.length
 | []=>rfl
 |v::vs=>by
  have:=lG s vs
  simp only[dI,al5,ahZ,apN]at this ⊢
  simp at this ⊢;omega
theorem qJ{m:Ad}(h:Bh m=true){s:Bz}(hs:s∈m.sens): -10000≤s.lo∧s.lo≤s.hi∧s.hi≤10000:=by
 unfold Bh at h
 simp only[ah3,ap9]at h
 have:=h.1.1.1.2 s hs
 simp only[sT,aF,To,ah3,Bool.not_eq_true',decide_eq_true_eq,decide_eq_false_iff_not]at this
 omega
theorem alX{m:Ad}(h:Bh m=true){v:Aj}(hv:v∈m.votes): -10000≤v.level∧v.level≤10000:=by
 unfold Bh at h
 simp only[ah3,ap9]at h
 have:=h.1.1.2 v hv
 simp only[bQ,aF,To,ah3,decide_eq_true_eq]at this
 omega
theorem be5{h:Ab}(hq:Bc h=true){b:Nat}{w:Bool}{zs:List Int}(hb:h[b]?=some (.live 1 true w (zs.map iv)))(h1:1≤zs.length)(h2:zs.length≤1000):
 ∃es,cl Dc h (some (.func (.func 96) [] [])) (some [.slr 1 b 0 zs.length])=some (.ret (.tup []),es)∧Dm h es=h.set b (.live 1 true true ((Yr zs).map iv)):=by
 have hbl:=An hb
 have hbc:=Nx hb
 simp only[CB.clean]at hbc
 have hp:aeF [.slr 1 b 0 zs.length] (Hf h)=some (.ret (.tup []),(Hf h).set b (.live 1 true true ((Yr zs).map iv))):=by
  simp only[aeF,hbc]
  rw[if_pos ⟨by simp,h1,by omega⟩]
  have:jM (zs.map iv)=some zs:=amK zs
  rw[this];rfl
 have K:ShQ Dc 96 [.slr 1 b 0 zs.length] (Hf h) fun o G=>o=.ret (.tup [])∧G=(Hf h).set b (.live 1 true true ((Yr zs).map iv)):=⟨_,_,ayI (P:=Try.prog) (pr:=pr) (p:=aeF) rfl hp,rfl,rfl⟩
 have kp:aiB [b] (Hf h) ((Hf h).set b (.live 1 true true ((Yr zs).map iv))):=⟨by simp,fun i hi hn=>by rw[acE (fun e=>hn (by simp[e]))]⟩
 have hX:∀i∈[b],i<h.length∧∀c0 c,h[i]?=some c0→((Hf h).set b (.live 1 true true ((Yr zs).map iv)))[i]?=some c→c0.isLive=true∧c0.quiet c=false:=fun i hi=>by
  simp at hi;subst hi
  refine⟨hbl,fun c0 c k1 k2=>?_⟩
  rw[hb]at k1;rw[acK (by rw[Cm];exact hbl)]at k2
  cases k1;cases k2;exact⟨rfl,rfl⟩
 obtain⟨g1,g2,g3,g4,g5⟩:=ax9 hq kp hX
 obtain⟨o,G,es,e1,e2,rfl,rfl⟩:=aAT rfl rfl K (fun o G hQ=>by obtain⟨_,rfl⟩:=hQ;exact g1)
 refine⟨es,e1,?_⟩
 rw[e2]
 apply List.ext_getElem?
 intro i
 by_cases hi:i<h.length
 ·by_cases e:i=b
  ·subst e
   rw[acK hbl]
   exact g5 i (List.mem_cons_self ..) _ (acK (by rw[Cm];exact hbl))
  ·rw[g4 i hi (by simpa using e),acE (fun q=>e q.symm)]
 ·rw[asB (by rw[g2];simp[Cm];omega),asB (by simp;omega)]
theorem bm3{h l:Ab}{b q b':Nat}{d e c:CB}(n1:b'≠b)(n2:b'≠q)(g:h[b']?=some c):((h.set b d++l).set q e)[b']?=some c:=by
 rw[acE (fun e=>n2 e.symm),adD (by simpa using An g),acE (fun e=>n1 e.symm)];exact g
def RdI(m:Ad)(k:Int)(H:Ab)(vs:List Aj)(h:Ab):Prop:=aiB [] H h∧Bc h=true∧(∃x,h[H.length]?=some (.live 7 false x [m.cells]))∧(∃x,h[H.length+1]?=some (.live 1 true x [[.int .i64 k]]))∧(∃x,h[H.length+2]?=some (.live 3 true x [(Qb m k).cells]))∧
     ∃b x y,H.length+2<b∧b≠H.length+4∧h[H.length+4]?=some (.live 1 false x [[.slr 1 b 0 (dI (Qb m k) vs).length]])∧h[b]?=some (.live 1 true y ((dI (Qb m k) vs).map iv))
theorem am4(m:Ad)(hs:m.small)(hm:Bh m=true){k:Int}(h0:0≤k)(hk:k.toNat<m.sens.length){H:Ab}(hq:Bc H=true):
 ShQ Dc 79 [.agg [Af 3 true m.nS (m.sens.map Bz.cells),Af 4 false m.nV (m.votes.map Aj.cells),Af 5 false m.nM (m.moves.map Ap.cells),.int .i64 m.states,.int .i64 m.cmds,.int .i64 m.bgn,Af 1 true m.nO (m.opn.map iv)],.int .i64 k] H fun o G=>aiB [] H G∧Bc G=true∧o=.ret (.func (.func 97) [] [.ptr (H.length+4) 0 0,.ptr H.length 0 0,.ptr (H.length+1) 0 0,.ptr (H.length+2) 0 0])∧
  (∃x,G[H.length]?=some (.live 7 false x [m.cells]))∧(∃x,G[H.length+1]?=some (.live 1 true x [[.int .i64 k]]))∧(∃x,G[H.length+2]?=some (.live 3 true x [(Qb m k).cells]))∧
  ∃b x y,H.length+2<b∧b≠H.length+4∧G[H.length+4]?=some (.live 1 false x [[.slr 1 b 0 (dI (Qb m k) m.votes).length]])∧G[b]?=some (.live 1 true y ((Yr (dI (Qb m k) m.votes)).map iv)):=by
 have hsv:=hs.votes
 have hget:=cR hk
 have hmem:=al6 hget
 obtain⟨s1,s2,s3⟩:=qJ hm hmem
 have hd0:(0≤k)=True:=eq_true h0
 have hwh:IntKind.i64.wrap ((Qb m k).hi+1)=(Qb m k).hi+1:=Ed (by omega) (by omega)
 refine mZ rfl Try.func79 rfl rfl ?_
 simp only[Try.f79]
 (have hb:=trivial;with_reducible repeat' (first|simp only[hb,Vc.down,seval,azZ.down,hget,hd0,hwh,Bz.cells,acG]|refine Aq ?_ ?_<;>intro hb|refine fd ?_|fail))
 refine Dl (Ss 39 m.votes (fun i (_:Unit) t h=>t 2=.ptr H.length 0 0∧t 3=.ptr (H.length+1) 0 0∧t 5=.ptr (H.length+2) 0 0∧t 6=.ptr (H.length+4) 0 0∧t 21=Af 4 false m.nV (m.votes.map Aj.cells)∧t 22=.int .i64 (m.votes.length:Nat)∧t 23=.int .i64 (i:Int)∧RdI m k H (m.votes.take i) h) (fun _ _=>()) (fun _ e t h=>e=.exit 0∧t 2=.ptr H.length 0 0∧t 3=.ptr (H.length+1) 0 0∧t 5=.ptr (H.length+2) 0 0∧t 6=.ptr (H.length+4) 0 0∧RdI m k H m.votes h) ?_ ?_ () _ _ ?_) (fun e t h hk=>?_)
 ·rintro _ t h Q' kQ ⟨g2,g3,g5,g6,g21,g22,g23,hI⟩
  (have hb:=trivial;with_reducible repeat' (first|simp only[hb,Vc.down,seval,azZ.down,g22,g23,al7,decide_false]|refine Aq ?_ ?_<;>intro hb|refine fd ?_|fail))
  rw[asI]at hI
  exact kQ _ _ _ ⟨rfl,by simp[up,g2],by simp[up,g3],by simp[up,g5],by simp[up,g6],hI⟩
 ·rintro v rest i _ t h J Q' kJ kQ hx hi ⟨g2,g3,g5,g6,g21,g22,g23,hI⟩
  have hdd:decide ((i:Int)<(m.votes.length:Int))=true:=decide_eq_true (by omega)
  have hww:=Av hi hsv
  obtain⟨l1,l2⟩:=alX hm (al6 hx)
  have hwl:IntKind.i64.wrap (v.level+1)=v.level+1:=Ed (by omega) (by omega)
  obtain⟨K,hqh,⟨x0,a0⟩,⟨x1,a1⟩,⟨x2,a2⟩,b,x,y,hb,hb4,a4,a5⟩:=hI
  have hLl:(dI (Qb m k) (m.votes.take i)).length≤3+2*1000:=by
   rw[lG];have:=List.length_take_le i m.votes;have:=gY hm;omega
  have hnx:dI (Qb m k) (m.votes.take (i+1))=dI (Qb m k) (m.votes.take i)++[v.level,v.level+1]:=by
   rw[aiC,hx];simp[dI]
  obtain⟨L,hL⟩:∃L,dI (Qb m k) (m.votes.take i)=L:=⟨_,rfl⟩
  rw[hL]at a4 a5 hLl hnx
  have a4A:=Ac a4
  have a5A:=Ac a5
  have h39:(L.length+2≤549755813888)=True:=eq_true (by omega)
  have hS:=Jt (An a5)
  have a4S:=fun c l=>Us (b:=b) c hb4 a4 l
  (have hb:=trivial;with_reducible repeat' (first|simp only[hb,Vc.down,seval,azZ.down,g2,g3,g5,g6,g21,g22,g23,hdd,hww,hx,hwl,a4A,a5A,hS,a4S,h39,Aj.cells,acG,Nat.zero_add]|refine Aq ?_ ?_<;>intro hb|refine fd ?_|fail))
  have hb0:h.length≠H.length+4:=by have:=An a4;omega
  have G2:=fun(b':Nat) (c:CB) (n1:b'≠b) (n2:b'≠H.length+4) (g:h[b']?=some c)=>bm3 (d:=CB.dead) (e:=.live 1 false true [[.slr 1 (h.length+2) 0 (L.length+2)]]) (l:=[.live 4 false true [[Af 1 true v.nn (v.sens.map iv),.int .i64 v.need,.int .i64 v.level,.bool v.above]],.live 1 true false [[.int .i64 v.level],[.int .i64 (v.level+1)]],.live 1 true false (L.map iv++[[.int .i64 v.level],[.int .i64 (v.level+1)]])]) n1 n2 g
  have hl4:=An a4
  refine Ax (kJ _ _ () ⟨by simp[up,g2],by simp[up,g3],by simp[up,g5],by simp[up,g6],by simp[up,g21],by simp[up,g22],by simp[up],⟨⟨by have:=K.len;simp;omega,fun b' hb' _=>?_⟩,?_,⟨x0,G2 _ _ (by omega) (by omega) a0⟩,⟨x1,G2 _ _ (by omega) (by omega) a1⟩,⟨x2,G2 _ _ (by omega) (by omega) a2⟩,h.length+2,true,false,by omega,by omega,?_,?_⟩⟩ rfl)
  ·rw[←K.same b' hb' (by simp)]
   obtain⟨c,hc⟩:∃c,h[b']?=some c:=⟨_,asS (by have:=K.len;omega)⟩
   rw[hc];exact G2 _ _ (by omega) (by omega) hc
  ·exact Dj (Bw (Dj hqh _ rfl) rfl) _ rfl
  ·rw[acK (by simp;omega),hnx,al5];rfl
  ·rw[acE (by omega),Gj,hnx];simp[iv]
 ·have p0:∀(n:Nat) (l:Ab),(H++l)[H.length+n]?=l[n]?:=fun n l=>by rw[al9 (by omega),Nat.add_sub_cancel_left]
  refine⟨by simp[up,Eg],by simp[up,Eg],by simp[up,Eg],by simp[up,Eg],by simp[up,Eg],by simp[up,Eg],by simp[up,Eg],aiB.app _ _,Bw hq rfl,⟨false,?_⟩,⟨false,?_⟩,⟨true,?_⟩,H.length+3,true,false,by omega,by omega,?_,?_⟩
  ·exact p0 0 _
  ·exact p0 1 _
  ·exact p0 2 _
  ·exact p0 4 _
  ·exact p0 3 _
 obtain⟨rfl,g2,g3,g5,g6,K,hqh,⟨x0,a0⟩,⟨x1,a1⟩,⟨x2,a2⟩,b,x,y,hbb,hb4,a4,a5⟩:=hk
 have hl1:1≤(dI (Qb m k) m.votes).length:=by rw[lG];omega
 have hl2:(dI (Qb m k) m.votes).length≤1000:=by rw[lG];have:=gY hm;omega
 generalize dI (Qb m k) m.votes=L at *
 obtain⟨es,e1,e2⟩:=be5 hqh a5 hl1 hl2
 have e1':shK h (Dc.call (.sh 96) [.slr 1 b 0 L.length] (Hf h))=some (.ret (.tup []),es):=e1
 (have hb:=trivial;with_reducible repeat' (first|simp only[hb,Vc.down,seval,azZ.down,g2,g3,g5,g6,a4,e1',e2]|refine Aq ?_ ?_<;>intro hb|refine fd ?_|fail))
 have ne:∀(b':Nat) (c:CB),b'≠b→h[b']?=some c→(h.set b (.live 1 true true ((Yr L).map iv)))[b']?=some c:=fun b' c n g=>by rw[acE (fun e=>n e.symm)];exact g
 refine⟨⟨by have:=K.len;simp;omega,fun b' hb' _=>?_⟩,Dj hqh _ rfl,⟨x0,ne _ _ (by omega) a0⟩,⟨x1,ne _ _ (by omega) a1⟩,⟨x2,ne _ _ (by omega) a2⟩,b,x,true,hbb,hb4,ne _ _ (by omega) a4,acK (An a5)⟩
 rw[acE (by omega)];exact K.same b' hb' (by simp)
end Go.Proofs.Ytfkokgjfpojeoaa
namespace Go.Proofs.Ytfkokgjfpojeoaa
open Go.Ev Go Go.Ev.Bfs
set_option maxRecDepth 100000
set_option maxHeartbeats 16000000
def kI(n:Int):AV:=.int .i64 n
def iU{α:Type}(_:α):AV:=.bool true
theorem aqS:acP Try.prog 3 kI (fun _=>True):=⟨fun a _=>by
 unfold ah0 xR kI
 simp only[Try.underlying3]
 rfl,fun a b _ _=>by
 unfold iT kI
 simp only[Try.underlying3,if_true,Option.some.injEq]
 by_cases e:a=b<;>simp[e],fun a _=>by
 simp[kI,AV.sameKey,AV.same]⟩
theorem bfC{m:Ad}(hs:m.small)(hm:Bh m=true){k:Int}{s:Bz}{L:List Int}{y:AV}{lb mb kb sb b M0:Nat}(hL9:L.length≤1000)(cD:Nat→List Int→Ab→Prop)
 (hl:∀i w h,cD i w h→∃x,h[lb]?=some (.live 1 false x [[.slr 1 b 0 L.length]])) (hlb:∀i w h,cD i w h→∃x,h[b]?=some (.live 1 true x (L.map iv))) (hmb:∀i w h,cD i w h→∃x,h[mb]?=some (.live 7 false x [m.cells]))
 (hkb:∀i w h,cD i w h→∃x,h[kb]?=some (.live 1 true x [[.int .i64 k]])) (hsb:∀i w h,cD i w h→∃x,h[sb]?=some (.live 3 true x [s.cells])) (hM:∀i w h,cD i w h→h[M0]?=some (Hr (lP kI iU w)))
 (hA:∀i w h (r:List (List AV)),cD i w h→cD i w (h++[.live 4 false true r]))
 (hS:∀i w n h,L[i]?=some n→aF n=true→Vy k s n m.votes∉w→cD i w h→∃es,cl Dc (h.set M0 (Hr (lP kI iU (w++[Vy k s n m.votes])))) (some y) (some [.int .i64 n])=some (.ret (.bool true),es)∧cD (i+1) (w++[Vy k s n m.votes]) (Dm (h.set M0 (Hr (lP kI iU (w++[Vy k s n m.votes])))) es))
 (hN:∀i w n h,L[i]?=some n→¬(aF n=true∧Vy k s n m.votes∉w)→cD i w h→cD (i+1) w h)
 {h0:Ab} (hM0:M0=h0.length) (h0I:cD 0 [] (h0++[Hr []])):ShQ Dc 97 [y,.ptr lb 0 0,.ptr mb 0 0,.ptr kb 0 0,.ptr sb 0 0] h0 fun o h'=>o=.ret (.tup [])∧∃w,cD L.length w h':=by
 have hsv:=hs.votes
 obtain⟨x1,hl1⟩:=hl _ _ _ h0I
 obtain⟨x2,hl2⟩:=hlb _ _ _ h0I
 unfold Hr at hl1 hl2
 refine mZ rfl Try.func97 rfl rfl ?_
 simp only[Try.f97]
 (have hb:=trivial;with_reducible repeat' (first|simp only[hb,Vc.down,seval,aa6.down,Ol.down,hl1,hl2,acG]|refine Aq ?_ ?_<;>intro hb|refine fd ?_|fail))
 refine Dl (Ss 57 L (fun i (w:List Int) t h=>t 0=y∧t 2=.ptr mb 0 0∧t 3=.ptr kb 0 0∧t 4=.ptr sb 0 0∧t 6=.mapr M0∧t 13=.slr 1 b 0 L.length∧t 14=.int .i64 (L.length:Nat)∧t 15=.int .i64 (i:Int)∧cD i w h) (fun _ _=>()) (fun _ e t h=>e=.exit 0∧∃w,cD L.length w h) ?_ ?_ [] _ _ ?_) (fun e t h hk=>?_)
 ·rintro w t h Q' kQ ⟨g0,g2,g3,g4,g6,g13,g14,g15,hI⟩
  (have hb:=trivial;with_reducible repeat' (first|simp only[hb,Vc.down,seval,aa6.down,g14,g15,al7,decide_false]|refine Aq ?_ ?_<;>intro hb|refine fd ?_|fail))
  exact kQ _ _ _ ⟨rfl,w,hI⟩
 ·rintro n rest i w t h J Q' kJ kQ hx hi ⟨g0,g2,g3,g4,g6,g13,g14,g15,hI⟩
  have hdd:decide ((i:Int)<(L.length:Int))=true:=decide_eq_true (by omega)
  have hdp:((i:Int)<(L.length:Int))=True:=eq_true (by omega)
  have hww:=Av hi (by unfold maxLen;omega)
  obtain⟨x3,hb3⟩:=hlb _ _ _ hI
  obtain⟨x4,hm4⟩:=hmb _ _ _ hI
  (have hb:=trivial;with_reducible repeat' (first|simp only[hb,Vc.down,seval,aa6.down,g0,g2,g3,g4,g6,g13,g14,g15,hdd,hdp,hx,hb3,hm4,iv,acG]|refine Aq ?_ ?_<;>intro hb|refine fd ?_|fail))
  refine Dl (Ss 57 m.votes (fun j (c:Int) t h=>t 0=y∧t 2=.ptr mb 0 0∧t 3=.ptr kb 0 0∧t 4=.ptr sb 0 0∧t 6=.mapr M0∧t 13=.slr 1 b 0 L.length∧t 14=.int .i64 (L.length:Nat)∧t 15=.int .i64 (i:Int)∧t 8=.int .i64 n∧t 9=.int .i64 c∧t 20=Af 4 false m.nV (m.votes.map Aj.cells)∧t 21=.int .i64 (m.votes.length:Nat)∧t 22=.int .i64 (j:Int)∧cD i w h∧Yy (nD k s n (m.votes.drop j)) j c=Vy k s n m.votes) (fun _ _=>())
   (fun _ e t h=>e=.exit 2∧t 0=y∧t 2=.ptr mb 0 0∧t 3=.ptr kb 0 0∧t 4=.ptr sb 0 0∧t 6=.mapr M0∧t 13=.slr 1 b 0 L.length∧t 14=.int .i64 (L.length:Nat)∧t 15=.int .i64 (i:Int)∧t 8=.int .i64 n∧t 9=.int .i64 (Vy k s n m.votes)∧cD i w h) ?_ ?_ 0 _ _ ?_) (fun e t h hk'=>?_)
  ·rintro c t h Q'' kQ ⟨g0,g2,g3,g4,g6,g13,g14,g15,g8,g9,g20,g21,g22,hI,hc⟩
   (have hb:=trivial;with_reducible repeat' (first|simp only[hb,Vc.down,seval,aa6.down,g21,g22,al7,decide_false]|refine Aq ?_ ?_<;>intro hb|refine fd ?_|fail))
   rw[asX]at hc
   exact kQ _ _ _ ⟨rfl,by simp[up,g0],by simp[up,g2],by simp[up,g3],by simp[up,g4],by simp[up,g6],by simp[up,g13],by simp[up,g14],by simp[up,g15],by simp[up,g8],by simp only[up];rw[if_neg (by decide),g9,←hc];rfl,hI⟩
  ·rintro v rest2 j c t h J' Q'' kJ' kQ' hv hj ⟨g0,g2,g3,g4,g6,g13,g14,g15,g8,g9,g20,g21,g22,hI,hc⟩
   have hd2:decide ((j:Int)<(m.votes.length:Int))=true:=decide_eq_true (by omega)
   have hw2:=Av hj hsv
   have hvs:=hs.vs v (al6 hv)
   have hA1:=hA i w h [v.cells] hI
   obtain⟨x5,hk5⟩:=hkb _ _ _ hA1
   obtain⟨x6,hs6⟩:=hsb _ _ _ hA1
   have hC:=amY (l:=v.sens) (nn:=v.nn) k hvs
   have hS1:=ahK s v n
   have hdj:m.votes.drop j=v::m.votes.drop (j+1):=by
    obtain⟨h1,h2⟩:=aiH.1 hv
    rw[amP h1,h2]
   rw[hdj]at hc
   simp only[nD,aiI,Yy]at hc
   simp only[Aj.cells]at hk5 hs6 hA1
   simp only[Bz.cells]at hs6
   cases c1:(v.sens.any fun x=>k==x)with
   |false=>
    rw[c1]at hC hc
    simp only[Bool.false_and,as6,if_false]at hc
    (have hb:=trivial;with_reducible repeat' (first|simp only[hb,Vc.down,seval,aa6.down,g0,g2,g3,g4,g6,g13,g14,g15,g8,g9,g20,g21,g22,hd2,hw2,hv,hk5,hs6,hC,hS1,ad3,Aj.cells,acG]|refine Aq ?_ ?_<;>intro hb|refine fd ?_|fail))
    exact Ax (kJ' _ _ c ⟨by simp[up,g0],by simp[up,g2],by simp[up,g3],by simp[up,g4],by simp[up,g6],by simp[up,g13],by simp[up,g14],by simp[up,g15],by simp[up,g8],by simp[up,g9],by simp[up,g20],by simp[up,g21],by simp[up],hA1,hc⟩ rfl)
   |true=>
    rw[c1]at hC hc
    simp only[Bool.true_and]at hc
    cases c2:Qk s v n with
    |false=>
     rw[c2]at hS1 hc
     simp only[as6,if_false]at hc
     (have hb:=trivial;with_reducible repeat' (first|simp only[hb,Vc.down,seval,aa6.down,g0,g2,g3,g4,g6,g13,g14,g15,g8,g9,g20,g21,g22,hd2,hw2,hv,hk5,hs6,hC,hS1,ad3,Aj.cells,acG]|refine Aq ?_ ?_<;>intro hb|refine fd ?_|fail))
     exact Ax (kJ' _ _ c ⟨by simp[up,g0],by simp[up,g2],by simp[up,g3],by simp[up,g4],by simp[up,g6],by simp[up,g13],by simp[up,g14],by simp[up,g15],by simp[up,g8],by simp[up,g9],by simp[up,g20],by simp[up,g21],by simp[up],hA1,hc⟩ rfl)
    |true=>
     rw[c2]at hS1 hc
     simp only[if_true]at hc
     (have hb:=trivial;with_reducible repeat' (first|simp only[hb,Vc.down,seval,aa6.down,g0,g2,g3,g4,g6,g13,g14,g15,g8,g9,g20,g21,g22,hd2,hw2,hv,hk5,hs6,hC,hS1,ad3,Aj.cells,acG]|refine Aq ?_ ?_<;>intro hb|refine fd ?_|fail))
     exact Ax (kJ' _ _ (orN c (alF j)) ⟨by simp[up,g0],by simp[up,g2],by simp[up,g3],by simp[up,g4],by simp[up,g6],by simp[up,g13],by simp[up,g14],by simp[up,g15],by simp[up,g8],by simp[up,g9],by simp[up,g20],by simp[up,g21],by simp[up],hA1,hc⟩ rfl)
  ·exact⟨by simp[up,g0],by simp[up,g2],by simp[up,g3],by simp[up,g4],by simp[up,g6],by simp[up,g13],by simp[up,g14],by simp[up,g15],by simp[up],by simp[up],by simp[up],by simp[up],by simp[up],hI,by rw[List.drop_zero];rfl⟩
  obtain⟨rfl,g0,g2,g3,g4,g6,g13,g14,g15,g8,g9,hI⟩:=hk'
  have hmp:=hM _ _ _ hI
  have hV:=lN n
  by_cases hkp:aF n=true∧Vy k s n m.votes∉w
  ·obtain⟨k1,k2⟩:=hkp
   rw[k1]at hV
   have hlk:=aqS.lk_no (ty:=129) (z:=.bool false) Try.underlying129 (by kernel_rfl) hmp (fun _ _=>trivial) trivial k2 false
   have hms:=aqS.ms_new (ty:=129) Try.underlying129 hmp (fun _ _=>trivial) trivial k2 (.bool true)
   obtain⟨es,e1,e2⟩:=hS i w n h hx k1 k2 hI
   have hyy:(lP kI (fun y_1=>if y_1=Vy k s n m.votes then AV.bool true else iU y_1) (w++[Vy k s n m.votes]))=lP kI iU (w++[Vy k s n m.votes]):=by
    congr 1;funext q;split<;>rfl
   rw[hyy]at hms
   unfold kI at hlk hms e1 e2
   simp only[cond_false]at hlk
   (have hb:=trivial;with_reducible repeat' (first|simp only[hb,Vc.down,seval,aa6.down,Ol.down,g0,g2,g3,g4,g6,g13,g14,g15,g8,g9,hww,hV,hlk,hms,e1]|refine Aq ?_ ?_<;>intro hb|refine fd ?_|fail))
   exact Ax (kJ _ _ (w++[Vy k s n m.votes]) ⟨by simp[up,g0],by simp[up,g2],by simp[up,g3],by simp[up,g4],by simp[up,g6],by simp[up,g13],by simp[up,g14],by simp[up],e2⟩ rfl)
  ·have e2:=hN i w n h hx hkp hI
   cases cV:aF n with
   |false=>
    rw[cV]at hV
    (have hb:=trivial;with_reducible repeat' (first|simp only[hb,Vc.down,seval,aa6.down,Ol.down,g0,g2,g3,g4,g6,g13,g14,g15,g8,g9,hww,hV]|refine Aq ?_ ?_<;>intro hb|refine fd ?_|fail))
    exact Ax (kJ _ _ w ⟨by simp[up,g0],by simp[up,g2],by simp[up,g3],by simp[up,g4],by simp[up,g6],by simp[up,g13],by simp[up,g14],by simp[up],e2⟩ rfl)
   |true=>
    rw[cV]at hV
    have k2:Vy k s n m.votes∈w:=Classical.not_not.1 fun h2=>hkp ⟨cV,h2⟩
    have hlk:=aqS.lk_yes (ty:=129) (z:=.bool false) Try.underlying129 (by kernel_rfl) hmp (fun _ _=>trivial) k2 false
    unfold kI at hlk
    simp only[cond_false,iU]at hlk
    (have hb:=trivial;with_reducible repeat' (first|simp only[hb,Vc.down,seval,aa6.down,Ol.down,g0,g2,g3,g4,g6,g13,g14,g15,g8,g9,hww,hV,hlk]|refine Aq ?_ ?_<;>intro hb|refine fd ?_|fail))
    exact Ax (kJ _ _ w ⟨by simp[up,g0],by simp[up,g2],by simp[up,g3],by simp[up,g4],by simp[up,g6],by simp[up,g13],by simp[up,g14],by simp[up],e2⟩ rfl)
 ·exact⟨by simp[up,Eg],by simp[up,Eg],by simp[up,Eg],by simp[up,Eg],by simp[up,Eg,hM0],by simp[up,Eg],by simp[up,Eg],by simp[up,Eg],h0I⟩
 obtain⟨rfl,hI⟩:=hk
 (have hb:=trivial;with_reducible repeat' (first|simp only[hb,Vc.down,seval,aa6.down]|refine Aq ?_ ?_<;>intro hb|refine fd ?_|fail))
 exact hI
theorem aFY{n:Nat}{h:Ab}{nfl:Bool}{a b r len:Nat}{rows:List (List AV)}(hr:rows≠[]):apK n h (some (.slr a b r len)) (some (nfl,rows))=apS n h.length b r len nfl rows (h[b]?):=by
 obtain⟨x,l,rfl⟩:=List.exists_cons_of_ne_nil hr
 rfl
theorem aiT(l:List Int)(hl:l.length≤1000):
 Dc.call (.fn 65) [Af 1 true true (l.map iv)] []=some (.ret (.slr 1 0 0 l.length),[.live 1 true false (l.map iv)]):=by
 by_cases hne:l=[]
 ·subst hne
  rw[show Af 1 true true (([]:List Int).map iv)=.imm 1 true []from rfl]
  (refine ce Try.func65 ?_;simp only[Try.f65];(have hb:=trivial;with_reducible repeat' (first|simp only[hb,Vc.down,seval,blB.down]|refine Aq ?_ ?_<;>intro hb|refine fd ?_|fail)))
 ·have h2:l.map iv≠[]:=by simpa using hne
  have h3:((l.map iv).length≤549755813888)=True:=eq_true (by simp;omega)
  have hs:Af 1 true true (l.map iv)=.imm 1 true (l.map iv):=agX h2
  rw[hs]
  have h4:=fun(h:Ab) a b r len=>aFY (n:=1) (h:=h) (nfl:=true) (a:=a) (b:=b) (r:=r) (len:=len) h2
  simp only[acG]at h3
  (refine ce Try.func65 ?_;simp only[Try.f65];(have hb:=trivial;with_reducible repeat' (first|simp only[hb,Vc.down,seval,blB.down,h3,h4,acG]|refine Aq ?_ ?_<;>intro hb|refine fd ?_|fail)))
theorem dG{m:Ad}(h:Bh m=true):m.sens.length≤6:=by simp[Bh,Xd]at h;omega
theorem aE{m:Ad}(h:Bh m=true):0≤m.cmds∧m.cmds≤4:=by simp[Bh,Xd,To]at h;omega
def Ep(m:Ad):List Int:=(List.range (m.cmds+1).toNat).map fun(i:Nat)=>(i:Int)-1
theorem dV{m:Ad}(hm:Bh m=true):((Ep m).length:Int)=m.cmds+1:=by have:=aE hm;simp[Ep];omega
theorem ad7{m:Ad}{i:Nat}{c:Int}(h:(Ep m)[i]?=some c):c=(i:Int)-1:=by
 unfold Ep at h
 rw[List.getElem?_map]at h
 obtain⟨j,h1,rfl⟩:=Option.map_eq_some_iff.1 h
 obtain⟨h2,h3⟩:=aiH.1 h1
 simp at h3;omega
def Ji(m:Ad)(r:List Int):Int:=Vq m r m.votes 0 0
def tsc(x:List Int × Int):Ii:=⟨true,x.1,x.2⟩
def sgC(m:Ad)(x:List Int × Int):List AV:=[.int .i64 (Ji m x.1),.int .i64 x.2]
def scA(p:Nat):List AV:=[.ptr (p+6) 0 0,.ptr p 0 0,.ptr (p+4) 0 0,.ptr (p+1) 0 0,.ptr (p+2) 0 0,.ptr (p+7) 0 0]
def Pl:AV→List Nat
 | .slr _ b _ _=>[b]
 |_=>[]
structure uW(m:Ad)(p:Nat)(W:List Int)(X:List (List Int × Int))(now:List Int)(lv sv:AV)(rows:List (List AV))(Ro:List Nat)(H:Ab):Prop where
 h0:∃x,H[p]?=some (.live 7 false x [m.cells])
 h1:∃x,H[p+1]?=some (.live 1 false x [[lv]])
 h2:∃x,H[p+2]?=some (.live 1 false x [[sv]])
 h3:H[p+3]?=some (Hr (lP kI iU W))
 h4:∃x,H[p+4]?=some (.live 1 false x [[.mapr (p+3)]])
 h5:∃x,H[p+5]?=some (.live 1 true x (now.map iv))
 h6:∃x,H[p+6]?=some (.live 1 false x [[.slr 1 (p+5) 0 now.length]])
 h7:∃x,H[p+7]?=some (.live 1 false x [[.func (.func 78) [] (scA p)]])
 L:nH 2 (p+8) lv H rows (X.map fun x=>(tsc x).cells) Ro
 S:(X=[]∧sv=.nils)∨∃b x,sv=.slr 2 b 0 X.length∧H[b]?=some (.live 2 true x (X.map (sgC m)))∧p+8≤b∧b∉Ro∧b∉Pl lv∧X≠[]
 len:rows.length=X.length
theorem uW.cl{m:Ad}{p:Nat}{W:List Int}{X:List (List Int × Int)}{now:List Int}{lv sv:AV}{rows:List (List AV)}{Ro:List Nat}{H G:Ab}(h:uW m p W X now lv sv rows Ro H)(e:Hf H=Hf G):uW m p W X now lv sv rows Ro G:=
 ⟨Ir e h.h0,Ir e h.h1,Ir e h.h2,aoN e h.h3,Ir e h.h4,Ir e h.h5,Ir e h.h6,Ir e h.h7,h.L.cl e,by
   rcases h.S with h|⟨b,x,h1,h2,h3⟩
   ·exact .inl h
   ·obtain⟨x',h4⟩:=Ir e ⟨x,h2⟩
    exact .inr ⟨b,x',h1,h4,h3⟩,h.len⟩
def oW(p:Nat)(lv sv:AV):List Nat:=[p+1,p+2,p+3,p+5]++Pl lv++Pl sv
theorem uW.keep{m:Ad}{p:Nat}{W W':List Int}{X:List (List Int × Int)}{now:List Int}{lv sv:AV}{rows:List (List AV)}{Ro:List Nat}{H G:Ab}(h:uW m p W X now lv sv rows Ro H)(hl:H.length≤G.length)(k:∀b,b<H.length→b≠p+3→Ge H G b)(h3:G[p+3]?=some (Hr (lP kI iU W'))):uW m p W' X now lv sv rows Ro G:=by
 obtain⟨h0,h1,h2,_,h4,h5,h6,h7,hL,hS,hl'⟩:=h
 have l:=fun {b st:Nat} {fl:Bool} {r:List (List AV)} (g:∃x,H[b]?=some (.live st fl x r)) (hn:b≠p+3)=>(k b (by obtain⟨x,g⟩:=g;exact An g) hn).live g
 refine⟨l h0 (by omega),l h1 (by omega),l h2 (by omega),h3,l h4 (by omega),l h5 (by omega),l h6 (by omega),l h7 (by omega),hL.sm hl fun b b1 b2=>k b b2 (by omega),?_,hl'⟩
 rcases hS with h|⟨b,x,g1,g2,g3,g4⟩
 ·exact .inl h
 ·obtain⟨x',g5⟩:=l ⟨x,g2⟩ (by omega)
  exact .inr ⟨b,x',g1,g5,g3,g4⟩
theorem aBV{m:Ad}(hs:m.small)(hm:Bh m=true){p:Nat}{W:List Int}{X:List (List Int × Int)}{now:List Int}{lv sv:AV}{rows:List (List AV)}{Ro:List Nat}{H:Ab}(hq:Bc H=true)(hF:uW m p W X now lv sv rows Ro H)(hnl:now.length=m.sens.length)(hin:Ji m now∈W):
 ShQ Dc 78 ([.int .i64 (now.length:Int)]++scA p) H fun o G=>o=.ret (.tup [])∧Hf G=Hf (H++[.live 1 true false [[.int .i64 (now.length:Int)]]])∧Ns H G:=by
 obtain⟨⟨x0,h0⟩,⟨x1,h1⟩,⟨x2,h2⟩,h3,⟨x4,h4⟩,⟨x5,h5⟩,⟨x6,h6⟩,⟨x7,h7⟩,hL,hS,hl⟩:=id hF
 have hv:=yU m (l:=now) (nn:=true) hnl hs (rX hm)
 rw[Wv]at hv
 have htk:List.take now.length (now.map iv)=now.map iv:=anC (by simp)
 have hlk:=fun l=>aqS.lk_yes (ty:=129) (z:=.bool false) Try.underlying129 (by kernel_rfl) (Ac h3 l) (fun _ _=>trivial) hin false
 unfold kI at hlk
 simp only[cond_false,iU,Ji]at hlk
 refine mZ rfl Try.func78 rfl rfl ?_
 simp only[Try.f78,scA,anF,an5]
 (have hb:=trivial;with_reducible repeat' (first|simp only[hb,Vc.down,seval,adV.down,Ol.down,Ac h0,Ac h4,Ac h5,Ac h6,hv,htk,hlk,acG,beq_self_eq_true]|refine Aq ?_ ?_<;>intro hb|refine fd ?_|fail))
 exact(Ns.refl _).app _
structure ScL(m:Ad)(p:Nat)(W:List Int)(X:List (List Int × Int))(now:List Int)(lv sv:AV)(H h:Ab):Prop where
 F:∃lv' sv' rows' Ro',uW m p W X now lv' sv' rows' Ro' h∧∀b∈Pl lv'++Pl sv',b∈Pl lv++Pl sv∨H.length≤b
 w:Ns H h
 q:Bc h=true
 k:∀b,b<H.length→b∉oW p lv sv→Ge H h b
theorem qX:∀(l:List AV),(∀x∈l,AV.sameKey x x=true)→AV.sameL l l=true
 | [],_=>rfl
 |a::l,h=>by
  simp only[AV.sameL,ah3]
  exact⟨h a (by simp),qX l fun x hx=>h x (by simp[hx])⟩
theorem avQ(W:List Int):(Hr (lP kI iU W)).quiet (Hr (lP kI iU W)).clean=true:=qX _ fun x hx=>by
 unfold lP at hx
 obtain⟨n,_,hx⟩:=List.mem_flatMap.1 hx
 simp only[aiK,al2,or_false]at hx
 rcases hx with rfl|rfl<;>simp[kI,iU,AV.sameKey,AV.same]
theorem ScL.step{m:Ad}{p:Nat}{W:List Int}{Y:List (List Int × Int)}{now:List Int}{lv sv lv' sv':AV}{rows':List (List AV)}{Ro':List Nat}{H h G:Ab}(F:uW m p W Y now lv' sv' rows' Ro' h)(hnb:∀b∈Pl lv'++Pl sv',b∈Pl lv++Pl sv∨H.length≤b)(hk:∀b,b<H.length→b∉oW p lv sv→Ge H h b)(hHh:H.length≤h.length)
 {c:Int} {b0 m1 m2 n:Nat} (hn:n=Y.length+1) (d1:h.length≤b0) (d2:h.length≤m1) (d3:h.length≤m2) (d4:b0≠m1) (d5:b0≠m2) (d6:m1≠m2) (hl:h.length≤G.length)
 (e1:∃x,G[p+1]?=some (.live 1 false x [[.slr 2 m1 0 n]])) (e2:∃x,G[p+2]?=some (.live 1 false x [[.slr 2 m2 0 n]])) (e3:∃x,G[m1]?=some (.live 2 false x (rows'++[[.slr 1 b0 0 now.length,.int .i64 c]]))) (e4:∃x,G[m2]?=some (.live 2 true x (Y.map (sgC m)++[sgC m (now,c)]))) (e5:∃x,G[b0]?=some (.live 1 true x (now.map iv)))
 (e6:∀b,b<h.length→b≠p+1→b≠p+2→b∉Pl lv'→b∉Pl sv'→Ge h G b) (hw:Ns H G) (hq:Bc G=true):ScL m p W (Y++[(now,c)]) now lv sv H G:=by
 obtain⟨h0,h1,h2,h3,h4,h5,h6,h7,hL,hS,hl'⟩:=F
 have lvb:∀b∈Pl lv',p+8≤b∧b∉Ro':=fun b hb=>by
  cases lv'<;>simp[Pl]at hb
  subst hb
  obtain⟨a1,a2,_⟩:=hL.dov _ _ _ _ rfl
  exact⟨a1,a2⟩
 have svb:∀b∈Pl sv',p+8≤b∧b∉Ro':=fun b hb=>by
  rcases hS with⟨_,rfl⟩|⟨b',x,rfl,g2,g3,g4,g5⟩
  ·simp[Pl]at hb
  ·simp[Pl]at hb;subst hb;exact⟨g3,g4⟩
 have hph:p+7<h.length:=by obtain⟨x,h7⟩:=h7;exact An h7
 have sm:∀b,b<p+8→b≠p+1→b≠p+2→Ge h G b:=fun b hb n1 n2=>e6 b (by omega) n1 n2 (fun hb2=>by have:=(lvb b hb2).1;omega) (fun hb2=>by have:=(svb b hb2).1;omega)
 have lR:=fB (by omega) hL.q
 obtain⟨x5,e5⟩:=e5
 obtain⟨x3,e3⟩:=e3
 obtain⟨x4,e4⟩:=e4
 have hr:Xa (rd 5 (hf G)) [.slr 1 b0 0 now.length,.int .i64 c]=some ((tsc (now,c)).cells,[b0]):=by
  have:=Oq (f:=rd 5 (hf G)) (wO (g:=hf G) (d:=4) (st:=1) (b:=b0) (n:=now.length) (rows:=now.map iv) (by show(G[b0]?).bind Ci=_;rw[e5];rfl) (by simp)) (Oq (vB (g:=hf G) (d:=4) .i64 c) nL)
  simpa [Ii.cells,tsc,Wv]using this
 refine⟨⟨.slr 2 m1 0 n,.slr 2 m2 0 n,rows'++[[.slr 1 b0 0 now.length,.int .i64 c]],Ro'++[b0],⟨(sm p (by omega) (by omega) (by omega)).live h0,e1,e2,(sm _ (by omega) (by omega) (by omega)).map h3,(sm _ (by omega) (by omega) (by omega)).live h4,(sm _ (by omega) (by omega) (by omega)).live h5,(sm _ (by omega) (by omega) (by omega)).live h6,(sm _ (by omega) (by omega) (by omega)).live h7,?_,.inr ⟨m2,x4,by simp[hn],by rw[al3];exact e4,by omega,?_,by simp[Pl];omega,by simp⟩,?_⟩,fun b hb=>?_⟩,hw,hq,fun b hb hn'=>?_⟩
 ·rw[al3]
  refine hL.step e3 (fun j hj z hz=>(e6 j (lR j hj) (by have:=hL.dx j hj;omega) (by have:=hL.dx j hj;omega) (fun hb=>(lvb j hb).2 hj) (fun hb=>(svb j hb).2 hj)).rows hz) hr (fun b hb=>by simp at hb;subst hb;exact⟨by omega,d4⟩) (by omega) (fun hb=>by have:=lR _ hb;omega) (by rw[hl',hn])
 ·intro hb
  rcases acZ.1 hb with hb|hb
  ·have:=lR _ hb;omega
  ·simp at hb;omega
 ·simp[hl']
 ·simp[Pl]at hb
  right;omega
 ·have hn2:b∉Pl lv'∧b∉Pl sv':=by
   constructor<;>intro hb2
   ·rcases hnb b (List.mem_append_left _ hb2)with h|h
    ·exact hn' (acZ.2 (by rcases acZ.1 h with h|h;exact .inl (aoC _ h);exact .inr h))
    ·omega
   ·rcases hnb b (aoC _ hb2)with h|h
    ·exact hn' (acZ.2 (by rcases acZ.1 h with h|h;exact .inl (aoC _ h);exact .inr h))
    ·omega
  exact(hk b hb hn').trans (e6 b (by omega) (fun e=>hn' (by simp[oW,e])) (fun e=>hn' (by simp[oW,e])) hn2.1 hn2.2)
theorem aAB{m:Ad}(hs:m.small)(hm:Bh m=true){p:Nat}{W:List Int}{X:List (List Int × Int)}{now:List Int}{lv sv:AV}{rows:List (List AV)}{Ro:List Nat}{H:Ab}(hq:Bc H=true)(hF:uW m p W X now lv sv rows Ro H)(hnl:now.length=m.sens.length)(hin:Ji m now∉W)(hX:X.length≤1000):
 ShQ Dc 78 ([.int .i64 (now.length:Int)]++scA p) H fun o G=>o=.ret (.tup [])∧ScL m p (W++[Ji m now]) (X++(Ep m).map fun c=>(now,c)) now lv sv H G:=by
 obtain⟨⟨x0,h0⟩,⟨x1,h1⟩,⟨x2,h2⟩,h3,⟨x4,h4⟩,⟨x5,h5⟩,⟨x6,h6⟩,⟨x7,h7⟩,hL,hS,hl⟩:=id hF
 have hv:=yU m (l:=now) (nn:=true) hnl hs (rX hm)
 rw[Wv]at hv
 have htk:List.take now.length (now.map iv)=now.map iv:=anC (by simp)
 have hlk:=fun l=>aqS.lk_no (ty:=129) (z:=.bool false) Try.underlying129 (by kernel_rfl) (Ac h3 l) (fun _ _=>trivial) trivial hin false
 have hms:=fun l=>aqS.ms_new (ty:=129) Try.underlying129 (Ac h3 l) (fun _ _=>trivial) trivial hin (.bool true)
 have hyy:(lP kI (fun y_1=>if y_1=Ji m now then AV.bool true else iU y_1) (W++[Ji m now]))=lP kI iU (W++[Ji m now]):=by
  congr 1;funext q;split<;>rfl
 rw[hyy]at hms
 obtain⟨bt,hbt⟩:∃bt,Vq m now m.votes 0 0=bt:=⟨_,rfl⟩
 have hbt':Ji m now=bt:=hbt
 rw[hbt]at hv
 rw[hbt']at hlk hms ⊢
 unfold kI at hlk hms
 simp only[cond_false]at hlk
 obtain⟨mp,hmp⟩:∃mp,lP (fun n=>AV.int .i64 n) iU (W++[bt])=mp:=⟨_,rfl⟩
 rw[hmp]at hms
 have hsa:=Jt (An h3)
 refine mZ rfl Try.func78 rfl rfl ?_
 simp only[Try.f78,scA,anF,an5]
 (have hb:=trivial;with_reducible repeat' (first|simp only[hb,Vc.down,seval,adV.down,Ol.down,Ac h0,Ac h4,Ac h5,Ac h6,hv,htk,hlk,hms,hsa,acG,beq_self_eq_true]|refine Aq ?_ ?_<;>intro hb|refine fd ?_|fail))
 have st0:ScL m p (W++[bt]) (X++((Ep m).take 0).map fun c=>(now,c)) now lv sv H (H.set (p+3) (Hr mp)++[.live 1 true false [[.int .i64 (now.length:Int)]]]):=by
  have hsm:∀b,b<H.length→b≠p+3→Ge H (H.set (p+3) (Hr mp)++[.live 1 true false [[.int .i64 (now.length:Int)]]]) b:=fun b hb hn=>((Ge.refl H b).set (fun e=>hn e.symm) _).app (by simpa using hb) _
  refine⟨⟨lv,sv,rows,Ro,?_,fun b hb=>.inl hb⟩,((Ns.refl H).map h3 mp).app _,Bw (Dj hq _ ?_) rfl,fun b hb hn=>hsm b hb (by simp[oW]at hn;omega)⟩
  ·rw[List.take_zero,ao3,List.append_nil]
   refine hF.keep (by simp) hsm ?_
   rw[adD (by simpa using An h3),acK (An h3),←hmp];rfl
  ·rw[←hmp];exact avQ _
 have hcl:=dV hm
 have hc4:=aE hm
 refine Dl (Ss 54 (Ep m) (fun i (_:Unit) t h=>t 1=.ptr (p+6) 0 0∧t 2=.ptr p 0 0∧t 4=.ptr (p+1) 0 0∧t 5=.ptr (p+2) 0 0∧t 8=.int .i64 bt∧t 9=.int .i64 ((i:Int)-1)∧ScL m p (W++[bt]) (X++((Ep m).take i).map fun c=>(now,c)) now lv sv H h) (fun _ _=>()) (fun _ e t h=>e=.exit 0∧ScL m p (W++[bt]) (X++(Ep m).map fun c=>(now,c)) now lv sv H h) ?_ ?_ () _ _ ?_) (fun e t h hk=>?_)
 ·rintro _ t h Q' kQ ⟨g1,g2,g4,g5,g8,g9,hI⟩
  obtain⟨lv',sv',rows',Ro',F',_⟩:=hI.F
  obtain⟨y0,k0⟩:=F'.h0
  have hdd:decide (((Ep m).length:Int)-1<m.cmds)=false:=decide_eq_false (by omega)
  rw[asI]at hI
  (have hb:=trivial;with_reducible repeat' (first|simp only[hb,Vc.down,seval,adV.down,g2,g9,k0,hdd]|refine Aq ?_ ?_<;>intro hb|refine fd ?_|fail))
  exact kQ _ _ _ ⟨rfl,hI⟩
 ·rintro c rest i _ t h J Q' kJ kQ hx hi ⟨g1,g2,g4,g5,g8,g9,hI⟩
  have hce:=ad7 hx
  have hdd:decide ((i:Int)-1<m.cmds)=true:=decide_eq_true (by omega)
  rw[←hce]at g9 hdd
  have hww:IntKind.i64.wrap (c+1)=c+1:=Ed (by omega) (by omega)
  obtain⟨⟨lv',sv',rows',Ro',F',hnb⟩,hw,hqh,hk⟩:=hI
  obtain⟨⟨y0,k0⟩,⟨y1,k1⟩,⟨y2,k2⟩,k3,⟨y4,k4⟩,⟨y5,k5⟩,⟨y6,k6⟩,⟨y7,k7⟩,kL,kS,kl'⟩:=id F'
  have hcn:=aiT now (by have:=dG hm;omega)
  rw[Wv]at hcn
  rcases kS with⟨hX0,rfl⟩|⟨b2,w2,rfl,kb2,kp2,kr2,kn2,kne⟩
  ·have hr0:rows'=[]:=by rw[hX0]at kl';exact as8.1 kl'
   subst hr0
   have hlv:=kL.nil rfl
   subst hlv
   have hpl:p+7<h.length:=An k7
   obtain⟨sf,s1,s2,s5,s6,sn,sk⟩:∃sf:Nat→Nat,sf (p+1)=1∧sf (p+2)=2∧sf (p+5)=5∧sf (p+6)=6∧sf h.length=10∧∀k,sf (h.length+k)=k+10:=⟨fun b=>if h.length≤b then b-h.length+10 else b-p,by simp;omega,by simp;omega,by simp;omega,by simp;omega,by simp,fun k=>by simp⟩
   have hS1:=Jt (An k1)
   have k2S:=fun c l=>Us (b:=p+1) c (by omega) k2 l
   (have hb:=trivial;with_reducible repeat' (first|simp only[hb,Vc.down,seval,adV.down,g1,g2,g4,g5,g8,g9,k0,k1,k2,k5,k6,Ac k0,Ac k1,Ac k2,Ac k5,Ac k6,hS1,k2S,hdd,hww,hcn,htk,acG]|refine Aq ?_ ?_<;>intro hb|((refine Zi (Up (sf) ?_) ?_);(simp (discharger:=decide) only[Zq,Ul,aiI,ao3,Qd,Zo,Zk,Zh,Qc,ahZ,apC,s1,s2,s5,s6,sn,sk];kernel_rfl);intro _)|refine fdq ?_|fail))
   obtain⟨N,hN⟩:∃N:Ab,[CB.live 1 true false (now.map iv),.live 2 false false [[.slr 1 h.length 0 now.length,.int .i64 c]],.live 2 false false [[.slr 1 h.length 0 now.length,.int .i64 c]],.live 2 true false [[.int .i64 bt,.int .i64 c]],.live 2 true false [[.int .i64 bt,.int .i64 c]]]=N:=⟨_,rfl⟩
   rw[hN]
   have tk:(Ep m).take (i+1)=(Ep m).take i++[c]:=by rw[aiC,hx];rfl
   have gk:∀(k:Nat) (d1 d2:CB),((h.set (p+1) d1++N).set (p+2) d2)[h.length+k]?=N[k]?:=fun k d1 d2=>by rw[acE (by omega),Gj]
   have hNl:N.length=5:=by rw[←hN];rfl
   refine Ax (kJ _ _ () ⟨by simp[up,g1],by simp[up,g2],by simp[up,g4],by simp[up,g5],by simp[up,g8],by simp[up];omega,?_⟩ rfl)
   rw[tk,al3,←al4]
   have hYl:(X++((Ep m).take i).map fun c=>(now,c)).length=0:=by rw[hX0];rfl
   refine ScL.step F' hnb hk hw.1 (c:=c) (b0:=h.length) (m1:=h.length+2) (m2:=h.length+4) (n:=1) (by rw[hYl]) (by omega) (by omega) (by omega) (by omega) (by omega) (by omega) (by simp) ⟨true,?_⟩ ⟨true,?_⟩ ⟨false,?_⟩ ⟨false,?_⟩ ⟨false,?_⟩ (fun b hb n1 n2 _ _=>?_) ?_ ?_
   ·rw[acE (by omega),adD (by simp;omega),acK (by omega)]
   ·rw[acK (by simp;omega)]
   ·rw[gk,←hN];rfl
   ·rw[gk,←hN,hX0,←hbt'];rfl
   ·exact(gk 0 _ _).trans (by rw[←hN];rfl)
   ·exact(((Ge.refl h b).set (fun e=>n1 e.symm) _).app (by simpa using hb) _).set (fun e=>n2 e.symm) _
   ·exact((hw.put k1 1 false _).app N).put (by rw[adD (by simp;omega),acE (by omega)];exact k2) 1 false _
   ·exact Dj (Bw (Dj hqh _ rfl) (by rw[←hN];rfl)) _ rfl
  ·rcases kL.own with⟨hr0,rfl⟩|⟨b1,w1,rfl,kb1⟩
   ·rw[hr0]at kl';exact absurd (as8.1 kl'.symm) kne
   obtain⟨Y,hY⟩:∃Y,X++((Ep m).take i).map (fun c=>(now,c))=Y:=⟨_,rfl⟩
   rw[hY]at F' kL kb2 kl' kne k2
   have hYl:Y.length≤2000:=by rw[←hY];simp;omega
   obtain⟨kd1,kd2,kd3⟩:=kL.dov _ _ _ _ rfl
   have hn12:b1≠b2:=fun e=>kn2 (by simp[Pl,e])
   have hpl:p+7<h.length:=An k7
   have h2l:=An kb2
   obtain⟨sf,s1,s2,s5,s6,s7,s8,sn,sk⟩:∃sf:Nat→Nat,sf (p+1)=1∧sf (p+2)=2∧sf (p+5)=5∧sf (p+6)=6∧sf b1=7∧sf b2=8∧sf h.length=10∧∀k,sf (h.length+k)=k+10:=⟨fun b=>if h.length≤b then b-h.length+10 else if b=b1 then 7 else if b=b2 then 8 else b-p,by show(if _ then _ else _)=_;rw[if_neg (by omega),if_neg (by omega),if_neg (by omega)];omega,by show(if _ then _ else _)=_;rw[if_neg (by omega),if_neg (by omega),if_neg (by omega)];omega,by show(if _ then _ else _)=_;rw[if_neg (by omega),if_neg (by omega),if_neg (by omega)];omega,by show(if _ then _ else _)=_;rw[if_neg (by omega),if_neg (by omega),if_neg (by omega)];omega,by show(if _ then _ else _)=_;rw[if_neg (by omega),if_pos rfl],by show(if _ then _ else _)=_;rw[if_neg (by omega),if_neg (by omega),if_pos rfl],by simp,fun k=>by simp⟩
   have hb1A:=Ac kb1
   have hb2A:=Ac kb2
   have e39:(rows'.length+1≤549755813888)=True:=eq_true (by omega)
   have f39:(Y.length+1≤549755813888)=True:=eq_true (by omega)
   have hSb:=Jt (An kb1)
   have b2S:=fun c l=>Us (b:=b1) c hn12 kb2 l
   have k2b:=fun c l=>Us (b:=b1) c (by omega) k2 l
   have hSb2:=fun l c=>Jt (h:=h.set b1 CB.dead) (b:=b2) (by simp;omega) l c
   have gq:∀(b:Nat) (cb:CB),b≠b1→b≠b2→h[b]?=some cb→((h.set b1 CB.dead).set b2 CB.dead)[b]?=some cb:=fun b cb n1 n2 g=>by
    rw[acE (fun e=>n2 e.symm),acE (fun e=>n1 e.symm)];exact g
   have k1q:=Ac (gq _ _ (by omega) (by omega) k1)
   have hS1q:=Jt (h:=(h.set b1 CB.dead).set b2 CB.dead) (b:=p+1) (by simp;omega)
   have k2q:=fun c l=>Us (b:=p+1) c (by omega) (gq _ _ (by omega) (by omega) k2) l
   (have hb:=trivial;with_reducible repeat' (first|simp only[hb,Vc.down,seval,adV.down,g1,g2,g4,g5,g8,g9,k0,k1,k2,k5,k6,Ac k0,Ac k1,Ac k2,Ac k5,Ac k6,hb1A,hb2A,hSb,b2S,k2b,hSb2,k1q,hS1q,k2q,Gj,Lm,apH,e39,f39,hdd,hww,hcn,htk,acG]|refine Aq ?_ ?_<;>intro hb|((refine Zi (Up (sf) ?_) ?_);(simp (discharger:=decide) only[Zq,Ul,aiI,ao3,Qd,Zo,Zk,Zh,Qc,ahZ,apC,s1,s2,s5,s6,s7,s8,sn,sk];kernel_rfl);intro _)|refine fdq ?_|fail))
   rw[kl']at *
   obtain⟨N,hN⟩:∃N:Ab,[CB.live 1 true false (now.map iv),.live 2 false false [[.slr 1 h.length 0 now.length,.int .i64 c]],.live 2 false false (rows'++[[.slr 1 h.length 0 now.length,.int .i64 c]]),.live 2 true false [[.int .i64 bt,.int .i64 c]],.live 2 true false (Y.map (sgC m)++[[.int .i64 bt,.int .i64 c]])]=N:=⟨_,rfl⟩
   rw[hN]
   have tk:(Ep m).take (i+1)=(Ep m).take i++[c]:=by rw[aiC,hx];rfl
   have gk:∀(k:Nat) (d1 d2:CB),((((h.set b1 CB.dead).set b2 CB.dead).set (p+1) d1++N).set (p+2) d2)[h.length+k]?=N[k]?:=fun k d1 d2=>by
    have:=Gj (h:=(h.set b1 CB.dead).set b2 CB.dead) (b:=p+1) d1 N k
    simp only[apH]at this
    rw[acE (by omega),this]
   have hNl:N.length=5:=by rw[←hN];rfl
   refine Ax (kJ _ _ () ⟨by simp[up,g1],by simp[up,g2],by simp[up,g4],by simp[up,g5],by simp[up,g8],by simp[up];omega,?_⟩ rfl)
   rw[tk,al3,←al4,hY]
   refine ScL.step F' hnb hk hw.1 (c:=c) (b0:=h.length) (m1:=h.length+2) (m2:=h.length+4) (n:=Y.length+1) rfl (by omega) (by omega) (by omega) (by omega) (by omega) (by omega) (by simp) ⟨true,?_⟩ ⟨true,?_⟩ ⟨false,?_⟩ ⟨false,?_⟩ ⟨false,?_⟩ (fun b hb n1 n2 n3 n4=>?_) ?_ ?_
   ·rw[acE (by omega),adD (by simp;omega),acK (by simp;omega)]
   ·rw[acK (by simp;omega)]
   ·rw[gk,←hN];rfl
   ·rw[gk,←hN,←hbt'];rfl
   ·exact(gk 0 _ _).trans (by rw[←hN];rfl)
   ·simp only[Pl,aiK,al2,or_false]at n3 n4
    exact(((((Ge.refl h b).set (fun e=>n3 e.symm) _).set (fun e=>n4 e.symm) _).set (fun e=>n1 e.symm) _).app (by simpa using hb) _).set (fun e=>n2 e.symm) _
   ·exact((((hw.kill kb1).kill (by rw[acE hn12];exact kb2)).put (gq _ _ (by omega) (by omega) k1) 1 false _).app N).put (by rw[adD (by simp;omega),acE (by omega)];exact gq _ _ (by omega) (by omega) k2) 1 false _
   ·exact Dj (Bw (Dj (Dj (Dj hqh _ rfl) _ rfl) _ rfl) (by rw[←hN];rfl)) _ rfl
 ·exact⟨by simp[up,Eg],by simp[up,Eg],by simp[up,Eg],by simp[up,Eg],by simp[up],by simp[up],st0⟩
 obtain⟨rfl,hI⟩:=hk
 (have hb:=trivial;with_reducible repeat' (first|simp only[hb,Vc.down,seval,adV.down]|refine Aq ?_ ?_<;>intro hb|refine fd ?_|fail))
 exact hI
def rdF(m:Ad)(k:Nat):List Int:=Qu aF (fun n=>Vy k (Qb m k) n m.votes) (Yr (dI (Qb m k) m.votes)) []
def jK(m:Ad)(s:List Int × List (List Int × Int))(r:List Int):List Int × List (List Int × Int):=if Ji m r∈s.1 then s else(s.1++[Ji m r],s.2++(Ep m).map fun c=>(r,c))
theorem aJJ:∀l:List Bool,l.length≤6→0≤Yy l 0 0∧Yy l 0 0<64:=by
 intro l hl
 rcases l with _|⟨a,_|⟨b,_|⟨c,_|⟨d,_|⟨e,_|⟨f,_|⟨g,l⟩⟩⟩⟩⟩⟩⟩
 ·exact⟨by decide,by decide⟩
 ·cases a<;>decide
 ·cases a<;>cases b<;>decide
 ·cases a<;>cases b<;>cases c<;>decide
 ·cases a<;>cases b<;>cases c<;>cases d<;>decide
 ·cases a<;>cases b<;>cases c<;>cases d<;>cases e<;>decide
 ·cases a<;>cases b<;>cases c<;>cases d<;>cases e<;>cases f<;>decide
 ·simp only[ahZ]at hl;omega
theorem awH{m:Ad}(hm:Bh m=true)(r:List Int):0≤Ji m r∧Ji m r<64:=by
 unfold Ji
 rw[pV]
 exact aJJ _ (by rw[acG];exact gY hm)
theorem aaR:∀(n:Nat) (l:List Int),l.Nodup→(∀x∈l,0≤x∧x<n)→l.length≤n
 |0,[],_,_=>by simp
 |0,a::l,_,h=>by have:=h a (by simp);omega
 |n+1,l,hn,h=>by
  by_cases e:(n:Int)∈l
  ·have h1:=aaR n (l.erase n) (hn.erase _) fun x hx=>by
    have h2:=h x (List.mem_of_mem_erase hx)
    have h3:x≠n:=fun e2=>by subst e2;exact(hn.not_mem_erase) hx
    omega
   rw[List.length_erase_of_mem e]at h1
   omega
  ·exact Nat.le_succ_of_le (aaR n l hn fun x hx=>by
    have h2:=h x hx
    have h3:x≠n:=fun e2=>e (e2▸hx)
    omega)
structure Few(m:Ad)(s:List Int × List (List Int × Int)):Prop where
 nd:s.1.Nodup
 lt:∀x∈s.1,0≤x∧x<64
 len:s.2.length=s.1.length*(Ep m).length
theorem Few.put{m:Ad}(hm:Bh m=true){s:List Int × List (List Int × Int)}(h:Few m s)(r:List Int):Few m (jK m s r):=by
 unfold jK
 split
 ·exact h
 ·rename_i hn
  refine⟨List.nodup_append.2 ⟨h.nd,by simp,fun a ha b hb=>by simp at hb;subst hb;exact fun e=>hn (e▸ha)⟩,fun x hx=>?_,?_⟩
  ·rcases acZ.1 hx with hx|hx
   ·exact h.lt x hx
   ·simp at hx;subst hx;exact awH hm r
  ·simp only[al5,acG,ahZ,apC,h.len,Nat.zero_add,Nat.add_mul,Nat.one_mul]
theorem Few.le{m:Ad}(hm:Bh m=true){s:List Int × List (List Int × Int)}(h:Few m s):s.2.length≤320:=by
 have h1:=aaR 64 s.1 h.nd h.lt
 have h2:=dV hm
 have h3:=aE hm
 rw[h.len]
 calc s.1.length*(Ep m).length≤64*5:=Nat.mul_le_mul h1 (by omega)
  _=320:=rfl
theorem Few.start(m:Ad):Few m ([],[]):=⟨by simp,by simp,by simp⟩
theorem bmV{vs:List AV}{b:Nat}{h:Ab}{ps:List Nat}{asg body:Code}{tm:List AV}{st:Uw}{Q:Gp→Ab→Prop}(hb:h[b]?=some (.lp ps asg body tm st))(hl:ps.length=vs.length)
 (he:RnE b Q (avG Dc Try.prog b body (Ej Dc Try.prog 5000 asg [] ⟨Zu tm ps vs,h⟩))):RnQ Dc (vs++[.yl b]) h Q:=RnQ.start (pr:=pr) hb hl he
theorem tR{m:Ad}(hm:Bh m=true):∀(l:List (List Int)) {s:List Int × List (List Int × Int)},Few m s→Few m (l.foldl (jK m) s)
 | [],_,h=>h
 |r::l,_,h=>tR hm l (h.put hm r)
def fD(m:Ad)(k d:Nat):List (List Int):=(List.range d).map fun j=>rdF m (k+j)
theorem abC(m:Ad)(k d:Nat):fD m k (d+1)=rdF m k::fD m (k+1) d:=by
 unfold fD
 rw[List.range_succ_eq_map,aiI,List.map_map]
 congr 1
 refine as9 fun j _=>?_
 simp only[Function.comp,Nat.succ_eq_add_one]
 congr 1;omega
def dP(m:Ad)(k d:Nat)(now:List Int)(s:List Int × List (List Int × Int)):List Int × List (List Int × Int):=((Vu (fD m k d)).map (now.take k++·)).foldl (jK m) s
def ax1(m:Ad)(k:Nat)(n:Int):Int:=Vy k (Qb m k) n m.votes
def vQ(m:Ad)(k:Nat):List Int:=Yr (dI (Qb m k) m.votes)
def asT(m:Ad)(k d:Nat)(now:List Int)(R:List Int)(s:List Int × List (List Int × Int)):List Int × List (List Int × Int):=(R.flatMap fun n=>(Vu (fD m (k+1) d)).map fun q=>now.take k++n::q).foldl (jK m) s
theorem atH(m:Ad)(k d:Nat)(now:List Int)(s:List Int × List (List Int × Int)):asT m k d now (rdF m k) s=dP m k (d+1) now s:=by
 unfold asT dP
 rw[abC,show Vu (rdF m k::fD m (k+1) d)=(rdF m k).flatMap fun n=>(Vu (fD m (k+1) d)).map (n::·)from rfl,List.map_flatMap]
 congr 1
 congr 1
 funext n
 rw[List.map_map];rfl
theorem arE(m:Ad)(k d:Nat)(now:List Int)(n:Int)(R:List Int)(s:List Int × List (List Int × Int)){now':List Int}(ht:now'.take k=now.take k)(hk:k<now'.length):asT m k d now (n::R) s=asT m k d now R (dP m (k+1) d (now'.set k n) s):=by
 unfold asT dP
 rw[apN,List.foldl_append]
 congr 2
 refine as9 fun q _=>?_
 have:(now'.set k n).take (k+1)=now'.take k++[n]:=by
  rw[aiC,acK hk,atA (by omega)];rfl
 rw[this,ht];simp
structure ScI(m:Ad)(p k d:Nat)(now:List Int)(fin:List Int × List (List Int × Int))(lv sv:AV)(H h1:Ab)(LP:CB)(b B:Nat)(i:Nat)(w:List Int)(h:Ab):Prop where
 F:∃now' st lv' sv' rows' Ro',now'.length=now.length∧now'.take k=now.take k∧Few m st∧uW m p st.1 st.2 now' lv' sv' rows' Ro' h∧(∀c∈Pl lv'++Pl sv',c∈Pl lv++Pl sv∨B+1<c)∧asT m k d now (Qu aF (ax1 m k) ((vQ m k).drop i) w) st=fin
 ws:Ns h1 h
 q:Bc h=true
 kp:∀c,c<H.length→c∉oW p lv sv→Ge H h c
 b0:∃x,h[H.length]?=some (.live 1 true x [[.int .i64 (k:Int)]])
 b1:∃x,h[H.length+1]?=some (.live 7 false x [m.cells])
 b2:∃x,h[H.length+2]?=some (.live 1 true x [[.int .i64 (k:Int)]])
 b3:∃x,h[H.length+3]?=some (.live 3 true x [(Qb m k).cells])
 b5:∃x,h[H.length+5]?=some (.live 1 false x [[.slr 1 b 0 (vQ m k).length]])
 bb:∃x,h[b]?=some (.live 1 true x ((vQ m k).map iv))
 lp:h[B]?=some LP
 mp:h[B+1]?=some (Hr (lP kI iU w))
theorem ag2{a:List Nat}{b c:Code}{e:List AV}{st:Uw}(d:CB)(hd:d.clean=(CB.lp a b c e st).clean):d=.lp a b c e st:=by
 cases d<;>simp_all[CB.clean]
theorem uW.app{m:Ad}{p:Nat}{W:List Int}{X:List (List Int × Int)}{now:List Int}{lv sv:AV}{rows:List (List AV)}{Ro:List Nat}{H:Ab}(h:uW m p W X now lv sv rows Ro H)(l:Ab):uW m p W X now lv sv rows Ro (H++l):=
 h.keep (by simp) (fun b hb _=>(Ge.refl H b).app hb l) (Ac h.h3 l)
theorem uW.put{m:Ad}{p:Nat}{W:List Int}{X:List (List Int × Int)}{now:List Int}{lv sv:AV}{rows:List (List AV)}{Ro:List Nat}{H:Ab}(h:uW m p W X now lv sv rows Ro H){B:Nat}{d:CB}(hB:p+8≤B)(g:H[B]?=some d)(hn:Ci d=none)(c:CB):uW m p W X now lv sv rows Ro (H.set B c):=by
 obtain⟨h0,h1,h2,h3,h4,h5,h6,h7,hL,hS,hl⟩:=h
 have l:=fun {b st:Nat} {fl:Bool} {r:List (List AV)} (gg:∃x,H[b]?=some (.live st fl x r)) (hn:b≠B)=>((Ge.refl H b).set (fun e=>hn e.symm) c).live gg
 refine⟨l h0 (by omega),l h1 (by omega),l h2 (by omega),by rw[acE (by omega)];exact h3,l h4 (by omega),l h5 (by omega),l h6 (by omega),l h7 (by omega),hL.put g hn c,?_,hl⟩
 rcases hS with h|⟨b,x,g1,g2,g3⟩
 ·exact .inl h
 ·obtain⟨x',g5⟩:=l ⟨x,g2⟩ (fun e=>by rw[e,g]at g2;cases g2;cases hn)
  exact .inr ⟨b,x',g1,g5,g3⟩
theorem Ti{O:Hv}{H:Ab}{f:Nat}{args:List AV}{Q:Gp→Ab→Prop}(hq:Bc H=true)(K:ShQ O f args (Hf H) fun o G=>Q o G∧Ns (Hf H) G∧Bc G=true):
 ∃o G es M,shK H (O.call (.sh f) args (Hf H))=some (o,es)∧Dm H es=M∧Q o G∧Hf M=Hf G∧Ns H M∧Bc M=true:=by
 obtain⟨o,G,hc,hQ,hw,hg⟩:=K
 obtain⟨es,M,m1,m2,m3,m4,m5⟩:=apM (o:=o) hq hw hg
 exact⟨o,G,es,M,by rw[hc];exact m1,m2,hQ,m3,m4,m5⟩
theorem uW.now{m:Ad}{p:Nat}{W:List Int}{X:List (List Int × Int)}{now now2:List Int}{lv sv:AV}{rows:List (List AV)}{Ro:List Nat}{H:Ab}(h:uW m p W X now lv sv rows Ro H)(hn:now2.length=now.length)(x:Bool):uW m p W X now2 lv sv rows Ro (H.set (p+5) (.live 1 true x (now2.map iv))):=by
 obtain⟨h0,h1,h2,h3,h4,h5,h6,h7,hL,hS,hl⟩:=h
 have sm:∀b,b≠p+5→Ge H (H.set (p+5) (.live 1 true x (now2.map iv))) b:=fun b hb=>(Ge.refl H b).set (fun e=>hb e.symm) _
 refine⟨(sm _ (by omega)).live h0,(sm _ (by omega)).live h1,(sm _ (by omega)).live h2,(sm _ (by omega)).map h3,(sm _ (by omega)).live h4,⟨x,?_⟩,?_,(sm _ (by omega)).live h7,hL.sm (by simp) (fun b hb _=>sm b (by omega)),?_,hl⟩
 ·obtain⟨z,h5⟩:=h5
  exact acK (An h5)
 ·rw[hn];exact(sm _ (by omega)).live h6
 ·rcases hS with h|⟨b,z,g1,g2,g3⟩
  ·exact .inl h
  ·obtain⟨z',g5⟩:=(sm b (by omega)).live ⟨z,g2⟩
   exact .inr ⟨b,z',g1,g5,g3⟩
theorem bhH{m:Ad}(hs:m.small)(hm:Bh m=true){p:Nat}:∀(d k:Nat) (W:List Int) (X:List (List Int × Int)) (now:List Int) (lv sv:AV) (rows:List (List AV)) (Ro:List Nat) (H:Ab),
 Bc H=true→uW m p W X now lv sv rows Ro H→Few m (W,X)→now.length=m.sens.length→k+d=m.sens.length→
 ShQ Dc 78 ([.int .i64 (k:Int)]++scA p) H fun o G=>o=.ret (.tup [])∧∃now',now'.length=now.length∧now'.take k=now.take k∧ScL m p (dP m k d now (W,X)).1 (dP m k d now (W,X)).2 now' lv sv H G:=by
 intro d
 induction d with
 |zero=>
  intro k W X now lv sv rows Ro H hq hF hf hnl hkd
  have e1:dP m k 0 now (W,X)=jK m (W,X) now:=by
   unfold dP fD
   rw[anC (by omega)]
   simp[Vu]
  rw[e1]
  obtain rfl:k=now.length:=by omega
  by_cases hin:Ji m now∈W
  ·obtain⟨o,G,hc,rfl,hcl,hw⟩:=aBV hs hm hq hF hnl hin
   have e2:jK m (W,X) now=(W,X):=if_pos hin
   rw[e2]
   have hsm:∀b,b<H.length→Ge H G b:=fun b hb=>((Ge.refl H b).app hb _).eqR hcl.symm
   refine⟨_,G,hc,rfl,now,rfl,rfl,⟨lv,sv,rows,Ro,hF.keep hw.1 (fun b hb _=>hsm b hb) ((hsm _ (An hF.h3)).map hF.h3),fun b hb=>.inl hb⟩,hw,uK hcl.symm (Bw hq rfl),fun b hb _=>hsm b hb⟩
  ·have e2:jK m (W,X) now=(W++[Ji m now],X++(Ep m).map fun c=>(now,c)):=if_neg hin
   rw[e2]
   obtain⟨o,G,hc,rfl,hL⟩:=aAB hs hm hq hF hnl hin (by have:=hf.le hm;simp only at this;omega)
   exact⟨_,G,hc,rfl,now,rfl,rfl,hL⟩
 |succ d ih=>
  intro k W X now lv sv rows Ro H hq hF hf hnl hkd
  obtain⟨⟨x0,h0⟩,⟨x1,h1⟩,⟨x2,h2⟩,h3,⟨x4,h4⟩,⟨x5,h5⟩,⟨x6,h6⟩,⟨x7,h7⟩,hL,hS,hl⟩:=id hF
  have hne:((k:Int)==(now.length:Int))=false:=by simp;omega
  have hq1:Bc (H++[.live 1 true false [[.int .i64 (k:Int)]]])=true:=Bw hq rfl
  obtain⟨o,G1,es,M,e1,e2,⟨hK,hgq,rfl,b0,b1,b2,b,xb,yb,hbl,hbn,b4,b5⟩,hcl,hw,hqM⟩:=bcV (O:=Dc) (f:=79) (vs:=[.agg m.cells,.int .i64 (k:Int)]) (cap:=[]) hq1 rfl rfl (by
   have:=am4 m hs hm (k:=(k:Int)) (by omega) (by rw[atB];omega) (Ha hq1)
   obtain⟨o,G,c1,c2⟩:=this
   exact⟨o,G,c1,c2,c2.1.wst,c2.2.1⟩)
  have hlen:(Hf (H++[.live 1 true false [[.int .i64 (k:Int)]]])).length=H.length+1:=by simp[Cm]
  rw[hlen]at e1 b0 b1 b2 b4 hbl hbn
  have hca:Hf (H++[.live 1 true false [[.int .i64 (k:Int)]]])=Hf H++[.live 1 true false [[.int .i64 (k:Int)]]]:=by simp[Hf,CB.clean]
  have e1':shK (H++[.live 1 true false [[.int .i64 (k:Int)]]]) (Dc.call (.sh 79) [.agg [Af 3 true m.nS (m.sens.map Bz.cells),Af 4 false m.nV (m.votes.map Aj.cells),Af 5 false m.nM (m.moves.map Ap.cells),.int .i64 m.states,.int .i64 m.cmds,.int .i64 m.bgn,Af 1 true m.nO (m.opn.map iv)],.int .i64 (k:Int)] (Hf H++[.live 1 true false [[.int .i64 (k:Int)]]]))=some (.ret (.func (.func 97) [] [.ptr (H.length+5) 0 0,.ptr (H.length+1) 0 0,.ptr (H.length+2) 0 0,.ptr (H.length+3) 0 0]),es):=by
   rw[←hca]
   exact e1
  refine mZ rfl Try.func78 rfl rfl ?_
  simp only[Try.f78,scA,anF,an5]
  (have hb:=trivial;with_reducible repeat' (first|simp only[hb,Vc.down,seval,adV.down,Ol.down,Ac h0,Ac h6,hne,e1',e2,acG]|refine Aq ?_ ?_<;>intro hb|refine fd ?_|fail))
  generalize hLP:CB.lp _ _ _ _ _=LP
  have hgetk:=cR (m:=m) (k:=(k:Int)) (by rw[atB];omega)
  have hlen2:(vQ m k).length=(dI (Qb m k) m.votes).length:=ae2 _
  have hlm:(vQ m k).length≤1000:=by rw[hlen2,lG];have:=gY hm;omega
  have smM:∀c,c<H.length+1→Ge (H++[.live 1 true false [[.int .i64 (k:Int)]]]) M c:=fun c hc=>by
   have:Ge (Hf (H++[.live 1 true false [[.int .i64 (k:Int)]]])) G1 c:=Ge.of (hK.same c (by rw[hlen];exact hc) (by simp))
   exact(this.eqL (Gz _)).eqR hcl.symm
  have hMl:H.length+6≤M.length:=by
   have:=abO hcl
   have:=An b4
   omega
  have bM:b<M.length:=by have:=abO hcl;have:=An b5;omega
  refine bgP (bfC hs hm (k:=(k:Int)) (s:=Qb m k) (L:=vQ m k) (lb:=H.length+5) (mb:=H.length+1) (kb:=H.length+2) (sb:=H.length+3) (b:=b) (M0:=M.length+1) hlm (ScI m p k d now (dP m k (d+1) now (W,X)) lv sv H (Hf M++[LP]) LP b M.length) (fun i w h I=>I.b5) (fun i w h I=>I.bb) (fun i w h I=>I.b1) (fun i w h I=>I.b2) (fun i w h I=>I.b3) (fun i w h I=>I.mp) ?_ ?_ ?_ ?_ ?_) ?_
  ·intro i w h r I
   obtain⟨⟨now',st,lv',sv',rows',Ro',a1,a2,a3,a4,a5,a6⟩,a7,a8,a9,⟨y0,k0⟩,⟨y1,k1⟩,⟨y2,k2⟩,⟨y3,k3⟩,⟨y5,k5⟩,⟨yb,kb⟩,kl,km⟩:=I
   have hHl:H.length<h.length:=An k0
   exact⟨⟨now',st,lv',sv',rows',Ro',a1,a2,a3,a4.app _,a5,a6⟩,a7.app _,Bw a8 rfl,fun c hc hn=>(a9 c hc hn).app (by omega) _,⟨y0,Ac k0 _⟩,⟨y1,Ac k1 _⟩,⟨y2,Ac k2 _⟩,⟨y3,Ac k3 _⟩,⟨y5,Ac k5 _⟩,⟨yb,Ac kb _⟩,Ac kl _,Ac km _⟩
  ·intro i w n h hx hvn hnw I
   obtain⟨⟨now',st,lv',sv',rows',Ro',a1,a2,a3,a4,a5,a6⟩,a7,a8,a9,k0,k1,k2,k3,k5,kb,kl,km⟩:=I
   obtain⟨mv,hmv⟩:∃mv,Hr (lP kI iU (w++[Vy (k:Int) (Qb m (k:Int)) n m.votes]))=mv:=⟨_,rfl⟩
   rw[hmv]
   have hp8:p+7<H.length:=An h7
   have hBl:M.length+1<h.length:=An km
   obtain⟨h1,hh1⟩:∃h1,h.set (M.length+1) mv=h1:=⟨_,rfl⟩
   rw[hh1]
   have sm1:∀c,c≠M.length+1→Ge h h1 c:=fun c hc=>by rw[←hh1];exact(Ge.refl h c).set (fun e=>hc e.symm) mv
   have hq1:Bc h1=true:=by rw[←hh1,←hmv];exact Dj a8 _ (avQ _)
   have hl1:h1.length=h.length:=by rw[←hh1];simp
   have sc1:∀c,c≠M.length+1→c≠M.length→∀X:CB,Ge h ((Hf h1).set M.length X) c:=fun c n1 n2 X=>((sm1 c n1).eqR (Gz h1).symm).set (fun e=>n2 e.symm) X
   have lpc:(Hf h1)[M.length]?=some LP:=((sm1 M.length (by omega)).eqR (Gz h1).symm).keep kl fun d hd=>by rw[←hLP]at hd ⊢;exact ag2 d hd
   obtain⟨z5,j5⟩:=a4.h5
   have live:∀{c st:Nat} {fl:Bool} {r:List (List AV)},(∃x,h[c]?=some (.live st fl x r))→c≠M.length+1→c≠M.length→∀X:CB,((Hf h1).set M.length X)[c]?=some (.live st fl false r):=fun {c st fl r} g n1 n2 X=>by
    obtain⟨x,g⟩:=(sm1 c n1).live g
    rw[acE (fun e=>n2 e.symm),Nx g];rfl
   have f0:=fun X=>live k0 (by omega) (by omega) X
   have f5:=fun X=>live a4.h5 (by omega) (by omega) X
   have f6:=fun X=>live a4.h6 (by omega) (by omega) X
   have f7:=fun X=>live a4.h7 (by omega) (by omega) X
   have hk6:=dG hm
   have hwk:IntKind.i64.wrap ((k:Int)+1)=((k+1:Nat):Int):=by rw[Ed (by omega) (by omega)];rfl
   have hkN:((k:Int)<(now'.length:Int))=True:=eq_true (by omega)
   have hset:(now'.map iv).set k [.int .i64 n]=(now'.set k n).map iv:=by rw[List.map_set];rfl
   have hlv:∀c∈Pl lv++Pl sv,c<H.length:=fun c hc=>by
    rcases acZ.1 hc with hc|hc
    ·cases lv<;>simp[Pl]at hc
     subst hc
     exact(hL.dov _ _ _ _ rfl).2.2
    ·rcases hS with⟨_,rfl⟩|⟨b',x,rfl,g2,_⟩
     ·simp[Pl]at hc
     ·simp[Pl]at hc;subst hc;exact An g2
   have own':∀c,c≤M.length+1→c∉oW p lv sv→c∉oW p lv' sv':=fun c hc hn hm=>by
    simp only[oW,al4,acZ,aiK,al2,or_false]at hn hm
    rcases hm with hm|hm
    ·exact hn (.inl hm)
    ·rcases a5 c (acZ.2 hm)with h|h
     ·exact hn (.inr (acZ.1 h))
     ·omega
   have ownH:∀c,H.length≤c→c≤M.length+1→c∉oW p lv sv:=fun c hc _ hm=>by
    simp only[oW,al4,acZ,aiK,al2,or_false]at hm
    rcases hm with hm|hm
    ·omega
    ·have:=hlv c (acZ.2 hm);omega
   have lpq:LP.quiet LP.clean=true:=by rw[←hLP];rfl
   obtain⟨y9,hgk⟩:∃y,now'[k]?=some y:=⟨now'[k]'(by omega),asS _⟩
   obtain⟨o,G3,es,M3,y1,y2,⟨rfl,ylp,now2,l2,t2,⟨lv2,sv2,rows2,Ro2,F2,b2⟩,sm2⟩,ycl,yw,yq⟩:=biC (O:=Dc) (H:=h1) (b:=M.length) (vs:=[.int .i64 n]) (Q:=fun o G=>o=.ret (.bool true)∧G[M.length]?=some LP∧∃now2,now2.length=now.length∧now2.take (k+1)=(now'.set k n).take (k+1)∧(∃lv2 sv2 rows2 Ro2,uW m p (dP m (k+1) d (now'.set k n) st).1 (dP m (k+1) d (now'.set k n) st).2 now2 lv2 sv2 rows2 Ro2 G∧∀c∈Pl lv2++Pl sv2,c∈Pl lv'++Pl sv'∨h.length≤c)∧∀c,c<h.length→c∉oW p lv' sv'→c≠M.length→Ge h1 G c) hq1 (by
    obtain⟨Hc,hHc⟩:∃Hc,Hf h1=Hc:=⟨_,rfl⟩
    rw[hHc]at lpc f0 f5 f6 f7 ⊢
    have e7:∀X Y:CB,((Hc.set M.length X).set (p+5) Y)[p+7]?=_:=fun X Y=>(acE (by omega)).trans (f7 X)
    have e0:∀X Y:CB,((Hc.set M.length X).set (p+5) Y)[H.length]?=_:=fun X Y=>(acE (by omega)).trans (f0 X)
    subst hLP
    refine bmV lpc rfl ?_
    (have hb:=trivial;with_reducible repeat' (first|simp only[hb,Vc.down,seval,adV.down,lpc,f0,f5,f6,f7,e7,e0,hwk,hkN,hset,hgk,iv,apH,acG]|refine Aq ?_ ?_<;>intro hb|refine fd ?_|fail))
    generalize hLB:CB.lp _ _ _ _ Uw.busy=LB
    obtain⟨H2,hH2⟩:∃H2,(Hc.set M.length LB).set (p+5) (CB.live 1 true true (List.map iv (now'.set k n)))=H2:=⟨_,rfl⟩
    rw[hH2]
    have hLBc:∀d:CB,d.clean=LB.clean→d=LB:=fun d hd=>by rw[←hLB]at hd ⊢;exact ag2 d hd
    have hLBq:LB.quiet LB.clean=true:=by rw[←hLB];rfl
    have F1:uW m p st.1 st.2 now' lv' sv' rows' Ro' h1:=by rw[←hh1];exact a4.put (by omega) km rfl _
    have F2:uW m p st.1 st.2 now' lv' sv' rows' Ro' Hc:=by rw[←hHc];exact F1.cl (Gz h1).symm
    have F3:uW m p st.1 st.2 now' lv' sv' rows' Ro' (Hc.set M.length LB):=F2.put (by omega) lpc rfl _
    have F4:uW m p st.1 st.2 (now'.set k n) lv' sv' rows' Ro' H2:=by rw[←hH2];exact F3.now (by simp) _
    have hqc:Bc Hc=true:=by rw[←hHc];exact Ha hq1
    have hq2:Bc H2=true:=by rw[←hH2];exact Dj (Dj hqc _ hLBq) _ rfl
    have hl2:H2.length=h.length:=by rw[←hH2,←hHc];simp[Cm,hl1]
    have w1:Ns (Hc.set M.length LB) H2:=by
     obtain⟨z,g⟩:=F3.h5
     rw[←hH2];exact(Ns.refl _).put g 1 true _
    obtain⟨o,G,es,M2,g1,g2,⟨rfl,now2,l2,t2,SL⟩,g4,g5,g6⟩:=Ti (O:=Dc) (H:=H2) (f:=78) (args:=.int .i64 ((k+1:Nat):Int)::scA p) (Q:=fun o G=>o=.ret (.tup [])∧∃now2,now2.length=(now'.set k n).length∧now2.take (k+1)=(now'.set k n).take (k+1)∧ScL m p (dP m (k+1) d (now'.set k n) st).1 (dP m (k+1) d (now'.set k n) st).2 now2 lv' sv' (Hf H2) G) hq2 (by
     obtain⟨o,G,c,rfl,now2,x1,x2,SL⟩:=ih (k+1) st.1 st.2 (now'.set k n) lv' sv' rows' Ro' (Hf H2) (Ha hq2) (F4.cl (Gz H2).symm) a3 (by simp;omega) (by omega)
     exact⟨_,G,c,⟨rfl,now2,x1,x2,SL⟩,SL.w,SL.q⟩)
    rw[g1]
    have smH:∀c,c<h.length→c∉oW p lv' sv'→c≠M.length→Ge h1 M2 c:=fun c c1 c2 c3=>by
     have e1:Ge h1 H2 c:=by
      rw[←hH2,←hHc]
      exact(((Ge.refl h1 c).eqR (Gz h1).symm).set (fun e=>c3 e.symm) LB).set (fun e=>c2 (by simp[oW,e])) _
     exact((e1.eqR (Gz H2).symm).trans (SL.k c (by rw[Cm];omega) c2)).eqR g4.symm
    have mB:M2[M.length]?=some LB:=by
     have e1:(Hf H2)[M.length]?=some LB:=by
      have:H2[M.length]?=some LB:=by rw[←hH2,acE (by omega),acK (An lpc)]
      exact((Ge.refl H2 M.length).eqR (Gz H2).symm).keep this hLBc
     exact qS g4.symm ((SL.k M.length (by rw[Cm];omega) (own' _ (by omega) (ownH _ (by omega) (by omega)))).keep e1 hLBc) hLBc
    subst hLB
    (have hb:=trivial;with_reducible repeat' (first|simp only[hb,Vc.down,seval,adV.down,g2,mB]|refine Aq ?_ ?_<;>intro hb|refine fd ?_|fail))
    obtain⟨⟨lv2,sv2,rows2,Ro2,G5,G6⟩,_,_,_⟩:=SL
    refine⟨_,_,rfl,⟨rfl,acK (An mB),now2,by rw[l2];simp;omega,t2,⟨lv2,sv2,rows2,Ro2,(G5.cl g4.symm).put (by omega) mB rfl _,fun c hc=>by have:=G6 c hc;rwa[Cm,hl2]at this⟩,fun c c1 c2 c3=>(smH c c1 c2 c3).set (fun e=>c3 e.symm) _⟩,(w1.trans g5).back lpc,Dj g6 _ (by rfl)⟩
    )
   have bl:∀c,H.length≤c→c<M.length→Ge h M3 c:=fun c c1 c2=>((sm1 c (by omega)).trans (sm2 c (by omega) (own' c (by omega) (ownH c c1 (by omega))) (by omega))).eqR ycl.symm
   refine⟨es,y1,?_⟩
   rw[y2]
   refine⟨⟨now2,dP m (k+1) d (now'.set k n) st,lv2,sv2,rows2,Ro2,l2,?_,by unfold dP;exact tR hm _ a3,F2.cl ycl.symm,fun c hc=>?_,?_⟩,(a7.trans ?_).trans yw,yq,fun c c1 c2=>((a9 c c1 c2).trans ((sm1 c (by omega)).trans (sm2 c (by omega) (own' c (by omega) c2) (by omega)))).eqR ycl.symm,(bl _ (by omega) (by omega)).live k0,(bl _ (by omega) (by omega)).live k1,(bl _ (by omega) (by omega)).live k2,(bl _ (by omega) (by omega)).live k3,(bl _ (by omega) (by omega)).live k5,(bl _ (by omega) (by omega)).live kb,qS ycl.symm ylp fun d hd=>by rw[←hLP]at hd ⊢;exact ag2 d hd,?_⟩
   ·have e1:now2.take k=(now2.take (k+1)).take k:=by rw[atX];congr 1;omega
    rw[e1,t2,atX,show min k (k+1)=k by omega,atA (by omega),a2]
   ·rcases b2 c hc with h|h
    ·exact a5 c h
    ·right;omega
   ·obtain⟨q1,q2⟩:=aiH.1 hx
    rw[amP q1,q2,Qu,if_pos (show aF n=true∧ax1 m k n∉w from⟨hvn,hnw⟩)]at a6
    rw[←a6]
    exact(arE m k d now n _ st a2 (by omega)).symm
   ·rw[←hh1,←hmv];exact(Ns.refl h).map km _
   ·have e1:h1[M.length+1]?=some (Hr (lP kI iU (w++[Vy (k:Int) (Qb m (k:Int)) n m.votes]))):=by rw[←hh1,hmv];exact acK hBl
    exact((sm2 (M.length+1) (by omega) (own' _ (by omega) (ownH _ (by omega) (by omega))) (by omega)).eqR ycl.symm).map e1
  ·intro i w n h hx hnk I
   obtain⟨⟨now',st,lv',sv',rows',Ro',a1,a2,a3,a4,a5,a6⟩,a7,a8,a9,k0,k1,k2,k3,k5,kb,kl,km⟩:=I
   refine⟨⟨now',st,lv',sv',rows',Ro',a1,a2,a3,a4,a5,?_⟩,a7,a8,a9,k0,k1,k2,k3,k5,kb,kl,km⟩
   obtain⟨q1,q2⟩:=aiH.1 hx
   rw[amP q1,q2,Qu,if_neg (show ¬(aF n=true∧ax1 m k n∉w)from hnk)]at a6
   exact a6
  ·simp[Cm]
  ·have hs2:∀c,c<H.length+1→Ge (H++[.live 1 true false [[.int .i64 (k:Int)]]]) (Hf M++[LP]++[Hr []]) c:=fun c hc=>((((smM c hc).trans (Ge.refl M c)).eqR (Gz M).symm).app (by rw[Cm];omega) _).app (by simp[Cm];omega) _
   have hs3:∀c,c<H.length→Ge H (Hf M++[LP]++[Hr []]) c:=fun c hc=>((Ge.refl H c).app hc _).trans (hs2 c (by omega))
   have gM:∀{c st:Nat} {fl:Bool} {r:List (List AV)},(∃x,G1[c]?=some (.live st fl x r))→∃x,(Hf M++[LP]++[Hr []])[c]?=some (.live st fl x r):=fun {c st fl r} g=>by
    obtain⟨x,g⟩:=Ir (hcl.symm.trans (Gz M).symm) g
    exact⟨x,Ac (Ac g _) _⟩
   refine⟨⟨now,(W,X),lv,sv,rows,Ro,rfl,rfl,hf,hF.keep (by simp[Cm];omega) (fun c hc _=>hs3 c hc) ((hs3 _ (An h3)).map h3),fun c hc=>.inl hc,atH m k d now (W,X)⟩,(Ns.refl _).app _,?_,fun c hc _=>hs3 c hc,(hs2 H.length (by omega)).live ⟨false,by simp⟩,gM b0,gM b1,gM b2,gM ⟨xb,by rw[hlen2];exact b4⟩,gM ⟨yb,b5⟩,?_,?_⟩
   ·refine Bw (Bw (Ha hqM) ?_) (avQ [])
    rw[←hLP];rfl
   ·rw[adD (by simp[Cm]),al9 (by rw[Cm];omega),Cm,Nat.sub_self];rfl
   ·rw[al9 (by simp[Cm])];simp[Cm,lP]
  ·rintro o h' ⟨rfl,w,I⟩
   obtain⟨⟨now',st,lv',sv',rows',Ro',a1,a2,a3,a4,a5,a6⟩,a7,a8,a9,k0,k1,k2,k3,k5,kb,kl,km⟩:=I
   have hLq:Bc [LP]=true:=by rw[←hLP];rfl
   have hLc:Hf (M++[LP])=Hf M++[LP]:=by rw[←hLP];simp[Hf,CB.clean]
   obtain⟨es2,M2,f1,f2,f3,f4,f5⟩:=apM (o:=.ret (.tup [])) (Bw hqM hLq) (by rw[hLc];exact a7) a8
   have mB:M2[M.length]?=some LP:=qS f3.symm kl fun d hd=>by rw[←hLP]at hd ⊢;exact ag2 d hd
   rw[f1]
   subst hLP
   (have hb:=trivial;with_reducible repeat' (first|simp only[hb,Vc.down,seval,adV.down,f2,mB]|refine Aq ?_ ?_<;>intro hb|refine fd ?_|fail))
   have hdr:(vQ m k).drop (vQ m k).length=[]:=asX
   rw[hdr]at a6
   have e6:st=dP m k (d+1) now (W,X):=by rw[←a6];rfl
   subst e6
   refine⟨now',a1,a2,⟨⟨lv',sv',rows',Ro',(a4.cl f3.symm).put (by have:=An h7;omega) mB rfl _,fun c hc=>(a5 c hc).imp id fun h=>by omega⟩,?_,Dj f5 _ rfl,fun c hc hn=>?_⟩⟩
   ·exact(((((Ns.refl H).app _).trans hw).app _).trans f4).hi (by omega) _
   ·exact((a9 c hc hn).eqR f3.symm).set (by omega) _
end Go.Proofs.Ytfkokgjfpojeoaa
