/- The functions of the layer, walked. -/
import Derived.Test.YtfkokgjfpojeoaaPartAC
import Derived.Test.YtfkokgjfpojeoaaLibE
open List renaming getElem?_set_ne→acL,length_map→acR,getElem?_set_self→acZ,mem_append→aqD,getElem?_append_left→aAM,length_cons→aAN,take_add_one→aAP,getElem?_eq_some_iff→aCF,map_cons→aC6,mem_cons→aC7,not_mem_nil→aEO,map_append→aER,append_assoc→aE9,length_append→aG6,mem_of_getElem?→aHJ,getElem?_append_right→aIC,drop_eq_getElem_cons→aID,take_of_length_le→aJZ,cons_append→aKM,nil_append→aLD,mem_append_right→aLE,map_nil→aLF,length_nil→aLG,length_set→aLH,flatMap_cons→aLI,all_eq_true→aM9,getElem?_eq_none→aOD,take_length→aON,getElem?_eq_getElem→aOW,drop_length→aOX,length_eq_zero_iff→aOZ,map_congr_left→aPA,take_set_of_le→aPH,take_take→aRF
open Bool renaming and_eq_true→aAO,false_eq_true→aOY
open Int renaming lt_irrefl→aHM,toNat_natCast→aQ7
set_option linter.unusedSimpArgs false
set_option linter.unusedVariables false
namespace Go.Proofs.Ytfkokgjfpojeoaa
open Go.Ev Go
set_option maxRecDepth 100000
set_option maxHeartbeats 16000000
def tH(s:Db)(vs:List Au):List Int:=[-10000,s.lo,s.hi+1]++vs.flatMap fun v=>[v.level,v.level+1]
theorem aeU(s:Db):∀vs:List Au,(tH s vs).length=3+2*vs.length
 | []=>rfl
 |v::vs=>by
  have:=aeU s vs
  simp only[tH,aG6,aAN,aLI]at this ⊢
  simp at this ⊢;omega
theorem aqP{m:Ah}(h:Ce m=true){s:Db}(hs:s∈m.sens): -10000≤s.lo∧s.lo≤s.hi∧s.hi≤10000:=by
 unfold Ce at h
 simp only[aAO,aM9]at h
 have:=h.1.1.1.2 s hs
 simp only[aB4,mD,Qy,aAO,Bool.not_eq_true',decide_eq_true_eq,decide_eq_false_iff_not]at this
 omega
theorem aN6{m:Ah}(h:Ce m=true){v:Au}(hv:v∈m.votes): -10000≤v.level∧v.level≤10000:=by
 unfold Ce at h
 simp only[aAO,aM9]at h
 have:=h.1.1.2 v hv
 simp only[oN,mD,Qy,aAO,decide_eq_true_eq]at this
 omega
theorem a7S{h:Aa}(hq:Bv h=true){b:Nat}{w:Bool}{zs:List Int}(hb:h[b]?=some (.live 1 true w (zs.map iv)))(h1:1≤zs.length)(h2:zs.length≤1000):
 ∃es,cl Ec h (some (.func (.func 96) [] [])) (some [.slr 1 b 0 zs.length])=some (.ret (.tup []),es)∧Eh h es=h.set b (.live 1 true true ((fQ zs).map iv)):=by
 have hbl:=Aw hb
 have hbc:=Qh hb
 simp only[CB.clean]at hbc
 have hp:aHV [.slr 1 b 0 zs.length] (Hj h)=some (.ret (.tup []),(Hj h).set b (.live 1 true true ((fQ zs).map iv))):=by
  simp only[aHV,hbc]
  rw[if_pos ⟨by simp,h1,by omega⟩]
  have:ac2 (zs.map iv)=some zs:=aPR zs
  rw[this];rfl
 have K:ShQ Ec 96 [.slr 1 b 0 zs.length] (Hj h) fun o G=>o=.ret (.tup [])∧G=(Hj h).set b (.live 1 true true ((fQ zs).map iv)):=⟨_,_,aX3 (P:=Try.prog) (pr:=pr) (p:=aHV) rfl hp,rfl,rfl⟩
 have kp:aKW [b] (Hj h) ((Hj h).set b (.live 1 true true ((fQ zs).map iv))):=⟨by simp,fun i hi hn=>by rw[acL (fun e=>hn (by simp[e]))]⟩
 have hX:∀i∈[b],i<h.length∧∀c0 c,h[i]?=some c0→((Hj h).set b (.live 1 true true ((fQ zs).map iv)))[i]?=some c→c0.isLive=true∧c0.quiet c=false:=fun i hi=>by
  simp at hi;subst hi
  refine⟨hbl,fun c0 c k1 k2=>?_⟩
  rw[hb]at k1;rw[acZ (by rw[Ee];exact hbl)]at k2
  cases k1;cases k2;exact⟨rfl,rfl⟩
 obtain⟨g1,g2,g3,g4,g5⟩:=aZN hq kp hX
 obtain⟨o,G,es,e1,e2,rfl,rfl⟩:=a3V rfl rfl K (fun o G hQ=>by obtain⟨_,rfl⟩:=hQ;exact g1)
 refine⟨es,e1,?_⟩
 rw[e2]
 apply List.ext_getElem?
 intro i
 by_cases hi:i<h.length
 ·by_cases e:i=b
  ·subst e
   rw[acZ hbl]
   exact g5 i (List.mem_cons_self ..) _ (acZ (by rw[Ee];exact hbl))
  ·rw[g4 i hi (by simpa using e),acL (fun q=>e q.symm)]
 ·rw[aOD (by rw[g2];simp[Ee];omega),aOD (by simp;omega)]
theorem bmO{h l:Aa}{b q b':Nat}{d e c:CB}(n1:b'≠b)(n2:b'≠q)(g:h[b']?=some c):((h.set b d++l).set q e)[b']?=some c:=by
 rw[acL (fun e=>n2 e.symm),aAM (by simpa using Aw g),acL (fun e=>n1 e.symm)];exact g
def RdI(m:Ah)(k:Int)(H:Aa)(vs:List Au)(h:Aa):Prop:=aKW [] H h∧Bv h=true∧(∃x,h[H.length]?=some (.live 7 false x [m.cells]))∧(∃x,h[H.length+1]?=some (.live 1 true x [[.int .i64 k]]))∧(∃x,h[H.length+2]?=some (.live 3 true x [(Rb m k).cells]))∧
     ∃b x y,H.length+2<b∧b≠H.length+4∧h[H.length+4]?=some (.live 1 false x [[.slr 1 b 0 (tH (Rb m k) vs).length]])∧h[b]?=some (.live 1 true y ((tH (Rb m k) vs).map iv))
theorem aQS(m:Ah)(hs:m.small)(hm:Ce m=true){k:Int}(h0:0≤k)(hk:k.toNat<m.sens.length){H:Aa}(hq:Bv H=true):
 ShQ Ec 79 [.agg [Ak 3 true m.nS (m.sens.map Db.cells),Ak 4 false m.nV (m.votes.map Au.cells),Ak 5 false m.nM (m.moves.map Bi.cells),.int .i64 m.states,.int .i64 m.cmds,.int .i64 m.bgn,Ak 1 true m.nO (m.opn.map iv)],.int .i64 k] H fun o G=>aKW [] H G∧Bv G=true∧o=.ret (.func (.func 97) [] [.ptr (H.length+4) 0 0,.ptr H.length 0 0,.ptr (H.length+1) 0 0,.ptr (H.length+2) 0 0])∧
  (∃x,G[H.length]?=some (.live 7 false x [m.cells]))∧(∃x,G[H.length+1]?=some (.live 1 true x [[.int .i64 k]]))∧(∃x,G[H.length+2]?=some (.live 3 true x [(Rb m k).cells]))∧
  ∃b x y,H.length+2<b∧b≠H.length+4∧G[H.length+4]?=some (.live 1 false x [[.slr 1 b 0 (tH (Rb m k) m.votes).length]])∧G[b]?=some (.live 1 true y ((fQ (tH (Rb m k) m.votes)).map iv)):=by
 have hsv:=hs.votes
 have hget:=sY hk
 have hmem:=aHJ hget
 obtain⟨s1,s2,s3⟩:=aqP hm hmem
 have hd0:(0≤k)=True:=eq_true h0
 have hwh:IntKind.i64.wrap ((Rb m k).hi+1)=(Rb m k).hi+1:=Dz (by omega) (by omega)
 refine anJ rfl Try.func79 rfl rfl ?_
 simp only[Try.f79]
 (have hb:=trivial;with_reducible repeat' (first|simp only[hb,Vc.down,seval,a29.down,hget,hd0,hwh,Db.cells,acR]|refine Bm ?_ ?_<;>intro hb|refine fd ?_|fail))
 refine Eo (Wy 39 m.votes (fun i (_:Unit) t h=>t 2=.ptr H.length 0 0∧t 3=.ptr (H.length+1) 0 0∧t 5=.ptr (H.length+2) 0 0∧t 6=.ptr (H.length+4) 0 0∧t 21=Ak 4 false m.nV (m.votes.map Au.cells)∧t 22=.int .i64 (m.votes.length:Nat)∧t 23=.int .i64 (i:Int)∧RdI m k H (m.votes.take i) h) (fun _ _=>()) (fun _ e t h=>e=.exit 0∧t 2=.ptr H.length 0 0∧t 3=.ptr (H.length+1) 0 0∧t 5=.ptr (H.length+2) 0 0∧t 6=.ptr (H.length+4) 0 0∧RdI m k H m.votes h) ?_ ?_ () _ _ ?_) (fun e t h hk=>?_)
 ·rintro _ t h Q' kQ ⟨g2,g3,g5,g6,g21,g22,g23,hI⟩
  (have hb:=trivial;with_reducible repeat' (first|simp only[hb,Vc.down,seval,a29.down,g22,g23,aHM,decide_false]|refine Bm ?_ ?_<;>intro hb|refine fd ?_|fail))
  rw[aON]at hI
  exact kQ _ _ _ ⟨rfl,by simp[up,g2],by simp[up,g3],by simp[up,g5],by simp[up,g6],hI⟩
 ·rintro v rest i _ t h J Q' kJ kQ hx hi ⟨g2,g3,g5,g6,g21,g22,g23,hI⟩
  have hdd:decide ((i:Int)<(m.votes.length:Int))=true:=decide_eq_true (by omega)
  have hww:=Bo hi hsv
  obtain⟨l1,l2⟩:=aN6 hm (aHJ hx)
  have hwl:IntKind.i64.wrap (v.level+1)=v.level+1:=Dz (by omega) (by omega)
  obtain⟨K,hqh,⟨x0,a0⟩,⟨x1,a1⟩,⟨x2,a2⟩,b,x,y,hb,hb4,a4,a5⟩:=hI
  have hLl:(tH (Rb m k) (m.votes.take i)).length≤3+2*1000:=by
   rw[aeU];have:=List.length_take_le i m.votes;have:=fN hm;omega
  have hnx:tH (Rb m k) (m.votes.take (i+1))=tH (Rb m k) (m.votes.take i)++[v.level,v.level+1]:=by
   rw[aAP,hx];simp[tH]
  obtain⟨L,hL⟩:∃L,tH (Rb m k) (m.votes.take i)=L:=⟨_,rfl⟩
  rw[hL]at a4 a5 hLl hnx
  have a4A:=Ae a4
  have a5A:=Ae a5
  have h39:(L.length+2≤549755813888)=True:=eq_true (by omega)
  have hS:=Jj (Aw a5)
  have a4S:=fun c l=>Wg (b:=b) c hb4 a4 l
  (have hb:=trivial;with_reducible repeat' (first|simp only[hb,Vc.down,seval,a29.down,g2,g3,g5,g6,g21,g22,g23,hdd,hww,hx,hwl,a4A,a5A,hS,a4S,h39,Au.cells,acR,Nat.zero_add]|refine Bm ?_ ?_<;>intro hb|refine fd ?_|fail))
  have hb0:h.length≠H.length+4:=by have:=Aw a4;omega
  have G2:=fun(b':Nat) (c:CB) (n1:b'≠b) (n2:b'≠H.length+4) (g:h[b']?=some c)=>bmO (d:=CB.dead) (e:=.live 1 false true [[.slr 1 (h.length+2) 0 (L.length+2)]]) (l:=[.live 4 false true [[Ak 1 true v.nn (v.sens.map iv),.int .i64 v.need,.int .i64 v.level,.bool v.above]],.live 1 true false [[.int .i64 v.level],[.int .i64 (v.level+1)]],.live 1 true false (L.map iv++[[.int .i64 v.level],[.int .i64 (v.level+1)]])]) n1 n2 g
  have hl4:=Aw a4
  refine Bn (kJ _ _ () ⟨by simp[up,g2],by simp[up,g3],by simp[up,g5],by simp[up,g6],by simp[up,g21],by simp[up,g22],by simp[up],⟨⟨by have:=K.len;simp;omega,fun b' hb' _=>?_⟩,?_,⟨x0,G2 _ _ (by omega) (by omega) a0⟩,⟨x1,G2 _ _ (by omega) (by omega) a1⟩,⟨x2,G2 _ _ (by omega) (by omega) a2⟩,h.length+2,true,false,by omega,by omega,?_,?_⟩⟩ rfl)
  ·rw[←K.same b' hb' (by simp)]
   obtain⟨c,hc⟩:∃c,h[b']?=some c:=⟨_,aOW (by have:=K.len;omega)⟩
   rw[hc];exact G2 _ _ (by omega) (by omega) hc
  ·exact Dv (Dp (Dv hqh _ rfl) rfl) _ rfl
  ·rw[acZ (by simp;omega),hnx,aG6];rfl
  ·rw[acL (by omega),Gl,hnx];simp[iv]
 ·have p0:∀(n:Nat) (l:Aa),(H++l)[H.length+n]?=l[n]?:=fun n l=>by rw[aIC (by omega),Nat.add_sub_cancel_left]
  refine⟨by simp[up,Fe],by simp[up,Fe],by simp[up,Fe],by simp[up,Fe],by simp[up,Fe],by simp[up,Fe],by simp[up,Fe],aKW.app _ _,Dp hq rfl,⟨false,?_⟩,⟨false,?_⟩,⟨true,?_⟩,H.length+3,true,false,by omega,by omega,?_,?_⟩
  ·exact p0 0 _
  ·exact p0 1 _
  ·exact p0 2 _
  ·exact p0 4 _
  ·exact p0 3 _
 obtain⟨rfl,g2,g3,g5,g6,K,hqh,⟨x0,a0⟩,⟨x1,a1⟩,⟨x2,a2⟩,b,x,y,hbb,hb4,a4,a5⟩:=hk
 have hl1:1≤(tH (Rb m k) m.votes).length:=by rw[aeU];omega
 have hl2:(tH (Rb m k) m.votes).length≤1000:=by rw[aeU];have:=fN hm;omega
 generalize tH (Rb m k) m.votes=L at *
 obtain⟨es,e1,e2⟩:=a7S hqh a5 hl1 hl2
 have e1':shK h (Ec.call (.sh 96) [.slr 1 b 0 L.length] (Hj h))=some (.ret (.tup []),es):=e1
 (have hb:=trivial;with_reducible repeat' (first|simp only[hb,Vc.down,seval,a29.down,g2,g3,g5,g6,a4,e1',e2]|refine Bm ?_ ?_<;>intro hb|refine fd ?_|fail))
 have ne:∀(b':Nat) (c:CB),b'≠b→h[b']?=some c→(h.set b (.live 1 true true ((fQ L).map iv)))[b']?=some c:=fun b' c n g=>by rw[acL (fun e=>n e.symm)];exact g
 refine⟨⟨by have:=K.len;simp;omega,fun b' hb' _=>?_⟩,Dv hqh _ rfl,⟨x0,ne _ _ (by omega) a0⟩,⟨x1,ne _ _ (by omega) a1⟩,⟨x2,ne _ _ (by omega) a2⟩,b,x,true,hbb,hb4,ne _ _ (by omega) a4,acZ (Aw a5)⟩
 rw[acL (by omega)];exact K.same b' hb' (by simp)
end Go.Proofs.Ytfkokgjfpojeoaa
namespace Go.Proofs.Ytfkokgjfpojeoaa
open Go.Ev Go Go.Ev.Bfs
set_option maxRecDepth 100000
set_option maxHeartbeats 16000000
def kI(n:Int):AV:=.int .i64 n
def acX{α:Type}(_:α):AV:=.bool true
theorem aVB:aDT Try.prog 3 kI (fun _=>True):=⟨fun a _=>by
 unfold aK7 aDR kI
 simp only[Try.underlying3]
 rfl,fun a b _ _=>by
 unfold aEq kI
 simp only[Try.underlying3,if_true,Option.some.injEq]
 by_cases e:a=b<;>simp[e],fun a _=>by
 simp[kI,AV.sameKey,AV.same]⟩
theorem baD{m:Ah}(hs:m.small)(hm:Ce m=true){k:Int}{s:Db}{L:List Int}{y:AV}{lb mb kb sb b M0:Nat}(hL9:L.length≤1000)(qG:Nat→List Int→Aa→Prop)
 (hl:∀i w h,qG i w h→∃x,h[lb]?=some (.live 1 false x [[.slr 1 b 0 L.length]])) (hlb:∀i w h,qG i w h→∃x,h[b]?=some (.live 1 true x (L.map iv))) (hmb:∀i w h,qG i w h→∃x,h[mb]?=some (.live 7 false x [m.cells]))
 (hkb:∀i w h,qG i w h→∃x,h[kb]?=some (.live 1 true x [[.int .i64 k]])) (hsb:∀i w h,qG i w h→∃x,h[sb]?=some (.live 3 true x [s.cells])) (hM:∀i w h,qG i w h→h[M0]?=some (Gk (eO kI acX w)))
 (hA:∀i w h (r:List (List AV)),qG i w h→qG i w (h++[.live 4 false true r]))
 (hS:∀i w n h,L[i]?=some n→mD n=true→aW k s n m.votes∉w→qG i w h→∃es,cl Ec (h.set M0 (Gk (eO kI acX (w++[aW k s n m.votes])))) (some y) (some [.int .i64 n])=some (.ret (.bool true),es)∧qG (i+1) (w++[aW k s n m.votes]) (Eh (h.set M0 (Gk (eO kI acX (w++[aW k s n m.votes])))) es))
 (hN:∀i w n h,L[i]?=some n→¬(mD n=true∧aW k s n m.votes∉w)→qG i w h→qG (i+1) w h)
 {h0:Aa} (hM0:M0=h0.length) (h0I:qG 0 [] (h0++[Gk []])):ShQ Ec 97 [y,.ptr lb 0 0,.ptr mb 0 0,.ptr kb 0 0,.ptr sb 0 0] h0 fun o h'=>o=.ret (.tup [])∧∃w,qG L.length w h':=by
 have hsv:=hs.votes
 obtain⟨x1,hl1⟩:=hl _ _ _ h0I
 obtain⟨x2,hl2⟩:=hlb _ _ _ h0I
 unfold Gk at hl1 hl2
 refine anJ rfl Try.func97 rfl rfl ?_
 simp only[Try.f97]
 (have hb:=trivial;with_reducible repeat' (first|simp only[hb,Vc.down,seval,aGJ.down,Yd.down,hl1,hl2,acR]|refine Bm ?_ ?_<;>intro hb|refine fd ?_|fail))
 refine Eo (Wy 57 L (fun i (w:List Int) t h=>t 0=y∧t 2=.ptr mb 0 0∧t 3=.ptr kb 0 0∧t 4=.ptr sb 0 0∧t 6=.mapr M0∧t 13=.slr 1 b 0 L.length∧t 14=.int .i64 (L.length:Nat)∧t 15=.int .i64 (i:Int)∧qG i w h) (fun _ _=>()) (fun _ e t h=>e=.exit 0∧∃w,qG L.length w h) ?_ ?_ [] _ _ ?_) (fun e t h hk=>?_)
 ·rintro w t h Q' kQ ⟨g0,g2,g3,g4,g6,g13,g14,g15,hI⟩
  (have hb:=trivial;with_reducible repeat' (first|simp only[hb,Vc.down,seval,aGJ.down,g14,g15,aHM,decide_false]|refine Bm ?_ ?_<;>intro hb|refine fd ?_|fail))
  exact kQ _ _ _ ⟨rfl,w,hI⟩
 ·rintro n rest i w t h J Q' kJ kQ hx hi ⟨g0,g2,g3,g4,g6,g13,g14,g15,hI⟩
  have hdd:decide ((i:Int)<(L.length:Int))=true:=decide_eq_true (by omega)
  have hdp:((i:Int)<(L.length:Int))=True:=eq_true (by omega)
  have hww:=Bo hi (by unfold maxLen;omega)
  obtain⟨x3,hb3⟩:=hlb _ _ _ hI
  obtain⟨x4,hm4⟩:=hmb _ _ _ hI
  (have hb:=trivial;with_reducible repeat' (first|simp only[hb,Vc.down,seval,aGJ.down,g0,g2,g3,g4,g6,g13,g14,g15,hdd,hdp,hx,hb3,hm4,iv,acR]|refine Bm ?_ ?_<;>intro hb|refine fd ?_|fail))
  refine Eo (Wy 57 m.votes (fun j (c:Int) t h=>t 0=y∧t 2=.ptr mb 0 0∧t 3=.ptr kb 0 0∧t 4=.ptr sb 0 0∧t 6=.mapr M0∧t 13=.slr 1 b 0 L.length∧t 14=.int .i64 (L.length:Nat)∧t 15=.int .i64 (i:Int)∧t 8=.int .i64 n∧t 9=.int .i64 c∧t 20=Ak 4 false m.nV (m.votes.map Au.cells)∧t 21=.int .i64 (m.votes.length:Nat)∧t 22=.int .i64 (j:Int)∧qG i w h∧fO (al3 k s n (m.votes.drop j)) j c=aW k s n m.votes) (fun _ _=>())
   (fun _ e t h=>e=.exit 2∧t 0=y∧t 2=.ptr mb 0 0∧t 3=.ptr kb 0 0∧t 4=.ptr sb 0 0∧t 6=.mapr M0∧t 13=.slr 1 b 0 L.length∧t 14=.int .i64 (L.length:Nat)∧t 15=.int .i64 (i:Int)∧t 8=.int .i64 n∧t 9=.int .i64 (aW k s n m.votes)∧qG i w h) ?_ ?_ 0 _ _ ?_) (fun e t h hk'=>?_)
  ·rintro c t h Q'' kQ ⟨g0,g2,g3,g4,g6,g13,g14,g15,g8,g9,g20,g21,g22,hI,hc⟩
   (have hb:=trivial;with_reducible repeat' (first|simp only[hb,Vc.down,seval,aGJ.down,g21,g22,aHM,decide_false]|refine Bm ?_ ?_<;>intro hb|refine fd ?_|fail))
   rw[aOX]at hc
   exact kQ _ _ _ ⟨rfl,by simp[up,g0],by simp[up,g2],by simp[up,g3],by simp[up,g4],by simp[up,g6],by simp[up,g13],by simp[up,g14],by simp[up,g15],by simp[up,g8],by simp only[up];rw[if_neg (by decide),g9,←hc];rfl,hI⟩
  ·rintro v rest2 j c t h J' Q'' kJ' kQ' hv hj ⟨g0,g2,g3,g4,g6,g13,g14,g15,g8,g9,g20,g21,g22,hI,hc⟩
   have hd2:decide ((j:Int)<(m.votes.length:Int))=true:=decide_eq_true (by omega)
   have hw2:=Bo hj hsv
   have hvs:=hs.vs v (aHJ hv)
   have hA1:=hA i w h [v.cells] hI
   obtain⟨x5,hk5⟩:=hkb _ _ _ hA1
   obtain⟨x6,hs6⟩:=hsb _ _ _ hA1
   have hC:=aES (l:=v.sens) (nn:=v.nn) k hvs
   have hS1:=aJ7 s v n
   have hdj:m.votes.drop j=v::m.votes.drop (j+1):=by
    obtain⟨h1,h2⟩:=aCF.1 hv
    rw[aID h1,h2]
   rw[hdj]at hc
   simp only[al3,aC6,fO]at hc
   simp only[Au.cells]at hk5 hs6 hA1
   simp only[Db.cells]at hs6
   cases c1:(v.sens.any fun x=>k==x)with
   |false=>
    rw[c1]at hC hc
    simp only[Bool.false_and,aOY,if_false]at hc
    (have hb:=trivial;with_reducible repeat' (first|simp only[hb,Vc.down,seval,aGJ.down,g0,g2,g3,g4,g6,g13,g14,g15,g8,g9,g20,g21,g22,hd2,hw2,hv,hk5,hs6,hC,hS1,aI3,Au.cells,acR]|refine Bm ?_ ?_<;>intro hb|refine fd ?_|fail))
    exact Bn (kJ' _ _ c ⟨by simp[up,g0],by simp[up,g2],by simp[up,g3],by simp[up,g4],by simp[up,g6],by simp[up,g13],by simp[up,g14],by simp[up,g15],by simp[up,g8],by simp[up,g9],by simp[up,g20],by simp[up,g21],by simp[up],hA1,hc⟩ rfl)
   |true=>
    rw[c1]at hC hc
    simp only[Bool.true_and]at hc
    cases c2:Re s v n with
    |false=>
     rw[c2]at hS1 hc
     simp only[aOY,if_false]at hc
     (have hb:=trivial;with_reducible repeat' (first|simp only[hb,Vc.down,seval,aGJ.down,g0,g2,g3,g4,g6,g13,g14,g15,g8,g9,g20,g21,g22,hd2,hw2,hv,hk5,hs6,hC,hS1,aI3,Au.cells,acR]|refine Bm ?_ ?_<;>intro hb|refine fd ?_|fail))
     exact Bn (kJ' _ _ c ⟨by simp[up,g0],by simp[up,g2],by simp[up,g3],by simp[up,g4],by simp[up,g6],by simp[up,g13],by simp[up,g14],by simp[up,g15],by simp[up,g8],by simp[up,g9],by simp[up,g20],by simp[up,g21],by simp[up],hA1,hc⟩ rfl)
    |true=>
     rw[c2]at hS1 hc
     simp only[if_true]at hc
     (have hb:=trivial;with_reducible repeat' (first|simp only[hb,Vc.down,seval,aGJ.down,g0,g2,g3,g4,g6,g13,g14,g15,g8,g9,g20,g21,g22,hd2,hw2,hv,hk5,hs6,hC,hS1,aI3,Au.cells,acR]|refine Bm ?_ ?_<;>intro hb|refine fd ?_|fail))
     exact Bn (kJ' _ _ (orN c (aMM j)) ⟨by simp[up,g0],by simp[up,g2],by simp[up,g3],by simp[up,g4],by simp[up,g6],by simp[up,g13],by simp[up,g14],by simp[up,g15],by simp[up,g8],by simp[up,g9],by simp[up,g20],by simp[up,g21],by simp[up],hA1,hc⟩ rfl)
  ·exact⟨by simp[up,g0],by simp[up,g2],by simp[up,g3],by simp[up,g4],by simp[up,g6],by simp[up,g13],by simp[up,g14],by simp[up,g15],by simp[up],by simp[up],by simp[up],by simp[up],by simp[up],hI,by rw[List.drop_zero];rfl⟩
  obtain⟨rfl,g0,g2,g3,g4,g6,g13,g14,g15,g8,g9,hI⟩:=hk'
  have hmp:=hM _ _ _ hI
  have hV:=aiA n
  by_cases hkp:mD n=true∧aW k s n m.votes∉w
  ·obtain⟨k1,k2⟩:=hkp
   rw[k1]at hV
   have hlk:=aVB.lk_no (ty:=129) (z:=.bool false) Try.underlying129 (by kernel_rfl) hmp (fun _ _=>trivial) trivial k2 false
   have hms:=aVB.ms_new (ty:=129) Try.underlying129 hmp (fun _ _=>trivial) trivial k2 (.bool true)
   obtain⟨es,e1,e2⟩:=hS i w n h hx k1 k2 hI
   have hyy:(eO kI (fun y_1=>if y_1=aW k s n m.votes then AV.bool true else acX y_1) (w++[aW k s n m.votes]))=eO kI acX (w++[aW k s n m.votes]):=by
    congr 1;funext q;split<;>rfl
   rw[hyy]at hms
   unfold kI at hlk hms e1 e2
   simp only[cond_false]at hlk
   (have hb:=trivial;with_reducible repeat' (first|simp only[hb,Vc.down,seval,aGJ.down,Yd.down,g0,g2,g3,g4,g6,g13,g14,g15,g8,g9,hww,hV,hlk,hms,e1]|refine Bm ?_ ?_<;>intro hb|refine fd ?_|fail))
   exact Bn (kJ _ _ (w++[aW k s n m.votes]) ⟨by simp[up,g0],by simp[up,g2],by simp[up,g3],by simp[up,g4],by simp[up,g6],by simp[up,g13],by simp[up,g14],by simp[up],e2⟩ rfl)
  ·have e2:=hN i w n h hx hkp hI
   cases cV:mD n with
   |false=>
    rw[cV]at hV
    (have hb:=trivial;with_reducible repeat' (first|simp only[hb,Vc.down,seval,aGJ.down,Yd.down,g0,g2,g3,g4,g6,g13,g14,g15,g8,g9,hww,hV]|refine Bm ?_ ?_<;>intro hb|refine fd ?_|fail))
    exact Bn (kJ _ _ w ⟨by simp[up,g0],by simp[up,g2],by simp[up,g3],by simp[up,g4],by simp[up,g6],by simp[up,g13],by simp[up,g14],by simp[up],e2⟩ rfl)
   |true=>
    rw[cV]at hV
    have k2:aW k s n m.votes∈w:=Classical.not_not.1 fun h2=>hkp ⟨cV,h2⟩
    have hlk:=aVB.lk_yes (ty:=129) (z:=.bool false) Try.underlying129 (by kernel_rfl) hmp (fun _ _=>trivial) k2 false
    unfold kI at hlk
    simp only[cond_false,acX]at hlk
    (have hb:=trivial;with_reducible repeat' (first|simp only[hb,Vc.down,seval,aGJ.down,Yd.down,g0,g2,g3,g4,g6,g13,g14,g15,g8,g9,hww,hV,hlk]|refine Bm ?_ ?_<;>intro hb|refine fd ?_|fail))
    exact Bn (kJ _ _ w ⟨by simp[up,g0],by simp[up,g2],by simp[up,g3],by simp[up,g4],by simp[up,g6],by simp[up,g13],by simp[up,g14],by simp[up],e2⟩ rfl)
 ·exact⟨by simp[up,Fe],by simp[up,Fe],by simp[up,Fe],by simp[up,Fe],by simp[up,Fe,hM0],by simp[up,Fe],by simp[up,Fe],by simp[up,Fe],h0I⟩
 obtain⟨rfl,hI⟩:=hk
 (have hb:=trivial;with_reducible repeat' (first|simp only[hb,Vc.down,seval,aGJ.down]|refine Bm ?_ ?_<;>intro hb|refine fd ?_|fail))
 exact hI
theorem a5W{n:Nat}{h:Aa}{nfl:Bool}{a b r len:Nat}{rows:List (List AV)}(hr:rows≠[]):apK n h (some (.slr a b r len)) (some (nfl,rows))=apS n h.length b r len nfl rows (h[b]?):=by
 obtain⟨x,l,rfl⟩:=List.exists_cons_of_ne_nil hr
 rfl
theorem aZT(l:List Int)(hl:l.length≤1000):
 Ec.call (.fn 65) [Ak 1 true true (l.map iv)] []=some (.ret (.slr 1 0 0 l.length),[.live 1 true false (l.map iv)]):=by
 by_cases hne:l=[]
 ·subst hne
  rw[show Ak 1 true true (([]:List Int).map iv)=.imm 1 true []from rfl]
  (refine ce Try.func65 ?_;simp only[Try.f65];(have hb:=trivial;with_reducible repeat' (first|simp only[hb,Vc.down,seval,bjI.down]|refine Bm ?_ ?_<;>intro hb|refine fd ?_|fail)))
 ·have h2:l.map iv≠[]:=by simpa using hne
  have h3:((l.map iv).length≤549755813888)=True:=eq_true (by simp;omega)
  have hs:Ak 1 true true (l.map iv)=.imm 1 true (l.map iv):=aE8 h2
  rw[hs]
  have h4:=fun(h:Aa) a b r len=>a5W (n:=1) (h:=h) (nfl:=true) (a:=a) (b:=b) (r:=r) (len:=len) h2
  simp only[acR]at h3
  (refine ce Try.func65 ?_;simp only[Try.f65];(have hb:=trivial;with_reducible repeat' (first|simp only[hb,Vc.down,seval,bjI.down,h3,h4,acR]|refine Bm ?_ ?_<;>intro hb|refine fd ?_|fail)))
theorem awF{m:Ah}(h:Ce m=true):m.sens.length≤6:=by simp[Ce,cJ]at h;omega
theorem eT{m:Ah}(h:Ce m=true):0≤m.cmds∧m.cmds≤4:=by simp[Ce,cJ,Qy]at h;omega
def Fg(m:Ah):List Int:=(List.range (m.cmds+1).toNat).map fun(i:Nat)=>(i:Int)-1
theorem mP{m:Ah}(hm:Ce m=true):((Fg m).length:Int)=m.cmds+1:=by have:=eT hm;simp[Fg];omega
theorem aH3{m:Ah}{i:Nat}{c:Int}(h:(Fg m)[i]?=some c):c=(i:Int)-1:=by
 unfold Fg at h
 rw[List.getElem?_map]at h
 obtain⟨j,h1,rfl⟩:=Option.map_eq_some_iff.1 h
 obtain⟨h2,h3⟩:=aCF.1 h1
 simp at h3;omega
def Hh(m:Ah)(r:List Int):Int:=Yw m r m.votes 0 0
def tsc(x:List Int × Int):azE:=⟨true,x.1,x.2⟩
def sgC(m:Ah)(x:List Int × Int):List AV:=[.int .i64 (Hh m x.1),.int .i64 x.2]
def scA(p:Nat):List AV:=[.ptr (p+6) 0 0,.ptr p 0 0,.ptr (p+4) 0 0,.ptr (p+1) 0 0,.ptr (p+2) 0 0,.ptr (p+7) 0 0]
def Xi:AV→List Nat
 | .slr _ b _ _=>[b]
 |_=>[]
structure ScF(m:Ah)(p:Nat)(W:List Int)(X:List (List Int × Int))(now:List Int)(lv sv:AV)(rows:List (List AV))(Ro:List Nat)(H:Aa):Prop where
 h0:∃x,H[p]?=some (.live 7 false x [m.cells])
 h1:∃x,H[p+1]?=some (.live 1 false x [[lv]])
 h2:∃x,H[p+2]?=some (.live 1 false x [[sv]])
 h3:H[p+3]?=some (Gk (eO kI acX W))
 h4:∃x,H[p+4]?=some (.live 1 false x [[.mapr (p+3)]])
 h5:∃x,H[p+5]?=some (.live 1 true x (now.map iv))
 h6:∃x,H[p+6]?=some (.live 1 false x [[.slr 1 (p+5) 0 now.length]])
 h7:∃x,H[p+7]?=some (.live 1 false x [[.func (.func 78) [] (scA p)]])
 L:LLG 2 (p+8) lv H rows (X.map fun x=>(tsc x).cells) Ro
 S:(X=[]∧sv=.nils)∨∃b x,sv=.slr 2 b 0 X.length∧H[b]?=some (.live 2 true x (X.map (sgC m)))∧p+8≤b∧b∉Ro∧b∉Xi lv∧X≠[]
 len:rows.length=X.length
theorem ScF.cl{m:Ah}{p:Nat}{W:List Int}{X:List (List Int × Int)}{now:List Int}{lv sv:AV}{rows:List (List AV)}{Ro:List Nat}{H G:Aa}(h:ScF m p W X now lv sv rows Ro H)(e:Hj H=Hj G):ScF m p W X now lv sv rows Ro G:=
 ⟨Kr e h.h0,Kr e h.h1,Kr e h.h2,aSI e h.h3,Kr e h.h4,Kr e h.h5,Kr e h.h6,Kr e h.h7,h.L.cl e,by
   rcases h.S with h|⟨b,x,h1,h2,h3⟩
   ·exact .inl h
   ·obtain⟨x',h4⟩:=Kr e ⟨x,h2⟩
    exact .inr ⟨b,x',h1,h4,h3⟩,h.len⟩
def anF(p:Nat)(lv sv:AV):List Nat:=[p+1,p+2,p+3,p+5]++Xi lv++Xi sv
theorem ScF.keep{m:Ah}{p:Nat}{W W':List Int}{X:List (List Int × Int)}{now:List Int}{lv sv:AV}{rows:List (List AV)}{Ro:List Nat}{H G:Aa}(h:ScF m p W X now lv sv rows Ro H)(hl:H.length≤G.length)(k:∀b,b<H.length→b≠p+3→Gq H G b)(h3:G[p+3]?=some (Gk (eO kI acX W'))):ScF m p W' X now lv sv rows Ro G:=by
 obtain⟨h0,h1,h2,_,h4,h5,h6,h7,hL,hS,hl'⟩:=h
 have l:=fun {b st:Nat} {fl:Bool} {r:List (List AV)} (g:∃x,H[b]?=some (.live st fl x r)) (hn:b≠p+3)=>(k b (by obtain⟨x,g⟩:=g;exact Aw g) hn).live g
 refine⟨l h0 (by omega),l h1 (by omega),l h2 (by omega),h3,l h4 (by omega),l h5 (by omega),l h6 (by omega),l h7 (by omega),hL.sm hl fun b b1 b2=>k b b2 (by omega),?_,hl'⟩
 rcases hS with h|⟨b,x,g1,g2,g3,g4⟩
 ·exact .inl h
 ·obtain⟨x',g5⟩:=l ⟨x,g2⟩ (by omega)
  exact .inr ⟨b,x',g1,g5,g3,g4⟩
theorem a5Q{m:Ah}(hs:m.small)(hm:Ce m=true){p:Nat}{W:List Int}{X:List (List Int × Int)}{now:List Int}{lv sv:AV}{rows:List (List AV)}{Ro:List Nat}{H:Aa}(hq:Bv H=true)(hF:ScF m p W X now lv sv rows Ro H)(hnl:now.length=m.sens.length)(hin:Hh m now∈W):
 ShQ Ec 78 ([.int .i64 (now.length:Int)]++scA p) H fun o G=>o=.ret (.tup [])∧Hj G=Hj (H++[.live 1 true false [[.int .i64 (now.length:Int)]]])∧Qs H G:=by
 obtain⟨⟨x0,h0⟩,⟨x1,h1⟩,⟨x2,h2⟩,h3,⟨x4,h4⟩,⟨x5,h5⟩,⟨x6,h6⟩,⟨x7,h7⟩,hL,hS,hl⟩:=id hF
 have hv:=aEA m (l:=now) (nn:=true) hnl hs (ac6 hm)
 rw[nT]at hv
 have htk:List.take now.length (now.map iv)=now.map iv:=aJZ (by simp)
 have hlk:=fun l=>aVB.lk_yes (ty:=129) (z:=.bool false) Try.underlying129 (by kernel_rfl) (Ae h3 l) (fun _ _=>trivial) hin false
 unfold kI at hlk
 simp only[cond_false,acX,Hh]at hlk
 refine anJ rfl Try.func78 rfl rfl ?_
 simp only[Try.f78,scA,aKM,aLD]
 (have hb:=trivial;with_reducible repeat' (first|simp only[hb,Vc.down,seval,aHR.down,Yd.down,Ae h0,Ae h4,Ae h5,Ae h6,hv,htk,hlk,acR,beq_self_eq_true]|refine Bm ?_ ?_<;>intro hb|refine fd ?_|fail))
 exact(Qs.refl _).app _
structure ScL(m:Ah)(p:Nat)(W:List Int)(X:List (List Int × Int))(now:List Int)(lv sv:AV)(H h:Aa):Prop where
 F:∃lv' sv' rows' Ro',ScF m p W X now lv' sv' rows' Ro' h∧∀b∈Xi lv'++Xi sv',b∈Xi lv++Xi sv∨H.length≤b
 w:Qs H h
 q:Bv h=true
 k:∀b,b<H.length→b∉anF p lv sv→Gq H h b
theorem adG:∀(l:List AV),(∀x∈l,AV.sameKey x x=true)→AV.sameL l l=true
 | [],_=>rfl
 |a::l,h=>by
  simp only[AV.sameL,aAO]
  exact⟨h a (by simp),adG l fun x hx=>h x (by simp[hx])⟩
theorem aWG(W:List Int):(Gk (eO kI acX W)).quiet (Gk (eO kI acX W)).clean=true:=adG _ fun x hx=>by
 unfold eO at hx
 obtain⟨n,_,hx⟩:=List.mem_flatMap.1 hx
 simp only[aC7,aEO,or_false]at hx
 rcases hx with rfl|rfl<;>simp[kI,acX,AV.sameKey,AV.same]
theorem ScL.step{m:Ah}{p:Nat}{W:List Int}{Y:List (List Int × Int)}{now:List Int}{lv sv lv' sv':AV}{rows':List (List AV)}{Ro':List Nat}{H h G:Aa}(F:ScF m p W Y now lv' sv' rows' Ro' h)(hnb:∀b∈Xi lv'++Xi sv',b∈Xi lv++Xi sv∨H.length≤b)(hk:∀b,b<H.length→b∉anF p lv sv→Gq H h b)(hHh:H.length≤h.length)
 {c:Int} {b0 m1 m2 n:Nat} (hn:n=Y.length+1) (d1:h.length≤b0) (d2:h.length≤m1) (d3:h.length≤m2) (d4:b0≠m1) (d5:b0≠m2) (d6:m1≠m2) (hl:h.length≤G.length)
 (e1:∃x,G[p+1]?=some (.live 1 false x [[.slr 2 m1 0 n]])) (e2:∃x,G[p+2]?=some (.live 1 false x [[.slr 2 m2 0 n]])) (e3:∃x,G[m1]?=some (.live 2 false x (rows'++[[.slr 1 b0 0 now.length,.int .i64 c]]))) (e4:∃x,G[m2]?=some (.live 2 true x (Y.map (sgC m)++[sgC m (now,c)]))) (e5:∃x,G[b0]?=some (.live 1 true x (now.map iv)))
 (e6:∀b,b<h.length→b≠p+1→b≠p+2→b∉Xi lv'→b∉Xi sv'→Gq h G b) (hw:Qs H G) (hq:Bv G=true):ScL m p W (Y++[(now,c)]) now lv sv H G:=by
 obtain⟨h0,h1,h2,h3,h4,h5,h6,h7,hL,hS,hl'⟩:=F
 have lvb:∀b∈Xi lv',p+8≤b∧b∉Ro':=fun b hb=>by
  cases lv'<;>simp[Xi]at hb
  subst hb
  obtain⟨a1,a2,_⟩:=hL.dov _ _ _ _ rfl
  exact⟨a1,a2⟩
 have svb:∀b∈Xi sv',p+8≤b∧b∉Ro':=fun b hb=>by
  rcases hS with⟨_,rfl⟩|⟨b',x,rfl,g2,g3,g4,g5⟩
  ·simp[Xi]at hb
  ·simp[Xi]at hb;subst hb;exact⟨g3,g4⟩
 have hph:p+7<h.length:=by obtain⟨x,h7⟩:=h7;exact Aw h7
 have sm:∀b,b<p+8→b≠p+1→b≠p+2→Gq h G b:=fun b hb n1 n2=>e6 b (by omega) n1 n2 (fun hb2=>by have:=(lvb b hb2).1;omega) (fun hb2=>by have:=(svb b hb2).1;omega)
 have lR:=aIN (by omega) hL.q
 obtain⟨x5,e5⟩:=e5
 obtain⟨x3,e3⟩:=e3
 obtain⟨x4,e4⟩:=e4
 have hr:cY (rd 5 (hf G)) [.slr 1 b0 0 now.length,.int .i64 c]=some ((tsc (now,c)).cells,[b0]):=by
  have:=Xe (f:=rd 5 (hf G)) (avO (g:=hf G) (d:=4) (st:=1) (b:=b0) (n:=now.length) (rows:=now.map iv) (by show(G[b0]?).bind Dn=_;rw[e5];rfl) (by simp)) (Xe (aG2 (g:=hf G) (d:=4) .i64 c) aCW)
  simpa [azE.cells,tsc,nT]using this
 refine⟨⟨.slr 2 m1 0 n,.slr 2 m2 0 n,rows'++[[.slr 1 b0 0 now.length,.int .i64 c]],Ro'++[b0],⟨(sm p (by omega) (by omega) (by omega)).live h0,e1,e2,(sm _ (by omega) (by omega) (by omega)).map h3,(sm _ (by omega) (by omega) (by omega)).live h4,(sm _ (by omega) (by omega) (by omega)).live h5,(sm _ (by omega) (by omega) (by omega)).live h6,(sm _ (by omega) (by omega) (by omega)).live h7,?_,.inr ⟨m2,x4,by simp[hn],by rw[aER];exact e4,by omega,?_,by simp[Xi];omega,by simp⟩,?_⟩,fun b hb=>?_⟩,hw,hq,fun b hb hn'=>?_⟩
 ·rw[aER]
  refine hL.step e3 (fun j hj z hz=>(e6 j (lR j hj) (by have:=hL.dx j hj;omega) (by have:=hL.dx j hj;omega) (fun hb=>(lvb j hb).2 hj) (fun hb=>(svb j hb).2 hj)).rows hz) hr (fun b hb=>by simp at hb;subst hb;exact⟨by omega,d4⟩) (by omega) (fun hb=>by have:=lR _ hb;omega) (by rw[hl',hn])
 ·intro hb
  rcases aqD.1 hb with hb|hb
  ·have:=lR _ hb;omega
  ·simp at hb;omega
 ·simp[hl']
 ·simp[Xi]at hb
  right;omega
 ·have hn2:b∉Xi lv'∧b∉Xi sv':=by
   constructor<;>intro hb2
   ·rcases hnb b (List.mem_append_left _ hb2)with h|h
    ·exact hn' (aqD.2 (by rcases aqD.1 h with h|h;exact .inl (aLE _ h);exact .inr h))
    ·omega
   ·rcases hnb b (aLE _ hb2)with h|h
    ·exact hn' (aqD.2 (by rcases aqD.1 h with h|h;exact .inl (aLE _ h);exact .inr h))
    ·omega
  exact(hk b hb hn').trans (e6 b (by omega) (fun e=>hn' (by simp[anF,e])) (fun e=>hn' (by simp[anF,e])) hn2.1 hn2.2)
theorem a3I{m:Ah}(hs:m.small)(hm:Ce m=true){p:Nat}{W:List Int}{X:List (List Int × Int)}{now:List Int}{lv sv:AV}{rows:List (List AV)}{Ro:List Nat}{H:Aa}(hq:Bv H=true)(hF:ScF m p W X now lv sv rows Ro H)(hnl:now.length=m.sens.length)(hin:Hh m now∉W)(hX:X.length≤1000):
 ShQ Ec 78 ([.int .i64 (now.length:Int)]++scA p) H fun o G=>o=.ret (.tup [])∧ScL m p (W++[Hh m now]) (X++(Fg m).map fun c=>(now,c)) now lv sv H G:=by
 obtain⟨⟨x0,h0⟩,⟨x1,h1⟩,⟨x2,h2⟩,h3,⟨x4,h4⟩,⟨x5,h5⟩,⟨x6,h6⟩,⟨x7,h7⟩,hL,hS,hl⟩:=id hF
 have hv:=aEA m (l:=now) (nn:=true) hnl hs (ac6 hm)
 rw[nT]at hv
 have htk:List.take now.length (now.map iv)=now.map iv:=aJZ (by simp)
 have hlk:=fun l=>aVB.lk_no (ty:=129) (z:=.bool false) Try.underlying129 (by kernel_rfl) (Ae h3 l) (fun _ _=>trivial) trivial hin false
 have hms:=fun l=>aVB.ms_new (ty:=129) Try.underlying129 (Ae h3 l) (fun _ _=>trivial) trivial hin (.bool true)
 have hyy:(eO kI (fun y_1=>if y_1=Hh m now then AV.bool true else acX y_1) (W++[Hh m now]))=eO kI acX (W++[Hh m now]):=by
  congr 1;funext q;split<;>rfl
 rw[hyy]at hms
 obtain⟨bt,hbt⟩:∃bt,Yw m now m.votes 0 0=bt:=⟨_,rfl⟩
 have hbt':Hh m now=bt:=hbt
 rw[hbt]at hv
 rw[hbt']at hlk hms ⊢
 unfold kI at hlk hms
 simp only[cond_false]at hlk
 obtain⟨mp,hmp⟩:∃mp,eO (fun n=>AV.int .i64 n) acX (W++[bt])=mp:=⟨_,rfl⟩
 rw[hmp]at hms
 have hsa:=Jj (Aw h3)
 refine anJ rfl Try.func78 rfl rfl ?_
 simp only[Try.f78,scA,aKM,aLD]
 (have hb:=trivial;with_reducible repeat' (first|simp only[hb,Vc.down,seval,aHR.down,Yd.down,Ae h0,Ae h4,Ae h5,Ae h6,hv,htk,hlk,hms,hsa,acR,beq_self_eq_true]|refine Bm ?_ ?_<;>intro hb|refine fd ?_|fail))
 have st0:ScL m p (W++[bt]) (X++((Fg m).take 0).map fun c=>(now,c)) now lv sv H (H.set (p+3) (Gk mp)++[.live 1 true false [[.int .i64 (now.length:Int)]]]):=by
  have hsm:∀b,b<H.length→b≠p+3→Gq H (H.set (p+3) (Gk mp)++[.live 1 true false [[.int .i64 (now.length:Int)]]]) b:=fun b hb hn=>((Gq.refl H b).set (fun e=>hn e.symm) _).app (by simpa using hb) _
  refine⟨⟨lv,sv,rows,Ro,?_,fun b hb=>.inl hb⟩,((Qs.refl H).map h3 mp).app _,Dp (Dv hq _ ?_) rfl,fun b hb hn=>hsm b hb (by simp[anF]at hn;omega)⟩
  ·rw[List.take_zero,aLF,List.append_nil]
   refine hF.keep (by simp) hsm ?_
   rw[aAM (by simpa using Aw h3),acZ (Aw h3),←hmp];rfl
  ·rw[←hmp];exact aWG _
 have hcl:=mP hm
 have hc4:=eT hm
 refine Eo (Wy 54 (Fg m) (fun i (_:Unit) t h=>t 1=.ptr (p+6) 0 0∧t 2=.ptr p 0 0∧t 4=.ptr (p+1) 0 0∧t 5=.ptr (p+2) 0 0∧t 8=.int .i64 bt∧t 9=.int .i64 ((i:Int)-1)∧ScL m p (W++[bt]) (X++((Fg m).take i).map fun c=>(now,c)) now lv sv H h) (fun _ _=>()) (fun _ e t h=>e=.exit 0∧ScL m p (W++[bt]) (X++(Fg m).map fun c=>(now,c)) now lv sv H h) ?_ ?_ () _ _ ?_) (fun e t h hk=>?_)
 ·rintro _ t h Q' kQ ⟨g1,g2,g4,g5,g8,g9,hI⟩
  obtain⟨lv',sv',rows',Ro',F',_⟩:=hI.F
  obtain⟨y0,k0⟩:=F'.h0
  have hdd:decide (((Fg m).length:Int)-1<m.cmds)=false:=decide_eq_false (by omega)
  rw[aON]at hI
  (have hb:=trivial;with_reducible repeat' (first|simp only[hb,Vc.down,seval,aHR.down,g2,g9,k0,hdd]|refine Bm ?_ ?_<;>intro hb|refine fd ?_|fail))
  exact kQ _ _ _ ⟨rfl,hI⟩
 ·rintro c rest i _ t h J Q' kJ kQ hx hi ⟨g1,g2,g4,g5,g8,g9,hI⟩
  have hce:=aH3 hx
  have hdd:decide ((i:Int)-1<m.cmds)=true:=decide_eq_true (by omega)
  rw[←hce]at g9 hdd
  have hww:IntKind.i64.wrap (c+1)=c+1:=Dz (by omega) (by omega)
  obtain⟨⟨lv',sv',rows',Ro',F',hnb⟩,hw,hqh,hk⟩:=hI
  obtain⟨⟨y0,k0⟩,⟨y1,k1⟩,⟨y2,k2⟩,k3,⟨y4,k4⟩,⟨y5,k5⟩,⟨y6,k6⟩,⟨y7,k7⟩,kL,kS,kl'⟩:=id F'
  have hcn:=aZT now (by have:=awF hm;omega)
  rw[nT]at hcn
  rcases kS with⟨hX0,rfl⟩|⟨b2,w2,rfl,kb2,kp2,kr2,kn2,kne⟩
  ·have hr0:rows'=[]:=by rw[hX0]at kl';exact aOZ.1 kl'
   subst hr0
   have hlv:=kL.nil rfl
   subst hlv
   have hpl:p+7<h.length:=Aw k7
   obtain⟨sf,s1,s2,s5,s6,sn,sk⟩:∃sf:Nat→Nat,sf (p+1)=1∧sf (p+2)=2∧sf (p+5)=5∧sf (p+6)=6∧sf h.length=10∧∀k,sf (h.length+k)=k+10:=⟨fun b=>if h.length≤b then b-h.length+10 else b-p,by simp;omega,by simp;omega,by simp;omega,by simp;omega,by simp,fun k=>by simp⟩
   have hS1:=Jj (Aw k1)
   have k2S:=fun c l=>Wg (b:=p+1) c (by omega) k2 l
   (have hb:=trivial;with_reducible repeat' (first|simp only[hb,Vc.down,seval,aHR.down,g1,g2,g4,g5,g8,g9,k0,k1,k2,k5,k6,Ae k0,Ae k1,Ae k2,Ae k5,Ae k6,hS1,k2S,hdd,hww,hcn,htk,acR]|refine Bm ?_ ?_<;>intro hb|((refine oC (eR (sf) ?_) ?_);(simp (discharger:=decide) only[oL,bW,aC6,aLF,Ry,oD,oV,nZ,nY,Rz,aAN,aLG,s1,s2,s5,s6,sn,sk];kernel_rfl);intro _)|refine fdq ?_|fail))
   obtain⟨N,hN⟩:∃N:Aa,[CB.live 1 true false (now.map iv),.live 2 false false [[.slr 1 h.length 0 now.length,.int .i64 c]],.live 2 false false [[.slr 1 h.length 0 now.length,.int .i64 c]],.live 2 true false [[.int .i64 bt,.int .i64 c]],.live 2 true false [[.int .i64 bt,.int .i64 c]]]=N:=⟨_,rfl⟩
   rw[hN]
   have tk:(Fg m).take (i+1)=(Fg m).take i++[c]:=by rw[aAP,hx];rfl
   have gk:∀(k:Nat) (d1 d2:CB),((h.set (p+1) d1++N).set (p+2) d2)[h.length+k]?=N[k]?:=fun k d1 d2=>by rw[acL (by omega),Gl]
   have hNl:N.length=5:=by rw[←hN];rfl
   refine Bn (kJ _ _ () ⟨by simp[up,g1],by simp[up,g2],by simp[up,g4],by simp[up,g5],by simp[up,g8],by simp[up];omega,?_⟩ rfl)
   rw[tk,aER,←aE9]
   have hYl:(X++((Fg m).take i).map fun c=>(now,c)).length=0:=by rw[hX0];rfl
   refine ScL.step F' hnb hk hw.1 (c:=c) (b0:=h.length) (m1:=h.length+2) (m2:=h.length+4) (n:=1) (by rw[hYl]) (by omega) (by omega) (by omega) (by omega) (by omega) (by omega) (by simp) ⟨true,?_⟩ ⟨true,?_⟩ ⟨false,?_⟩ ⟨false,?_⟩ ⟨false,?_⟩ (fun b hb n1 n2 _ _=>?_) ?_ ?_
   ·rw[acL (by omega),aAM (by simp;omega),acZ (by omega)]
   ·rw[acZ (by simp;omega)]
   ·rw[gk,←hN];rfl
   ·rw[gk,←hN,hX0,←hbt'];rfl
   ·exact(gk 0 _ _).trans (by rw[←hN];rfl)
   ·exact(((Gq.refl h b).set (fun e=>n1 e.symm) _).app (by simpa using hb) _).set (fun e=>n2 e.symm) _
   ·exact((hw.put k1 1 false _).app N).put (by rw[aAM (by simp;omega),acL (by omega)];exact k2) 1 false _
   ·exact Dv (Dp (Dv hqh _ rfl) (by rw[←hN];rfl)) _ rfl
  ·rcases kL.own with⟨hr0,rfl⟩|⟨b1,w1,rfl,kb1⟩
   ·rw[hr0]at kl';exact absurd (aOZ.1 kl'.symm) kne
   obtain⟨Y,hY⟩:∃Y,X++((Fg m).take i).map (fun c=>(now,c))=Y:=⟨_,rfl⟩
   rw[hY]at F' kL kb2 kl' kne k2
   have hYl:Y.length≤2000:=by rw[←hY];simp;omega
   obtain⟨kd1,kd2,kd3⟩:=kL.dov _ _ _ _ rfl
   have hn12:b1≠b2:=fun e=>kn2 (by simp[Xi,e])
   have hpl:p+7<h.length:=Aw k7
   have h2l:=Aw kb2
   obtain⟨sf,s1,s2,s5,s6,s7,s8,sn,sk⟩:∃sf:Nat→Nat,sf (p+1)=1∧sf (p+2)=2∧sf (p+5)=5∧sf (p+6)=6∧sf b1=7∧sf b2=8∧sf h.length=10∧∀k,sf (h.length+k)=k+10:=⟨fun b=>if h.length≤b then b-h.length+10 else if b=b1 then 7 else if b=b2 then 8 else b-p,by show(if _ then _ else _)=_;rw[if_neg (by omega),if_neg (by omega),if_neg (by omega)];omega,by show(if _ then _ else _)=_;rw[if_neg (by omega),if_neg (by omega),if_neg (by omega)];omega,by show(if _ then _ else _)=_;rw[if_neg (by omega),if_neg (by omega),if_neg (by omega)];omega,by show(if _ then _ else _)=_;rw[if_neg (by omega),if_neg (by omega),if_neg (by omega)];omega,by show(if _ then _ else _)=_;rw[if_neg (by omega),if_pos rfl],by show(if _ then _ else _)=_;rw[if_neg (by omega),if_neg (by omega),if_pos rfl],by simp,fun k=>by simp⟩
   have hb1A:=Ae kb1
   have hb2A:=Ae kb2
   have e39:(rows'.length+1≤549755813888)=True:=eq_true (by omega)
   have f39:(Y.length+1≤549755813888)=True:=eq_true (by omega)
   have hSb:=Jj (Aw kb1)
   have b2S:=fun c l=>Wg (b:=b1) c hn12 kb2 l
   have k2b:=fun c l=>Wg (b:=b1) c (by omega) k2 l
   have hSb2:=fun l c=>Jj (h:=h.set b1 CB.dead) (b:=b2) (by simp;omega) l c
   have gq:∀(b:Nat) (cb:CB),b≠b1→b≠b2→h[b]?=some cb→((h.set b1 CB.dead).set b2 CB.dead)[b]?=some cb:=fun b cb n1 n2 g=>by
    rw[acL (fun e=>n2 e.symm),acL (fun e=>n1 e.symm)];exact g
   have k1q:=Ae (gq _ _ (by omega) (by omega) k1)
   have hS1q:=Jj (h:=(h.set b1 CB.dead).set b2 CB.dead) (b:=p+1) (by simp;omega)
   have k2q:=fun c l=>Wg (b:=p+1) c (by omega) (gq _ _ (by omega) (by omega) k2) l
   (have hb:=trivial;with_reducible repeat' (first|simp only[hb,Vc.down,seval,aHR.down,g1,g2,g4,g5,g8,g9,k0,k1,k2,k5,k6,Ae k0,Ae k1,Ae k2,Ae k5,Ae k6,hb1A,hb2A,hSb,b2S,k2b,hSb2,k1q,hS1q,k2q,Gl,Oa,aLH,e39,f39,hdd,hww,hcn,htk,acR]|refine Bm ?_ ?_<;>intro hb|((refine oC (eR (sf) ?_) ?_);(simp (discharger:=decide) only[oL,bW,aC6,aLF,Ry,oD,oV,nZ,nY,Rz,aAN,aLG,s1,s2,s5,s6,s7,s8,sn,sk];kernel_rfl);intro _)|refine fdq ?_|fail))
   rw[kl']at *
   obtain⟨N,hN⟩:∃N:Aa,[CB.live 1 true false (now.map iv),.live 2 false false [[.slr 1 h.length 0 now.length,.int .i64 c]],.live 2 false false (rows'++[[.slr 1 h.length 0 now.length,.int .i64 c]]),.live 2 true false [[.int .i64 bt,.int .i64 c]],.live 2 true false (Y.map (sgC m)++[[.int .i64 bt,.int .i64 c]])]=N:=⟨_,rfl⟩
   rw[hN]
   have tk:(Fg m).take (i+1)=(Fg m).take i++[c]:=by rw[aAP,hx];rfl
   have gk:∀(k:Nat) (d1 d2:CB),((((h.set b1 CB.dead).set b2 CB.dead).set (p+1) d1++N).set (p+2) d2)[h.length+k]?=N[k]?:=fun k d1 d2=>by
    have:=Gl (h:=(h.set b1 CB.dead).set b2 CB.dead) (b:=p+1) d1 N k
    simp only[aLH]at this
    rw[acL (by omega),this]
   have hNl:N.length=5:=by rw[←hN];rfl
   refine Bn (kJ _ _ () ⟨by simp[up,g1],by simp[up,g2],by simp[up,g4],by simp[up,g5],by simp[up,g8],by simp[up];omega,?_⟩ rfl)
   rw[tk,aER,←aE9,hY]
   refine ScL.step F' hnb hk hw.1 (c:=c) (b0:=h.length) (m1:=h.length+2) (m2:=h.length+4) (n:=Y.length+1) rfl (by omega) (by omega) (by omega) (by omega) (by omega) (by omega) (by simp) ⟨true,?_⟩ ⟨true,?_⟩ ⟨false,?_⟩ ⟨false,?_⟩ ⟨false,?_⟩ (fun b hb n1 n2 n3 n4=>?_) ?_ ?_
   ·rw[acL (by omega),aAM (by simp;omega),acZ (by simp;omega)]
   ·rw[acZ (by simp;omega)]
   ·rw[gk,←hN];rfl
   ·rw[gk,←hN,←hbt'];rfl
   ·exact(gk 0 _ _).trans (by rw[←hN];rfl)
   ·simp only[Xi,aC7,aEO,or_false]at n3 n4
    exact(((((Gq.refl h b).set (fun e=>n3 e.symm) _).set (fun e=>n4 e.symm) _).set (fun e=>n1 e.symm) _).app (by simpa using hb) _).set (fun e=>n2 e.symm) _
   ·exact((((hw.kill kb1).kill (by rw[acL hn12];exact kb2)).put (gq _ _ (by omega) (by omega) k1) 1 false _).app N).put (by rw[aAM (by simp;omega),acL (by omega)];exact gq _ _ (by omega) (by omega) k2) 1 false _
   ·exact Dv (Dp (Dv (Dv (Dv hqh _ rfl) _ rfl) _ rfl) (by rw[←hN];rfl)) _ rfl
 ·exact⟨by simp[up,Fe],by simp[up,Fe],by simp[up,Fe],by simp[up,Fe],by simp[up],by simp[up],st0⟩
 obtain⟨rfl,hI⟩:=hk
 (have hb:=trivial;with_reducible repeat' (first|simp only[hb,Vc.down,seval,aHR.down]|refine Bm ?_ ?_<;>intro hb|refine fd ?_|fail))
 exact hI
def rdF(m:Ah)(k:Nat):List Int:=Ug mD (fun n=>aW k (Rb m k) n m.votes) (fQ (tH (Rb m k) m.votes)) []
def aeL(m:Ah)(s:List Int × List (List Int × Int))(r:List Int):List Int × List (List Int × Int):=if Hh m r∈s.1 then s else(s.1++[Hh m r],s.2++(Fg m).map fun c=>(r,c))
theorem a4Z:∀l:List Bool,l.length≤6→0≤fO l 0 0∧fO l 0 0<64:=by
 intro l hl
 rcases l with _|⟨a,_|⟨b,_|⟨c,_|⟨d,_|⟨e,_|⟨f,_|⟨g,l⟩⟩⟩⟩⟩⟩⟩
 ·exact⟨by decide,by decide⟩
 ·cases a<;>decide
 ·cases a<;>cases b<;>decide
 ·cases a<;>cases b<;>cases c<;>decide
 ·cases a<;>cases b<;>cases c<;>cases d<;>decide
 ·cases a<;>cases b<;>cases c<;>cases d<;>cases e<;>decide
 ·cases a<;>cases b<;>cases c<;>cases d<;>cases e<;>cases f<;>decide
 ·simp only[aAN]at hl;omega
theorem aY4{m:Ah}(hm:Ce m=true)(r:List Int):0≤Hh m r∧Hh m r<64:=by
 unfold Hh
 rw[ahR]
 exact a4Z _ (by rw[acR];exact fN hm)
theorem aFU:∀(n:Nat) (l:List Int),l.Nodup→(∀x∈l,0≤x∧x<n)→l.length≤n
 |0,[],_,_=>by simp
 |0,a::l,_,h=>by have:=h a (by simp);omega
 |n+1,l,hn,h=>by
  by_cases e:(n:Int)∈l
  ·have h1:=aFU n (l.erase n) (hn.erase _) fun x hx=>by
    have h2:=h x (List.mem_of_mem_erase hx)
    have h3:x≠n:=fun e2=>by subst e2;exact(hn.not_mem_erase) hx
    omega
   rw[List.length_erase_of_mem e]at h1
   omega
  ·exact Nat.le_succ_of_le (aFU n l hn fun x hx=>by
    have h2:=h x hx
    have h3:x≠n:=fun e2=>e (e2▸hx)
    omega)
structure Few(m:Ah)(s:List Int × List (List Int × Int)):Prop where
 nd:s.1.Nodup
 lt:∀x∈s.1,0≤x∧x<64
 len:s.2.length=s.1.length*(Fg m).length
theorem Few.put{m:Ah}(hm:Ce m=true){s:List Int × List (List Int × Int)}(h:Few m s)(r:List Int):Few m (aeL m s r):=by
 unfold aeL
 split
 ·exact h
 ·rename_i hn
  refine⟨List.nodup_append.2 ⟨h.nd,by simp,fun a ha b hb=>by simp at hb;subst hb;exact fun e=>hn (e▸ha)⟩,fun x hx=>?_,?_⟩
  ·rcases aqD.1 hx with hx|hx
   ·exact h.lt x hx
   ·simp at hx;subst hx;exact aY4 hm r
  ·simp only[aG6,acR,aAN,aLG,h.len,Nat.zero_add,Nat.add_mul,Nat.one_mul]
theorem Few.le{m:Ah}(hm:Ce m=true){s:List Int × List (List Int × Int)}(h:Few m s):s.2.length≤320:=by
 have h1:=aFU 64 s.1 h.nd h.lt
 have h2:=mP hm
 have h3:=eT hm
 rw[h.len]
 calc s.1.length*(Fg m).length≤64*5:=Nat.mul_le_mul h1 (by omega)
  _=320:=rfl
theorem Few.start(m:Ah):Few m ([],[]):=⟨by simp,by simp,by simp⟩
theorem bmY{vs:List AV}{b:Nat}{h:Aa}{ps:List Nat}{asg body:Code}{tm:List AV}{st:Yk}{Q:Gw→Aa→Prop}(hb:h[b]?=some (.lp ps asg body tm st))(hl:ps.length=vs.length)
 (he:RnE b Q (aYV Ec Try.prog b body (Fp Ec Try.prog 5000 asg [] ⟨kH tm ps vs,h⟩))):RnQ Ec (vs++[.yl b]) h Q:=RnQ.start (pr:=pr) hb hl he
theorem aB3{m:Ah}(hm:Ce m=true):∀(l:List (List Int)) {s:List Int × List (List Int × Int)},Few m s→Few m (l.foldl (aeL m) s)
 | [],_,h=>h
 |r::l,_,h=>aB3 hm l (h.put hm r)
def wT(m:Ah)(k d:Nat):List (List Int):=(List.range d).map fun j=>rdF m (k+j)
theorem aFQ(m:Ah)(k d:Nat):wT m k (d+1)=rdF m k::wT m (k+1) d:=by
 unfold wT
 rw[List.range_succ_eq_map,aC6,List.map_map]
 congr 1
 refine aPA fun j _=>?_
 simp only[Function.comp,Nat.succ_eq_add_one]
 congr 1;omega
def tB(m:Ah)(k d:Nat)(now:List Int)(s:List Int × List (List Int × Int)):List Int × List (List Int × Int):=((Zl (wT m k d)).map (now.take k++·)).foldl (aeL m) s
def aZJ(m:Ah)(k:Nat)(n:Int):Int:=aW k (Rb m k) n m.votes
def aDM(m:Ah)(k:Nat):List Int:=fQ (tH (Rb m k) m.votes)
def aSX(m:Ah)(k d:Nat)(now:List Int)(R:List Int)(s:List Int × List (List Int × Int)):List Int × List (List Int × Int):=(R.flatMap fun n=>(Zl (wT m (k+1) d)).map fun q=>now.take k++n::q).foldl (aeL m) s
theorem aZR(m:Ah)(k d:Nat)(now:List Int)(s:List Int × List (List Int × Int)):aSX m k d now (rdF m k) s=tB m k (d+1) now s:=by
 unfold aSX tB
 rw[aFQ,show Zl (rdF m k::wT m (k+1) d)=(rdF m k).flatMap fun n=>(Zl (wT m (k+1) d)).map (n::·)from rfl,List.map_flatMap]
 congr 1
 congr 1
 funext n
 rw[List.map_map];rfl
theorem aVN(m:Ah)(k d:Nat)(now:List Int)(n:Int)(R:List Int)(s:List Int × List (List Int × Int)){now':List Int}(ht:now'.take k=now.take k)(hk:k<now'.length):aSX m k d now (n::R) s=aSX m k d now R (tB m (k+1) d (now'.set k n) s):=by
 unfold aSX tB
 rw[aLI,List.foldl_append]
 congr 2
 refine aPA fun q _=>?_
 have:(now'.set k n).take (k+1)=now'.take k++[n]:=by
  rw[aAP,acZ hk,aPH (by omega)];rfl
 rw[this,ht];simp
structure ScI(m:Ah)(p k d:Nat)(now:List Int)(fin:List Int × List (List Int × Int))(lv sv:AV)(H h1:Aa)(LP:CB)(b B:Nat)(i:Nat)(w:List Int)(h:Aa):Prop where
 F:∃now' st lv' sv' rows' Ro',now'.length=now.length∧now'.take k=now.take k∧Few m st∧ScF m p st.1 st.2 now' lv' sv' rows' Ro' h∧(∀c∈Xi lv'++Xi sv',c∈Xi lv++Xi sv∨B+1<c)∧aSX m k d now (Ug mD (aZJ m k) ((aDM m k).drop i) w) st=fin
 ws:Qs h1 h
 q:Bv h=true
 kp:∀c,c<H.length→c∉anF p lv sv→Gq H h c
 b0:∃x,h[H.length]?=some (.live 1 true x [[.int .i64 (k:Int)]])
 b1:∃x,h[H.length+1]?=some (.live 7 false x [m.cells])
 b2:∃x,h[H.length+2]?=some (.live 1 true x [[.int .i64 (k:Int)]])
 b3:∃x,h[H.length+3]?=some (.live 3 true x [(Rb m k).cells])
 b5:∃x,h[H.length+5]?=some (.live 1 false x [[.slr 1 b 0 (aDM m k).length]])
 bb:∃x,h[b]?=some (.live 1 true x ((aDM m k).map iv))
 lp:h[B]?=some LP
 mp:h[B+1]?=some (Gk (eO kI acX w))
theorem aJ4{a:List Nat}{b c:Code}{e:List AV}{st:Yk}(d:CB)(hd:d.clean=(CB.lp a b c e st).clean):d=.lp a b c e st:=by
 cases d<;>simp_all[CB.clean]
theorem ScF.app{m:Ah}{p:Nat}{W:List Int}{X:List (List Int × Int)}{now:List Int}{lv sv:AV}{rows:List (List AV)}{Ro:List Nat}{H:Aa}(h:ScF m p W X now lv sv rows Ro H)(l:Aa):ScF m p W X now lv sv rows Ro (H++l):=
 h.keep (by simp) (fun b hb _=>(Gq.refl H b).app hb l) (Ae h.h3 l)
theorem ScF.put{m:Ah}{p:Nat}{W:List Int}{X:List (List Int × Int)}{now:List Int}{lv sv:AV}{rows:List (List AV)}{Ro:List Nat}{H:Aa}(h:ScF m p W X now lv sv rows Ro H){B:Nat}{d:CB}(hB:p+8≤B)(g:H[B]?=some d)(hn:Dn d=none)(c:CB):ScF m p W X now lv sv rows Ro (H.set B c):=by
 obtain⟨h0,h1,h2,h3,h4,h5,h6,h7,hL,hS,hl⟩:=h
 have l:=fun {b st:Nat} {fl:Bool} {r:List (List AV)} (gg:∃x,H[b]?=some (.live st fl x r)) (hn:b≠B)=>((Gq.refl H b).set (fun e=>hn e.symm) c).live gg
 refine⟨l h0 (by omega),l h1 (by omega),l h2 (by omega),by rw[acL (by omega)];exact h3,l h4 (by omega),l h5 (by omega),l h6 (by omega),l h7 (by omega),hL.put g hn c,?_,hl⟩
 rcases hS with h|⟨b,x,g1,g2,g3⟩
 ·exact .inl h
 ·obtain⟨x',g5⟩:=l ⟨x,g2⟩ (fun e=>by rw[e,g]at g2;cases g2;cases hn)
  exact .inr ⟨b,x',g1,g5,g3⟩
theorem bC{O:Hz}{H:Aa}{f:Nat}{args:List AV}{Q:Gw→Aa→Prop}(hq:Bv H=true)(K:ShQ O f args (Hj H) fun o G=>Q o G∧Qs (Hj H) G∧Bv G=true):
 ∃o G es M,shK H (O.call (.sh f) args (Hj H))=some (o,es)∧Eh H es=M∧Q o G∧Hj M=Hj G∧Qs H M∧Bv M=true:=by
 obtain⟨o,G,hc,hQ,hw,hg⟩:=K
 obtain⟨es,M,m1,m2,m3,m4,m5⟩:=aRY (o:=o) hq hw hg
 exact⟨o,G,es,M,by rw[hc];exact m1,m2,hQ,m3,m4,m5⟩
theorem ScF.now{m:Ah}{p:Nat}{W:List Int}{X:List (List Int × Int)}{now now2:List Int}{lv sv:AV}{rows:List (List AV)}{Ro:List Nat}{H:Aa}(h:ScF m p W X now lv sv rows Ro H)(hn:now2.length=now.length)(x:Bool):ScF m p W X now2 lv sv rows Ro (H.set (p+5) (.live 1 true x (now2.map iv))):=by
 obtain⟨h0,h1,h2,h3,h4,h5,h6,h7,hL,hS,hl⟩:=h
 have sm:∀b,b≠p+5→Gq H (H.set (p+5) (.live 1 true x (now2.map iv))) b:=fun b hb=>(Gq.refl H b).set (fun e=>hb e.symm) _
 refine⟨(sm _ (by omega)).live h0,(sm _ (by omega)).live h1,(sm _ (by omega)).live h2,(sm _ (by omega)).map h3,(sm _ (by omega)).live h4,⟨x,?_⟩,?_,(sm _ (by omega)).live h7,hL.sm (by simp) (fun b hb _=>sm b (by omega)),?_,hl⟩
 ·obtain⟨z,h5⟩:=h5
  exact acZ (Aw h5)
 ·rw[hn];exact(sm _ (by omega)).live h6
 ·rcases hS with h|⟨b,z,g1,g2,g3⟩
  ·exact .inl h
  ·obtain⟨z',g5⟩:=(sm b (by omega)).live ⟨z,g2⟩
   exact .inr ⟨b,z',g1,g5,g3⟩
theorem a7X{m:Ah}(hs:m.small)(hm:Ce m=true){p:Nat}:∀(d k:Nat) (W:List Int) (X:List (List Int × Int)) (now:List Int) (lv sv:AV) (rows:List (List AV)) (Ro:List Nat) (H:Aa),
 Bv H=true→ScF m p W X now lv sv rows Ro H→Few m (W,X)→now.length=m.sens.length→k+d=m.sens.length→
 ShQ Ec 78 ([.int .i64 (k:Int)]++scA p) H fun o G=>o=.ret (.tup [])∧∃now',now'.length=now.length∧now'.take k=now.take k∧ScL m p (tB m k d now (W,X)).1 (tB m k d now (W,X)).2 now' lv sv H G:=by
 intro d
 induction d with
 |zero=>
  intro k W X now lv sv rows Ro H hq hF hf hnl hkd
  have e1:tB m k 0 now (W,X)=aeL m (W,X) now:=by
   unfold tB wT
   rw[aJZ (by omega)]
   simp[Zl]
  rw[e1]
  obtain rfl:k=now.length:=by omega
  by_cases hin:Hh m now∈W
  ·obtain⟨o,G,hc,rfl,hcl,hw⟩:=a5Q hs hm hq hF hnl hin
   have e2:aeL m (W,X) now=(W,X):=if_pos hin
   rw[e2]
   have hsm:∀b,b<H.length→Gq H G b:=fun b hb=>((Gq.refl H b).app hb _).eqR hcl.symm
   refine⟨_,G,hc,rfl,now,rfl,rfl,⟨lv,sv,rows,Ro,hF.keep hw.1 (fun b hb _=>hsm b hb) ((hsm _ (Aw hF.h3)).map hF.h3),fun b hb=>.inl hb⟩,hw,aB1 hcl.symm (Dp hq rfl),fun b hb _=>hsm b hb⟩
  ·have e2:aeL m (W,X) now=(W++[Hh m now],X++(Fg m).map fun c=>(now,c)):=if_neg hin
   rw[e2]
   obtain⟨o,G,hc,rfl,hL⟩:=a3I hs hm hq hF hnl hin (by have:=hf.le hm;simp only at this;omega)
   exact⟨_,G,hc,rfl,now,rfl,rfl,hL⟩
 |succ d ih=>
  intro k W X now lv sv rows Ro H hq hF hf hnl hkd
  obtain⟨⟨x0,h0⟩,⟨x1,h1⟩,⟨x2,h2⟩,h3,⟨x4,h4⟩,⟨x5,h5⟩,⟨x6,h6⟩,⟨x7,h7⟩,hL,hS,hl⟩:=id hF
  have hne:((k:Int)==(now.length:Int))=false:=by simp;omega
  have hq1:Bv (H++[.live 1 true false [[.int .i64 (k:Int)]]])=true:=Dp hq rfl
  obtain⟨o,G1,es,M,e1,e2,⟨hK,hgq,rfl,b0,b1,b2,b,xb,yb,hbl,hbn,b4,b5⟩,hcl,hw,hqM⟩:=a99 (O:=Ec) (f:=79) (vs:=[.agg m.cells,.int .i64 (k:Int)]) (cap:=[]) hq1 rfl rfl (by
   have:=aQS m hs hm (k:=(k:Int)) (by omega) (by rw[aQ7];omega) (Il hq1)
   obtain⟨o,G,c1,c2⟩:=this
   exact⟨o,G,c1,c2,c2.1.wst,c2.2.1⟩)
  have hlen:(Hj (H++[.live 1 true false [[.int .i64 (k:Int)]]])).length=H.length+1:=by simp[Ee]
  rw[hlen]at e1 b0 b1 b2 b4 hbl hbn
  have hca:Hj (H++[.live 1 true false [[.int .i64 (k:Int)]]])=Hj H++[.live 1 true false [[.int .i64 (k:Int)]]]:=by simp[Hj,CB.clean]
  have e1':shK (H++[.live 1 true false [[.int .i64 (k:Int)]]]) (Ec.call (.sh 79) [.agg [Ak 3 true m.nS (m.sens.map Db.cells),Ak 4 false m.nV (m.votes.map Au.cells),Ak 5 false m.nM (m.moves.map Bi.cells),.int .i64 m.states,.int .i64 m.cmds,.int .i64 m.bgn,Ak 1 true m.nO (m.opn.map iv)],.int .i64 (k:Int)] (Hj H++[.live 1 true false [[.int .i64 (k:Int)]]]))=some (.ret (.func (.func 97) [] [.ptr (H.length+5) 0 0,.ptr (H.length+1) 0 0,.ptr (H.length+2) 0 0,.ptr (H.length+3) 0 0]),es):=by
   rw[←hca]
   exact e1
  refine anJ rfl Try.func78 rfl rfl ?_
  simp only[Try.f78,scA,aKM,aLD]
  (have hb:=trivial;with_reducible repeat' (first|simp only[hb,Vc.down,seval,aHR.down,Yd.down,Ae h0,Ae h6,hne,e1',e2,acR]|refine Bm ?_ ?_<;>intro hb|refine fd ?_|fail))
  generalize hLP:CB.lp _ _ _ _ _=LP
  have hgetk:=sY (m:=m) (k:=(k:Int)) (by rw[aQ7];omega)
  have hlen2:(aDM m k).length=(tH (Rb m k) m.votes).length:=aJG _
  have hlm:(aDM m k).length≤1000:=by rw[hlen2,aeU];have:=fN hm;omega
  have smM:∀c,c<H.length+1→Gq (H++[.live 1 true false [[.int .i64 (k:Int)]]]) M c:=fun c hc=>by
   have:Gq (Hj (H++[.live 1 true false [[.int .i64 (k:Int)]]])) G1 c:=Gq.of (hK.same c (by rw[hlen];exact hc) (by simp))
   exact(this.eqL (Ho _)).eqR hcl.symm
  have hMl:H.length+6≤M.length:=by
   have:=aGX hcl
   have:=Aw b4
   omega
  have bM:b<M.length:=by have:=aGX hcl;have:=Aw b5;omega
  refine a86 (baD hs hm (k:=(k:Int)) (s:=Rb m k) (L:=aDM m k) (lb:=H.length+5) (mb:=H.length+1) (kb:=H.length+2) (sb:=H.length+3) (b:=b) (M0:=M.length+1) hlm (ScI m p k d now (tB m k (d+1) now (W,X)) lv sv H (Hj M++[LP]) LP b M.length) (fun i w h I=>I.b5) (fun i w h I=>I.bb) (fun i w h I=>I.b1) (fun i w h I=>I.b2) (fun i w h I=>I.b3) (fun i w h I=>I.mp) ?_ ?_ ?_ ?_ ?_) ?_
  ·intro i w h r I
   obtain⟨⟨now',st,lv',sv',rows',Ro',a1,a2,a3,a4,a5,a6⟩,a7,a8,a9,⟨y0,k0⟩,⟨y1,k1⟩,⟨y2,k2⟩,⟨y3,k3⟩,⟨y5,k5⟩,⟨yb,kb⟩,kl,km⟩:=I
   have hHl:H.length<h.length:=Aw k0
   exact⟨⟨now',st,lv',sv',rows',Ro',a1,a2,a3,a4.app _,a5,a6⟩,a7.app _,Dp a8 rfl,fun c hc hn=>(a9 c hc hn).app (by omega) _,⟨y0,Ae k0 _⟩,⟨y1,Ae k1 _⟩,⟨y2,Ae k2 _⟩,⟨y3,Ae k3 _⟩,⟨y5,Ae k5 _⟩,⟨yb,Ae kb _⟩,Ae kl _,Ae km _⟩
  ·intro i w n h hx hvn hnw I
   obtain⟨⟨now',st,lv',sv',rows',Ro',a1,a2,a3,a4,a5,a6⟩,a7,a8,a9,k0,k1,k2,k3,k5,kb,kl,km⟩:=I
   obtain⟨mv,hmv⟩:∃mv,Gk (eO kI acX (w++[aW (k:Int) (Rb m (k:Int)) n m.votes]))=mv:=⟨_,rfl⟩
   rw[hmv]
   have hp8:p+7<H.length:=Aw h7
   have hBl:M.length+1<h.length:=Aw km
   obtain⟨h1,hh1⟩:∃h1,h.set (M.length+1) mv=h1:=⟨_,rfl⟩
   rw[hh1]
   have sm1:∀c,c≠M.length+1→Gq h h1 c:=fun c hc=>by rw[←hh1];exact(Gq.refl h c).set (fun e=>hc e.symm) mv
   have hq1:Bv h1=true:=by rw[←hh1,←hmv];exact Dv a8 _ (aWG _)
   have hl1:h1.length=h.length:=by rw[←hh1];simp
   have sc1:∀c,c≠M.length+1→c≠M.length→∀X:CB,Gq h ((Hj h1).set M.length X) c:=fun c n1 n2 X=>((sm1 c n1).eqR (Ho h1).symm).set (fun e=>n2 e.symm) X
   have lpc:(Hj h1)[M.length]?=some LP:=((sm1 M.length (by omega)).eqR (Ho h1).symm).keep kl fun d hd=>by rw[←hLP]at hd ⊢;exact aJ4 d hd
   obtain⟨z5,j5⟩:=a4.h5
   have live:∀{c st:Nat} {fl:Bool} {r:List (List AV)},(∃x,h[c]?=some (.live st fl x r))→c≠M.length+1→c≠M.length→∀X:CB,((Hj h1).set M.length X)[c]?=some (.live st fl false r):=fun {c st fl r} g n1 n2 X=>by
    obtain⟨x,g⟩:=(sm1 c n1).live g
    rw[acL (fun e=>n2 e.symm),Qh g];rfl
   have f0:=fun X=>live k0 (by omega) (by omega) X
   have f5:=fun X=>live a4.h5 (by omega) (by omega) X
   have f6:=fun X=>live a4.h6 (by omega) (by omega) X
   have f7:=fun X=>live a4.h7 (by omega) (by omega) X
   have hk6:=awF hm
   have hwk:IntKind.i64.wrap ((k:Int)+1)=((k+1:Nat):Int):=by rw[Dz (by omega) (by omega)];rfl
   have hkN:((k:Int)<(now'.length:Int))=True:=eq_true (by omega)
   have hset:(now'.map iv).set k [.int .i64 n]=(now'.set k n).map iv:=by rw[List.map_set];rfl
   have hlv:∀c∈Xi lv++Xi sv,c<H.length:=fun c hc=>by
    rcases aqD.1 hc with hc|hc
    ·cases lv<;>simp[Xi]at hc
     subst hc
     exact(hL.dov _ _ _ _ rfl).2.2
    ·rcases hS with⟨_,rfl⟩|⟨b',x,rfl,g2,_⟩
     ·simp[Xi]at hc
     ·simp[Xi]at hc;subst hc;exact Aw g2
   have own':∀c,c≤M.length+1→c∉anF p lv sv→c∉anF p lv' sv':=fun c hc hn hm=>by
    simp only[anF,aE9,aqD,aC7,aEO,or_false]at hn hm
    rcases hm with hm|hm
    ·exact hn (.inl hm)
    ·rcases a5 c (aqD.2 hm)with h|h
     ·exact hn (.inr (aqD.1 h))
     ·omega
   have ownH:∀c,H.length≤c→c≤M.length+1→c∉anF p lv sv:=fun c hc _ hm=>by
    simp only[anF,aE9,aqD,aC7,aEO,or_false]at hm
    rcases hm with hm|hm
    ·omega
    ·have:=hlv c (aqD.2 hm);omega
   have lpq:LP.quiet LP.clean=true:=by rw[←hLP];rfl
   obtain⟨y9,hgk⟩:∃y,now'[k]?=some y:=⟨now'[k]'(by omega),aOW _⟩
   obtain⟨o,G3,es,M3,y1,y2,⟨rfl,ylp,now2,l2,t2,⟨lv2,sv2,rows2,Ro2,F2,b2⟩,sm2⟩,ycl,yw,yq⟩:=a7T (O:=Ec) (H:=h1) (b:=M.length) (vs:=[.int .i64 n]) (Q:=fun o G=>o=.ret (.bool true)∧G[M.length]?=some LP∧∃now2,now2.length=now.length∧now2.take (k+1)=(now'.set k n).take (k+1)∧(∃lv2 sv2 rows2 Ro2,ScF m p (tB m (k+1) d (now'.set k n) st).1 (tB m (k+1) d (now'.set k n) st).2 now2 lv2 sv2 rows2 Ro2 G∧∀c∈Xi lv2++Xi sv2,c∈Xi lv'++Xi sv'∨h.length≤c)∧∀c,c<h.length→c∉anF p lv' sv'→c≠M.length→Gq h1 G c) hq1 (by
    obtain⟨Hc,hHc⟩:∃Hc,Hj h1=Hc:=⟨_,rfl⟩
    rw[hHc]at lpc f0 f5 f6 f7 ⊢
    have e7:∀X Y:CB,((Hc.set M.length X).set (p+5) Y)[p+7]?=_:=fun X Y=>(acL (by omega)).trans (f7 X)
    have e0:∀X Y:CB,((Hc.set M.length X).set (p+5) Y)[H.length]?=_:=fun X Y=>(acL (by omega)).trans (f0 X)
    subst hLP
    refine bmY lpc rfl ?_
    (have hb:=trivial;with_reducible repeat' (first|simp only[hb,Vc.down,seval,aHR.down,lpc,f0,f5,f6,f7,e7,e0,hwk,hkN,hset,hgk,iv,aLH,acR]|refine Bm ?_ ?_<;>intro hb|refine fd ?_|fail))
    generalize hLB:CB.lp _ _ _ _ Yk.busy=LB
    obtain⟨H2,hH2⟩:∃H2,(Hc.set M.length LB).set (p+5) (CB.live 1 true true (List.map iv (now'.set k n)))=H2:=⟨_,rfl⟩
    rw[hH2]
    have hLBc:∀d:CB,d.clean=LB.clean→d=LB:=fun d hd=>by rw[←hLB]at hd ⊢;exact aJ4 d hd
    have hLBq:LB.quiet LB.clean=true:=by rw[←hLB];rfl
    have F1:ScF m p st.1 st.2 now' lv' sv' rows' Ro' h1:=by rw[←hh1];exact a4.put (by omega) km rfl _
    have F2:ScF m p st.1 st.2 now' lv' sv' rows' Ro' Hc:=by rw[←hHc];exact F1.cl (Ho h1).symm
    have F3:ScF m p st.1 st.2 now' lv' sv' rows' Ro' (Hc.set M.length LB):=F2.put (by omega) lpc rfl _
    have F4:ScF m p st.1 st.2 (now'.set k n) lv' sv' rows' Ro' H2:=by rw[←hH2];exact F3.now (by simp) _
    have hqc:Bv Hc=true:=by rw[←hHc];exact Il hq1
    have hq2:Bv H2=true:=by rw[←hH2];exact Dv (Dv hqc _ hLBq) _ rfl
    have hl2:H2.length=h.length:=by rw[←hH2,←hHc];simp[Ee,hl1]
    have w1:Qs (Hc.set M.length LB) H2:=by
     obtain⟨z,g⟩:=F3.h5
     rw[←hH2];exact(Qs.refl _).put g 1 true _
    obtain⟨o,G,es,M2,g1,g2,⟨rfl,now2,l2,t2,SL⟩,g4,g5,g6⟩:=bC (O:=Ec) (H:=H2) (f:=78) (args:=.int .i64 ((k+1:Nat):Int)::scA p) (Q:=fun o G=>o=.ret (.tup [])∧∃now2,now2.length=(now'.set k n).length∧now2.take (k+1)=(now'.set k n).take (k+1)∧ScL m p (tB m (k+1) d (now'.set k n) st).1 (tB m (k+1) d (now'.set k n) st).2 now2 lv' sv' (Hj H2) G) hq2 (by
     obtain⟨o,G,c,rfl,now2,x1,x2,SL⟩:=ih (k+1) st.1 st.2 (now'.set k n) lv' sv' rows' Ro' (Hj H2) (Il hq2) (F4.cl (Ho H2).symm) a3 (by simp;omega) (by omega)
     exact⟨_,G,c,⟨rfl,now2,x1,x2,SL⟩,SL.w,SL.q⟩)
    rw[g1]
    have smH:∀c,c<h.length→c∉anF p lv' sv'→c≠M.length→Gq h1 M2 c:=fun c c1 c2 c3=>by
     have e1:Gq h1 H2 c:=by
      rw[←hH2,←hHc]
      exact(((Gq.refl h1 c).eqR (Ho h1).symm).set (fun e=>c3 e.symm) LB).set (fun e=>c2 (by simp[anF,e])) _
     exact((e1.eqR (Ho H2).symm).trans (SL.k c (by rw[Ee];omega) c2)).eqR g4.symm
    have mB:M2[M.length]?=some LB:=by
     have e1:(Hj H2)[M.length]?=some LB:=by
      have:H2[M.length]?=some LB:=by rw[←hH2,acL (by omega),acZ (Aw lpc)]
      exact((Gq.refl H2 M.length).eqR (Ho H2).symm).keep this hLBc
     exact as9 g4.symm ((SL.k M.length (by rw[Ee];omega) (own' _ (by omega) (ownH _ (by omega) (by omega)))).keep e1 hLBc) hLBc
    subst hLB
    (have hb:=trivial;with_reducible repeat' (first|simp only[hb,Vc.down,seval,aHR.down,g2,mB]|refine Bm ?_ ?_<;>intro hb|refine fd ?_|fail))
    obtain⟨⟨lv2,sv2,rows2,Ro2,G5,G6⟩,_,_,_⟩:=SL
    refine⟨_,_,rfl,⟨rfl,acZ (Aw mB),now2,by rw[l2];simp;omega,t2,⟨lv2,sv2,rows2,Ro2,(G5.cl g4.symm).put (by omega) mB rfl _,fun c hc=>by have:=G6 c hc;rwa[Ee,hl2]at this⟩,fun c c1 c2 c3=>(smH c c1 c2 c3).set (fun e=>c3 e.symm) _⟩,(w1.trans g5).back lpc,Dv g6 _ (by rfl)⟩
    )
   have bl:∀c,H.length≤c→c<M.length→Gq h M3 c:=fun c c1 c2=>((sm1 c (by omega)).trans (sm2 c (by omega) (own' c (by omega) (ownH c c1 (by omega))) (by omega))).eqR ycl.symm
   refine⟨es,y1,?_⟩
   rw[y2]
   refine⟨⟨now2,tB m (k+1) d (now'.set k n) st,lv2,sv2,rows2,Ro2,l2,?_,by unfold tB;exact aB3 hm _ a3,F2.cl ycl.symm,fun c hc=>?_,?_⟩,(a7.trans ?_).trans yw,yq,fun c c1 c2=>((a9 c c1 c2).trans ((sm1 c (by omega)).trans (sm2 c (by omega) (own' c (by omega) c2) (by omega)))).eqR ycl.symm,(bl _ (by omega) (by omega)).live k0,(bl _ (by omega) (by omega)).live k1,(bl _ (by omega) (by omega)).live k2,(bl _ (by omega) (by omega)).live k3,(bl _ (by omega) (by omega)).live k5,(bl _ (by omega) (by omega)).live kb,as9 ycl.symm ylp fun d hd=>by rw[←hLP]at hd ⊢;exact aJ4 d hd,?_⟩
   ·have e1:now2.take k=(now2.take (k+1)).take k:=by rw[aRF];congr 1;omega
    rw[e1,t2,aRF,show min k (k+1)=k by omega,aPH (by omega),a2]
   ·rcases b2 c hc with h|h
    ·exact a5 c h
    ·right;omega
   ·obtain⟨q1,q2⟩:=aCF.1 hx
    rw[aID q1,q2,Ug,if_pos (show mD n=true∧aZJ m k n∉w from⟨hvn,hnw⟩)]at a6
    rw[←a6]
    exact(aVN m k d now n _ st a2 (by omega)).symm
   ·rw[←hh1,←hmv];exact(Qs.refl h).map km _
   ·have e1:h1[M.length+1]?=some (Gk (eO kI acX (w++[aW (k:Int) (Rb m (k:Int)) n m.votes]))):=by rw[←hh1,hmv];exact acZ hBl
    exact((sm2 (M.length+1) (by omega) (own' _ (by omega) (ownH _ (by omega) (by omega))) (by omega)).eqR ycl.symm).map e1
  ·intro i w n h hx hnk I
   obtain⟨⟨now',st,lv',sv',rows',Ro',a1,a2,a3,a4,a5,a6⟩,a7,a8,a9,k0,k1,k2,k3,k5,kb,kl,km⟩:=I
   refine⟨⟨now',st,lv',sv',rows',Ro',a1,a2,a3,a4,a5,?_⟩,a7,a8,a9,k0,k1,k2,k3,k5,kb,kl,km⟩
   obtain⟨q1,q2⟩:=aCF.1 hx
   rw[aID q1,q2,Ug,if_neg (show ¬(mD n=true∧aZJ m k n∉w)from hnk)]at a6
   exact a6
  ·simp[Ee]
  ·have hs2:∀c,c<H.length+1→Gq (H++[.live 1 true false [[.int .i64 (k:Int)]]]) (Hj M++[LP]++[Gk []]) c:=fun c hc=>((((smM c hc).trans (Gq.refl M c)).eqR (Ho M).symm).app (by rw[Ee];omega) _).app (by simp[Ee];omega) _
   have hs3:∀c,c<H.length→Gq H (Hj M++[LP]++[Gk []]) c:=fun c hc=>((Gq.refl H c).app hc _).trans (hs2 c (by omega))
   have gM:∀{c st:Nat} {fl:Bool} {r:List (List AV)},(∃x,G1[c]?=some (.live st fl x r))→∃x,(Hj M++[LP]++[Gk []])[c]?=some (.live st fl x r):=fun {c st fl r} g=>by
    obtain⟨x,g⟩:=Kr (hcl.symm.trans (Ho M).symm) g
    exact⟨x,Ae (Ae g _) _⟩
   refine⟨⟨now,(W,X),lv,sv,rows,Ro,rfl,rfl,hf,hF.keep (by simp[Ee];omega) (fun c hc _=>hs3 c hc) ((hs3 _ (Aw h3)).map h3),fun c hc=>.inl hc,aZR m k d now (W,X)⟩,(Qs.refl _).app _,?_,fun c hc _=>hs3 c hc,(hs2 H.length (by omega)).live ⟨false,by simp⟩,gM b0,gM b1,gM b2,gM ⟨xb,by rw[hlen2];exact b4⟩,gM ⟨yb,b5⟩,?_,?_⟩
   ·refine Dp (Dp (Il hqM) ?_) (aWG [])
    rw[←hLP];rfl
   ·rw[aAM (by simp[Ee]),aIC (by rw[Ee];omega),Ee,Nat.sub_self];rfl
   ·rw[aIC (by simp[Ee])];simp[Ee,eO]
  ·rintro o h' ⟨rfl,w,I⟩
   obtain⟨⟨now',st,lv',sv',rows',Ro',a1,a2,a3,a4,a5,a6⟩,a7,a8,a9,k0,k1,k2,k3,k5,kb,kl,km⟩:=I
   have hLq:Bv [LP]=true:=by rw[←hLP];rfl
   have hLc:Hj (M++[LP])=Hj M++[LP]:=by rw[←hLP];simp[Hj,CB.clean]
   obtain⟨es2,M2,f1,f2,f3,f4,f5⟩:=aRY (o:=.ret (.tup [])) (Dp hqM hLq) (by rw[hLc];exact a7) a8
   have mB:M2[M.length]?=some LP:=as9 f3.symm kl fun d hd=>by rw[←hLP]at hd ⊢;exact aJ4 d hd
   rw[f1]
   subst hLP
   (have hb:=trivial;with_reducible repeat' (first|simp only[hb,Vc.down,seval,aHR.down,f2,mB]|refine Bm ?_ ?_<;>intro hb|refine fd ?_|fail))
   have hdr:(aDM m k).drop (aDM m k).length=[]:=aOX
   rw[hdr]at a6
   have e6:st=tB m k (d+1) now (W,X):=by rw[←a6];rfl
   subst e6
   refine⟨now',a1,a2,⟨⟨lv',sv',rows',Ro',(a4.cl f3.symm).put (by have:=Aw h7;omega) mB rfl _,fun c hc=>(a5 c hc).imp id fun h=>by omega⟩,?_,Dv f5 _ rfl,fun c hc hn=>?_⟩⟩
   ·exact(((((Qs.refl H).app _).trans hw).app _).trans f4).hi (by omega) _
   ·exact((a9 c hc hn).eqR f3.symm).set (by omega) _
end Go.Proofs.Ytfkokgjfpojeoaa
