/- The functions of the layer, walked. -/
import Derived.Test.YtfkokgjfpojeoaaLibE
import Derived.Test.YtfkokgjfpojeoaaPartAC
open List renaming length_map→aa9,getElem?_set_ne→adE,mem_append→adJ,getElem?_set_self→aeU,mem_cons→aiZ,getElem?_append_left→ajP,not_mem_nil→akQ,append_assoc→alW,replicate→am1,getElem?_eq_some_iff→anK,map_cons→anU,nil_append→arO,map_append→arP,length_cons→as6,map_congr_left→at6,getElem?_eq_getElem→au3,drop_eq_getElem_cons→awE,take_of_length_le→awM,cons_append→awY,mem_append_right→ayB,map_nil→ayC,length_nil→ayE,take_add_one→ayR,length_set→ayS,getElem?_append_right→ayU,drop_length→ayY,mem_of_getElem?→azA,mem_flatMap→azS,take_zero→aBS,length_eq_zero_iff→aBT,take_set_of_le→aDB,take_take→aFX,getElem?_eq_none→aF7,mem_range→aF8
open Eq renaming trans→ajS
open Int renaming toNat_natCast→auT
open Bool renaming false_eq_true→azC
set_option linter.unusedSimpArgs false
set_option linter.unusedVariables false
namespace Go.Proofs.Ytfkokgjfpojeoaa
open Go.Ev Go Go.Ev.Bfs
set_option maxRecDepth 100000
set_option maxHeartbeats 16000000
def kI(n:Int):AV:=.int .i64 n
def aBQ{α:Type}(_:α):AV:=.bool true
theorem aW4:aLU Try.prog 3 kI (fun _=>True):=⟨fun a _=>by
 unfold aO0 aIW kI
 simp only[Try.underlying3]
 rfl,fun a b _ _=>by
 unfold aEq kI
 simp only[Try.underlying3,if_true,Option.some.injEq]
 by_cases e:a=b<;>simp[e],fun a _=>by
 simp[kI,AV.sameKey,AV.same]⟩
theorem baY{m:aaW}(hs:m.small)(hm:adZ m=true){k:Int}{s:ad1}{L:List Int}{y:AV}{lb mb kb sb b M0:Nat}(hL9:L.length≤1000)(Inv:Nat→List Int→aaL→Prop)
 (hl:∀i w h,Inv i w h→∃x,h[lb]?=some (.live 1 false x [[.slr 1 b 0 L.length]])) (hlb:∀i w h,Inv i w h→∃x,h[b]?=some (.live 1 true x (L.map iv))) (hmb:∀i w h,Inv i w h→∃x,h[mb]?=some (.live 7 false x [m.cells]))
 (hkb:∀i w h,Inv i w h→∃x,h[kb]?=some (.live 1 true x [[.int .i64 k]])) (hsb:∀i w h,Inv i w h→∃x,h[sb]?=some (.live 3 true x [s.cells])) (hM:∀i w h,Inv i w h→h[M0]?=some (amD (kvG kI aBQ w)))
 (hA:∀i w h (r:List (List AV)),Inv i w h→Inv i w (h++[.live 4 false true r]))
 (hS:∀i w n h,L[i]?=some n→awX n=true→aw8 k s n m.votes∉w→Inv i w h→∃es,cl om' (h.set M0 (amD (kvG kI aBQ (w++[aw8 k s n m.votes])))) (some y) (some [.int .i64 n])=some (.ret (.bool true),es)∧Inv (i+1) (w++[aw8 k s n m.votes]) (agN (h.set M0 (amD (kvG kI aBQ (w++[aw8 k s n m.votes])))) es))
 (hN:∀i w n h,L[i]?=some n→¬(awX n=true∧aw8 k s n m.votes∉w)→Inv i w h→Inv (i+1) w h)
 {h0:aaL} (hM0:M0=h0.length) (h0I:Inv 0 [] (h0++[amD []])):ShQ om' 97 [y,.ptr lb 0 0,.ptr mb 0 0,.ptr kb 0 0,.ptr sb 0 0] h0 fun o h'=>o=.ret (.tup [])∧∃w,Inv L.length w h':=by
 have hsv:=hs.votes
 obtain⟨x1,hl1⟩:=hl _ _ _ h0I
 obtain⟨x2,hl2⟩:=hlb _ _ _ h0I
 unfold amD at hl1 hl2
 refine aDP rfl Try.func97 rfl rfl ?_
 simp only[Try.f97]
 (have hb:=trivial;with_reducible repeat' (first|simp only[hb,Vc.down,seval,aK2.down,auO.down,hl1,hl2,aa9]|refine fsp ?_ ?_<;>intro hb|refine fd ?_|fail))
 refine ahX (lst 57 L (fun i (w:List Int) t h=>t 0=y∧t 2=.ptr mb 0 0∧t 3=.ptr kb 0 0∧t 4=.ptr sb 0 0∧t 6=.mapr M0∧t 13=.slr 1 b 0 L.length∧t 14=.int .i64 (L.length:Nat)∧t 15=.int .i64 (i:Int)∧Inv i w h) (fun _ _=>()) (fun _ e t h=>e=.exit 0∧∃w,Inv L.length w h) ?_ ?_ [] _ _ ?_) (fun e t h hk=>?_)
 ·rintro w t h Q' kQ ⟨g0,g2,g3,g4,g6,g13,g14,g15,hI⟩
  (have hb:=trivial;with_reducible repeat' (first|simp only[hb,Vc.down,seval,aK2.down,g14,g15,Int.lt_irrefl,decide_false]|refine fsp ?_ ?_<;>intro hb|refine fd ?_|fail))
  exact kQ _ _ _ ⟨rfl,w,hI⟩
 ·rintro n rest i w t h J Q' kJ kQ hx hi ⟨g0,g2,g3,g4,g6,g13,g14,g15,hI⟩
  have hdd:decide ((i:Int)<(L.length:Int))=true:=decide_eq_true (by omega)
  have hdp:((i:Int)<(L.length:Int))=True:=eq_true (by omega)
  have hww:=adL hi (by unfold maxLen;omega)
  obtain⟨x3,hb3⟩:=hlb _ _ _ hI
  obtain⟨x4,hm4⟩:=hmb _ _ _ hI
  (have hb:=trivial;with_reducible repeat' (first|simp only[hb,Vc.down,seval,aK2.down,g0,g2,g3,g4,g6,g13,g14,g15,hdd,hdp,hx,hb3,hm4,iv,aa9]|refine fsp ?_ ?_<;>intro hb|refine fd ?_|fail))
  refine ahX (lst 57 m.votes (fun j (c:Int) t h=>t 0=y∧t 2=.ptr mb 0 0∧t 3=.ptr kb 0 0∧t 4=.ptr sb 0 0∧t 6=.mapr M0∧t 13=.slr 1 b 0 L.length∧t 14=.int .i64 (L.length:Nat)∧t 15=.int .i64 (i:Int)∧t 8=.int .i64 n∧t 9=.int .i64 c∧t 20=slv 4 false m.nV (m.votes.map abT.cells)∧t 21=.int .i64 (m.votes.length:Nat)∧t 22=.int .i64 (j:Int)∧Inv i w h∧ax0 (aE0 k s n (m.votes.drop j)) j c=aw8 k s n m.votes) (fun _ _=>())
   (fun _ e t h=>e=.exit 2∧t 0=y∧t 2=.ptr mb 0 0∧t 3=.ptr kb 0 0∧t 4=.ptr sb 0 0∧t 6=.mapr M0∧t 13=.slr 1 b 0 L.length∧t 14=.int .i64 (L.length:Nat)∧t 15=.int .i64 (i:Int)∧t 8=.int .i64 n∧t 9=.int .i64 (aw8 k s n m.votes)∧Inv i w h) ?_ ?_ 0 _ _ ?_) (fun e t h hk'=>?_)
  ·rintro c t h Q'' kQ ⟨g0,g2,g3,g4,g6,g13,g14,g15,g8,g9,g20,g21,g22,hI,hc⟩
   (have hb:=trivial;with_reducible repeat' (first|simp only[hb,Vc.down,seval,aK2.down,g21,g22,Int.lt_irrefl,decide_false]|refine fsp ?_ ?_<;>intro hb|refine fd ?_|fail))
   rw[ayY]at hc
   exact kQ _ _ _ ⟨rfl,by simp[up,g0],by simp[up,g2],by simp[up,g3],by simp[up,g4],by simp[up,g6],by simp[up,g13],by simp[up,g14],by simp[up,g15],by simp[up,g8],by simp only[up];rw[if_neg (by decide),g9,←hc];rfl,hI⟩
  ·rintro v rest2 j c t h J' Q'' kJ' kQ' hv hj ⟨g0,g2,g3,g4,g6,g13,g14,g15,g8,g9,g20,g21,g22,hI,hc⟩
   have hd2:decide ((j:Int)<(m.votes.length:Int))=true:=decide_eq_true (by omega)
   have hw2:=adL hj hsv
   have hvs:=hs.vs v (azA hv)
   have hA1:=hA i w h [v.cells] hI
   obtain⟨x5,hk5⟩:=hkb _ _ _ hA1
   obtain⟨x6,hs6⟩:=hsb _ _ _ hA1
   have hC:=aS8 (l:=v.sens) (nn:=v.nn) k hvs
   have hS1:=aO6 s v n
   have hdj:m.votes.drop j=v::m.votes.drop (j+1):=by
    obtain⟨h1,h2⟩:=anK.1 hv
    rw[awE h1,h2]
   rw[hdj]at hc
   simp only[aE0,anU,ax0]at hc
   simp only[abT.cells]at hk5 hs6 hA1
   simp only[ad1.cells]at hs6
   cases c1:(v.sens.any fun x=>k==x)with
   |false=>
    rw[c1]at hC hc
    simp only[Bool.false_and,azC,if_false]at hc
    (have hb:=trivial;with_reducible repeat' (first|simp only[hb,Vc.down,seval,aK2.down,g0,g2,g3,g4,g6,g13,g14,g15,g8,g9,g20,g21,g22,hd2,hw2,hv,hk5,hs6,hC,hS1,aNQ,abT.cells,aa9]|refine fsp ?_ ?_<;>intro hb|refine fd ?_|fail))
    exact adW (kJ' _ _ c ⟨by simp[up,g0],by simp[up,g2],by simp[up,g3],by simp[up,g4],by simp[up,g6],by simp[up,g13],by simp[up,g14],by simp[up,g15],by simp[up,g8],by simp[up,g9],by simp[up,g20],by simp[up,g21],by simp[up],hA1,hc⟩ rfl)
   |true=>
    rw[c1]at hC hc
    simp only[Bool.true_and]at hc
    cases c2:aw5 s v n with
    |false=>
     rw[c2]at hS1 hc
     simp only[azC,if_false]at hc
     (have hb:=trivial;with_reducible repeat' (first|simp only[hb,Vc.down,seval,aK2.down,g0,g2,g3,g4,g6,g13,g14,g15,g8,g9,g20,g21,g22,hd2,hw2,hv,hk5,hs6,hC,hS1,aNQ,abT.cells,aa9]|refine fsp ?_ ?_<;>intro hb|refine fd ?_|fail))
     exact adW (kJ' _ _ c ⟨by simp[up,g0],by simp[up,g2],by simp[up,g3],by simp[up,g4],by simp[up,g6],by simp[up,g13],by simp[up,g14],by simp[up,g15],by simp[up,g8],by simp[up,g9],by simp[up,g20],by simp[up,g21],by simp[up],hA1,hc⟩ rfl)
    |true=>
     rw[c2]at hS1 hc
     simp only[if_true]at hc
     (have hb:=trivial;with_reducible repeat' (first|simp only[hb,Vc.down,seval,aK2.down,g0,g2,g3,g4,g6,g13,g14,g15,g8,g9,g20,g21,g22,hd2,hw2,hv,hk5,hs6,hC,hS1,aNQ,abT.cells,aa9]|refine fsp ?_ ?_<;>intro hb|refine fd ?_|fail))
     exact adW (kJ' _ _ (orN c (aSM j)) ⟨by simp[up,g0],by simp[up,g2],by simp[up,g3],by simp[up,g4],by simp[up,g6],by simp[up,g13],by simp[up,g14],by simp[up,g15],by simp[up,g8],by simp[up,g9],by simp[up,g20],by simp[up,g21],by simp[up],hA1,hc⟩ rfl)
  ·exact⟨by simp[up,g0],by simp[up,g2],by simp[up,g3],by simp[up,g4],by simp[up,g6],by simp[up,g13],by simp[up,g14],by simp[up,g15],by simp[up],by simp[up],by simp[up],by simp[up],by simp[up],hI,by rw[List.drop_zero];rfl⟩
  obtain⟨rfl,g0,g2,g3,g4,g6,g13,g14,g15,g8,g9,hI⟩:=hk'
  have hmp:=hM _ _ _ hI
  have hV:=aA9 n
  by_cases hkp:awX n=true∧aw8 k s n m.votes∉w
  ·obtain⟨k1,k2⟩:=hkp
   rw[k1]at hV
   have hlk:=aW4.lk_no (ty:=129) (z:=.bool false) Try.underlying129 (by kernel_rfl) hmp (fun _ _=>trivial) trivial k2 false
   have hms:=aW4.ms_new (ty:=129) Try.underlying129 hmp (fun _ _=>trivial) trivial k2 (.bool true)
   obtain⟨es,e1,e2⟩:=hS i w n h hx k1 k2 hI
   have hyy:(kvG kI (fun y_1=>if y_1=aw8 k s n m.votes then AV.bool true else aBQ y_1) (w++[aw8 k s n m.votes]))=kvG kI aBQ (w++[aw8 k s n m.votes]):=by
    congr 1;funext q;split<;>rfl
   rw[hyy]at hms
   unfold kI at hlk hms e1 e2
   simp only[cond_false]at hlk
   (have hb:=trivial;with_reducible repeat' (first|simp only[hb,Vc.down,seval,aK2.down,auO.down,g0,g2,g3,g4,g6,g13,g14,g15,g8,g9,hww,hV,hlk,hms,e1]|refine fsp ?_ ?_<;>intro hb|refine fd ?_|fail))
   exact adW (kJ _ _ (w++[aw8 k s n m.votes]) ⟨by simp[up,g0],by simp[up,g2],by simp[up,g3],by simp[up,g4],by simp[up,g6],by simp[up,g13],by simp[up,g14],by simp[up],e2⟩ rfl)
  ·have e2:=hN i w n h hx hkp hI
   cases cV:awX n with
   |false=>
    rw[cV]at hV
    (have hb:=trivial;with_reducible repeat' (first|simp only[hb,Vc.down,seval,aK2.down,auO.down,g0,g2,g3,g4,g6,g13,g14,g15,g8,g9,hww,hV]|refine fsp ?_ ?_<;>intro hb|refine fd ?_|fail))
    exact adW (kJ _ _ w ⟨by simp[up,g0],by simp[up,g2],by simp[up,g3],by simp[up,g4],by simp[up,g6],by simp[up,g13],by simp[up,g14],by simp[up],e2⟩ rfl)
   |true=>
    rw[cV]at hV
    have k2:aw8 k s n m.votes∈w:=Classical.not_not.1 fun h2=>hkp ⟨cV,h2⟩
    have hlk:=aW4.lk_yes (ty:=129) (z:=.bool false) Try.underlying129 (by kernel_rfl) hmp (fun _ _=>trivial) k2 false
    unfold kI at hlk
    simp only[cond_false,aBQ]at hlk
    (have hb:=trivial;with_reducible repeat' (first|simp only[hb,Vc.down,seval,aK2.down,auO.down,g0,g2,g3,g4,g6,g13,g14,g15,g8,g9,hww,hV,hlk]|refine fsp ?_ ?_<;>intro hb|refine fd ?_|fail))
    exact adW (kJ _ _ w ⟨by simp[up,g0],by simp[up,g2],by simp[up,g3],by simp[up,g4],by simp[up,g6],by simp[up,g13],by simp[up,g14],by simp[up],e2⟩ rfl)
 ·exact⟨by simp[up,ent],by simp[up,ent],by simp[up,ent],by simp[up,ent],by simp[up,ent,hM0],by simp[up,ent],by simp[up,ent],by simp[up,ent],h0I⟩
 obtain⟨rfl,hI⟩:=hk
 (have hb:=trivial;with_reducible repeat' (first|simp only[hb,Vc.down,seval,aK2.down]|refine fsp ?_ ?_<;>intro hb|refine fd ?_|fail))
 exact hI
theorem a7M{n:Nat}{h:aaL}{nfl:Bool}{a b r len:Nat}{rows:List (List AV)}(hr:rows≠[]):apK n h (some (.slr a b r len)) (some (nfl,rows))=apS n h.length b r len nfl rows (h[b]?):=by
 obtain⟨x,l,rfl⟩:=List.exists_cons_of_ne_nil hr
 rfl
theorem aQK(l:List Int)(hl:l.length≤1000):
 om'.call (.fn 65) [slv 1 true true (l.map iv)] []=some (.ret (.slr 1 0 0 l.length),[.live 1 true false (l.map iv)]):=by
 by_cases hne:l=[]
 ·subst hne
  rw[show slv 1 true true (([]:List Int).map iv)=.imm 1 true []from rfl]
  (refine ce Try.func65 ?_;simp only[Try.f65];(have hb:=trivial;with_reducible repeat' (first|simp only[hb,Vc.down,seval,beK.down]|refine fsp ?_ ?_<;>intro hb|refine fd ?_|fail)))
 ·have h2:l.map iv≠[]:=by simpa using hne
  have h3:((l.map iv).length≤549755813888)=True:=eq_true (by simp;omega)
  have hs:slv 1 true true (l.map iv)=.imm 1 true (l.map iv):=a3P h2
  rw[hs]
  have h4:=fun(h:aaL) a b r len=>a7M (n:=1) (h:=h) (nfl:=true) (a:=a) (b:=b) (r:=r) (len:=len) h2
  simp only[aa9]at h3
  (refine ce Try.func65 ?_;simp only[Try.f65];(have hb:=trivial;with_reducible repeat' (first|simp only[hb,Vc.down,seval,beK.down,h3,h4,aa9]|refine fsp ?_ ?_<;>intro hb|refine fd ?_|fail)))
theorem aC8{m:aaW}(h:adZ m=true):m.sens.length≤6:=by simp[adZ,aw0]at h;omega
theorem aAX{m:aaW}(h:adZ m=true):0≤m.cmds∧m.cmds≤4:=by simp[adZ,aw0,inB]at h;omega
def atE(m:aaW):List Int:=(List.range (m.cmds+1).toNat).map fun(i:Nat)=>(i:Int)-1
theorem aNB{m:aaW}(hm:adZ m=true):((atE m).length:Int)=m.cmds+1:=by have:=aAX hm;simp[atE];omega
theorem aXF{m:aaW}{i:Nat}{c:Int}(h:(atE m)[i]?=some c):c=(i:Int)-1:=by
 unfold atE at h
 rw[List.getElem?_map]at h
 obtain⟨j,h1,rfl⟩:=Option.map_eq_some_iff.1 h
 obtain⟨h2,h3⟩:=anK.1 h1
 simp at h3;omega
def aq2(m:aaW)(r:List Int):Int:=axF m r m.votes 0 0
def tsc(x:List Int × Int):aeH:=⟨true,x.1,x.2⟩
def sgC(m:aaW)(x:List Int × Int):List AV:=[.int .i64 (aq2 m x.1),.int .i64 x.2]
def scA(p:Nat):List AV:=[.ptr (p+6) 0 0,.ptr p 0 0,.ptr (p+4) 0 0,.ptr (p+1) 0 0,.ptr (p+2) 0 0,.ptr (p+7) 0 0]
def scB:AV→List Nat
 | .slr _ b _ _=>[b]
 |_=>[]
structure ScF(m:aaW)(p:Nat)(W:List Int)(X:List (List Int × Int))(now:List Int)(lv sv:AV)(rows:List (List AV))(Ro:List Nat)(H:aaL):Prop where
 h0:∃x,H[p]?=some (.live 7 false x [m.cells])
 h1:∃x,H[p+1]?=some (.live 1 false x [[lv]])
 h2:∃x,H[p+2]?=some (.live 1 false x [[sv]])
 h3:H[p+3]?=some (amD (kvG kI aBQ W))
 h4:∃x,H[p+4]?=some (.live 1 false x [[.mapr (p+3)]])
 h5:∃x,H[p+5]?=some (.live 1 true x (now.map iv))
 h6:∃x,H[p+6]?=some (.live 1 false x [[.slr 1 (p+5) 0 now.length]])
 h7:∃x,H[p+7]?=some (.live 1 false x [[.func (.func 78) [] (scA p)]])
 L:LLG 2 (p+8) lv H rows (X.map fun x=>(tsc x).cells) Ro
 S:(X=[]∧sv=.nils)∨∃b x,sv=.slr 2 b 0 X.length∧H[b]?=some (.live 2 true x (X.map (sgC m)))∧p+8≤b∧b∉Ro∧b∉scB lv∧X≠[]
 len:rows.length=X.length
theorem ScF.cl{m:aaW}{p:Nat}{W:List Int}{X:List (List Int × Int)}{now:List Int}{lv sv:AV}{rows:List (List AV)}{Ro:List Nat}{H G:aaL}(h:ScF m p W X now lv sv rows Ro H)(e:clH H=clH G):ScF m p W X now lv sv rows Ro G:=
 ⟨an0 e h.h0,an0 e h.h1,an0 e h.h2,aWK e h.h3,an0 e h.h4,an0 e h.h5,an0 e h.h6,an0 e h.h7,h.L.cl e,by
   rcases h.S with h|⟨b,x,h1,h2,h3⟩
   ·exact .inl h
   ·obtain⟨x',h4⟩:=an0 e ⟨x,h2⟩
    exact .inr ⟨b,x',h1,h4,h3⟩,h.len⟩
def aEQ(p:Nat)(lv sv:AV):List Nat:=[p+1,p+2,p+3,p+5]++scB lv++scB sv
theorem ScF.keep{m:aaW}{p:Nat}{W W':List Int}{X:List (List Int × Int)}{now:List Int}{lv sv:AV}{rows:List (List AV)}{Ro:List Nat}{H G:aaL}(h:ScF m p W X now lv sv rows Ro H)(hl:H.length≤G.length)(k:∀b,b<H.length→b≠p+3→SmB H G b)(h3:G[p+3]?=some (amD (kvG kI aBQ W'))):ScF m p W' X now lv sv rows Ro G:=by
 obtain⟨h0,h1,h2,_,h4,h5,h6,h7,hL,hS,hl'⟩:=h
 have l:=fun {b st:Nat} {fl:Bool} {r:List (List AV)} (g:∃x,H[b]?=some (.live st fl x r)) (hn:b≠p+3)=>(k b (by obtain⟨x,g⟩:=g;exact adM g) hn).live g
 refine⟨l h0 (by omega),l h1 (by omega),l h2 (by omega),h3,l h4 (by omega),l h5 (by omega),l h6 (by omega),l h7 (by omega),hL.sm hl fun b b1 b2=>k b b2 (by omega),?_,hl'⟩
 rcases hS with h|⟨b,x,g1,g2,g3,g4⟩
 ·exact .inl h
 ·obtain⟨x',g5⟩:=l ⟨x,g2⟩ (by omega)
  exact .inr ⟨b,x',g1,g5,g3,g4⟩
theorem a7H{m:aaW}(hs:m.small)(hm:adZ m=true){p:Nat}{W:List Int}{X:List (List Int × Int)}{now:List Int}{lv sv:AV}{rows:List (List AV)}{Ro:List Nat}{H:aaL}(hq:adK H=true)(hF:ScF m p W X now lv sv rows Ro H)(hnl:now.length=m.sens.length)(hin:aq2 m now∈W):
 ShQ om' 78 ([.int .i64 (now.length:Int)]++scA p) H fun o G=>o=.ret (.tup [])∧clH G=clH (H++[.live 1 true false [[.int .i64 (now.length:Int)]]])∧Wst H G:=by
 obtain⟨⟨x0,h0⟩,⟨x1,h1⟩,⟨x2,h2⟩,h3,⟨x4,h4⟩,⟨x5,h5⟩,⟨x6,h6⟩,⟨x7,h7⟩,hL,hS,hl⟩:=id hF
 have hv:=aFZ m (l:=now) (nn:=true) hnl hs (aFW hm)
 rw[aw6]at hv
 have htk:List.take now.length (now.map iv)=now.map iv:=awM (by simp)
 have hlk:=fun l=>aW4.lk_yes (ty:=129) (z:=.bool false) Try.underlying129 (by kernel_rfl) (aaO h3 l) (fun _ _=>trivial) hin false
 unfold kI at hlk
 simp only[cond_false,aBQ,aq2]at hlk
 refine aDP rfl Try.func78 rfl rfl ?_
 simp only[Try.f78,scA,awY,arO]
 (have hb:=trivial;with_reducible repeat' (first|simp only[hb,Vc.down,seval,aMF.down,auO.down,aaO h0,aaO h4,aaO h5,aaO h6,hv,htk,hlk,aa9,beq_self_eq_true]|refine fsp ?_ ?_<;>intro hb|refine fd ?_|fail))
 exact(Wst.refl _).app _
structure ScL(m:aaW)(p:Nat)(W:List Int)(X:List (List Int × Int))(now:List Int)(lv sv:AV)(H h:aaL):Prop where
 F:∃lv' sv' rows' Ro',ScF m p W X now lv' sv' rows' Ro' h∧∀b∈scB lv'++scB sv',b∈scB lv++scB sv∨H.length≤b
 w:Wst H h
 q:adK h=true
 k:∀b,b<H.length→b∉aEQ p lv sv→SmB H h b
theorem aE1:∀(l:List AV),(∀x∈l,AV.sameKey x x=true)→AV.sameL l l=true
 | [],_=>rfl
 |a::l,h=>by
  simp only[AV.sameL,Bool.and_eq_true]
  exact⟨h a (by simp),aE1 l fun x hx=>h x (by simp[hx])⟩
theorem a1Q(W:List Int):(amD (kvG kI aBQ W)).quiet (amD (kvG kI aBQ W)).clean=true:=aE1 _ fun x hx=>by
 unfold kvG at hx
 obtain⟨n,_,hx⟩:=azS.1 hx
 simp only[aiZ,akQ,or_false]at hx
 rcases hx with rfl|rfl<;>simp[kI,aBQ,AV.sameKey,AV.same]
theorem ScL.step{m:aaW}{p:Nat}{W:List Int}{Y:List (List Int × Int)}{now:List Int}{lv sv lv' sv':AV}{rows':List (List AV)}{Ro':List Nat}{H h G:aaL}(F:ScF m p W Y now lv' sv' rows' Ro' h)(hnb:∀b∈scB lv'++scB sv',b∈scB lv++scB sv∨H.length≤b)(hk:∀b,b<H.length→b∉aEQ p lv sv→SmB H h b)(hHh:H.length≤h.length)
 {c:Int} {b0 m1 m2 n:Nat} (hn:n=Y.length+1) (d1:h.length≤b0) (d2:h.length≤m1) (d3:h.length≤m2) (d4:b0≠m1) (d5:b0≠m2) (d6:m1≠m2) (hl:h.length≤G.length)
 (e1:∃x,G[p+1]?=some (.live 1 false x [[.slr 2 m1 0 n]])) (e2:∃x,G[p+2]?=some (.live 1 false x [[.slr 2 m2 0 n]])) (e3:∃x,G[m1]?=some (.live 2 false x (rows'++[[.slr 1 b0 0 now.length,.int .i64 c]]))) (e4:∃x,G[m2]?=some (.live 2 true x (Y.map (sgC m)++[sgC m (now,c)]))) (e5:∃x,G[b0]?=some (.live 1 true x (now.map iv)))
 (e6:∀b,b<h.length→b≠p+1→b≠p+2→b∉scB lv'→b∉scB sv'→SmB h G b) (hw:Wst H G) (hq:adK G=true):ScL m p W (Y++[(now,c)]) now lv sv H G:=by
 obtain⟨h0,h1,h2,h3,h4,h5,h6,h7,hL,hS,hl'⟩:=F
 have lvb:∀b∈scB lv',p+8≤b∧b∉Ro':=fun b hb=>by
  cases lv'<;>simp[scB]at hb
  subst hb
  obtain⟨a1,a2,_⟩:=hL.dov _ _ _ _ rfl
  exact⟨a1,a2⟩
 have svb:∀b∈scB sv',p+8≤b∧b∉Ro':=fun b hb=>by
  rcases hS with⟨_,rfl⟩|⟨b',x,rfl,g2,g3,g4,g5⟩
  ·simp[scB]at hb
  ·simp[scB]at hb;subst hb;exact⟨g3,g4⟩
 have hph:p+7<h.length:=by obtain⟨x,h7⟩:=h7;exact adM h7
 have sm:∀b,b<p+8→b≠p+1→b≠p+2→SmB h G b:=fun b hb n1 n2=>e6 b (by omega) n1 n2 (fun hb2=>by have:=(lvb b hb2).1;omega) (fun hb2=>by have:=(svb b hb2).1;omega)
 have lR:=aAG (by omega) hL.q
 obtain⟨x5,e5⟩:=e5
 obtain⟨x3,e3⟩:=e3
 obtain⟨x4,e4⟩:=e4
 have hr:rdL (rd 5 (hf G)) [.slr 1 b0 0 now.length,.int .i64 c]=some ((tsc (now,c)).cells,[b0]):=by
  have:=aC0 (f:=rd 5 (hf G)) (a9J (g:=hf G) (d:=4) (st:=1) (b:=b0) (n:=now.length) (rows:=now.map iv) (by show(G[b0]?).bind ae0=_;rw[e5];rfl) (by simp)) (aC0 (aV2 (g:=hf G) (d:=4) .i64 c) aU5)
  simpa [aeH.cells,tsc,aw6]using this
 refine⟨⟨.slr 2 m1 0 n,.slr 2 m2 0 n,rows'++[[.slr 1 b0 0 now.length,.int .i64 c]],Ro'++[b0],⟨(sm p (by omega) (by omega) (by omega)).live h0,e1,e2,(sm _ (by omega) (by omega) (by omega)).map h3,(sm _ (by omega) (by omega) (by omega)).live h4,(sm _ (by omega) (by omega) (by omega)).live h5,(sm _ (by omega) (by omega) (by omega)).live h6,(sm _ (by omega) (by omega) (by omega)).live h7,?_,.inr ⟨m2,x4,by simp[hn],by rw[arP];exact e4,by omega,?_,by simp[scB];omega,by simp⟩,?_⟩,fun b hb=>?_⟩,hw,hq,fun b hb hn'=>?_⟩
 ·rw[arP]
  refine hL.step e3 (fun j hj z hz=>(e6 j (lR j hj) (by have:=hL.dx j hj;omega) (by have:=hL.dx j hj;omega) (fun hb=>(lvb j hb).2 hj) (fun hb=>(svb j hb).2 hj)).rows hz) hr (fun b hb=>by simp at hb;subst hb;exact⟨by omega,d4⟩) (by omega) (fun hb=>by have:=lR _ hb;omega) (by rw[hl',hn])
 ·intro hb
  rcases adJ.1 hb with hb|hb
  ·have:=lR _ hb;omega
  ·simp at hb;omega
 ·simp[hl']
 ·simp[scB]at hb
  right;omega
 ·have hn2:b∉scB lv'∧b∉scB sv':=by
   constructor<;>intro hb2
   ·rcases hnb b (List.mem_append_left _ hb2)with h|h
    ·exact hn' (adJ.2 (by rcases adJ.1 h with h|h;exact .inl (ayB _ h);exact .inr h))
    ·omega
   ·rcases hnb b (ayB _ hb2)with h|h
    ·exact hn' (adJ.2 (by rcases adJ.1 h with h|h;exact .inl (ayB _ h);exact .inr h))
    ·omega
  exact(hk b hb hn').trans (e6 b (by omega) (fun e=>hn' (by simp[aEQ,e])) (fun e=>hn' (by simp[aEQ,e])) hn2.1 hn2.2)
theorem a7C{m:aaW}(hs:m.small)(hm:adZ m=true){p:Nat}{W:List Int}{X:List (List Int × Int)}{now:List Int}{lv sv:AV}{rows:List (List AV)}{Ro:List Nat}{H:aaL}(hq:adK H=true)(hF:ScF m p W X now lv sv rows Ro H)(hnl:now.length=m.sens.length)(hin:aq2 m now∉W)(hX:X.length≤1000):
 ShQ om' 78 ([.int .i64 (now.length:Int)]++scA p) H fun o G=>o=.ret (.tup [])∧ScL m p (W++[aq2 m now]) (X++(atE m).map fun c=>(now,c)) now lv sv H G:=by
 obtain⟨⟨x0,h0⟩,⟨x1,h1⟩,⟨x2,h2⟩,h3,⟨x4,h4⟩,⟨x5,h5⟩,⟨x6,h6⟩,⟨x7,h7⟩,hL,hS,hl⟩:=id hF
 have hv:=aFZ m (l:=now) (nn:=true) hnl hs (aFW hm)
 rw[aw6]at hv
 have htk:List.take now.length (now.map iv)=now.map iv:=awM (by simp)
 have hlk:=fun l=>aW4.lk_no (ty:=129) (z:=.bool false) Try.underlying129 (by kernel_rfl) (aaO h3 l) (fun _ _=>trivial) trivial hin false
 have hms:=fun l=>aW4.ms_new (ty:=129) Try.underlying129 (aaO h3 l) (fun _ _=>trivial) trivial hin (.bool true)
 have hyy:(kvG kI (fun y_1=>if y_1=aq2 m now then AV.bool true else aBQ y_1) (W++[aq2 m now]))=kvG kI aBQ (W++[aq2 m now]):=by
  congr 1;funext q;split<;>rfl
 rw[hyy]at hms
 obtain⟨bt,hbt⟩:∃bt,axF m now m.votes 0 0=bt:=⟨_,rfl⟩
 have hbt':aq2 m now=bt:=hbt
 rw[hbt]at hv
 rw[hbt']at hlk hms ⊢
 unfold kI at hlk hms
 simp only[cond_false]at hlk
 obtain⟨mp,hmp⟩:∃mp,kvG (fun n=>AV.int .i64 n) aBQ (W++[bt])=mp:=⟨_,rfl⟩
 rw[hmp]at hms
 have hsa:=au8 (adM h3)
 refine aDP rfl Try.func78 rfl rfl ?_
 simp only[Try.f78,scA,awY,arO]
 (have hb:=trivial;with_reducible repeat' (first|simp only[hb,Vc.down,seval,aMF.down,auO.down,aaO h0,aaO h4,aaO h5,aaO h6,hv,htk,hlk,hms,hsa,aa9,beq_self_eq_true]|refine fsp ?_ ?_<;>intro hb|refine fd ?_|fail))
 have st0:ScL m p (W++[bt]) (X++((atE m).take 0).map fun c=>(now,c)) now lv sv H (H.set (p+3) (amD mp)++[.live 1 true false [[.int .i64 (now.length:Int)]]]):=by
  have hsm:∀b,b<H.length→b≠p+3→SmB H (H.set (p+3) (amD mp)++[.live 1 true false [[.int .i64 (now.length:Int)]]]) b:=fun b hb hn=>((SmB.refl H b).set (fun e=>hn e.symm) _).app (by simpa using hb) _
  refine⟨⟨lv,sv,rows,Ro,?_,fun b hb=>.inl hb⟩,((Wst.refl H).map h3 mp).app _,adY (aeX hq _ ?_) rfl,fun b hb hn=>hsm b hb (by simp[aEQ]at hn;omega)⟩
  ·rw[aBS,ayC,List.append_nil]
   refine hF.keep (by simp) hsm ?_
   rw[ajP (by simpa using adM h3),aeU (adM h3),←hmp];rfl
  ·rw[←hmp];exact a1Q _
 have hcl:=aNB hm
 have hc4:=aAX hm
 refine ahX (lst 54 (atE m) (fun i (_:Unit) t h=>t 1=.ptr (p+6) 0 0∧t 2=.ptr p 0 0∧t 4=.ptr (p+1) 0 0∧t 5=.ptr (p+2) 0 0∧t 8=.int .i64 bt∧t 9=.int .i64 ((i:Int)-1)∧ScL m p (W++[bt]) (X++((atE m).take i).map fun c=>(now,c)) now lv sv H h) (fun _ _=>()) (fun _ e t h=>e=.exit 0∧ScL m p (W++[bt]) (X++(atE m).map fun c=>(now,c)) now lv sv H h) ?_ ?_ () _ _ ?_) (fun e t h hk=>?_)
 ·rintro _ t h Q' kQ ⟨g1,g2,g4,g5,g8,g9,hI⟩
  obtain⟨lv',sv',rows',Ro',F',_⟩:=hI.F
  obtain⟨y0,k0⟩:=F'.h0
  have hdd:decide (((atE m).length:Int)-1<m.cmds)=false:=decide_eq_false (by omega)
  rw[List.take_length]at hI
  (have hb:=trivial;with_reducible repeat' (first|simp only[hb,Vc.down,seval,aMF.down,g2,g9,k0,hdd]|refine fsp ?_ ?_<;>intro hb|refine fd ?_|fail))
  exact kQ _ _ _ ⟨rfl,hI⟩
 ·rintro c rest i _ t h J Q' kJ kQ hx hi ⟨g1,g2,g4,g5,g8,g9,hI⟩
  have hce:=aXF hx
  have hdd:decide ((i:Int)-1<m.cmds)=true:=decide_eq_true (by omega)
  rw[←hce]at g9 hdd
  have hww:IntKind.i64.wrap (c+1)=c+1:=ajR (by omega) (by omega)
  obtain⟨⟨lv',sv',rows',Ro',F',hnb⟩,hw,hqh,hk⟩:=hI
  obtain⟨⟨y0,k0⟩,⟨y1,k1⟩,⟨y2,k2⟩,k3,⟨y4,k4⟩,⟨y5,k5⟩,⟨y6,k6⟩,⟨y7,k7⟩,kL,kS,kl'⟩:=id F'
  have hcn:=aQK now (by have:=aC8 hm;omega)
  rw[aw6]at hcn
  rcases kS with⟨hX0,rfl⟩|⟨b2,w2,rfl,kb2,kp2,kr2,kn2,kne⟩
  ·have hr0:rows'=[]:=by rw[hX0]at kl';exact aBT.1 kl'
   subst hr0
   have hlv:=kL.nil rfl
   subst hlv
   have hpl:p+7<h.length:=adM k7
   obtain⟨sf,s1,s2,s5,s6,sn,sk⟩:∃sf:Nat→Nat,sf (p+1)=1∧sf (p+2)=2∧sf (p+5)=5∧sf (p+6)=6∧sf h.length=10∧∀k,sf (h.length+k)=k+10:=⟨fun b=>if h.length≤b then b-h.length+10 else b-p,by simp;omega,by simp;omega,by simp;omega,by simp;omega,by simp,fun k=>by simp⟩
   have hS1:=au8 (adM k1)
   have k2S:=fun c l=>aw3 (b:=p+1) c (by omega) k2 l
   (have hb:=trivial;with_reducible repeat' (first|simp only[hb,Vc.down,seval,aMF.down,g1,g2,g4,g5,g8,g9,k0,k1,k2,k5,k6,aaO k0,aaO k1,aaO k2,aaO k5,aaO k6,hS1,k2S,hdd,hww,hcn,htk,aa9]|refine fsp ?_ ?_<;>intro hb|((refine aHI (aDC (sf) ?_) ?_);(simp (discharger:=decide) only[aHT,aDI,anU,ayC,aAP,aGA,aG9,aHO,aAS,as6,ayE,s1,s2,s5,s6,sn,sk];kernel_rfl);intro _)|refine fdq ?_|fail))
   obtain⟨N,hN⟩:∃N:aaL,[CB.live 1 true false (now.map iv),.live 2 false false [[.slr 1 h.length 0 now.length,.int .i64 c]],.live 2 false false [[.slr 1 h.length 0 now.length,.int .i64 c]],.live 2 true false [[.int .i64 bt,.int .i64 c]],.live 2 true false [[.int .i64 bt,.int .i64 c]]]=N:=⟨_,rfl⟩
   rw[hN]
   have tk:(atE m).take (i+1)=(atE m).take i++[c]:=by rw[ayR,hx];rfl
   have gk:∀(k:Nat) (d1 d2:CB),((h.set (p+1) d1++N).set (p+2) d2)[h.length+k]?=N[k]?:=fun k d1 d2=>by rw[adE (by omega),arQ]
   have hNl:N.length=5:=by rw[←hN];rfl
   refine adW (kJ _ _ () ⟨by simp[up,g1],by simp[up,g2],by simp[up,g4],by simp[up,g5],by simp[up,g8],by simp[up];omega,?_⟩ rfl)
   rw[tk,arP,←alW]
   have hYl:(X++((atE m).take i).map fun c=>(now,c)).length=0:=by rw[hX0];rfl
   refine ScL.step F' hnb hk hw.1 (c:=c) (b0:=h.length) (m1:=h.length+2) (m2:=h.length+4) (n:=1) (by rw[hYl]) (by omega) (by omega) (by omega) (by omega) (by omega) (by omega) (by simp) ⟨true,?_⟩ ⟨true,?_⟩ ⟨false,?_⟩ ⟨false,?_⟩ ⟨false,?_⟩ (fun b hb n1 n2 _ _=>?_) ?_ ?_
   ·rw[adE (by omega),ajP (by simp;omega),aeU (by omega)]
   ·rw[aeU (by simp;omega)]
   ·rw[gk,←hN];rfl
   ·rw[gk,←hN,hX0,←hbt'];rfl
   ·exact(gk 0 _ _).trans (by rw[←hN];rfl)
   ·exact(((SmB.refl h b).set (fun e=>n1 e.symm) _).app (by simpa using hb) _).set (fun e=>n2 e.symm) _
   ·exact((hw.put k1 1 false _).app N).put (by rw[ajP (by simp;omega),adE (by omega)];exact k2) 1 false _
   ·exact aeX (adY (aeX hqh _ rfl) (by rw[←hN];rfl)) _ rfl
  ·rcases kL.own with⟨hr0,rfl⟩|⟨b1,w1,rfl,kb1⟩
   ·rw[hr0]at kl';exact absurd (aBT.1 kl'.symm) kne
   obtain⟨Y,hY⟩:∃Y,X++((atE m).take i).map (fun c=>(now,c))=Y:=⟨_,rfl⟩
   rw[hY]at F' kL kb2 kl' kne k2
   have hYl:Y.length≤2000:=by rw[←hY];simp;omega
   obtain⟨kd1,kd2,kd3⟩:=kL.dov _ _ _ _ rfl
   have hn12:b1≠b2:=fun e=>kn2 (by simp[scB,e])
   have hpl:p+7<h.length:=adM k7
   have h2l:=adM kb2
   obtain⟨sf,s1,s2,s5,s6,s7,s8,sn,sk⟩:∃sf:Nat→Nat,sf (p+1)=1∧sf (p+2)=2∧sf (p+5)=5∧sf (p+6)=6∧sf b1=7∧sf b2=8∧sf h.length=10∧∀k,sf (h.length+k)=k+10:=⟨fun b=>if h.length≤b then b-h.length+10 else if b=b1 then 7 else if b=b2 then 8 else b-p,by show(if _ then _ else _)=_;rw[if_neg (by omega),if_neg (by omega),if_neg (by omega)];omega,by show(if _ then _ else _)=_;rw[if_neg (by omega),if_neg (by omega),if_neg (by omega)];omega,by show(if _ then _ else _)=_;rw[if_neg (by omega),if_neg (by omega),if_neg (by omega)];omega,by show(if _ then _ else _)=_;rw[if_neg (by omega),if_neg (by omega),if_neg (by omega)];omega,by show(if _ then _ else _)=_;rw[if_neg (by omega),if_pos rfl],by show(if _ then _ else _)=_;rw[if_neg (by omega),if_neg (by omega),if_pos rfl],by simp,fun k=>by simp⟩
   have hb1A:=aaO kb1
   have hb2A:=aaO kb2
   have e39:(rows'.length+1≤549755813888)=True:=eq_true (by omega)
   have f39:(Y.length+1≤549755813888)=True:=eq_true (by omega)
   have hSb:=au8 (adM kb1)
   have b2S:=fun c l=>aw3 (b:=b1) c hn12 kb2 l
   have k2b:=fun c l=>aw3 (b:=b1) c (by omega) k2 l
   have hSb2:=fun l c=>au8 (h:=h.set b1 CB.dead) (b:=b2) (by simp;omega) l c
   have gq:∀(b:Nat) (cb:CB),b≠b1→b≠b2→h[b]?=some cb→((h.set b1 CB.dead).set b2 CB.dead)[b]?=some cb:=fun b cb n1 n2 g=>by
    rw[adE (fun e=>n2 e.symm),adE (fun e=>n1 e.symm)];exact g
   have k1q:=aaO (gq _ _ (by omega) (by omega) k1)
   have hS1q:=au8 (h:=(h.set b1 CB.dead).set b2 CB.dead) (b:=p+1) (by simp;omega)
   have k2q:=fun c l=>aw3 (b:=p+1) c (by omega) (gq _ _ (by omega) (by omega) k2) l
   (have hb:=trivial;with_reducible repeat' (first|simp only[hb,Vc.down,seval,aMF.down,g1,g2,g4,g5,g8,g9,k0,k1,k2,k5,k6,aaO k0,aaO k1,aaO k2,aaO k5,aaO k6,hb1A,hb2A,hSb,b2S,k2b,hSb2,k1q,hS1q,k2q,arQ,avH,ayS,e39,f39,hdd,hww,hcn,htk,aa9]|refine fsp ?_ ?_<;>intro hb|((refine aHI (aDC (sf) ?_) ?_);(simp (discharger:=decide) only[aHT,aDI,anU,ayC,aAP,aGA,aG9,aHO,aAS,as6,ayE,s1,s2,s5,s6,s7,s8,sn,sk];kernel_rfl);intro _)|refine fdq ?_|fail))
   rw[kl']at *
   obtain⟨N,hN⟩:∃N:aaL,[CB.live 1 true false (now.map iv),.live 2 false false [[.slr 1 h.length 0 now.length,.int .i64 c]],.live 2 false false (rows'++[[.slr 1 h.length 0 now.length,.int .i64 c]]),.live 2 true false [[.int .i64 bt,.int .i64 c]],.live 2 true false (Y.map (sgC m)++[[.int .i64 bt,.int .i64 c]])]=N:=⟨_,rfl⟩
   rw[hN]
   have tk:(atE m).take (i+1)=(atE m).take i++[c]:=by rw[ayR,hx];rfl
   have gk:∀(k:Nat) (d1 d2:CB),((((h.set b1 CB.dead).set b2 CB.dead).set (p+1) d1++N).set (p+2) d2)[h.length+k]?=N[k]?:=fun k d1 d2=>by
    have:=arQ (h:=(h.set b1 CB.dead).set b2 CB.dead) (b:=p+1) d1 N k
    simp only[ayS]at this
    rw[adE (by omega),this]
   have hNl:N.length=5:=by rw[←hN];rfl
   refine adW (kJ _ _ () ⟨by simp[up,g1],by simp[up,g2],by simp[up,g4],by simp[up,g5],by simp[up,g8],by simp[up];omega,?_⟩ rfl)
   rw[tk,arP,←alW,hY]
   refine ScL.step F' hnb hk hw.1 (c:=c) (b0:=h.length) (m1:=h.length+2) (m2:=h.length+4) (n:=Y.length+1) rfl (by omega) (by omega) (by omega) (by omega) (by omega) (by omega) (by simp) ⟨true,?_⟩ ⟨true,?_⟩ ⟨false,?_⟩ ⟨false,?_⟩ ⟨false,?_⟩ (fun b hb n1 n2 n3 n4=>?_) ?_ ?_
   ·rw[adE (by omega),ajP (by simp;omega),aeU (by simp;omega)]
   ·rw[aeU (by simp;omega)]
   ·rw[gk,←hN];rfl
   ·rw[gk,←hN,←hbt'];rfl
   ·exact(gk 0 _ _).trans (by rw[←hN];rfl)
   ·simp only[scB,aiZ,akQ,or_false]at n3 n4
    exact(((((SmB.refl h b).set (fun e=>n3 e.symm) _).set (fun e=>n4 e.symm) _).set (fun e=>n1 e.symm) _).app (by simpa using hb) _).set (fun e=>n2 e.symm) _
   ·exact((((hw.kill kb1).kill (by rw[adE hn12];exact kb2)).put (gq _ _ (by omega) (by omega) k1) 1 false _).app N).put (by rw[ajP (by simp;omega),adE (by omega)];exact gq _ _ (by omega) (by omega) k2) 1 false _
   ·exact aeX (adY (aeX (aeX (aeX hqh _ rfl) _ rfl) _ rfl) (by rw[←hN];rfl)) _ rfl
 ·exact⟨by simp[up,ent],by simp[up,ent],by simp[up,ent],by simp[up,ent],by simp[up],by simp[up],st0⟩
 obtain⟨rfl,hI⟩:=hk
 (have hb:=trivial;with_reducible repeat' (first|simp only[hb,Vc.down,seval,aMF.down]|refine fsp ?_ ?_<;>intro hb|refine fd ?_|fail))
 exact hI
def rdF(m:aaW)(k:Nat):List Int:=axH awX (fun n=>aw8 k (sAt m k) n m.votes) (axW (azU (sAt m k) m.votes)) []
def aC1(m:aaW)(s:List Int × List (List Int × Int))(r:List Int):List Int × List (List Int × Int):=if aq2 m r∈s.1 then s else(s.1++[aq2 m r],s.2++(atE m).map fun c=>(r,c))
theorem a7F:∀l:List Bool,l.length≤6→0≤ax0 l 0 0∧ax0 l 0 0<64:=by
 intro l hl
 rcases l with _|⟨a,_|⟨b,_|⟨c,_|⟨d,_|⟨e,_|⟨f,_|⟨g,l⟩⟩⟩⟩⟩⟩⟩
 ·exact⟨by decide,by decide⟩
 ·cases a<;>decide
 ·cases a<;>cases b<;>decide
 ·cases a<;>cases b<;>cases c<;>decide
 ·cases a<;>cases b<;>cases c<;>cases d<;>decide
 ·cases a<;>cases b<;>cases c<;>cases d<;>cases e<;>decide
 ·cases a<;>cases b<;>cases c<;>cases d<;>cases e<;>cases f<;>decide
 ·simp only[as6]at hl;omega
theorem a0E{m:aaW}(hm:adZ m=true)(r:List Int):0≤aq2 m r∧aq2 m r<64:=by
 unfold aq2
 rw[aJE]
 exact a7F _ (by rw[aa9];exact aDA hm)
theorem aLQ:∀(n:Nat) (l:List Int),l.Nodup→(∀x∈l,0≤x∧x<n)→l.length≤n
 |0,[],_,_=>by simp
 |0,a::l,_,h=>by have:=h a (by simp);omega
 |n+1,l,hn,h=>by
  by_cases e:(n:Int)∈l
  ·have h1:=aLQ n (l.erase n) (hn.erase _) fun x hx=>by
    have h2:=h x (List.mem_of_mem_erase hx)
    have h3:x≠n:=fun e2=>by subst e2;exact(hn.not_mem_erase) hx
    omega
   rw[List.length_erase_of_mem e]at h1
   omega
  ·exact Nat.le_succ_of_le (aLQ n l hn fun x hx=>by
    have h2:=h x hx
    have h3:x≠n:=fun e2=>e (e2▸hx)
    omega)
structure Few(m:aaW)(s:List Int × List (List Int × Int)):Prop where
 nd:s.1.Nodup
 lt:∀x∈s.1,0≤x∧x<64
 len:s.2.length=s.1.length*(atE m).length
theorem Few.put{m:aaW}(hm:adZ m=true){s:List Int × List (List Int × Int)}(h:Few m s)(r:List Int):Few m (aC1 m s r):=by
 unfold aC1
 split
 ·exact h
 ·rename_i hn
  refine⟨List.nodup_append.2 ⟨h.nd,by simp,fun a ha b hb=>by simp at hb;subst hb;exact fun e=>hn (e▸ha)⟩,fun x hx=>?_,?_⟩
  ·rcases adJ.1 hx with hx|hx
   ·exact h.lt x hx
   ·simp at hx;subst hx;exact a0E hm r
  ·simp only[List.length_append,aa9,as6,ayE,h.len,Nat.zero_add,Nat.add_mul,Nat.one_mul]
theorem Few.le{m:aaW}(hm:adZ m=true){s:List Int × List (List Int × Int)}(h:Few m s):s.2.length≤320:=by
 have h1:=aLQ 64 s.1 h.nd h.lt
 have h2:=aNB hm
 have h3:=aAX hm
 rw[h.len]
 calc s.1.length*(atE m).length≤64*5:=Nat.mul_le_mul h1 (by omega)
  _=320:=rfl
theorem Few.start(m:aaW):Few m ([],[]):=⟨by simp,by simp,by simp⟩
theorem biH{vs:List AV}{b:Nat}{h:aaL}{ps:List Nat}{asg body:Code}{tm:List AV}{st:LSt}{Q:Out→aaL→Prop}(hb:h[b]?=some (.lp ps asg body tm st))(hl:ps.length=vs.length)
 (he:RnE b Q (a4E om' Try.prog b body (evM om' Try.prog 5000 asg [] ⟨ayJ tm ps vs,h⟩))):RnQ om' (vs++[.yl b]) h Q:=RnQ.start (pr:=pr) hb hl he
theorem aHA{m:aaW}(hm:adZ m=true):∀(l:List (List Int)) {s:List Int × List (List Int × Int)},Few m s→Few m (l.foldl (aC1 m) s)
 | [],_,h=>h
 |r::l,_,h=>aHA hm l (h.put hm r)
def aAH(m:aaW)(k d:Nat):List (List Int):=(List.range d).map fun j=>rdF m (k+j)
theorem aJU(m:aaW)(k d:Nat):aAH m k (d+1)=rdF m k::aAH m (k+1) d:=by
 unfold aAH
 rw[List.range_succ_eq_map,anU,List.map_map]
 congr 1
 refine at6 fun j _=>?_
 simp only[Function.comp,Nat.succ_eq_add_one]
 congr 1;omega
def azQ(m:aaW)(k d:Nat)(now:List Int)(s:List Int × List (List Int × Int)):List Int × List (List Int × Int):=((azE (aAH m k d)).map (now.take k++·)).foldl (aC1 m) s
def a3Q(m:aaW)(k:Nat)(n:Int):Int:=aw8 k (sAt m k) n m.votes
def aH5(m:aaW)(k:Nat):List Int:=axW (azU (sAt m k) m.votes)
def aYP(m:aaW)(k d:Nat)(now:List Int)(R:List Int)(s:List Int × List (List Int × Int)):List Int × List (List Int × Int):=(R.flatMap fun n=>(azE (aAH m (k+1) d)).map fun q=>now.take k++n::q).foldl (aC1 m) s
theorem a4R(m:aaW)(k d:Nat)(now:List Int)(s:List Int × List (List Int × Int)):aYP m k d now (rdF m k) s=azQ m k (d+1) now s:=by
 unfold aYP azQ
 rw[aJU,show azE (rdF m k::aAH m (k+1) d)=(rdF m k).flatMap fun n=>(azE (aAH m (k+1) d)).map (n::·)from rfl,List.map_flatMap]
 congr 1
 congr 1
 funext n
 rw[List.map_map];rfl
theorem aY1(m:aaW)(k d:Nat)(now:List Int)(n:Int)(R:List Int)(s:List Int × List (List Int × Int)){now':List Int}(ht:now'.take k=now.take k)(hk:k<now'.length):aYP m k d now (n::R) s=aYP m k d now R (azQ m (k+1) d (now'.set k n) s):=by
 unfold aYP azQ
 rw[List.flatMap_cons,List.foldl_append]
 congr 2
 refine at6 fun q _=>?_
 have:(now'.set k n).take (k+1)=now'.take k++[n]:=by
  rw[ayR,aeU hk,aDB (by omega)];rfl
 rw[this,ht];simp
structure ScI(m:aaW)(p k d:Nat)(now:List Int)(fin:List Int × List (List Int × Int))(lv sv:AV)(H h1:aaL)(LP:CB)(b B:Nat)(i:Nat)(w:List Int)(h:aaL):Prop where
 F:∃now' st lv' sv' rows' Ro',now'.length=now.length∧now'.take k=now.take k∧Few m st∧ScF m p st.1 st.2 now' lv' sv' rows' Ro' h∧(∀c∈scB lv'++scB sv',c∈scB lv++scB sv∨B+1<c)∧aYP m k d now (axH awX (a3Q m k) ((aH5 m k).drop i) w) st=fin
 ws:Wst h1 h
 q:adK h=true
 kp:∀c,c<H.length→c∉aEQ p lv sv→SmB H h c
 b0:∃x,h[H.length]?=some (.live 1 true x [[.int .i64 (k:Int)]])
 b1:∃x,h[H.length+1]?=some (.live 7 false x [m.cells])
 b2:∃x,h[H.length+2]?=some (.live 1 true x [[.int .i64 (k:Int)]])
 b3:∃x,h[H.length+3]?=some (.live 3 true x [(sAt m k).cells])
 b5:∃x,h[H.length+5]?=some (.live 1 false x [[.slr 1 b 0 (aH5 m k).length]])
 bb:∃x,h[b]?=some (.live 1 true x ((aH5 m k).map iv))
 lp:h[B]?=some LP
 mp:h[B+1]?=some (amD (kvG kI aBQ w))
theorem aOT{a:List Nat}{b c:Code}{e:List AV}{st:LSt}(d:CB)(hd:d.clean=(CB.lp a b c e st).clean):d=.lp a b c e st:=by
 cases d<;>simp_all[CB.clean]
theorem ScF.app{m:aaW}{p:Nat}{W:List Int}{X:List (List Int × Int)}{now:List Int}{lv sv:AV}{rows:List (List AV)}{Ro:List Nat}{H:aaL}(h:ScF m p W X now lv sv rows Ro H)(l:aaL):ScF m p W X now lv sv rows Ro (H++l):=
 h.keep (by simp) (fun b hb _=>(SmB.refl H b).app hb l) (aaO h.h3 l)
theorem ScF.put{m:aaW}{p:Nat}{W:List Int}{X:List (List Int × Int)}{now:List Int}{lv sv:AV}{rows:List (List AV)}{Ro:List Nat}{H:aaL}(h:ScF m p W X now lv sv rows Ro H){B:Nat}{d:CB}(hB:p+8≤B)(g:H[B]?=some d)(hn:ae0 d=none)(c:CB):ScF m p W X now lv sv rows Ro (H.set B c):=by
 obtain⟨h0,h1,h2,h3,h4,h5,h6,h7,hL,hS,hl⟩:=h
 have l:=fun {b st:Nat} {fl:Bool} {r:List (List AV)} (gg:∃x,H[b]?=some (.live st fl x r)) (hn:b≠B)=>((SmB.refl H b).set (fun e=>hn e.symm) c).live gg
 refine⟨l h0 (by omega),l h1 (by omega),l h2 (by omega),by rw[adE (by omega)];exact h3,l h4 (by omega),l h5 (by omega),l h6 (by omega),l h7 (by omega),hL.put g hn c,?_,hl⟩
 rcases hS with h|⟨b,x,g1,g2,g3⟩
 ·exact .inl h
 ·obtain⟨x',g5⟩:=l ⟨x,g2⟩ (fun e=>by rw[e,g]at g2;cases g2;cases hn)
  exact .inr ⟨b,x',g1,g5,g3⟩
theorem avT{O:Orc}{H:aaL}{f:Nat}{args:List AV}{Q:Out→aaL→Prop}(hq:adK H=true)(K:ShQ O f args (clH H) fun o G=>Q o G∧Wst (clH H) G∧adK G=true):
 ∃o G es M,shK H (O.call (.sh f) args (clH H))=some (o,es)∧agN H es=M∧Q o G∧clH M=clH G∧Wst H M∧adK M=true:=by
 obtain⟨o,G,hc,hQ,hw,hg⟩:=K
 obtain⟨es,M,m1,m2,m3,m4,m5⟩:=aVO (o:=o) hq hw hg
 exact⟨o,G,es,M,by rw[hc];exact m1,m2,hQ,m3,m4,m5⟩
theorem ScF.now{m:aaW}{p:Nat}{W:List Int}{X:List (List Int × Int)}{now now2:List Int}{lv sv:AV}{rows:List (List AV)}{Ro:List Nat}{H:aaL}(h:ScF m p W X now lv sv rows Ro H)(hn:now2.length=now.length)(x:Bool):ScF m p W X now2 lv sv rows Ro (H.set (p+5) (.live 1 true x (now2.map iv))):=by
 obtain⟨h0,h1,h2,h3,h4,h5,h6,h7,hL,hS,hl⟩:=h
 have sm:∀b,b≠p+5→SmB H (H.set (p+5) (.live 1 true x (now2.map iv))) b:=fun b hb=>(SmB.refl H b).set (fun e=>hb e.symm) _
 refine⟨(sm _ (by omega)).live h0,(sm _ (by omega)).live h1,(sm _ (by omega)).live h2,(sm _ (by omega)).map h3,(sm _ (by omega)).live h4,⟨x,?_⟩,?_,(sm _ (by omega)).live h7,hL.sm (by simp) (fun b hb _=>sm b (by omega)),?_,hl⟩
 ·obtain⟨z,h5⟩:=h5
  exact aeU (adM h5)
 ·rw[hn];exact(sm _ (by omega)).live h6
 ·rcases hS with h|⟨b,z,g1,g2,g3⟩
  ·exact .inl h
  ·obtain⟨z',g5⟩:=(sm b (by omega)).live ⟨z,g2⟩
   exact .inr ⟨b,z',g1,g5,g3⟩
theorem bdR{m:aaW}(hs:m.small)(hm:adZ m=true){p:Nat}:∀(d k:Nat) (W:List Int) (X:List (List Int × Int)) (now:List Int) (lv sv:AV) (rows:List (List AV)) (Ro:List Nat) (H:aaL),
 adK H=true→ScF m p W X now lv sv rows Ro H→Few m (W,X)→now.length=m.sens.length→k+d=m.sens.length→
 ShQ om' 78 ([.int .i64 (k:Int)]++scA p) H fun o G=>o=.ret (.tup [])∧∃now',now'.length=now.length∧now'.take k=now.take k∧ScL m p (azQ m k d now (W,X)).1 (azQ m k d now (W,X)).2 now' lv sv H G:=by
 intro d
 induction d with
 |zero=>
  intro k W X now lv sv rows Ro H hq hF hf hnl hkd
  have e1:azQ m k 0 now (W,X)=aC1 m (W,X) now:=by
   unfold azQ aAH
   rw[awM (by omega)]
   simp[azE]
  rw[e1]
  obtain rfl:k=now.length:=by omega
  by_cases hin:aq2 m now∈W
  ·obtain⟨o,G,hc,rfl,hcl,hw⟩:=a7H hs hm hq hF hnl hin
   have e2:aC1 m (W,X) now=(W,X):=if_pos hin
   rw[e2]
   have hsm:∀b,b<H.length→SmB H G b:=fun b hb=>((SmB.refl H b).app hb _).eqR hcl.symm
   refine⟨_,G,hc,rfl,now,rfl,rfl,⟨lv,sv,rows,Ro,hF.keep hw.1 (fun b hb _=>hsm b hb) ((hsm _ (adM hF.h3)).map hF.h3),fun b hb=>.inl hb⟩,hw,aGL hcl.symm (adY hq rfl),fun b hb _=>hsm b hb⟩
  ·have e2:aC1 m (W,X) now=(W++[aq2 m now],X++(atE m).map fun c=>(now,c)):=if_neg hin
   rw[e2]
   obtain⟨o,G,hc,rfl,hL⟩:=a7C hs hm hq hF hnl hin (by have:=hf.le hm;simp only at this;omega)
   exact⟨_,G,hc,rfl,now,rfl,rfl,hL⟩
 |succ d ih=>
  intro k W X now lv sv rows Ro H hq hF hf hnl hkd
  obtain⟨⟨x0,h0⟩,⟨x1,h1⟩,⟨x2,h2⟩,h3,⟨x4,h4⟩,⟨x5,h5⟩,⟨x6,h6⟩,⟨x7,h7⟩,hL,hS,hl⟩:=id hF
  have hne:((k:Int)==(now.length:Int))=false:=by simp;omega
  have hq1:adK (H++[.live 1 true false [[.int .i64 (k:Int)]]])=true:=adY hq rfl
  obtain⟨o,G1,es,M,e1,e2,⟨hK,hgq,rfl,b0,b1,b2,b,xb,yb,hbl,hbn,b4,b5⟩,hcl,hw,hqM⟩:=bcW (O:=om') (f:=79) (vs:=[.agg m.cells,.int .i64 (k:Int)]) (cap:=[]) hq1 rfl rfl (by
   have:=aU3 m hs hm (k:=(k:Int)) (by omega) (by rw[auT];omega) (ak1 hq1)
   obtain⟨o,G,c1,c2⟩:=this
   exact⟨o,G,c1,c2,c2.1.wst,c2.2.1⟩)
  have hlen:(clH (H++[.live 1 true false [[.int .i64 (k:Int)]]])).length=H.length+1:=by simp[aeL]
  rw[hlen]at e1 b0 b1 b2 b4 hbl hbn
  have hca:clH (H++[.live 1 true false [[.int .i64 (k:Int)]]])=clH H++[.live 1 true false [[.int .i64 (k:Int)]]]:=by simp[clH,CB.clean]
  have e1':shK (H++[.live 1 true false [[.int .i64 (k:Int)]]]) (om'.call (.sh 79) [.agg [slv 3 true m.nS (m.sens.map ad1.cells),slv 4 false m.nV (m.votes.map abT.cells),slv 5 false m.nM (m.moves.map ac4.cells),.int .i64 m.states,.int .i64 m.cmds,.int .i64 m.bgn,slv 1 true m.nO (m.opn.map iv)],.int .i64 (k:Int)] (clH H++[.live 1 true false [[.int .i64 (k:Int)]]]))=some (.ret (.func (.func 97) [] [.ptr (H.length+5) 0 0,.ptr (H.length+1) 0 0,.ptr (H.length+2) 0 0,.ptr (H.length+3) 0 0]),es):=by
   rw[←hca]
   exact e1
  refine aDP rfl Try.func78 rfl rfl ?_
  simp only[Try.f78,scA,awY,arO]
  (have hb:=trivial;with_reducible repeat' (first|simp only[hb,Vc.down,seval,aMF.down,auO.down,aaO h0,aaO h6,hne,e1',e2,aa9]|refine fsp ?_ ?_<;>intro hb|refine fd ?_|fail))
  generalize hLP:CB.lp _ _ _ _ _=LP
  have hgetk:=aA3 (m:=m) (k:=(k:Int)) (by rw[auT];omega)
  have hlen2:(aH5 m k).length=(azU (sAt m k) m.votes).length:=aN7 _
  have hlm:(aH5 m k).length≤1000:=by rw[hlen2,aB8];have:=aDA hm;omega
  have smM:∀c,c<H.length+1→SmB (H++[.live 1 true false [[.int .i64 (k:Int)]]]) M c:=fun c hc=>by
   have:SmB (clH (H++[.live 1 true false [[.int .i64 (k:Int)]]])) G1 c:=SmB.of (hK.same c (by rw[hlen];exact hc) (by simp))
   exact(this.eqL (ak3 _)).eqR hcl.symm
  have hMl:H.length+6≤M.length:=by
   have:=aLF hcl
   have:=adM b4
   omega
  have bM:b<M.length:=by have:=aLF hcl;have:=adM b5;omega
  refine bdN (baY hs hm (k:=(k:Int)) (s:=sAt m k) (L:=aH5 m k) (lb:=H.length+5) (mb:=H.length+1) (kb:=H.length+2) (sb:=H.length+3) (b:=b) (M0:=M.length+1) hlm (ScI m p k d now (azQ m k (d+1) now (W,X)) lv sv H (clH M++[LP]) LP b M.length) (fun i w h I=>I.b5) (fun i w h I=>I.bb) (fun i w h I=>I.b1) (fun i w h I=>I.b2) (fun i w h I=>I.b3) (fun i w h I=>I.mp) ?_ ?_ ?_ ?_ ?_) ?_
  ·intro i w h r I
   obtain⟨⟨now',st,lv',sv',rows',Ro',a1,a2,a3,a4,a5,a6⟩,a7,a8,a9,⟨y0,k0⟩,⟨y1,k1⟩,⟨y2,k2⟩,⟨y3,k3⟩,⟨y5,k5⟩,⟨yb,kb⟩,kl,km⟩:=I
   have hHl:H.length<h.length:=adM k0
   exact⟨⟨now',st,lv',sv',rows',Ro',a1,a2,a3,a4.app _,a5,a6⟩,a7.app _,adY a8 rfl,fun c hc hn=>(a9 c hc hn).app (by omega) _,⟨y0,aaO k0 _⟩,⟨y1,aaO k1 _⟩,⟨y2,aaO k2 _⟩,⟨y3,aaO k3 _⟩,⟨y5,aaO k5 _⟩,⟨yb,aaO kb _⟩,aaO kl _,aaO km _⟩
  ·intro i w n h hx hvn hnw I
   obtain⟨⟨now',st,lv',sv',rows',Ro',a1,a2,a3,a4,a5,a6⟩,a7,a8,a9,k0,k1,k2,k3,k5,kb,kl,km⟩:=I
   obtain⟨mv,hmv⟩:∃mv,amD (kvG kI aBQ (w++[aw8 (k:Int) (sAt m (k:Int)) n m.votes]))=mv:=⟨_,rfl⟩
   rw[hmv]
   have hp8:p+7<H.length:=adM h7
   have hBl:M.length+1<h.length:=adM km
   obtain⟨h1,hh1⟩:∃h1,h.set (M.length+1) mv=h1:=⟨_,rfl⟩
   rw[hh1]
   have sm1:∀c,c≠M.length+1→SmB h h1 c:=fun c hc=>by rw[←hh1];exact(SmB.refl h c).set (fun e=>hc e.symm) mv
   have hq1:adK h1=true:=by rw[←hh1,←hmv];exact aeX a8 _ (a1Q _)
   have hl1:h1.length=h.length:=by rw[←hh1];simp
   have sc1:∀c,c≠M.length+1→c≠M.length→∀X:CB,SmB h ((clH h1).set M.length X) c:=fun c n1 n2 X=>((sm1 c n1).eqR (ak3 h1).symm).set (fun e=>n2 e.symm) X
   have lpc:(clH h1)[M.length]?=some LP:=((sm1 M.length (by omega)).eqR (ak3 h1).symm).keep kl fun d hd=>by rw[←hLP]at hd ⊢;exact aOT d hd
   obtain⟨z5,j5⟩:=a4.h5
   have live:∀{c st:Nat} {fl:Bool} {r:List (List AV)},(∃x,h[c]?=some (.live st fl x r))→c≠M.length+1→c≠M.length→∀X:CB,((clH h1).set M.length X)[c]?=some (.live st fl false r):=fun {c st fl r} g n1 n2 X=>by
    obtain⟨x,g⟩:=(sm1 c n1).live g
    rw[adE (fun e=>n2 e.symm),auJ g];rfl
   have f0:=fun X=>live k0 (by omega) (by omega) X
   have f5:=fun X=>live a4.h5 (by omega) (by omega) X
   have f6:=fun X=>live a4.h6 (by omega) (by omega) X
   have f7:=fun X=>live a4.h7 (by omega) (by omega) X
   have hk6:=aC8 hm
   have hwk:IntKind.i64.wrap ((k:Int)+1)=((k+1:Nat):Int):=by rw[ajR (by omega) (by omega)];rfl
   have hkN:((k:Int)<(now'.length:Int))=True:=eq_true (by omega)
   have hset:(now'.map iv).set k [.int .i64 n]=(now'.set k n).map iv:=by rw[List.map_set];rfl
   have hlv:∀c∈scB lv++scB sv,c<H.length:=fun c hc=>by
    rcases adJ.1 hc with hc|hc
    ·cases lv<;>simp[scB]at hc
     subst hc
     exact(hL.dov _ _ _ _ rfl).2.2
    ·rcases hS with⟨_,rfl⟩|⟨b',x,rfl,g2,_⟩
     ·simp[scB]at hc
     ·simp[scB]at hc;subst hc;exact adM g2
   have own':∀c,c≤M.length+1→c∉aEQ p lv sv→c∉aEQ p lv' sv':=fun c hc hn hm=>by
    simp only[aEQ,alW,adJ,aiZ,akQ,or_false]at hn hm
    rcases hm with hm|hm
    ·exact hn (.inl hm)
    ·rcases a5 c (adJ.2 hm)with h|h
     ·exact hn (.inr (adJ.1 h))
     ·omega
   have ownH:∀c,H.length≤c→c≤M.length+1→c∉aEQ p lv sv:=fun c hc _ hm=>by
    simp only[aEQ,alW,adJ,aiZ,akQ,or_false]at hm
    rcases hm with hm|hm
    ·omega
    ·have:=hlv c (adJ.2 hm);omega
   have lpq:LP.quiet LP.clean=true:=by rw[←hLP];rfl
   obtain⟨y9,hgk⟩:∃y,now'[k]?=some y:=⟨now'[k]'(by omega),au3 _⟩
   obtain⟨o,G3,es,M3,y1,y2,⟨rfl,ylp,now2,l2,t2,⟨lv2,sv2,rows2,Ro2,F2,b2⟩,sm2⟩,ycl,yw,yq⟩:=bcJ (O:=om') (H:=h1) (b:=M.length) (vs:=[.int .i64 n]) (Q:=fun o G=>o=.ret (.bool true)∧G[M.length]?=some LP∧∃now2,now2.length=now.length∧now2.take (k+1)=(now'.set k n).take (k+1)∧(∃lv2 sv2 rows2 Ro2,ScF m p (azQ m (k+1) d (now'.set k n) st).1 (azQ m (k+1) d (now'.set k n) st).2 now2 lv2 sv2 rows2 Ro2 G∧∀c∈scB lv2++scB sv2,c∈scB lv'++scB sv'∨h.length≤c)∧∀c,c<h.length→c∉aEQ p lv' sv'→c≠M.length→SmB h1 G c) hq1 (by
    obtain⟨Hc,hHc⟩:∃Hc,clH h1=Hc:=⟨_,rfl⟩
    rw[hHc]at lpc f0 f5 f6 f7 ⊢
    have e7:∀X Y:CB,((Hc.set M.length X).set (p+5) Y)[p+7]?=_:=fun X Y=>(adE (by omega)).trans (f7 X)
    have e0:∀X Y:CB,((Hc.set M.length X).set (p+5) Y)[H.length]?=_:=fun X Y=>(adE (by omega)).trans (f0 X)
    subst hLP
    refine biH lpc rfl ?_
    (have hb:=trivial;with_reducible repeat' (first|simp only[hb,Vc.down,seval,aMF.down,lpc,f0,f5,f6,f7,e7,e0,hwk,hkN,hset,hgk,iv,ayS,aa9]|refine fsp ?_ ?_<;>intro hb|refine fd ?_|fail))
    generalize hLB:CB.lp _ _ _ _ LSt.busy=LB
    obtain⟨H2,hH2⟩:∃H2,(Hc.set M.length LB).set (p+5) (CB.live 1 true true (List.map iv (now'.set k n)))=H2:=⟨_,rfl⟩
    rw[hH2]
    have hLBc:∀d:CB,d.clean=LB.clean→d=LB:=fun d hd=>by rw[←hLB]at hd ⊢;exact aOT d hd
    have hLBq:LB.quiet LB.clean=true:=by rw[←hLB];rfl
    have F1:ScF m p st.1 st.2 now' lv' sv' rows' Ro' h1:=by rw[←hh1];exact a4.put (by omega) km rfl _
    have F2:ScF m p st.1 st.2 now' lv' sv' rows' Ro' Hc:=by rw[←hHc];exact F1.cl (ak3 h1).symm
    have F3:ScF m p st.1 st.2 now' lv' sv' rows' Ro' (Hc.set M.length LB):=F2.put (by omega) lpc rfl _
    have F4:ScF m p st.1 st.2 (now'.set k n) lv' sv' rows' Ro' H2:=by rw[←hH2];exact F3.now (by simp) _
    have hqc:adK Hc=true:=by rw[←hHc];exact ak1 hq1
    have hq2:adK H2=true:=by rw[←hH2];exact aeX (aeX hqc _ hLBq) _ rfl
    have hl2:H2.length=h.length:=by rw[←hH2,←hHc];simp[aeL,hl1]
    have w1:Wst (Hc.set M.length LB) H2:=by
     obtain⟨z,g⟩:=F3.h5
     rw[←hH2];exact(Wst.refl _).put g 1 true _
    obtain⟨o,G,es,M2,g1,g2,⟨rfl,now2,l2,t2,SL⟩,g4,g5,g6⟩:=avT (O:=om') (H:=H2) (f:=78) (args:=.int .i64 ((k+1:Nat):Int)::scA p) (Q:=fun o G=>o=.ret (.tup [])∧∃now2,now2.length=(now'.set k n).length∧now2.take (k+1)=(now'.set k n).take (k+1)∧ScL m p (azQ m (k+1) d (now'.set k n) st).1 (azQ m (k+1) d (now'.set k n) st).2 now2 lv' sv' (clH H2) G) hq2 (by
     obtain⟨o,G,c,rfl,now2,x1,x2,SL⟩:=ih (k+1) st.1 st.2 (now'.set k n) lv' sv' rows' Ro' (clH H2) (ak1 hq2) (F4.cl (ak3 H2).symm) a3 (by simp;omega) (by omega)
     exact⟨_,G,c,⟨rfl,now2,x1,x2,SL⟩,SL.w,SL.q⟩)
    rw[g1]
    have smH:∀c,c<h.length→c∉aEQ p lv' sv'→c≠M.length→SmB h1 M2 c:=fun c c1 c2 c3=>by
     have e1:SmB h1 H2 c:=by
      rw[←hH2,←hHc]
      exact(((SmB.refl h1 c).eqR (ak3 h1).symm).set (fun e=>c3 e.symm) LB).set (fun e=>c2 (by simp[aEQ,e])) _
     exact((e1.eqR (ak3 H2).symm).trans (SL.k c (by rw[aeL];omega) c2)).eqR g4.symm
    have mB:M2[M.length]?=some LB:=by
     have e1:(clH H2)[M.length]?=some LB:=by
      have:H2[M.length]?=some LB:=by rw[←hH2,adE (by omega),aeU (adM lpc)]
      exact((SmB.refl H2 M.length).eqR (ak3 H2).symm).keep this hLBc
     exact aE4 g4.symm ((SL.k M.length (by rw[aeL];omega) (own' _ (by omega) (ownH _ (by omega) (by omega)))).keep e1 hLBc) hLBc
    subst hLB
    (have hb:=trivial;with_reducible repeat' (first|simp only[hb,Vc.down,seval,aMF.down,g2,mB]|refine fsp ?_ ?_<;>intro hb|refine fd ?_|fail))
    obtain⟨⟨lv2,sv2,rows2,Ro2,G5,G6⟩,_,_,_⟩:=SL
    refine⟨_,_,rfl,⟨rfl,aeU (adM mB),now2,by rw[l2];simp;omega,t2,⟨lv2,sv2,rows2,Ro2,(G5.cl g4.symm).put (by omega) mB rfl _,fun c hc=>by have:=G6 c hc;rwa[aeL,hl2]at this⟩,fun c c1 c2 c3=>(smH c c1 c2 c3).set (fun e=>c3 e.symm) _⟩,(w1.trans g5).back lpc,aeX g6 _ (by rfl)⟩
    )
   have bl:∀c,H.length≤c→c<M.length→SmB h M3 c:=fun c c1 c2=>((sm1 c (by omega)).trans (sm2 c (by omega) (own' c (by omega) (ownH c c1 (by omega))) (by omega))).eqR ycl.symm
   refine⟨es,y1,?_⟩
   rw[y2]
   refine⟨⟨now2,azQ m (k+1) d (now'.set k n) st,lv2,sv2,rows2,Ro2,l2,?_,by unfold azQ;exact aHA hm _ a3,F2.cl ycl.symm,fun c hc=>?_,?_⟩,(a7.trans ?_).trans yw,yq,fun c c1 c2=>((a9 c c1 c2).trans ((sm1 c (by omega)).trans (sm2 c (by omega) (own' c (by omega) c2) (by omega)))).eqR ycl.symm,(bl _ (by omega) (by omega)).live k0,(bl _ (by omega) (by omega)).live k1,(bl _ (by omega) (by omega)).live k2,(bl _ (by omega) (by omega)).live k3,(bl _ (by omega) (by omega)).live k5,(bl _ (by omega) (by omega)).live kb,aE4 ycl.symm ylp fun d hd=>by rw[←hLP]at hd ⊢;exact aOT d hd,?_⟩
   ·have e1:now2.take k=(now2.take (k+1)).take k:=by rw[aFX];congr 1;omega
    rw[e1,t2,aFX,show min k (k+1)=k by omega,aDB (by omega),a2]
   ·rcases b2 c hc with h|h
    ·exact a5 c h
    ·right;omega
   ·obtain⟨q1,q2⟩:=anK.1 hx
    rw[awE q1,q2,axH,if_pos (show awX n=true∧a3Q m k n∉w from⟨hvn,hnw⟩)]at a6
    rw[←a6]
    exact(aY1 m k d now n _ st a2 (by omega)).symm
   ·rw[←hh1,←hmv];exact(Wst.refl h).map km _
   ·have e1:h1[M.length+1]?=some (amD (kvG kI aBQ (w++[aw8 (k:Int) (sAt m (k:Int)) n m.votes]))):=by rw[←hh1,hmv];exact aeU hBl
    exact((sm2 (M.length+1) (by omega) (own' _ (by omega) (ownH _ (by omega) (by omega))) (by omega)).eqR ycl.symm).map e1
  ·intro i w n h hx hnk I
   obtain⟨⟨now',st,lv',sv',rows',Ro',a1,a2,a3,a4,a5,a6⟩,a7,a8,a9,k0,k1,k2,k3,k5,kb,kl,km⟩:=I
   refine⟨⟨now',st,lv',sv',rows',Ro',a1,a2,a3,a4,a5,?_⟩,a7,a8,a9,k0,k1,k2,k3,k5,kb,kl,km⟩
   obtain⟨q1,q2⟩:=anK.1 hx
   rw[awE q1,q2,axH,if_neg (show ¬(awX n=true∧a3Q m k n∉w)from hnk)]at a6
   exact a6
  ·simp[aeL]
  ·have hs2:∀c,c<H.length+1→SmB (H++[.live 1 true false [[.int .i64 (k:Int)]]]) (clH M++[LP]++[amD []]) c:=fun c hc=>((((smM c hc).trans (SmB.refl M c)).eqR (ak3 M).symm).app (by rw[aeL];omega) _).app (by simp[aeL];omega) _
   have hs3:∀c,c<H.length→SmB H (clH M++[LP]++[amD []]) c:=fun c hc=>((SmB.refl H c).app hc _).trans (hs2 c (by omega))
   have gM:∀{c st:Nat} {fl:Bool} {r:List (List AV)},(∃x,G1[c]?=some (.live st fl x r))→∃x,(clH M++[LP]++[amD []])[c]?=some (.live st fl x r):=fun {c st fl r} g=>by
    obtain⟨x,g⟩:=an0 (hcl.symm.trans (ak3 M).symm) g
    exact⟨x,aaO (aaO g _) _⟩
   refine⟨⟨now,(W,X),lv,sv,rows,Ro,rfl,rfl,hf,hF.keep (by simp[aeL];omega) (fun c hc _=>hs3 c hc) ((hs3 _ (adM h3)).map h3),fun c hc=>.inl hc,a4R m k d now (W,X)⟩,(Wst.refl _).app _,?_,fun c hc _=>hs3 c hc,(hs2 H.length (by omega)).live ⟨false,by simp⟩,gM b0,gM b1,gM b2,gM ⟨xb,by rw[hlen2];exact b4⟩,gM ⟨yb,b5⟩,?_,?_⟩
   ·refine adY (adY (ak1 hqM) ?_) (a1Q [])
    rw[←hLP];rfl
   ·rw[ajP (by simp[aeL]),ayU (by rw[aeL];omega),aeL,Nat.sub_self];rfl
   ·rw[ayU (by simp[aeL])];simp[aeL,kvG]
  ·rintro o h' ⟨rfl,w,I⟩
   obtain⟨⟨now',st,lv',sv',rows',Ro',a1,a2,a3,a4,a5,a6⟩,a7,a8,a9,k0,k1,k2,k3,k5,kb,kl,km⟩:=I
   have hLq:adK [LP]=true:=by rw[←hLP];rfl
   have hLc:clH (M++[LP])=clH M++[LP]:=by rw[←hLP];simp[clH,CB.clean]
   obtain⟨es2,M2,f1,f2,f3,f4,f5⟩:=aVO (o:=.ret (.tup [])) (adY hqM hLq) (by rw[hLc];exact a7) a8
   have mB:M2[M.length]?=some LP:=aE4 f3.symm kl fun d hd=>by rw[←hLP]at hd ⊢;exact aOT d hd
   rw[f1]
   subst hLP
   (have hb:=trivial;with_reducible repeat' (first|simp only[hb,Vc.down,seval,aMF.down,f2,mB]|refine fsp ?_ ?_<;>intro hb|refine fd ?_|fail))
   have hdr:(aH5 m k).drop (aH5 m k).length=[]:=ayY
   rw[hdr]at a6
   have e6:st=azQ m k (d+1) now (W,X):=by rw[←a6];rfl
   subst e6
   refine⟨now',a1,a2,⟨⟨lv',sv',rows',Ro',(a4.cl f3.symm).put (by have:=adM h7;omega) mB rfl _,fun c hc=>(a5 c hc).imp id fun h=>by omega⟩,?_,aeX f5 _ rfl,fun c hc hn=>?_⟩⟩
   ·exact(((((Wst.refl H).app _).trans hw).app _).trans f4).hi (by omega) _
   ·exact((a9 c hc hn).eqR f3.symm).set (by omega) _
def wh(m:aaW)(k:Nat)(r:Int):Int:=aw8 k (sAt m k) r m.votes
theorem aYV{s:ad1}{v:abT}{n:Int}(hl:s.lo≤s.hi)(h1:n≠s.lo)(h2:n≠s.hi+1)(h3:s.byp=true∨¬(n=(if v.above=true then v.level else v.level+1)∧s.lo<n∧n≤s.hi)):aw5 s v n=aw5 s v (n-1):=by
 cases hb:s.byp with
 |true=>unfold aw5;rw[hb];rfl
 |false=>
  have h3:=h3.resolve_left (by rw[hb];simp)
  rw[Bool.eq_iff_iff]
  cases ha:v.above<;>simp[ha]at h3<;>simp[aw5,ha,hb,inB]<;>omega
theorem aZL{m:aaW}{k:Nat}{n:Int}(hl:(sAt m k).lo≤(sAt m k).hi)(h1:n≠(sAt m k).lo)(h2:n≠(sAt m k).hi+1)(h3:(sAt m k).byp=true∨∀v∈m.votes,¬(n=(if v.above=true then v.level else v.level+1)∧(sAt m k).lo<n∧n≤(sAt m k).hi)):wh m k n=wh m k (n-1):=by
 unfold wh aw8 aE0
 congr 1
 refine at6 fun v hv=>?_
 rw[aYV hl h1 h2 (h3.imp id fun h=>h v hv)]
theorem aKU(n:Int):awX n=true↔ -10000≤n∧n≤10000:=by simp[awX,inB]
theorem aWP{m:aaW}{k:Nat}(hk:k<m.sens.length):sAt m k∈m.sens:=azA (aA3 (k:=(k:Int)) (by simpa using hk))
theorem a6I{m:aaW}(hm:adZ m=true){k:Nat}(hk:k<m.sens.length):Sep (-10000) 10000 (wh m k) (rdF m k):=by
 obtain⟨q1,q2,q3⟩:=aJT hm (aWP hk)
 have mem:∀n,n∈axW (azU (sAt m k) m.votes)↔n∈azU (sAt m k) m.votes:=fun n=>(aA4 _).mem_iff
 refine a33 aKU (aAZ _) ((mem _).2 (by simp[azU])) fun n h1 h2 h3=>(mem n).2 (Classical.byContradiction fun hn=>h3 ?_)
 simp only[azU,adJ,aiZ,akQ,or_false,azS,not_or,not_exists,not_and]at hn
 refine aZL q2 hn.1.2.1 hn.1.2.2 (.inr fun v hv hc=>?_)
 have:=hn.2 v hv
 split at hc<;>omega
def bbH(m:aaW)(k:Nat):List Int:=(sAt m k).lo::((sAt m k).hi+1)::m.votes.flatMap fun v=>if(sAt m k).lo<(if v.above=true then v.level else v.level+1)∧(if v.above=true then v.level else v.level+1)≤(sAt m k).hi then [if v.above=true then v.level else v.level+1]else []
def upN:Nat→Int→List Int
 |0,_=>[]
 |d+1,n=>n::upN d (n+1)
theorem aOY:∀(d:Nat) (n x:Int),x∈upN d n↔n≤x∧x<n+d
 |0,n,x=>by simp[upN]<;>omega
 |d+1,n,x=>by simp only[upN,aiZ,aOY d];omega
theorem a12:∀(d:Nat) (n:Int),(upN d n).Pairwise (· < ·)
 |0,_=>List.Pairwise.nil
 |d+1,n=>List.pairwise_cons.2 ⟨fun x hx=>by have:=(aOY d _ x).1 hx;omega,a12 d _⟩
def aH4(m:aaW)(k:Nat):List Int:= -10000::if(sAt m k).byp=true then []else(upN 20000 (-9999)).filter fun n=>decide (n∈bbH m k)
theorem aM7{m:aaW}(hm:adZ m=true):∀(d k:Nat),k+d=m.sens.length→aFT (-10000) 10000 (wh m) k (aAH m k d)
 |0,_,_=>trivial
 |d+1,k,h=>by rw[aJU];exact⟨a6I hm (by omega),aM7 hm d (k+1) (by omega)⟩
theorem aG8(m:aaW)(k d:Nat):(aAH m k d).length=d:=by simp[aAH]
theorem aV4{C:Type}{w:Nat→Int→C}:∀{p q:List Int} {k:Nat},Cls w k p q→p.length=q.length∧∀i,i<p.length→w (k+i) (p.getD i 0)=w (k+i) (q.getD i 0)
 | [],[],_,_=>⟨rfl,fun i h=>by simp at h⟩
 | [],_::_,_,h=>by cases h
 |_::_,[],_,h=>by cases h
 |a::p,b::q,k,h=>by
  obtain⟨h1,h2⟩:=aV4 h.2
  refine⟨by simp[h1],fun i hi=>?_⟩
  cases i with
  |zero=>exact h.1
  |succ i=>
   have:=h2 i (by simpa using hi)
   rw[show k+1+i=k+(i+1) by omega]at this
   simpa using this
theorem aXE{a b:List Bool}(ha:a.length≤6)(hl:a.length=b.length)(h:ax0 a 0 0=ax0 b 0 0):a=b:=by
 apply List.ext_getElem?
 intro i
 by_cases hi:i<a.length
 ·rw[a3E a ha i hi,a3E b (by omega) i (by omega),h]
 ·rw[aF7 (by omega),aF7 (by omega)]
theorem a4W{m:aaW}(hm:adZ m=true){k:Nat}{a b:Int}(h:wh m k a=wh m k b){v:abT}(hv:v∈m.votes)(hk:(k:Int)∈v.sens):aw5 (sAt m k) v a=aw5 (sAt m k) v b:=by
 have h1:aE0 k (sAt m k) a m.votes=aE0 k (sAt m k) b m.votes:=aXE (by simp[aE0];exact aDA hm) (by simp[aE0]) h
 unfold aE0 at h1
 have h2:=List.map_inj_left.1 h1 v hv
 have h3:(v.sens.any fun x=>(k:Int)==x)=true:=List.any_eq_true.2 ⟨k,hk,by simp⟩
 simpa [h3]using h2
theorem aQB{m:aaW}{p q:List Int}{v:abT}:∀(l:List Int) (c:Int),(∀k∈l,aw5 (sAt m k) v (rAt p k)=aw5 (sAt m k) v (rAt q k))→aDR m v p l c=aDR m v q l c
 | [],_,_=>rfl
 |k::l,c,h=>by
  unfold aDR
  rw[h k (by simp)]
  exact aQB l _ fun k hk=>h k (by simp[hk])
theorem a3Y{m:aaW}(hm:adZ m=true){p q:List Int}(hl:p.length=m.sens.length)(h:Cls (wh m) 0 p q):aq2 m p=aq2 m q:=by
 obtain⟨h1,h2⟩:=aV4 h
 unfold aq2
 rw[aJE,aJE]
 congr 1
 refine at6 fun v hv=>?_
 unfold aON
 rw[aQB v.sens 0 fun k hk=>?_]
 obtain⟨k0,k1⟩:=aFW hm v hv k hk
 obtain⟨j,rfl⟩:∃j:Nat,k=j:=⟨k.toNat,by omega⟩
 simp only[auT]at k1
 have:=h2 j (by omega)
 rw[Nat.zero_add]at this
 simp only[rAt,auT]
 exact a4W hm this hv hk
def stp(m:aaW)(v:Int × Int)(x:List Int × Int):Int × Int:=aVU m v.1 v.2 (tsc x)
theorem a1I{m:aaW}{a b:List Int × Int}(h1:aq2 m a.1=aq2 m b.1)(h2:a.2=b.2)(v:Int × Int):stp m v a=stp m v b:=by
 unfold stp aVU tsc
 unfold aq2 at h1
 simp only[h1,h2]
def Leg(m:aaW)(a:List Int × Int):Prop:=a.1.length=m.sens.length∧(∀n∈a.1,-10000≤n∧n≤10000)∧ -1≤a.2∧a.2<m.cmds
theorem aNF{m:aaW}(hm:adZ m=true){c:Int}:c∈atE m↔ -1≤c∧c<m.cmds:=by
 have:=aAX hm
 unfold atE
 rw[List.mem_map]
 constructor
 ·rintro⟨i,hi,rfl⟩
  have:=aF8.1 hi
  omega
 ·intro h
  exact⟨(c+1).toNat,aF8.2 (by omega),by omega⟩
theorem a0R(m:aaW):(atE m).Pairwise (· < ·):=by
 unfold atE
 exact List.pairwise_map.2 (List.pairwise_lt_range.imp fun h=>by omega)
structure aw4(m:aaW)(X:List (List Int × Int)):Prop where
 pw:X.Pairwise ltS
 leg:∀a∈X,Leg m a
 rep:∀a,Leg m a→∃b∈X,aq2 m b.1=aq2 m a.1∧b.2=a.2∧(b=a∨ltS b a)
theorem aWW{m:aaW}(hm:adZ m=true){R:List (List Int)}(hp:R.Pairwise ltR)(hl:∀r∈R,r.length=m.sens.length∧∀n∈r,-10000≤n∧n≤10000)(hr:∀x:List Int,x.length=m.sens.length→(∀n∈x,-10000≤n∧n≤10000)→∃y∈R,aq2 m y=aq2 m x∧(y=x∨ltR y x)):aw4 m (aIG (atE m) R):=by
 refine⟨a2G (a0R m) hp,fun a ha=>?_,fun a ha=>?_⟩
 ·obtain⟨h1,h2⟩:=aM8.1 ha
  obtain⟨h3,h4⟩:=hl _ h1
  exact⟨h3,h4,(aNF hm).1 h2⟩
 ·obtain⟨a1,a2,a3⟩:=ha
  obtain⟨y,y1,y2,y3⟩:=hr a.1 a1 a2
  refine⟨(y,a.2),aM8.2 ⟨y1,(aNF hm).2 a3⟩,y2,rfl,?_⟩
  rcases y3 with rfl|y3
  ·exact .inl rfl
  ·exact .inr (.inl y3)
theorem aGR(m:aaW):∀(rows:List (List Int)) (W:List Int) (X:List (List Int × Int)),(rows.foldl (aC1 m) (W,X)).2=X++aIG (atE m) (axH (fun _=>true) (aq2 m) rows W)
 | [],W,X=>by simp[axH,aIG]
 |r::rows,W,X=>by
  rw[List.foldl_cons]
  by_cases h:aq2 m r∈W
  ·have e:aC1 m (W,X) r=(W,X):=if_pos h
   rw[e,aGR,axH,if_neg (by simp[h])]
  ·have e:aC1 m (W,X) r=(W++[aq2 m r],X++(atE m).map fun c=>(r,c)):=if_neg h
   rw[e,aGR,axH,if_pos ⟨rfl,h⟩]
   simp[aIG,alW]
def am6(m:aaW):List (List Int × Int):=aIG (atE m) (axH (fun _=>true) (aq2 m) (azE (aAH m 0 m.sens.length)) [])
theorem aLC(m:aaW)(now:List Int):(azQ m 0 m.sens.length now ([],[])).2=am6 m:=by
 unfold azQ am6
 rw[aGR,arO,aBS]
 simp
theorem av6{m:aaW}(hm:adZ m=true):aw4 m (am6 m):=by
 have hS:=aM7 hm m.sens.length 0 (by omega)
 have hp:(azE (aAH m 0 m.sens.length)).Pairwise ltR:=aP6 hS.inc
 refine aWW hm (aE9 (R:=ltR) (fun a b h _=>h) hp) (fun r hr=>?_) fun x h1 h2=>?_
 ·have:=aFT.row hS r (az5 hr).1
  rw[aG8]at this;exact this
 ·obtain⟨y,y1,y2,y3⟩:=aFT.all hS x (by rw[aG8];exact h1) h2
  have hyl:y.length=m.sens.length:=by have:=(aFT.row hS y y1).1;rwa[aG8]at this
  rcases aC7 (ok:=fun _=>true) (w:=aq2 m) (met:=[]) hp y1 rfl with h|⟨b,b1,b2,b3⟩
  ·cases h
  ·refine⟨b,b1,b2.trans (a3Y hm hyl y2),?_⟩
   rcases b3 with rfl|b3
   ·exact y3
   ·rcases y3 with rfl|y3
    ·exact .inr b3
    ·exact .inr (aTX b3 y3)
def gS(X:List (List Int × Int))(i:Nat):List Int × Int:=X.getD i ([],0)
theorem aJ6{X:List (List Int × Int)}{i:Nat}{x:List Int × Int}(h:X[i]?=some x):gS X i=x:=by simp[gS,h]
theorem aPF{X:List (List Int × Int)}{i:Nat}(h:i<X.length):gS X i∈X:=by
 have h1:X[i]?=some X[i]:=au3 h
 rw[aJ6 h1];exact List.getElem_mem h
theorem aw4.inc{m:aaW}{X:List (List Int × Int)}(h:aw4 m X):∀i j,i<j→j<X.length→ltS (gS X i) (gS X j):=a90 h.pw
theorem aw4.reps{m:aaW}{X:List (List Int × Int)}(h:aw4 m X){a:List Int × Int}(ha:Leg m a):a4B ltS (stp m) (gS X) X.length a:=by
 obtain⟨b,b1,b2,b3,b4⟩:=h.rep a ha
 obtain⟨i,hi,rfl⟩:=List.getElem_of_mem b1
 refine⟨i,hi,fun v=>?_,?_⟩
 ·rw[aJ6 (au3 hi)];exact a1I b2 b3 v
 ·rw[aJ6 (au3 hi)];exact b4
abbrev Fnd(m:aaW)(X:List (List Int × Int))(D:List ((Int × Int) × List Nat)):Prop:=BF (fun v i=>stp m v (gS X i)) X.length (m.bgn,0) D D.length 0
theorem Fnd.eq{m:aaW}{X Y:List (List Int × Int)}(hX:aw4 m X)(hY:aw4 m Y){D E:List ((Int × Int) × List Nat)}(B:Fnd m X D)(C:Fnd m Y E){k:Nat}{x:(Int × Int) × List Nat}(hx:D[k]?=some x):∃(k':Nat) (x':(Int × Int) × List Nat),E[k']?=some x'∧x'.1=x.1∧x'.2.map (gS Y)=x.2.map (gS X):=
 BF.same aDO hX.inc hY.inc B C (fun _ hi=>hX.reps (hY.leg _ (aPF hi))) (fun _ hi=>hY.reps (hX.leg _ (aPF hi))) hx
theorem aZF{m:aaW}(hm:adZ m=true):am6 m≠[]:=fun e=>by
 have hc:=aAX hm
 obtain⟨b,hb,_⟩:=(av6 hm).rep (am1 m.sens.length (-10000),-1) ⟨by simp,fun n hn=>by have:=List.eq_of_mem_replicate hn;omega,by simp,by simp only;omega⟩
 rw[e]at hb;cases hb
theorem aI0:abZ .nilm=[.nilm]:=ajS rfl rfl
theorem aI2:AV.flat .nilm=false:=ajS rfl rfl
theorem aJC:AV.isCell .nilm=true:=ajS rfl rfl
theorem aI4(b:Nat):abZ (.mapr b)=[.mapr b]:=ajS rfl rfl
theorem aJD(b:Nat):AV.flat (.mapr b)=false:=ajS rfl rfl
theorem aIY(b:Nat):AV.isCell (.mapr b)=true:=ajS rfl rfl
def ScR(m:aaW)(H:aaL)(o:Out)(G:aaL):Prop:=∃lv b x rows Ro,o=.ret (.tup [lv,.slr 2 b 0 (am6 m).length])∧LLG 2 (H.length+8) lv G rows ((am6 m).map fun x=>(tsc x).cells) Ro∧rows.length=(am6 m).length∧G[b]?=some (.live 2 true x ((am6 m).map (sgC m)))∧H.length≤b∧Wst H G∧adK G=true∧∀c,c<H.length→SmB H G c
def aE8(m:aaW)(p:Nat)(x:Bool):aaL:=[.live 7 false false [m.cells],.live 1 false false [[.nils]],.live 1 false false [[.nils]],amD [],.live 1 false x [[.mapr (p+3)]],.live 1 true false (am1 m.sens.length [.int .i64 0]),.live 1 false x [[.slr 1 (p+5) 0 m.sens.length]],.live 1 false x [[.func (.func 78) [] (scA p)]]]
theorem a5O{m:aaW}(hs:m.small)(hm:adZ m=true){H:aaL}(hq:adK H=true):ShQ om' 54 [.agg m.cells] H (ScR m H):=by
 have hn6:=aC8 hm
 have hms:((m.sens.length:Int)≤(m.sens.length:Int)∧(m.sens.length:Int)≤1099511627776)=True:=eq_true (by omega)
 refine aDP rfl Try.func54 rfl rfl ?_
 simp only[Try.f54]
 (have hb:=trivial;with_reducible repeat' (first|simp only[hb,Vc.down,seval,be6.down,aI0,aI2,aJC,aI4,aJD,aIY,hms,aa9]|refine fsp ?_ ?_<;>intro hb|refine fd ?_|fail))
 obtain⟨p,hp⟩:∃p,H.length=p:=⟨_,rfl⟩
 have hcl:clH (H++aE8 m p true)=clH H++aE8 m p false:=by simp[clH,aE8,CB.clean,amD]
 have hqb:adK (H++aE8 m p true)=true:=adY hq rfl
 have gb:∀k,(H++aE8 m p true)[p+k]?=(aE8 m p true)[k]?:=fun k=>by
  rw[ayU (by omega)];congr 1;omega
 have F0:ScF m p [] [] (am1 m.sens.length 0) .nils .nils [] [] (H++aE8 m p true):=by
  refine⟨⟨false,gb 0⟩,⟨false,gb 1⟩,⟨false,gb 2⟩,gb 3,⟨true,gb 4⟩,⟨false,?_⟩,⟨true,?_⟩,⟨true,gb 7⟩,?_,.inl ⟨rfl,rfl⟩,rfl⟩
  ·rw[gb 5];simp[aE8,iv]
  ·rw[gb 6];simp[aE8]
  ·exact LLG.none
 obtain⟨o,G,es,M,e1,e2,⟨rfl,now',l',SL⟩,e3,e4,e5⟩:=avT (O:=om') (H:=H++aE8 m p true) (f:=78) (args:=.int .i64 0::scA p) (Q:=fun o G=>o=.ret (.tup [])∧∃now',now'.length=m.sens.length∧ScL m p (azQ m 0 m.sens.length (am1 m.sens.length 0) ([],[])).1 (am6 m) now' .nils .nils (clH (H++aE8 m p true)) G) hqb (by
  obtain⟨o,G,c,rfl,now',x1,_,SL⟩:=bdR hs hm m.sens.length 0 [] [] (am1 m.sens.length 0) .nils .nils [] [] (clH (H++aE8 m p true)) (ak1 hqb) (F0.cl (ak3 _).symm) (Few.start m) (by simp) (by omega)
  rw[aLC]at SL
  exact⟨_,G,c,⟨rfl,now',by rw[x1];simp,SL⟩,SL.w,SL.q⟩)
 have smH:∀c,c<H.length→SmB H M c:=fun c hc=>by
  have e:SmB (clH (H++aE8 m p true)) G c:=SL.k c (by rw[aeL];simp;omega) (by simp[aEQ,scB];omega)
  exact((((SmB.refl H c).app hc _).eqR (ak3 _).symm).trans e).eqR e3.symm
 obtain⟨⟨lv,sv,rows,Ro,F,_⟩,_,_,_⟩:=SL
 have F:=F.cl e3.symm
 obtain⟨x1,m1⟩:=F.h1
 obtain⟨x2,m2⟩:=F.h2
 rcases F.S with⟨h,_⟩|⟨b,x,rfl,kb,kp,_⟩
 ·exact absurd h (aZF hm)
 have wH:Wst H M:=((Wst.refl H).app _).trans e4
 have hL:=F.L
 have hl:=F.len
 have e0:((0:Nat):Int)=0:=rfl
 rw[hcl]at e1
 simp only[aE8,scA,amD]at e1 e2
 rw[hp,e1]
 subst hp
 (have hb:=trivial;with_reducible repeat' (first|simp only[hb,Vc.down,seval,be6.down,e2,m1,m2]|refine fsp ?_ ?_<;>intro hb|refine fd ?_|fail))
 exact⟨lv,b,x,rows,Ro,rfl,hL,hl,kb,by omega,wH,e5,smH⟩
end Go.Proofs.Ytfkokgjfpojeoaa
