/- The functions of the layer, walked. -/
import Derived.Test.YtfkokgjfpojeoaaPartAF
import Derived.Test.YtfkokgjfpojeoaaPartAD
open List renaming length_map→aaA,length_take→aa0,mem_of_getElem?→aa9,length_set→abO,foldl_cons→acM,append_nil→acY,getElem?_eq_getElem→adV,mem_map→ae2,getElem?_append_right→ae4,length_cons→ae7,take_add_one→afR,length_nil→af4,length_append→af5,getElem?_of_mem→af6,getElem?_eq_some_iff→af7,getElem?_take_of_lt→af8,flatMap_cons→af9,length_range→agB,all_eq_true→aiO,foldl_append→ai2,getElem?_eq_none→ajM,length_eq_zero_iff→aj8,map_append→alV,length_drop→alX
open Int renaming lt_irrefl→aaK,natCast_zero→agA
open Bool renaming true_and→aa3,and_eq_true→acI
set_option linter.unusedSimpArgs false
set_option linter.unusedVariables false
namespace Go.Proofs.Ytfkokgjfpojeoaa
open Go.Ev Go Go.Ev.Bfs
set_option maxRecDepth 100000
set_option maxHeartbeats 16000000
structure xC(m:Ac)(s:Ba)(A O:List Int)(a o:Nat)(h:Aa):Prop where
 h0:∃x,h[0]?=some (.live 7 false x [m.cells])
 h1:∃x,h[1]?=some (.live 3 true x [s.cells])
 ha:∃x,h[a]?=some (.live 1 true x (A.map iv))
 ho:∃x,h[o]?=some (.live 1 true x (O.map iv))
 ne:a≠o
 a2:2≤a
 o2:2≤o
theorem xC.app{m:Ac}{s:Ba}{A O:List Int}{a o:Nat}{h:Aa}(I:xC m s A O a o h)(l:Aa):xC m s A O a o (h++l):=by
 obtain⟨⟨x0,h0⟩,⟨x1,h1⟩,⟨x2,ha⟩,⟨x3,ho⟩,ne,a2,o2⟩:=I
 exact⟨⟨x0,Ab h0 l⟩,⟨x1,Ab h1 l⟩,⟨x2,Ab ha l⟩,⟨x3,Ab ho l⟩,ne,a2,o2⟩
theorem xC.snocA{m:Ac}{s:Ba}{A O:List Int}{a o:Nat}{h:Aa}(I:xC m s A O a o h)(n:Int)(l:Aa){k:Nat}(hk:k=h.length+l.length):xC m s (A++[n]) O k o (h.set a .dead++(l++[.live 1 true false (A.map iv++[[.int .i64 n]])])):=by
 obtain⟨⟨x0,h0⟩,⟨x1,h1⟩,⟨x2,ha⟩,⟨x3,ho⟩,ne,a2,o2⟩:=I
 have l3:=Ap ho
 refine⟨⟨x0,Ja _ (by omega) h0 _⟩,⟨x1,Ja _ (by omega) h1 _⟩,⟨false,?_⟩,⟨x3,Ja _ ne ho _⟩,by omega,by omega,o2⟩
 subst hk
 rw[ae4 (by simp),ae4 (by simp)]
 simp[iv]
theorem xC.snocO{m:Ac}{s:Ba}{A O:List Int}{a o:Nat}{h:Aa}(I:xC m s A O a o h)(n:Int)(l:Aa){k:Nat}(hk:k=h.length+l.length):xC m s A (O++[n]) a k (h.set o .dead++(l++[.live 1 true false (O.map iv++[[.int .i64 n]])])):=by
 obtain⟨⟨x0,h0⟩,⟨x1,h1⟩,⟨x2,ha⟩,⟨x3,ho⟩,ne,a2,o2⟩:=I
 have l3:=Ap ha
 refine⟨⟨x0,Ja _ (by omega) h0 _⟩,⟨x1,Ja _ (by omega) h1 _⟩,⟨x2,Ja _ (fun e=>ne e.symm) ha _⟩,⟨false,?_⟩,by omega,a2,by omega⟩
 subst hk
 rw[ae4 (by simp),ae4 (by simp)]
 simp[iv]
def Oz(s:Ba)(v:Ag):List Int:=if s.lo<(if v.above=true then v.level else v.level+1)∧(if v.above=true then v.level else v.level+1)≤s.hi then [if v.above=true then v.level else v.level+1]else []
def mO(n:Int)(O:List Int)(a:Int):List Int:=if a=n∧O.getLast?≠some n then O++[n]else O
theorem pE(n:Int):∀(L O:List Int),O.getLast?≠some n→L.foldl (mO n) O=if n∈L then O++[n]else O
 | [],O,_=>by simp
 |a::L,O,h=>by
  rw[acM]
  by_cases e:a=n
  ·subst e
   have e1:mO a O a=O++[a]:=if_pos ⟨rfl,h⟩
   rw[e1,if_pos (by simp)]
   have key:∀L:List Int,L.foldl (mO a) (O++[a])=O++[a]:=by
    intro L
    induction L with
    |nil=>rfl
    |cons b L ih=>
     rw[acM]
     have:mO a (O++[a]) b=O++[a]:=if_neg (by simp)
     rw[this,ih]
   exact key L
  ·have e1:mO n O a=O:=if_neg (fun h=>e h.1)
   rw[e1,pE n L O h]
   have:n∈a::L↔n∈L:=⟨fun h=>(List.mem_cons.1 h).resolve_left fun h=>e h.symm,fun h=>List.mem_cons_of_mem _ h⟩
   by_cases hm:n∈L
   ·rw[if_pos hm,if_pos (this.2 hm)]
   ·rw[if_neg hm,if_neg (fun h=>hm (this.1 h))]
theorem arM{m:Ac}(hs:m.small)(hm:Be m=true){k:Nat}(hk:k<m.sens.length):∃nn,RdV Bh 77 [.agg m.cells,.int .i64 (k:Int)] (Ad 1 true nn ((eY m k).map iv)) 2:=by
 have key:ClQ Bh 77 [.agg m.cells,.int .i64 (k:Int)] [] fun o h'=>∃v nn R,o=.ret v∧rd 6 (hf h') v=some (Ad 1 true nn ((eY m k).map iv),R)∧R.length≤2∧∀c∈h',xG c:=by
  obtain⟨q1,q2,q3⟩:=jK hm (aaD hk)
  have hgk:=Up (m:=m) (k:=(k:Int)) (by simpa using hk)
  simp only[Int.toNat_natCast]at hgk
  have hv6:=Nq hm
  have hkl:((k:Int)<(m.sens.length:Int))=True:=eq_true (by omega)
  have hE:eY m k= -10000::if(Jm m k).byp=true then []else(vC 20000 (-9999)).filter fun n=>decide (n∈aq4 m k):=rfl
  have hA:aq4 m k=[(Jm m k).lo,(Jm m k).hi+1]++m.votes.flatMap (Oz (Jm m k)):=rfl
  rw[hE,hA]
  generalize Jm m k=s at *
  have hw1:IntKind.i64.wrap (s.hi+1)=s.hi+1:=Du (by omega) (by omega)
  cases hby:s.byp with
  |true=>
   refine sO rfl Try.func77 rfl rfl ?_
   simp only[Try.f77]
   refine En (fun K iN hK=>?_)
   (have hb:=trivial;with_reducible repeat' (first|simp only[hb,Vc.down,seval,Ub.down,hgk,hkl,hby,Ba.cells,aaA]|refine An ?_ ?_<;>intro hb|refine fd ?_|fail))
   obtain⟨nn,R,hR⟩:=abH (n:=1) (rows:=[-10000].map iv) (v:=.slr 1 2 0 1) (H:=[.live 7 false false [m.cells],.live 3 true true [[.int .i64 s.lo,.int .i64 s.hi,.bool true]],.live 1 true false [[.int .i64 (-10000)]]]) (Sj.blk (b:=2) (w:=false) rfl rfl rfl)
   refine hK _ ?_
   rw[jF]
   refine qP (vs:=[.slr 1 2 0 1]) (by simp only[Vc.down,seval,Ub.down]) (lG (hR 5).1 (by have:=(hR 5).2;omega) fun v h' R' k1 k2 k3=>⟨v,nn,R',rfl,k1,by have:=(hR 5).2;omega,k3⟩)
  |false=>
   refine sO rfl Try.func77 rfl rfl ?_
   simp only[Try.f77]
   refine En (fun K iN hK=>?_)
   (have hb:=trivial;with_reducible repeat' (first|simp only[hb,Vc.down,seval,Ub.down,hgk,hkl,hby,hw1,Ba.cells,aaA]|refine An ?_ ?_<;>intro hb|refine fd ?_|fail))
   have I0:xC m s [s.lo,s.hi+1] [-10000] 4 2 [.live 7 false false [m.cells],.live 3 true true [[.int .i64 s.lo,.int .i64 s.hi,.bool false]],.live 1 true false [[.int .i64 (-10000)]],.live 1 true false [[.int .i64 s.lo],[.int .i64 (s.hi+1)]],.live 1 true false [[.int .i64 s.lo],[.int .i64 (s.hi+1)]]]:=⟨⟨false,rfl⟩,⟨true,by simp[Ba.cells,hby]⟩,⟨false,rfl⟩,⟨false,rfl⟩,by omega,by omega,by omega⟩
   have hfl:∀v,(Oz s v).length≤1:=fun v=>by
    have:∀(p:Prop) [Decidable p] (n:Int),(if p then [n]else []).length≤1:=fun p _ n=>by split<;>simp
    exact this _ _
   have hfm:∀l:List Ag,(l.flatMap (Oz s)).length≤l.length:=fun l=>by
    induction l with
    |nil=>simp
    |cons v l ih=>rw[af9,af5,ae7];have:=hfl v;omega
   refine Ci (Lp 94 m.votes (fun i (_:Unit) t h=>∃a,t 2=.ptr 0 0 0∧t 5=.ptr 1 0 0∧t 6=.slr 1 2 0 1∧t 7=.slr 1 a 0 ([s.lo,s.hi+1]++(m.votes.take i).flatMap (Oz s)).length∧t 8=.int .i64 i∧xC m s ([s.lo,s.hi+1]++(m.votes.take i).flatMap (Oz s)) [-10000] a 2 h) (fun _ _=>()) (fun _ e t h=>e=.exit 0∧∃a,t 6=.slr 1 2 0 1∧t 7=.slr 1 a 0 ([s.lo,s.hi+1]++m.votes.flatMap (Oz s)).length∧xC m s ([s.lo,s.hi+1]++m.votes.flatMap (Oz s)) [-10000] a 2 h) ?_ ?_ () _ _ ?_) (fun e t h hk=>?_)
   ·rintro _ t h Q' kQ ⟨a,c2,c5,c6,c7,c8,I⟩
    obtain⟨x0,h0⟩:=I.h0
    rw[List.take_length]at c7 I
    (have hb:=trivial;with_reducible repeat' (first|simp only[hb,Vc.down,seval,Ub.down,c2,c8,h0,aaK,decide_false,aaA]|refine An ?_ ?_<;>intro hb|refine fd ?_|fail))
    exact kQ _ _ _ ⟨rfl,a,by simp[up,c6],by simp[up,c7],I⟩
   ·rintro v rest i _ t h J Q' kJ kQ hx hi ⟨a,c2,c5,c6,c7,c8,I⟩
    obtain⟨x0,h0⟩:=I.h0
    obtain⟨x1,h1⟩:=I.h1
    obtain⟨x2,ha⟩:=I.ha
    obtain⟨lv1,lv2⟩:=tM hm (aa9 hx)
    have hd:((i:Int)<(m.votes.length:Int))=True:=eq_true (by omega)
    have hw:=Aq hi hs.votes
    have hw2:IntKind.i64.wrap (v.level+1)=v.level+1:=Du (by omega) (by omega)
    have htk:(m.votes.take (i+1)).flatMap (Oz s)=(m.votes.take i).flatMap (Oz s)++Oz s v:=by rw[afR,hx,List.flatMap_append];simp
    generalize hAA:[s.lo,s.hi+1]++(m.votes.take i).flatMap (Oz s)=AA at c7 I ha
    have htk2:[s.lo,s.hi+1]++(m.votes.take (i+1)).flatMap (Oz s)=AA++Oz s v:=by rw[htk,←hAA,List.append_assoc]
    have hAl:AA.length≤20:=by
     rw[←hAA]
     have:=hfm (m.votes.take i)
     have:(m.votes.take i).length≤6:=by rw[aa0];omega
     rw[af5];simp only[ae7,af4];omega
    have hB:=Ab ha
    have hSb:=Gj (Ap ha)
    have h39:(AA.length+1≤549755813888)=True:=eq_true (by omega)
    cases hab:v.above with
    |true=>
     have hnn:(if v.above=true then v.level else v.level+1)=v.level:=by rw[hab];rfl
     have hV0:Oz s v=if s.lo<v.level∧v.level≤s.hi then [v.level]else []:=by unfold Oz;rw[hnn]
     by_cases g1:s.lo<v.level
     ·by_cases g2:v.level≤s.hi
      ·have hV:Oz s v=[v.level]:=by rw[hV0,if_pos ⟨g1,g2⟩]
       have g1:=eq_true g1
       have g2:=eq_true g2
       (have hb:=trivial;with_reducible repeat' (first|simp only[hb,Vc.down,seval,Ub.down,c2,c5,c6,c7,c8,h0,Ab h0,h1,Ab h1,hab,hd,hx,hw,hw2,g1,g2,hB,hSb,h39,Ba.cells,Ag.cells,hby,Gp,Ei,abO,aaA]|refine An ?_ ?_<;>intro hb|refine fd ?_|fail))
       exact Av (kJ _ _ () ⟨h.length+2,by simp[up,c2],by simp[up,c5],by simp[up,c6],by rw[htk2,hV];simp[up],by simp[up]<;>omega,by rw[htk2,hV];exact I.snocA (k:=h.length+2) (v.level) [.live 4 false true [[Ad 1 true v.nn (v.sens.map iv),.int .i64 v.need,.int .i64 v.level,.bool true]],.live 1 true false [[.int .i64 (v.level)]]] (by simp)⟩ rfl)
      ·have hV:Oz s v=[]:=by rw[hV0,if_neg (fun h=>g2 h.2)]
       have g1:=eq_true g1
       have g2:=eq_false g2
       (have hb:=trivial;with_reducible repeat' (first|simp only[hb,Vc.down,seval,Ub.down,c2,c5,c6,c7,c8,h0,Ab h0,h1,Ab h1,hab,hd,hx,hw,hw2,g1,g2,hB,hSb,h39,Ba.cells,Ag.cells,hby,Gp,Ei,abO,aaA]|refine An ?_ ?_<;>intro hb|refine fd ?_|fail))
       exact Av (kJ _ _ () ⟨a,by simp[up,c2],by simp[up,c5],by simp[up,c6],by simp[up,c7,htk2,hV],by simp[up]<;>omega,by rw[htk2,hV,acY];exact I.app _⟩ rfl)
     ·have hV:Oz s v=[]:=by rw[hV0,if_neg (fun h=>g1 h.1)]
      have g1:=eq_false g1
      have g2:=True.intro
      (have hb:=trivial;with_reducible repeat' (first|simp only[hb,Vc.down,seval,Ub.down,c2,c5,c6,c7,c8,h0,Ab h0,h1,Ab h1,hab,hd,hx,hw,hw2,g1,g2,hB,hSb,h39,Ba.cells,Ag.cells,hby,Gp,Ei,abO,aaA]|refine An ?_ ?_<;>intro hb|refine fd ?_|fail))
      exact Av (kJ _ _ () ⟨a,by simp[up,c2],by simp[up,c5],by simp[up,c6],by simp[up,c7,htk2,hV],by simp[up]<;>omega,by rw[htk2,hV,acY];exact I.app _⟩ rfl)
    |false=>
     have hnn:(if v.above=true then v.level else v.level+1)=v.level+1:=by rw[hab];rfl
     have hV0:Oz s v=if s.lo<v.level+1∧v.level+1≤s.hi then [v.level+1]else []:=by unfold Oz;rw[hnn]
     by_cases g1:s.lo<v.level+1
     ·by_cases g2:v.level+1≤s.hi
      ·have hV:Oz s v=[v.level+1]:=by rw[hV0,if_pos ⟨g1,g2⟩]
       have g1:=eq_true g1
       have g2:=eq_true g2
       (have hb:=trivial;with_reducible repeat' (first|simp only[hb,Vc.down,seval,Ub.down,c2,c5,c6,c7,c8,h0,Ab h0,h1,Ab h1,hab,hd,hx,hw,hw2,g1,g2,hB,hSb,h39,Ba.cells,Ag.cells,hby,Gp,Ei,abO,aaA]|refine An ?_ ?_<;>intro hb|refine fd ?_|fail))
       exact Av (kJ _ _ () ⟨h.length+2,by simp[up,c2],by simp[up,c5],by simp[up,c6],by rw[htk2,hV];simp[up],by simp[up]<;>omega,by rw[htk2,hV];exact I.snocA (k:=h.length+2) (v.level+1) [.live 4 false true [[Ad 1 true v.nn (v.sens.map iv),.int .i64 v.need,.int .i64 v.level,.bool false]],.live 1 true false [[.int .i64 (v.level+1)]]] (by simp)⟩ rfl)
      ·have hV:Oz s v=[]:=by rw[hV0,if_neg (fun h=>g2 h.2)]
       have g1:=eq_true g1
       have g2:=eq_false g2
       (have hb:=trivial;with_reducible repeat' (first|simp only[hb,Vc.down,seval,Ub.down,c2,c5,c6,c7,c8,h0,Ab h0,h1,Ab h1,hab,hd,hx,hw,hw2,g1,g2,hB,hSb,h39,Ba.cells,Ag.cells,hby,Gp,Ei,abO,aaA]|refine An ?_ ?_<;>intro hb|refine fd ?_|fail))
       exact Av (kJ _ _ () ⟨a,by simp[up,c2],by simp[up,c5],by simp[up,c6],by simp[up,c7,htk2,hV],by simp[up]<;>omega,by rw[htk2,hV,acY];exact I.app _⟩ rfl)
     ·have hV:Oz s v=[]:=by rw[hV0,if_neg (fun h=>g1 h.1)]
      have g1:=eq_false g1
      have g2:=True.intro
      (have hb:=trivial;with_reducible repeat' (first|simp only[hb,Vc.down,seval,Ub.down,c2,c5,c6,c7,c8,h0,Ab h0,h1,Ab h1,hab,hd,hx,hw,hw2,g1,g2,hB,hSb,h39,Ba.cells,Ag.cells,hby,Gp,Ei,abO,aaA]|refine An ?_ ?_<;>intro hb|refine fd ?_|fail))
      exact Av (kJ _ _ () ⟨a,by simp[up,c2],by simp[up,c5],by simp[up,c6],by simp[up,c7,htk2,hV],by simp[up]<;>omega,by rw[htk2,hV,acY];exact I.app _⟩ rfl)
   ·exact⟨4,by simp[up,Cj],by simp[up],by simp[up],by simp[up],by simp[up],by simpa using I0⟩
   ·obtain⟨rfl,a,c6,c7,I⟩:=hk
    (have hb:=trivial;with_reducible repeat' (first|simp only[hb,Vc.down,seval,Ub.down]|refine An ?_ ?_<;>intro hb|refine fd ?_|fail))
    generalize hAA:[s.lo,s.hi+1]++m.votes.flatMap (Oz s)=AA at c7 I ⊢
    have hAl:AA.length≤20:=by
     rw[←hAA]
     have:=hfm m.votes
     rw[af5];simp only[ae7,af4];omega
    have hlast0:∀i,∀z∈(-10000::((vC 20000 (-9999)).take i).filter fun n=>decide (n∈AA)),z < -9999+(i:Int):=fun i z hz=>by
     rcases List.mem_cons.1 hz with rfl|hz
     ·omega
     ·obtain⟨j,hj⟩:=af6 (List.mem_filter.1 hz).1
      have hjl:=(af7.1 hj).1
      rw[af8 (by rw[aa0]at hjl;omega)]at hj
      have:=rV _ _ _ _ hj
      rw[aa0]at hjl
      omega
    refine Ci (Lp 94 (vC 20000 (-9999)) (fun i (_:Unit) t h=>∃O o,O=(-10000::((vC 20000 (-9999)).take i).filter fun n=>decide (n∈AA))∧t 6=.slr 1 o 0 O.length∧t 7=.slr 1 a 0 AA.length∧t 11=.int .i64 (-9999+(i:Int))∧xC m s AA O a o h) (fun _ _=>()) (fun _ e t h=>e=.exit 2∧∃o,t 6=.slr 1 o 0 (-10000::(vC 20000 (-9999)).filter fun n=>decide (n∈AA)).length∧xC m s AA (-10000::(vC 20000 (-9999)).filter fun n=>decide (n∈AA)) a o h) ?_ ?_ () _ _ ?_) (fun e t h hk=>?_)
    ·rintro _ t h Q' kQ ⟨O,o,hO,c6,c7,c11,I⟩
     rw[bD]at c11
     rw[List.take_of_length_le (by rw[bD];omega)]at hO
     subst hO
     have hd:((-9999+((20000:Nat):Int))≤10000)=False:=eq_false (by omega)
     (have hb:=trivial;with_reducible repeat' (first|simp only[hb,Vc.down,seval,Ub.down,c11,hd]|refine An ?_ ?_<;>intro hb|refine fd ?_|fail))
     exact kQ _ _ _ ⟨rfl,o,by simp[up,c6],I⟩
    ·rintro n rest i _ t h J Q' kJ kQ hx hi ⟨O,o,hO,c6,c7,c11,I⟩
     rw[bD]at hi
     obtain⟨hn,_⟩:=rV _ _ _ _ hx
     rw[←hn]at c11
     have hd:(n≤10000)=True:=eq_true (by omega)
     have hw:IntKind.i64.wrap (n+1)= -9999+((i+1:Nat):Int):=by rw[Du (by omega) (by omega)];omega
     have hOl:O.length≤20001:=by
      rw[hO,ae7]
      have:=List.length_filter_le (fun n=>decide (n∈AA)) ((vC 20000 (-9999)).take i)
      rw[aa0,bD]at this
      omega
     have hgl:O.getLast?≠some n:=fun e=>by
      have:=hlast0 i n (by rw[←hO];exact List.mem_of_getLast? e)
      omega
     have hnext:AA.foldl (mO n) O=(-10000::((vC 20000 (-9999)).take (i+1)).filter fun n=>decide (n∈AA)):=by
      rw[pE n AA O hgl,afR,hx,List.filter_append,hO]
      by_cases hm:n∈AA
      ·rw[if_pos hm];simp[hm]
      ·rw[if_neg hm];simp[hm]
     (have hb:=trivial;with_reducible repeat' (first|simp only[hb,Vc.down,seval,Ub.down,c7,c11,hd]|refine An ?_ ?_<;>intro hb|refine fd ?_|fail))
     refine Ci (Lp 94 AA (fun j (O:List Int) t h=>∃o,1≤O.length∧O.length≤20001+j∧t 6=.slr 1 o 0 O.length∧t 7=.slr 1 a 0 AA.length∧t 11=.int .i64 n∧t 12=.int .i64 j∧xC m s AA O a o h) (fun rest O=>rest.foldl (mO n) O) (fun O e t h=>e=.exit 4∧∃o,t 6=.slr 1 o 0 O.length∧t 7=.slr 1 a 0 AA.length∧t 11=.int .i64 n∧xC m s AA O a o h) ?_ ?_ O _ _ ?_) (fun e t h' hk=>?_)
     ·rintro O t h Q2 kQ2 ⟨o,l1,l2,d6,d7,d11,d12,I⟩
      (have hb:=trivial;with_reducible repeat' (first|simp only[hb,Vc.down,seval,Ub.down,d7,d12,aaK,decide_false]|refine An ?_ ?_<;>intro hb|refine fd ?_|fail))
      exact kQ2 _ _ _ ⟨rfl,o,by simp[up,d6],by simp[up,d7],by simp[up,d11],I⟩
     ·rintro z rest j O t h J2 Q2 kJ2 kQ2 hx2 hj ⟨o,l1,l2,d6,d7,d11,d12,I⟩
      obtain⟨x2,ha⟩:=I.ha
      obtain⟨x3,ho⟩:=I.ho
      have hdj:((j:Int)<(AA.length:Int))=True:=eq_true (by omega)
      have hwj:=Aq hj (show AA.length≤maxLen by unfold maxLen;omega)
      cases hz:(z==n)with
      |false=>
       have hG:mO n O z=O:=if_neg fun h=>by rw[h.1]at hz;simp at hz
       (have hb:=trivial;with_reducible repeat' (first|simp only[hb,Vc.down,seval,Ub.down,d6,d7,d11,d12,ha,hx2,iv,hdj,hwj,hz,aaA]|refine An ?_ ?_<;>intro hb|refine fd ?_|fail))
       exact Av (kJ2 _ _ O ⟨o,l1,by omega,by simp[up,d6],by simp[up,d7],by simp[up,d11],by simp[up]<;>omega,I⟩ (by rw[acM,hG]))
      |true=>
       obtain⟨y,hy⟩:∃y,O[O.length-1]?=some y:=⟨_,adV (by omega)⟩
       have hyl:O.getLast?=some y:=by rw[List.getLast?_eq_getElem?];exact hy
       have hw1:IntKind.i64.wrap ((O.length:Int)-1)=((O.length-1:Nat):Int):=by rw[Du (by omega) (by omega)];omega
       have hlo:(((O.length-1:Nat):Int)<(O.length:Int))=True:=eq_true (by omega)
       have hzn:z=n:=by simpa using hz
       cases hyn:(y==n)with
       |true=>
        have hG:mO n O z=O:=if_neg fun h=>h.2 (by rw[hyl];congr 1;simpa using hyn)
        (have hb:=trivial;with_reducible repeat' (first|simp only[hb,Vc.down,seval,Ub.down,d6,d7,d11,d12,ha,ho,hx2,iv,hdj,hwj,hz,hy,hyn,hw1,hlo,aaA]|refine An ?_ ?_<;>intro hb|refine fd ?_|fail))
        exact Av (kJ2 _ _ O ⟨o,l1,by omega,by simp[up,d6],by simp[up,d7],by simp[up,d11],by simp[up]<;>omega,I⟩ (by rw[acM,hG]))
       |false=>
        have hG:mO n O z=O++[n]:=if_pos ⟨hzn,fun h=>by rw[hyl]at h;cases h;simp at hyn⟩
        have hB:=Ab ho
        have hSb:=Gj (Ap ho)
        have h39:(O.length+1≤549755813888)=True:=eq_true (by omega)
        (have hb:=trivial;with_reducible repeat' (first|simp only[hb,Vc.down,seval,Ub.down,d6,d7,d11,d12,ha,ho,hx2,iv,hdj,hwj,hz,hy,hyn,hw1,hlo,hB,hSb,h39,Gp,Ei,abO,aaA]|refine An ?_ ?_<;>intro hb|refine fd ?_|fail))
        exact Av (kJ2 _ _ (O++[n]) ⟨h.length+1,by simp,by simp;omega,by simp[up],by simp[up,d7],by simp[up,d11],by simp[up]<;>omega,I.snocO (k:=h.length+1) n [.live 1 true false [[.int .i64 n]]] (by simp)⟩ (by rw[acM,hG]))
     ·exact⟨o,by rw[hO];simp,by omega,by simp[up,c6],by simp[up,c7],by simp[up,c11],by simp[up],I⟩
     ·rw[hnext]at hk
      obtain⟨rfl,o',d6,d7,d11,I2⟩:=hk
      (have hb:=trivial;with_reducible repeat' (first|simp only[hb,Vc.down,seval,Ub.down,d11,hw]|refine An ?_ ?_<;>intro hb|refine fd ?_|fail))
      exact Av (kJ _ _ () ⟨(-10000::((vC 20000 (-9999)).take (i+1)).filter fun n=>decide (n∈AA)),o',rfl,by simp only[up,d6];simp,by simp[up,d7],by simp[up]<;>omega,I2⟩ rfl)
    ·exact⟨[-10000],2,by simp,by simp[up,c6],by simp[up,c7],by simp[up],I⟩
    ·obtain⟨rfl,o,c6,I⟩:=hk
     subst hAA
     obtain⟨x3,ho⟩:=I.ho
     generalize hnl:List.length _=nl at c6
     obtain⟨nn,R,hR⟩:=abH (Sj.blk (k:=0) (n:=nl) ho rfl (by rw[aaA];exact hnl.symm))
     (have hb:=trivial;with_reducible repeat' (first|simp only[hb,Vc.down,seval,Ub.down,c6]|refine An ?_ ?_<;>intro hb|refine fd ?_|fail))
     refine hK _ ?_
     rw[jF]
     refine qP (vs:=[.slr 1 o 0 nl]) (by simp only[Vc.down,seval,Ub.down,c6]) (lG (hR 5).1 (by have:=(hR 5).2;omega) fun v h' R' k1 k2 k3=>⟨v,nn,R',rfl,k1,by have:=(hR 5).2;omega,k3⟩)
 obtain⟨o,h',e,v,nn,R,rfl,k1,k2,k3⟩:=key
 exact⟨nn,v,h',R,e,k1,k2,k3⟩
theorem known_ok:Bh.call (.fn 13) [] []=some (.ret (.bool true),[]):=abK (pr:=pr) (p:=rC) rfl rfl
theorem aw3{l:List Int}{nn:Bool}(n:Int)(hl:l.length≤maxLen):Bh.call (.fn 36) [Ad 1 true nn (l.map iv),.int .i64 n] []=some (.ret (.bool (l.any fun x=>x==n)),[]):=by
 (refine ce Try.func36 ?_;simp only[Try.f36];(have hb:=trivial;with_reducible repeat' (first|simp only[hb,Vc.down,seval,afE.down,aaA]|refine An ?_ ?_<;>intro hb|refine fd ?_|fail)))
 refine Ci (Lp 18 l (fun i (_:Unit) t h=>t 0=Ad 1 true nn (l.map iv)∧t 1=.int .i64 n∧t 5=.int .i64 i∧h=[]) (fun rest _=>rest.any fun x=>x==n) (fun r e t h=>h=[]∧if r=true then e=.ret∧t 4=.bool true else e=.exit 0) ?_ ?_ () _ _ ?_) (fun e t h hk=>?_)
 ·rintro _ t h Q' kQ ⟨c0,c1,c5,rfl⟩
  (have hb:=trivial;with_reducible repeat' (first|simp only[hb,Vc.down,seval,afE.down,c0,c1,c5,aaA,aaK,decide_false]|refine An ?_ ?_<;>intro hb|refine fd ?_|fail))
  exact kQ _ _ _ ⟨rfl,by simp⟩
 ·rintro z rest i _ t h J Q' kJ kQ hx hi ⟨c0,c1,c5,rfl⟩
  have hd:((i:Int)<(l.length:Int))=True:=eq_true (by omega)
  have hw:=Aq hi hl
  cases hz:(z==n)with
  |true=>
   (have hb:=trivial;with_reducible repeat' (first|simp only[hb,Vc.down,seval,afE.down,c0,c1,c5,hd,hx,hw,iv,hz,aaA]|refine An ?_ ?_<;>intro hb|refine fd ?_|fail))
   exact kQ _ _ _ ⟨rfl,by simp[hz,up]⟩
  |false=>
   (have hb:=trivial;with_reducible repeat' (first|simp only[hb,Vc.down,seval,afE.down,c0,c1,c5,hd,hx,hw,iv,hz,aaA]|refine An ?_ ?_<;>intro hb|refine fd ?_|fail))
   exact Av (kJ _ _ () ⟨by simp[up,c0],by simp[up,c1],by simp[up]<;>omega,rfl⟩ (by simp[hz]))
 ·exact⟨by simp[up,Cj],by simp[up,Cj],by simp[up],rfl⟩
 ·obtain⟨rfl,hk⟩:=hk
  split at hk
  ·rename_i hr
   obtain⟨rfl,c4⟩:=hk
   (have hb:=trivial;with_reducible repeat' (first|simp only[hb,Vc.down,seval,afE.down,c4]|refine An ?_ ?_<;>intro hb|refine fd ?_|fail))
   all_goals simp[hr]
  ·rename_i hr
   subst hk
   (have hb:=trivial;with_reducible repeat' (first|simp only[hb,Vc.down,seval,afE.down]|refine An ?_ ?_<;>intro hb|refine fd ?_|fail))
   all_goals simp[hr]
theorem akM{m:Ac}{l:List Int}{nn:Bool}(hl:l.length≤maxLen):Bh.call (.fn 22) [.agg [Ad 3 true m.nS (m.sens.map Ba.cells),Ad 4 false m.nV (m.votes.map Ag.cells),Ad 5 false m.nM (m.moves.map Ai.cells),.int .i64 m.states,.int .i64 m.cmds,.int .i64 m.bgn,Ad 1 true m.nO (m.opn.map iv)],Ad 1 true nn (l.map iv)] []=some (.ret (.bool (Hf m.states l none)),[]):=by
 (refine ce Try.func22 ?_;simp only[Try.f22];(have hb:=trivial;with_reducible repeat' (first|simp only[hb,Vc.down,seval,adG.down,aaA]|refine An ?_ ?_<;>intro hb|refine fd ?_|fail)))
 refine Ci (Lp 37 l (fun i (s:Option Int) t h=>(i=0∧s=none∨0<i∧s=l[i-1]?)∧h=[.live 7 false false [[Ad 3 true m.nS (m.sens.map Ba.cells),Ad 4 false m.nV (m.votes.map Ag.cells),Ad 5 false m.nM (m.moves.map Ai.cells),.int .i64 m.states,.int .i64 m.cmds,.int .i64 m.bgn,Ad 1 true m.nO (m.opn.map iv)]]]∧t 1=Ad 1 true nn (l.map iv)∧t 2=.ptr 0 0 0∧t 5=.int .i64 i)
  (fun rest s=>Hf m.states rest s) (fun r e t h=>if r=true then e=.exit 0 else e=.ret∧t 4=.bool false) ?_ ?_ none _ _ ?_) (fun e t h hk=>?_)
 ·rintro s t h Q' kQ ⟨hs,rfl,h1,h2,h5⟩
  (have hb:=trivial;with_reducible repeat' (first|simp only[hb,Vc.down,seval,adG.down,h1,h2,h5,aaA,aaK,decide_false]|refine An ?_ ?_<;>intro hb|refine fd ?_|fail))
  exact kQ _ _ _ (by simp[Hf])
 ·rintro x rest i s t h J Q' kJ kQ hx hi ⟨hs,rfl,h1,h2,h5⟩
  have hd:decide ((i:Int)<(l.length:Int))=true:=by simpa using hi
  have kF:∀{p:Option Int},(Ie x 0 (IntKind.i64.wrap (m.states-1))&&(match p with|none=>true|some q=> !decide (x≤q)))=false→Hf m.states (x::rest) p=false:=fun {p} h=>by
   cases p with
   |none=>show(Ie x 0 (IntKind.i64.wrap (m.states-1))&&true&&Hf m.states rest (some x))=false;rw[show(Ie x 0 (IntKind.i64.wrap (m.states-1))&&true)=false from h];rfl
   |some q=>show(Ie x 0 (IntKind.i64.wrap (m.states-1))&& !decide (x≤q)&&Hf m.states rest (some x))=false;rw[show(Ie x 0 (IntKind.i64.wrap (m.states-1))&& !decide (x≤q))=false from h];rfl
  have kT:∀{p:Option Int},(Ie x 0 (IntKind.i64.wrap (m.states-1))&&(match p with|none=>true|some q=> !decide (x≤q)))=true→Hf m.states rest (some x)=Hf m.states (x::rest) p:=fun {p} h=>by cases p<;>simp_all[Hf]
  have hw:=Aq hi hl
  rcases hs with⟨rfl,rfl⟩|⟨hpos,rfl⟩
  ·simp only[agA,Int.zero_add]at hd h5 hw
   (have hb:=trivial;with_reducible repeat' (first|simp only[hb,Vc.down,seval,adG.down,h1,h2,h5,hd,hx,aaA,iv,dX,hw,Int.toNat_zero,Int.le_refl,aaK,decide_false]|refine An ?_ ?_<;>intro hb|refine fd ?_|fail))
   all_goals first
    |exact kQ _ _ _ (by rw[if_neg (by rw[kF (by simp_all)];simp)];exact⟨rfl,by simp[up]⟩)
    |exact Av (kJ _ _ (some x) ⟨.inr ⟨by omega,by simp[hx]⟩,rfl,by simp[up,h1],by simp[up,h2],by simp[up]<;>omega⟩ (kT (by simp_all)))
  ·obtain⟨j,rfl⟩:∃j,i=j+1:=⟨i-1,by omega⟩
   obtain⟨q,hq⟩:∃q,l[j]?=some q:=⟨l[j],adV (by omega)⟩
   have hj:IntKind.i64.wrap (((j+1:Nat):Int)-1)=(j:Int):=by unfold maxLen at hl;rw[Du (by omega) (by omega)];omega
   have hg:decide (0<((j+1:Nat):Int))=true:=by rw[decide_eq_true_eq];omega
   simp only[Nat.add_sub_cancel,hq]at kJ kQ
   (have hb:=trivial;with_reducible repeat' (first|simp only[hb,Vc.down,seval,adG.down,h1,h2,h5,hd,hx,aaA,iv,dX,hw,hj,hg,hq]|refine An ?_ ?_<;>intro hb|refine fd ?_|fail))
   all_goals first
    |exact kQ _ _ _ (by rw[if_neg (by rw[kF (by simp_all)];simp)];exact⟨rfl,by simp[up]⟩)
    |exact Av (kJ _ _ (some x) ⟨.inr ⟨by omega,by simp[hx]⟩,rfl,by simp[up,h1],by simp[up,h2],by simp[up]<;>omega⟩ (kT (by simp_all)))
 ·exact⟨.inl ⟨rfl,rfl⟩,rfl,by simp[up,Cj],by simp[up],by simp[up]⟩
 ·split at hk
  ·obtain rfl:=hk
   rename_i hr
   (have hb:=trivial;with_reducible repeat' (first|simp only[hb,Vc.down,seval,adG.down]|refine An ?_ ?_<;>intro hb|refine fd ?_|fail))
   all_goals simp_all
  ·obtain⟨rfl,h2⟩:=hk
   rename_i hr
   (have hb:=trivial;with_reducible repeat' (first|simp only[hb,Vc.down,seval,adG.down,h2]|refine An ?_ ?_<;>intro hb|refine fd ?_|fail))
   all_goals simp[hr]
def prT(y:Bw):List Int × Int:=(y.reads,y.cmd)
theorem aaB{m:Ac}(hs:m.small){l:List Bw}{nn:Bool}(hl:l.length≤maxLen)(hr:∀y∈l,y.reads.length≤maxLen):Bh.call (.fn 35) [.agg [Ad 3 true m.nS (m.sens.map Ba.cells),Ad 4 false m.nV (m.votes.map Ag.cells),Ad 5 false m.nM (m.moves.map Ai.cells),.int .i64 m.states,.int .i64 m.cmds,.int .i64 m.bgn,Ad 1 true m.nO (m.opn.map iv)],Ad 2 false nn (l.map Bw.cells)] []=some (.ret (.bool (l.all (Lt m))),[]):=by
 (refine ce Try.func35 ?_;simp only[Try.f35];(have hb:=trivial;with_reducible repeat' (first|simp only[hb,Vc.down,seval,ac6.down,aaA]|refine An ?_ ?_<;>intro hb|refine fd ?_|fail)))
 refine Ci (Lp 19 l (fun i (_:Unit) t h=>t 1=Ad 2 false nn (l.map Bw.cells)∧t 2=.ptr 0 0 0∧t 5=.int .i64 i∧h=[.live 7 false false [[Ad 3 true m.nS (m.sens.map Ba.cells),Ad 4 false m.nV (m.votes.map Ag.cells),Ad 5 false m.nM (m.moves.map Ai.cells),.int .i64 m.states,.int .i64 m.cmds,.int .i64 m.bgn,Ad 1 true m.nO (m.opn.map iv)]]]) (fun rest _=>rest.all (Lt m)) (fun r e t h=>if r=true then e=.exit 0 else e=.ret∧t 4=.bool false) ?_ ?_ () _ _ ?_) (fun e t h hk=>?_)
 ·rintro _ t h Q' kQ ⟨c1,c2,c5,rfl⟩
  (have hb:=trivial;with_reducible repeat' (first|simp only[hb,Vc.down,seval,ac6.down,c1,c2,c5,aaA,aaK,decide_false]|refine An ?_ ?_<;>intro hb|refine fd ?_|fail))
  exact kQ _ _ _ (by simp)
 ·rintro z rest i _ t h J Q' kJ kQ hx hi ⟨c1,c2,c5,rfl⟩
  have hd:((i:Int)<(l.length:Int))=True:=eq_true (by omega)
  have hw:=Aq hi hl
  have hsc:=atF m z (hr z (aa9 hx))
  cases hz:Lt m z with
  |true=>
   rw[hz]at hsc
   (have hb:=trivial;with_reducible repeat' (first|simp only[hb,Vc.down,seval,ac6.down,c1,c2,c5,hd,hx,hw,hsc,Bw.cells,aaA]|refine An ?_ ?_<;>intro hb|refine fd ?_|fail))
   exact Av (kJ _ _ () ⟨by simp[up,c1],by simp[up,c2],by simp[up]<;>omega,rfl⟩ (by simp[hz]))
  |false=>
   rw[hz]at hsc
   (have hb:=trivial;with_reducible repeat' (first|simp only[hb,Vc.down,seval,ac6.down,c1,c2,c5,hd,hx,hw,hsc,Bw.cells,aaA]|refine An ?_ ?_<;>intro hb|refine fd ?_|fail))
   exact kQ _ _ _ (by simp[hz,up])
 ·exact⟨by simp[up,Cj],by simp[up],by simp[up],rfl⟩
 ·split at hk
  ·rename_i hr
   obtain rfl:=hk
   (have hb:=trivial;with_reducible repeat' (first|simp only[hb,Vc.down,seval,ac6.down]|refine An ?_ ?_<;>intro hb|refine fd ?_|fail))
   all_goals simp[hr]
  ·rename_i hr
   obtain⟨rfl,c4⟩:=hk
   (have hb:=trivial;with_reducible repeat' (first|simp only[hb,Vc.down,seval,ac6.down,c4]|refine An ?_ ?_<;>intro hb|refine fd ?_|fail))
   all_goals simp[hr]
theorem rJ(m:Ac):Az 8 (.agg m.cells)=true:=by simp[Ac.cells,Qj,Ol,Gv]
theorem axD(H:Aa)(m:Ac):bQ H (.agg m.cells)=some (.agg m.cells):=Hg _ (d:=8) (by omega) (rJ m)
theorem ap9(h:Aa)(m:Ac)(n:Int):[AV.agg m.cells,AV.int .i64 n].flatMap (Bd 12 (hf h))=[]:=by
 rw[af9,Jt (hf h) (show 8≤12 by omega) (rJ m)]
 rfl
def aqN(m:Ac):Int:=(List.range m.sens.length).foldl (fun n k=>IntKind.i64.wrap (n*((eY m k).length:Int))) (IntKind.i64.wrap (m.cmds+1))
theorem arJ{m:Ac}(hs:m.small)(hm:Be m=true):Bh.call (.fn 52) [.agg m.cells] []=some (.ret (.int .i64 (aqN m)),[]):=by
 obtain⟨q,hq⟩:∃q,Fn.func 77=q:=⟨_,rfl⟩
 have hs6:=bV hm
 refine ce Try.func52 ?_
 simp only[Try.f52]
 (have hb:=trivial;with_reducible repeat' (first|simp only[hb,Vc.down,seval,ao9.down,aaA]|refine An ?_ ?_<;>intro hb|refine fd ?_|fail))
 refine Ci (Lp 22 (List.range m.sens.length) (fun i (n:Int) t h=>t 1=.ptr 0 0 0∧t 3=.int .i64 n∧t 4=.int .i64 i∧∃x,h[0]?=some (.live 7 false x [m.cells])) (fun rest n=>rest.foldl (fun n k=>IntKind.i64.wrap (n*((eY m k).length:Int))) n) (fun r e t h=>e=.exit 0∧t 3=.int .i64 r) ?_ ?_ (IntKind.i64.wrap (m.cmds+1)) _ _ ?_) (fun e t h hk=>?_)
 ·rintro n t h Q' kQ ⟨c1,c3,c4,x0,h0⟩
  rw[agB]at c4
  (have hb:=trivial;with_reducible repeat' (first|simp only[hb,Vc.down,seval,ao9.down,c1,c3,c4,h0,aaA,aaK,decide_false]|refine An ?_ ?_<;>intro hb|refine fd ?_|fail))
  exact kQ _ _ _ ⟨rfl,by simp[up,c3]⟩
 ·rintro k rest i n t h J Q' kJ kQ hx hi ⟨c1,c3,c4,x0,h0⟩
  rw[agB]at hi
  obtain rfl:i=k:=by rw[List.getElem?_range hi]at hx;cases hx;rfl
  have hd:((i:Int)<(m.sens.length:Int))=True:=eq_true (by omega)
  have hw:=Aq hi hs.sens
  obtain⟨nn,KE⟩:=arM hs hm hi
  obtain⟨v,es,H1,R,e1,e2,K,r1,r2,r3⟩:=KE.cl (H:=h) (args:=[.agg m.cells,.int .i64 (i:Int)]) (Xj rfl) (by simp only[Qb,Ua,axD,Mc];rfl) (by simp[rJ,List.all_cons,Ol])
  rw[hq]at e1
  have hlen:∃b,v=.slr 1 b 0 (eY m i).length:=by
   rcases ahY r1 with⟨_,h1⟩|⟨b,rows',rfl,_⟩
   ·simp[eY]at h1
   ·exact⟨b,by simp⟩
  obtain⟨b,rfl⟩:=hlen
  have h01:H1[0]?=some (.live 7 false x0 [m.cells]):=by
   rw[K.same 0 (Ap h0) (by rw[show [AV.agg m.cells,AV.int .i64 (i:Int)].flatMap (Bd 12 (hf h))=[]from ap9 h m i];simp)];exact h0
  (have hb:=trivial;with_reducible repeat' (first|simp only[hb,Vc.down,seval,ao9.down,c1,c3,c4,h0,hd,hw,hq,e1,e2,aaA]|refine An ?_ ?_<;>intro hb|refine fd ?_|fail))
  exact Av (kJ _ _ (IntKind.i64.wrap (n*((eY m i).length:Int))) ⟨by simp[up,c1],by simp[up],by simp[up]<;>omega,x0,h01⟩ rfl)
 ·exact⟨by simp[up,Cj],by simp[up],by simp[up],false,rfl⟩
 ·obtain⟨rfl,c3⟩:=hk
  (have hb:=trivial;with_reducible repeat' (first|simp only[hb,Vc.down,seval,ao9.down,c3]|refine An ?_ ?_<;>intro hb|refine fd ?_|fail))
  all_goals rfl
def iE(m:Ac)(n:Int):Bool:=Vh m&&(!Be m||(decide (m.sens.length≤3)&&decide (aqN m≤n)))
theorem abP{m:Ac}(hs:m.small)(n:Int):Bh.call (.fn 20) [.agg m.cells,.int .i64 n] []=some (.ret (.bool (iE m n)),[]):=by
 have h1:=ap8 m hs
 have h2:=cZ m hs
 unfold iE
 have l3:decide ((m.sens.length:Int)≤3)=decide (m.sens.length≤3):=by rw[decide_eq_decide];omega
 cases c1:Vh m with
 |false=>
  rw[c1]at h1
  (refine ce Try.func20 ?_;simp only[Try.f20];(have hb:=trivial;with_reducible repeat' (first|simp only[hb,Vc.down,seval,am7.down,h1]|refine An ?_ ?_<;>intro hb|refine fd ?_|fail)))
 |true=>
  rw[c1]at h1
  cases c2:Be m with
  |false=>
   rw[c2]at h2
   (refine ce Try.func20 ?_;simp only[Try.f20];(have hb:=trivial;with_reducible repeat' (first|simp only[hb,Vc.down,seval,am7.down,h1,h2]|refine An ?_ ?_<;>intro hb|refine fd ?_|fail)))
  |true=>
   rw[c2]at h2
   have h3:=arJ hs c2
   cases c3:decide (m.sens.length≤3)with
   |false=>
    rw[c3]at l3
    have l4:=of_decide_eq_false l3
    (refine ce Try.func20 ?_;simp only[Try.f20];(have hb:=trivial;with_reducible repeat' (first|simp only[hb,Vc.down,seval,am7.down,h1,h2,l3,l4,aaA]|refine An ?_ ?_<;>intro hb|refine fd ?_|fail)))
    all_goals simp_all
   |true=>
    rw[c3]at l3
    have l4:=of_decide_eq_true l3
    (refine ce Try.func20 ?_;simp only[Try.f20];(have hb:=trivial;with_reducible repeat' (first|simp only[hb,Vc.down,seval,am7.down,h1,h2,h3,l3,l4,aaA]|refine An ?_ ?_<;>intro hb|refine fd ?_|fail)))
    all_goals simp_all
theorem uC{m:Ac}(hm:Be m=true){y:Bw}(h:Lt m y=true):Leg m (prT y):=by
 have hc:=Ye hm
 simp only[Lt,Vy,acI,aiO,beq_iff_eq]at h
 obtain⟨⟨h1,h2⟩,h3⟩:=h
 rw[Du (by omega) (by omega)]at h3
 simp only[Ie,acI,decide_eq_true_eq]at h3
 refine⟨by simp only[prT];omega,fun n hn=>(wP n).1 (h2 n hn),?_,?_⟩<;>simp only[prT]<;>omega
def scR(m:Ac)(vt:Nat)(v w:Int × Int):Prop:=∃a∈Dh m,Qd m vt a=true∧stp m v a=w
theorem atT{m:Ac}(hm:Be m=true){vt:Nat}{a:List Int × Int}(ha:Leg m a)(hd:Qd m vt a=true)(v:Int × Int):scR m vt v (stp m v a):=by
 obtain⟨b,b1,b2,b3,_⟩:=(Sm hm).rep a ha
 refine⟨b,b1,?_,wS b2 b3 v⟩
 unfold Qd at hd ⊢
 rw[b2];exact hd
theorem ak2{m:Ac}(hm:Be m=true){vt:Nat}{sl:List Int}:∀(L:List (List Int × Int)) (v:Int × Int),(∀a∈L,Leg m a∧Qd m vt a=true)→(∀k,k≤L.length→Qk sl (Ys (stp m) v (L.take k))=false)→Rn (Qk sl) (scR m vt) v (L.length+1)
 | [],v,_,h=>⟨h 0 (Nat.le_refl _),.inl rfl⟩
 |a::L,v,h1,h2=>by
  obtain⟨l1,l2⟩:=h1 a (by simp)
  exact Rn.step (h2 0 (Nat.zero_le _)) (atT hm l1 l2 v) (ak2 hm L (stp m v a) (fun b hb=>h1 b (by simp[hb])) fun k hk=>h2 (k+1) (by simpa using hk))
theorem anI{m:Ac}(hm:Be m=true){vt:Nat}{sl:List Int}{D:List ((Int × Int) × List Nat)}(B:Fnd m (Dh m) D){N:Int}(h:lA m vt sl (D.map (·.1)) 0 DS.none=some N):∃k:Nat,N=k∧k≤88∧∀v∈D.map (·.1),¬Rn (Qk sl) (scR m vt) v (k+1):=by
 have h88:=Sv hm B
 obtain⟨k,k1,k2,k3⟩:=ac4 (safe:=Qk sl) (sc:=scR m vt) (D:=D.map (·.1)) (inc:=aC) (dng:=Qd m vt) (stp:=stp m) (sg:=Dh m) (F:=89) (fun v w hv hw=>by
  obtain⟨x,hx,rfl⟩:=ae2.1 hv
  obtain⟨a,ha,_,rfl⟩:=hw
  obtain⟨kx,hkx⟩:=af6 hx
  obtain⟨i,hi,rfl⟩:=List.getElem_of_mem ha
  obtain⟨k',x',c1,c2,_⟩:=B.cls kx x.1 x.2 hkx i hi (.inl (amB hkx))
  rw[rS (adV hi)]at c2
  exact ae2.2 ⟨x',aa9 c1,c2⟩) (fun n h0 h1=>by
   unfold aC
   rw[aaA]at h1
   rw[Du (by omega) (by omega)]) (fun v w=>Iff.rfl) (by rw[aaA];omega) h
 exact⟨k,k1,by rw[aaA]at k2;omega,k3⟩
theorem ad7{m:Ac}(hm:Be m=true){D:List ((Int × Int) × List Nat)}(B:Fnd m (Dh m) D){Q:List (List Int × Int)}(hQ:∀a∈Q,Leg m a):Ys (stp m) (m.bgn,0) Q∈D.map (·.1):=by
 have hX:=Sm hm
 obtain⟨k,x,x1,x2,_⟩:=BF.labels amL hX.inc B (Q:=Q) fun a ha=>hX.reps (hQ a ha)
 exact ae2.2 ⟨x,aa9 x1,x2⟩
theorem sX{m:Ac}(hm:Be m=true){vt:Nat}{sl:List Int}{D:List ((Int × Int) × List Nat)}(B:Fnd m (Dh m) D){k:Nat}(hk:∀v∈D.map (·.1),¬Rn (Qk sl) (scR m vt) v (k+1)){Q L:List (List Int × Int)}(hQ:∀a∈Q,Leg m a)(hL:∀a∈L,Leg m a∧Qd m vt a=true)(hs:∀j,j≤L.length→Qk sl (Ys (stp m) (m.bgn,0) (Q++L.take j))=false):L.length<k:=by
 have h1:=ad7 hm B hQ
 have h2:=ak2 hm (vt:=vt) (sl:=sl) L (Ys (stp m) (m.bgn,0) Q) hL fun j hj=>by
  have:=hs j hj
  unfold Ys at this ⊢
  rw[ai2]at this;exact this
 exact Classical.byContradiction fun hn=>hk _ h1 (h2.le (by omega))
end Go.Proofs.Ytfkokgjfpojeoaa
namespace Go.Proofs.Ytfkokgjfpojeoaa
open Go.Ev Go
set_option maxRecDepth 100000
set_option maxHeartbeats 16000000
def bl(b:Int):Nat→Nat→List Bool
 |_,0=>[]
 |k,n+1=>Gs b (k:Int)::bl b (k+1) n
theorem akD(b:Int):∀n k,(bl b k n).length=n
 |0,_=>rfl
 |n+1,k=>by simp[bl,akD b n]
theorem akA(b:Int):∀n k i,i<n→(bl b k n)[i]?=some (Gs b ((k+i:Nat):Int))
 |n+1,k,0,_=>by simp[bl]
 |n+1,k,i+1,h=>by
  simp only[bl,List.getElem?_cons_succ]
  rw[akA b n (k+1) i (by omega)]
  congr 3;omega
theorem ag2{m:Ac}{l:List Int}(h6:m.votes.length≤6):bl (Ir m l m.votes 0 0) 0 m.votes.length=m.votes.map (Yq m l):=by
 apply List.ext_getElem?
 intro i
 by_cases hi:i<m.votes.length
 ·rw[akA _ _ _ _ hi,Xz,qW _ (by simpa using h6) i (by simpa using hi)]
  simp
 ·rw[ajM (by rw[akD];omega),ajM (by simp;omega)]
theorem am1(m:Ac){l:List Int}{nn:Bool}(hs:m.small)(hm:Be m=true)(hr:Vy m l=true)(hlm:l.length≤maxLen)(o:Dk)(h':Aa)(c0:m.votes=[]→(o,h')=(.ret (.tup [.nils,.int .i64 0]),[]))(c1:m.votes≠[]→(o,h')=(.ret (.tup [.slr 1 0 0 m.votes.length,.int .i64 0]),[.live 1 true false ((m.votes.map (Yq m l)).map bv)])):
 Bh.call (.fn 25) [.agg [Ad 3 true m.nS (m.sens.map Ba.cells),Ad 4 false m.nV (m.votes.map Ag.cells),Ad 5 false m.nM (m.moves.map Ai.cells),.int .i64 m.states,.int .i64 m.cmds,.int .i64 m.bgn,Ad 1 true m.nO (m.opn.map iv)],Ad 1 true nn (l.map iv)] []=some (o,h'):=by
 have h1:=bL m hs
 have h2:=akF m (l:=l) (nn:=nn) hlm
 have h3:=Xx m (l:=l) (nn:=nn) (iO hr) hs (Wa hm)
 rw[hm]at h1
 rw[hr]at h2
 rw[←ag2 (m:=m) (l:=l) (Nq hm)]at c1
 generalize Ir m l m.votes 0 0=bits at *
 have hsv:=hs.votes
 have h6v:=Nq hm
 (refine ce Try.func25 ?_;simp only[Try.f25];(have hb:=trivial;with_reducible repeat' (first|simp only[hb,Vc.down,seval,aeL.down,h1,h2,h3,aaA]|refine An ?_ ?_<;>intro hb|refine fd ?_|fail)))
 refine Ci (Lp 37 m.votes (fun i (zz:List Bool) t h=>t 2=.ptr 0 0 0∧t 6=.int .i64 bits∧t 22=Ad 4 false m.nV (m.votes.map Ag.cells)∧t 23=.int .i64 m.votes.length∧t 24=.int .i64 i∧(h[0]?=some (.live 7 false false [[Ad 3 true m.nS (m.sens.map Ba.cells),Ad 4 false m.nV (m.votes.map Ag.cells),Ad 5 false m.nM (m.moves.map Ai.cells),.int .i64 m.states,.int .i64 m.cmds,.int .i64 m.bgn,Ad 1 true m.nO (m.opn.map iv)]])∧zz.length=i∧aqI (t 7) i (zz.map bv) h)) (fun rest zz=>zz++bl bits zz.length rest.length) (fun r e t h=>e=.exit 0∧aqI (t 7) m.votes.length (r.map bv) h) ?_ ?_ ([]) _ _ ?_) (fun e t h hk=>?_)
 ·rintro a t h Q' kQ ⟨h2,h6,h22,h23,h24,⟨hA,hp,hc⟩⟩
  (have hb:=trivial;with_reducible repeat' (first|simp only[hb,Vc.down,seval,aeL.down,h2,h6,h22,h23,h24,aaK,decide_false,hA,aaA]|refine An ?_ ?_<;>intro hb|refine fd ?_|fail))
  exact kQ _ _ _ ⟨rfl,by simpa [up,bl]using hc⟩
 ·rintro x rest i a t h J Q' kJ kQ hx hi ⟨h2,h6,h22,h23,h24,⟨hA,hp,hc⟩⟩
  have hd:decide ((i:Int)<(m.votes.length:Int))=true:=decide_eq_true (by omega)
  have hw:=Aq hi hsv
  have hb1:(adM (vL bits i)==1)=Gs bits (i:Int):=by simp[Gs]
  rcases hc with⟨rfl,ho⟩|⟨h0,b,hb0,ho,hb⟩
  ·simp only[agA]at hd
   have hs0:Fz Try.prog .shr 3 (.int .i64 bits) (.int .i64 0)=some (.int .i64 (vL bits 0)):=alD _ bits 0
   (have hb:=trivial;with_reducible repeat' (first|simp only[hb,Vc.down,seval,aeL.down,hs0,h2,h6,h22,h23,h24,ho,hd,hw,hA,hb1,aaA]|refine An ?_ ?_<;>intro hb|refine fd ?_|fail))
   obtain rfl:a=[]:=aj8.1 hp
   (refine Av (kJ _ _ [Gs bits 0] ⟨?_,?_,?_,?_,?_,⟨Ab hA _,rfl,.inr ⟨by omega,h.length+1,by omega,by simp[up],by rw[pR];simp[bv,Gs]⟩⟩⟩ ?_);(simp[up,h2]);(simp[up,h6]);(simp[up,h22]);(simp[up,h23]);(simp[up]);(simp[bl]))
  ·have hbl:b<h.length:=(af7.1 hb).1
   have hB:=Ab hb
   have hS:=Gj hbl
   have hlp:0+i=a.length:=by omega
   have hi39:(i+1≤549755813888)=True:=eq_true (by omega)
   (have hb:=trivial;with_reducible repeat' (first|simp only[hb,Vc.down,seval,aeL.down,h2,h6,h22,h23,h24,ho,hd,hw,hA,hb1,aaA,hB,hS,Gp,Ei,abO,hp,hi39]|refine An ?_ ?_<;>intro hb|refine fd ?_|fail))
   (refine Av (kJ _ _ (a++[Gs bits (i:Int)]) ⟨?_,?_,?_,?_,?_,⟨Ja _ (by omega) hA _,by simp[hp],.inr ⟨by omega,h.length+1,by omega,by simp[up],by rw[Ei];simp[bv,Gs]⟩⟩⟩ ?_);(simp[up,h2]);(simp[up,h6]);(simp[up,h22]);(simp[up,h23]);(simp[up]);(simp[bl,hp]))
 ·exact⟨by simp[up,Cj],by simp[up,Cj],by simp[up,Cj],by simp[up,Cj],by simp[up],⟨rfl,rfl,.inl ⟨rfl,by simp[up]⟩⟩⟩
 obtain⟨rfl,⟨hn,ho⟩|⟨hn,b,hb0,ho,hb⟩⟩:=hk
 ·rw[c0 (aj8.1 hn)]
  (have hb:=trivial;with_reducible repeat' (first|simp only[hb,Vc.down,seval,aeL.down,ho]|refine An ?_ ?_<;>intro hb|refine fd ?_|fail))
 ·rw[c1 (fun e=>by rw[e]at hn;simp at hn)]
  simp only[List.nil_append,af4]at hb
  (with_reducible repeat' (first|simp only[hb,Vc.down,seval,aeL.down,ho,hb]|refine An ?_ ?_<;>intro hb|refine fd ?_|fail))
end Go.Proofs.Ytfkokgjfpojeoaa
namespace Go.Proofs.Ytfkokgjfpojeoaa
open Go.Ev Go Go.Ev.Bfs
set_option maxRecDepth 100000
set_option maxHeartbeats 16000000
def ag0(m:Ac)(vote:Int)(sl:List Int)(l:List Bw)(fr:Int):Bool:=iE m 500&&(Be m&&(decide (0≤vote)&&(decide (vote<m.votes.length)&&(decide (sl.length≤20)&&(Hf m.states sl none&&(decide (l.length≤20)&&(l.all (Lt m)&&(decide (0≤fr)&&decide (fr≤l.length)))))))))
theorem ai4{m:Ac}(hs:m.small){vote:Int}{n1:Bool}{sl:List Int}{nn:Bool}{l:List Bw}{fr:Int}(hsl:sl.length≤maxLen)(hl:l.length≤maxLen)(hr:∀y∈l,y.reads.length≤maxLen)(hn:ag0 m vote sl l fr=false):Bh.call (.fn 11) [.agg [Ad 3 true m.nS (m.sens.map Ba.cells),Ad 4 false m.nV (m.votes.map Ag.cells),Ad 5 false m.nM (m.moves.map Ai.cells),.int .i64 m.states,.int .i64 m.cmds,.int .i64 m.bgn,Ad 1 true m.nO (m.opn.map iv)],.int .i64 vote,Ad 1 true n1 (sl.map iv),Ad 2 false nn (l.map Bw.cells),.int .i64 fr] []=some (.ret (.bool true),[]):=by
 have h1:=abP hs 500
 have h2:=cZ m hs
 have h6:=akM (m:=m) (nn:=n1) hsl
 have h8:=aaB (nn:=nn) hs hl hr
 have hk:=known_ok
 unfold ag0 at hn
 cases c0:iE m 500 with
 |false=>
  rw[c0]at h1
  (refine ce Try.func11 ?_;simp only[Try.f11];(have hb:=trivial;with_reducible repeat' (first|simp only[hb,Vc.down,seval,Qq.down,h1,hk,aaA]|refine An ?_ ?_<;>intro hb|refine fd ?_|fail)))
 |true=>
  rw[c0]at h1 hn
  rw[aa3]at hn
  cases c1:Be m with
  |false=>
   rw[c1]at h2
   (refine ce Try.func11 ?_;simp only[Try.f11];(have hb:=trivial;with_reducible repeat' (first|simp only[hb,Vc.down,seval,Qq.down,h1,h2,hk,aaA]|refine An ?_ ?_<;>intro hb|refine fd ?_|fail)))
  |true=>
   rw[c1]at h2 hn
   rw[aa3]at hn
   by_cases d2:¬(0≤vote)
   ·have l3:(vote<0)=True:=eq_true (by omega)
    (refine ce Try.func11 ?_;simp only[Try.f11];(have hb:=trivial;with_reducible repeat' (first|simp only[hb,Vc.down,seval,Qq.down,h1,h2,l3,hk,aaA]|refine An ?_ ?_<;>intro hb|refine fd ?_|fail)))
   have c2:=Classical.not_not.1 d2
   have l3:(vote<0)=False:=eq_false (by omega)
   rw[decide_eq_true c2,aa3]at hn
   by_cases d3:¬(vote<m.votes.length)
   ·have l4:((m.votes.length:Int)≤vote)=True:=eq_true (by omega)
    (refine ce Try.func11 ?_;simp only[Try.f11];(have hb:=trivial;with_reducible repeat' (first|simp only[hb,Vc.down,seval,Qq.down,h1,h2,l3,l4,hk,aaA]|refine An ?_ ?_<;>intro hb|refine fd ?_|fail)))
   have c3:=Classical.not_not.1 d3
   have l4:((m.votes.length:Int)≤vote)=False:=eq_false (by omega)
   rw[decide_eq_true c3,aa3]at hn
   by_cases d4:¬(sl.length≤20)
   ·have l5:((20:Int)<(sl.length:Int))=True:=eq_true (by omega)
    (refine ce Try.func11 ?_;simp only[Try.f11];(have hb:=trivial;with_reducible repeat' (first|simp only[hb,Vc.down,seval,Qq.down,h1,h2,l3,l4,l5,hk,aaA]|refine An ?_ ?_<;>intro hb|refine fd ?_|fail)))
   have c4:=Classical.not_not.1 d4
   have l5:((20:Int)<(sl.length:Int))=False:=eq_false (by omega)
   rw[decide_eq_true c4,aa3]at hn
   cases c5:Hf m.states sl none with
   |false=>
    rw[c5]at h6
    (refine ce Try.func11 ?_;simp only[Try.f11];(have hb:=trivial;with_reducible repeat' (first|simp only[hb,Vc.down,seval,Qq.down,h1,h2,l3,l4,l5,h6,hk,aaA]|refine An ?_ ?_<;>intro hb|refine fd ?_|fail)))
   |true=>
    rw[c5]at h6 hn
    rw[aa3]at hn
    by_cases d6:¬(l.length≤20)
    ·have l7:((20:Int)<(l.length:Int))=True:=eq_true (by omega)
     (refine ce Try.func11 ?_;simp only[Try.f11];(have hb:=trivial;with_reducible repeat' (first|simp only[hb,Vc.down,seval,Qq.down,h1,h2,l3,l4,l5,h6,l7,hk,aaA]|refine An ?_ ?_<;>intro hb|refine fd ?_|fail)))
    have c6:=Classical.not_not.1 d6
    have l7:((20:Int)<(l.length:Int))=False:=eq_false (by omega)
    rw[decide_eq_true c6,aa3]at hn
    cases c7:l.all (Lt m)with
    |false=>
     rw[c7]at h8
     (refine ce Try.func11 ?_;simp only[Try.f11];(have hb:=trivial;with_reducible repeat' (first|simp only[hb,Vc.down,seval,Qq.down,h1,h2,l3,l4,l5,h6,l7,h8,hk,aaA]|refine An ?_ ?_<;>intro hb|refine fd ?_|fail)))
    |true=>
     rw[c7]at h8 hn
     rw[aa3]at hn
     by_cases d8:¬(0≤fr)
     ·have l9:(fr<0)=True:=eq_true (by omega)
      (refine ce Try.func11 ?_;simp only[Try.f11];(have hb:=trivial;with_reducible repeat' (first|simp only[hb,Vc.down,seval,Qq.down,h1,h2,l3,l4,l5,h6,l7,h8,l9,hk,aaA]|refine An ?_ ?_<;>intro hb|refine fd ?_|fail)))
     have c8:=Classical.not_not.1 d8
     have l9:(fr<0)=False:=eq_false (by omega)
     rw[decide_eq_true c8,aa3]at hn
     by_cases d9:¬(fr≤l.length)
     ·have l10:((l.length:Int)<fr)=True:=eq_true (by omega)
      (refine ce Try.func11 ?_;simp only[Try.f11];(have hb:=trivial;with_reducible repeat' (first|simp only[hb,Vc.down,seval,Qq.down,h1,h2,l3,l4,l5,h6,l7,h8,l9,l10,hk,aaA]|refine An ?_ ?_<;>intro hb|refine fd ?_|fail)))
     have c9:=Classical.not_not.1 d9
     exfalso
     rw[decide_eq_true c9]at hn
     cases hn
theorem ajB(sl:List Int)(x:Int):(sl.any fun y=>y==x)=(sl.any fun y=>x==y):=by
 congr 1;funext y;rw[Bool.eq_iff_iff];simp;exact⟨Eq.symm,Eq.symm⟩
theorem ag9{m:Ac}(hs:m.small){vote:Int}{n1:Bool}{sl:List Int}{nn:Bool}{l:List Bw}{fr:Int}(hsl:sl.length≤maxLen)(hl:l.length≤maxLen)(hr:∀y∈l,y.reads.length≤maxLen)(hn:ag0 m vote sl l fr=true):Bh.call (.fn 11) [.agg [Ad 3 true m.nS (m.sens.map Ba.cells),Ad 4 false m.nV (m.votes.map Ag.cells),Ad 5 false m.nM (m.moves.map Ai.cells),.int .i64 m.states,.int .i64 m.cmds,.int .i64 m.bgn,Ad 1 true m.nO (m.opn.map iv)],.int .i64 vote,Ad 1 true n1 (sl.map iv),Ad 2 false nn (l.map Bw.cells),.int .i64 fr] []=some (.ret (.bool true),[]):=by
 have h1:=abP hs 500
 have h2:=cZ m hs
 have h6:=akM (m:=m) (nn:=n1) hsl
 have h8:=aaB (nn:=nn) hs hl hr
 have hk:=known_ok
 unfold ag0 at hn
 simp only[acI,decide_eq_true_eq]at hn
 obtain⟨c0,c1,c2,c3,c4,c5,c6,c7,c8,c9⟩:=hn
 have hm:=c1
 rw[c0]at h1
 rw[c1]at h2
 rw[c5]at h6
 rw[c7]at h8
 have l3:(vote<0)=False:=eq_false (by omega)
 have l4:((m.votes.length:Int)≤vote)=False:=eq_false (by omega)
 have l5:((20:Int)<(sl.length:Int))=False:=eq_false (by omega)
 have l7:((20:Int)<(l.length:Int))=False:=eq_false (by omega)
 have l9:(fr<0)=False:=eq_false (by omega)
 have l10:((l.length:Int)<fr)=False:=eq_false (by omega)
 have hst:=Ob hm
 have hv6:=Nq hm
 obtain⟨vt,rfl⟩:∃vt:Nat,vote=vt:=⟨vote.toNat,by omega⟩
 obtain⟨f,rfl⟩:∃f:Nat,fr=f:=⟨fr.toNat,by omega⟩
 have hshort:Vh m=true:=by simp only[iE,acI]at c0;exact c0.1
 have hokR:anL m (vt:Int) sl=true:=by
  unfold anL
  rw[c1,c5,Du (by omega) (by omega)]
  simp[Ie];omega
 obtain⟨oR,hR',hcR,rfl,D,BD,rfl⟩:=zN hs (nn:=n1) hsl hokR
 cases hresp:lA m vt sl (D.map (·.1)) 0 DS.none with
 |none=>
  rw[hresp]at hcR
  simp only[RpO]at hcR
  (refine ce Try.func11 ?_;simp only[Try.f11];(have hb:=trivial;with_reducible repeat' (first|simp only[hb,Vc.down,seval,Qq.down,h1,h2,l3,l4,l5,h6,l7,h8,l9,l10,hcR,hk,aaA]|refine An ?_ ?_<;>intro hb|refine fd ?_|fail)))
 |some N=>
  rw[hresp]at hcR
  simp only[RpO]at hcR
  obtain⟨kN,rfl,hkN,hfew⟩:=anI hm BD hresp
  have ho:=ahW hm
  have hne:m.opn≠[]:=fun e=>by rw[e]at ho;simp at ho;omega
  obtain⟨o,h',hc,i0,rfl,P,N1,N2⟩:=awI m hs (yW hshort) hne hm
  obtain⟨j,es,L,e1,e2,hj,hL,hP⟩:=au0 [.live 7 false false [m.cells]] (Xj rfl) (iQ m) hc N1 N2 P
  obtain⟨w0,sv,vv,mv,ov,Rm,T⟩:=aoT hP
  have I0:PlI j m ([.live 7 false false [m.cells]]++L) m.bgn 0 [] [] .nils:=
   ⟨⟨false,rfl⟩,⟨w0,sv,vv,mv,ov,.nils,Rm,[],[],T,fun b hb=>by simp[Yr]at hb,fun b hb=>by simp[Yr]at hb⟩,.inl ⟨rfl,rfl⟩,fun _=>rfl,fun b hb=>by simp[Yr]at hb,Ax rfl (Uj fun c hc=>(hL c hc).quiet),hj⟩
  obtain⟨qN,hqN⟩:∃q,Fn.func 38=q:=⟨_,rfl⟩
  obtain⟨qF,hqF⟩:∃q,Fn.func 39=q:=⟨_,rfl⟩
  rw[hqN]at e1
  have b0:∀l:Aa,([.live 7 false false [m.cells]]++l)[0]?=some (.live 7 false false [m.cells]):=fun _=>rfl
  have lN:((kN:Int)<0)=False:=eq_false (by omega)
  refine ce Try.func11 ?_
  simp only[Try.f11]
  (have hb:=trivial;with_reducible repeat' (first|simp only[hb,Vc.down,seval,Qq.down,h1,h2,l3,l4,l5,h6,l7,h8,l9,l10,hcR,hqN,e1,e2,b0,aj1,lN,aaA]|refine An ?_ ?_<;>intro hb|refine fd ?_|fail))
  have hleg:∀y∈l,Lt m y=true:=aiO.1 c7
  have hQ:∀i,∀a∈(l.take i).map prT,Leg m a:=fun i a ha=>by
   obtain⟨y,hy,rfl⟩:=ae2.1 ha
   exact uC hm (hleg y (List.mem_of_mem_take hy))
  obtain⟨vI,hvI⟩:∃vI:Nat→Int × Int,∀i,vI i=Ys (stp m) (m.bgn,0) ((l.take i).map prT):=⟨_,fun _=>rfl⟩
  have hnx:∀i y,l[i]?=some y→vI (i+1)=stp m (vI i) (prT y):=fun i y hy=>by
   rw[hvI,hvI,afR,hy,alV];unfold Ys;rw[ai2];rfl
  have hH:=fun x:Int=>aw3 (nn:=n1) x hsl
  have hfd:∀(h:Aa) (i:Nat) (y:Bw),PlI j m h (vI i).1 (vI i).2 (l.take i) [] .nils→l[i]?=some y→∃es M,cl Bh h (some (.func qF [] [])) (some [.ptr j 0 0,.agg [Ad 1 true y.nn (y.reads.map iv),.int .i64 y.cmd]])=some (.ret (.tup [.int .i64 (vI (i+1)).1,.int .i64 0]),es)∧Bo h es=M∧PlI j m M (vI (i+1)).1 (vI (i+1)).2 (l.take (i+1)) [] .nils:=fun h i y I hy=>by
   have hsy:=hleg y (aa9 hy)
   have hry:y.reads.length≤6:=by have:=bV hm;have h9:=hsy;simp only[Lt,acI]at h9;have:=iO h9.1;omega
   obtain⟨es,M,g1,g2,_,I'⟩:=I.feed1 y hs hm (by omega) hsy (by rw[aa0];omega)
   rw[hqF]at g1
   refine⟨es,M,by rw[hnx i y hy];exact g1,g2,?_⟩
   rw[hnx i y hy,afR,hy];exact I'
  have hf9:f≤l.length:=by omega
  refine Ci (Lp 187 (l.take f) (fun i (_:Unit) t h=>t 1=.int .i64 (vt:Int)∧t 2=Ad 1 true n1 (sl.map iv)∧t 3=Ad 2 false nn (l.map Bw.cells)∧t 4=.int .i64 (f:Int)∧t 5=.ptr 0 0 0∧t 11=.int .i64 (kN:Int)∧t 13=.ptr j 0 0∧t 15=.int .i64 (vI i).1∧t 16=.int .i64 i∧PlI j m h (vI i).1 (vI i).2 (l.take i) [] .nils) (fun _ _=>()) (fun _ e t h=>e=.exit 0∧t 1=.int .i64 (vt:Int)∧t 2=Ad 1 true n1 (sl.map iv)∧t 3=Ad 2 false nn (l.map Bw.cells)∧t 4=.int .i64 (f:Int)∧t 5=.ptr 0 0 0∧t 11=.int .i64 (kN:Int)∧t 13=.ptr j 0 0∧t 15=.int .i64 (vI f).1∧PlI j m h (vI f).1 (vI f).2 (l.take f) [] .nils) ?_ ?_ () _ _ ?_) (fun e t h hk1=>?_)
  ·rintro _ t h Q' kQ ⟨g1,g2,g3,g4,g5,g11,g13,g15,g16,I⟩
   rw[show(l.take f).length=f by rw[aa0];omega]at g15 g16 I
   (have hb:=trivial;with_reducible repeat' (first|simp only[hb,Vc.down,seval,Qq.down,g4,g16,aaK,decide_false]|refine An ?_ ?_<;>intro hb|refine fd ?_|fail))
   exact kQ _ _ _ ⟨rfl,by simp[up,g1],by simp[up,g2],by simp[up,g3],by simp[up,g4],by simp[up,g5],by simp[up,g11],by simp[up,g13],by simp[up,g15],I⟩
  ·rintro y rest i _ t h J Q' kJ kQ hx hi ⟨g1,g2,g3,g4,g5,g11,g13,g15,g16,I⟩
   rw[show(l.take f).length=f by rw[aa0];omega]at hi
   rw[af8 hi]at hx
   have hd:((i:Int)<(f:Int))=True:=eq_true (by omega)
   have hil:((i:Int)<(l.length:Int))=True:=eq_true (by omega)
   have hw:IntKind.i64.wrap ((i:Int)+1)=((i+1:Nat):Int):=by rw[Du (by omega) (by omega)];rfl
   obtain⟨es1,M,f1,f2,I'⟩:=hfd h i y I hx
   (have hb:=trivial;with_reducible repeat' (first|simp only[hb,Vc.down,seval,Qq.down,g1,g2,g3,g4,g5,g11,g13,g15,g16,hd,hil,hx,Bw.cells,hqF,f1,f2,hw,aaA]|refine An ?_ ?_<;>intro hb|refine fd ?_|fail))
   exact Av (kJ _ _ () ⟨by simp[up,g1],by simp[up,g2],by simp[up,g3],by simp[up,g4],by simp[up,g5],by simp[up,g11],by simp[up,g13],by simp[up],by simp[up]<;>omega,I'⟩ rfl)
  ·refine⟨by simp[up,Cj],by simp[up,Cj],by simp[up,Cj],by simp[up,Cj],by simp[up],by simp[up],by simp[up],?_,by simp[up],?_⟩
   ·rw[hvI];simp[up,Ys]
   ·rw[hvI];simpa [Ys]using I0
  obtain⟨rfl,g1,g2,g3,g4,g5,g11,g13,g15,I⟩:=hk1
  have hsw:(sl.any fun y=>y==(vI f).1)=Qk sl (vI f):=ajB sl _
  cases hsf:Qk sl (vI f)with
  |true=>
   have hH1:=hH (vI f).1
   rw[hsw,hsf]at hH1
   (have hb:=trivial;with_reducible repeat' (first|simp only[hb,Vc.down,seval,Qq.down,g2,g15,hH1,hk]|refine An ?_ ?_<;>intro hb|refine fd ?_|fail))
  |false=>
   have hH1:=hH (vI f).1
   rw[hsw,hsf]at hH1
   (have hb:=trivial;with_reducible repeat' (first|simp only[hb,Vc.down,seval,Qq.down,g2,g4,g15,hH1]|refine An ?_ ?_<;>intro hb|refine fd ?_|fail))
   refine Ci (cnt 187 (fun n (_:Unit) t h=>∃i,n+i=l.length∧f≤i∧t 1=.int .i64 (vt:Int)∧t 2=Ad 1 true n1 (sl.map iv)∧t 3=Ad 2 false nn (l.map Bw.cells)∧t 4=.int .i64 (f:Int)∧t 5=.ptr 0 0 0∧t 11=.int .i64 (kN:Int)∧t 13=.ptr j 0 0∧t 19=.int .i64 i∧PlI j m h (vI i).1 (vI i).2 (l.take i) [] .nils∧(∀k,f≤k→k≤i→Qk sl (vI k)=false)∧∀k y,f≤k→k<i→l[k]?=some y→Qd m vt (prT y)=true) (fun _ _=>()) (fun _ e t h=>e=.exit 2∨(e=.ret∧t 10=.bool true)) ?_ ?_ (l.length-f) () _ _ ?_) (fun e t h hk1=>?_)
   ·rintro _ t h Q' kQ ⟨i,hni,hfi,g1,g2,g3,g4,g5,g11,g13,g19,I,hsa,hdn⟩
    obtain rfl:i=l.length:=by omega
    (have hb:=trivial;with_reducible repeat' (first|simp only[hb,Vc.down,seval,Qq.down,g3,g19,aaK,decide_false,aaA]|refine An ?_ ?_<;>intro hb|refine fd ?_|fail))
    exact kQ _ _ _ (.inl rfl)
   ·rintro n _ t h J Q' kJ kQ ⟨i,hni,hfi,g1,g2,g3,g4,g5,g11,g13,g19,I,hsa,hdn⟩
    obtain⟨y,hy⟩:∃y,l[i]?=some y:=⟨_,adV (by omega)⟩
    have hil:((i:Int)<(l.length:Int))=True:=eq_true (by omega)
    have hsy:=hleg y (aa9 hy)
    have hrb:Vy m y.reads=true:=by have h9:=hsy;simp only[Lt,acI]at h9;exact h9.1
    have hvne:m.votes≠[]:=fun e=>by rw[e]at c3;simp at c3;omega
    have hV:=am1 m (l:=y.reads) (nn:=y.nn) hs hm hrb (hr y (aa9 hy)) (.ret (.tup [.slr 1 0 0 m.votes.length,.int .i64 0])) [.live 1 true false ((m.votes.map (Yq m y.reads)).map bv)] (fun e=>absurd e hvne) (fun _=>rfl)
    have hvl:((vt:Int)<(m.votes.length:Int))=True:=eq_true (by omega)
    obtain⟨w0,hb0⟩:=I.b0
    obtain⟨b,hb⟩:∃b,(m.votes.map (Yq m y.reads))[vt]?=some b:=⟨_,adV (by simp;omega)⟩
    have hdb:Qd m vt (prT y)=b:=by
     have:=qW (m.votes.map (Yq m y.reads)) (by rw[aaA];exact hv6) vt (by rw[aaA];omega)
     rw[hb]at this
     unfold Qd Dx
     rw[Xz]
     exact(Option.some.inj this).symm
    have hrow:((m.votes.map (Yq m y.reads)).map bv)[vt]?=some [.bool b]:=by rw[List.getElem?_map,hb];rfl
    have hnl:((m.votes.length:Int)==(m.votes.length:Int))=true:=by simp
    generalize hRW:(m.votes.map (Yq m y.reads)).map bv=RW at hV hrow
    have hRl:RW.length=m.votes.length:=by rw[←hRW];simp
    cases b with
    |false=>
     (have hb:=trivial;with_reducible repeat' (first|simp only[hb,Vc.down,seval,Qq.down,g1,g2,g3,g4,g5,g11,g13,g19,hil,hy,hb0,Ab hb0,Bw.cells,hV,hrow,hRl,hvl,hnl,hk,aaA]|refine An ?_ ?_<;>intro hb|refine fd ?_|fail))
     exact kQ _ _ _ (.inr ⟨rfl,by simp[up]⟩)
    |true=>
     obtain⟨es1,M,f1,f2,I'⟩:=hfd (h++[.live 1 true false RW]) i y (I.app rfl) hy
     have hk0:=sX hm BD (vt:=vt) hfew (Q:=(l.take f).map prT) (L:=[]) (hQ f) (fun a ha=>by cases ha) (fun j' _=>by rw[List.take_nil,acY,←hvI];exact hsf)
     have hk00:((kN:Int)==0)=false:=by simp only[af4]at hk0;simp;omega
     have hH2:=hH (vI (i+1)).1
     rw[ajB]at hH2
     have hsx:(sl.any fun y=>(vI (i+1)).1==y)=Qk sl (vI (i+1)):=rfl
     rw[hsx]at hH2
     cases hs2:Qk sl (vI (i+1))with
     |true=>
      rw[hs2]at hH2
      (have hb:=trivial;with_reducible repeat' (first|simp only[hb,Vc.down,seval,Qq.down,g1,g2,g3,g4,g5,g11,g13,g19,hil,hy,hb0,Ab hb0,Bw.cells,hV,hrow,hRl,hvl,hnl,hqF,f1,f2,hk00,hH2,hk,aaA]|refine An ?_ ?_<;>intro hb|refine fd ?_|fail))
      exact kQ _ _ _ (.inr ⟨rfl,by simp[up]⟩)
     |false=>
      rw[hs2]at hH2
      have hsa2:∀k,f≤k→k≤i+1→Qk sl (vI k)=false:=fun k h1 h2=>by
       by_cases e:k=i+1
       ·rw[e];exact hs2
       ·exact hsa k h1 (by omega)
      have hdn2:∀k y,f≤k→k<i+1→l[k]?=some y→Qd m vt (prT y)=true:=fun k y' h1 h2 hk9=>by
       by_cases e:k=i
       ·subst e;rw[hy]at hk9;cases hk9;exact hdb
       ·exact hdn k y' h1 (by omega) hk9
      have hlt:=sX hm BD (vt:=vt) hfew (Q:=(l.take f).map prT) (L:=((l.drop f).take (i+1-f)).map prT) (hQ f) (fun a ha=>by
       obtain⟨y',hy',rfl⟩:=ae2.1 ha
       obtain⟨k,hk9⟩:=af6 hy'
       have hkl:=(af7.1 hk9).1
       rw[aa0]at hkl
       rw[af8 (by omega),List.getElem?_drop]at hk9
       exact⟨uC hm (hleg y' (aa9 hk9)),hdn2 (f+k) y' (by omega) (by omega) hk9⟩) (fun j' hj'=>by
       simp only[aaA,aa0,alX]at hj'
       rw[←List.map_take,List.take_take,Nat.min_eq_left (by omega),←alV,←List.take_add,←hvI]
       exact hsa2 (f+j') (by omega) (by omega))
      simp only[aaA,aa0,alX]at hlt
      have hw3:IntKind.i64.wrap ((i:Int)-(f:Int))=((i-f:Nat):Int):=by rw[Du (by omega) (by omega)];omega
      have hw4:IntKind.i64.wrap (((i-f:Nat):Int)+1)=((i-f+1:Nat):Int):=by rw[Du (by omega) (by omega)];omega
      have hw:IntKind.i64.wrap ((i:Int)+1)=((i+1:Nat):Int):=by rw[Du (by omega) (by omega)];rfl
      have hge:((kN:Int)≤((i-f+1:Nat):Int))=False:=eq_false (by omega)
      (have hb:=trivial;with_reducible repeat' (first|simp only[hb,Vc.down,seval,Qq.down,g1,g2,g3,g4,g5,g11,g13,g19,hil,hy,hb0,Ab hb0,Bw.cells,hV,hrow,hRl,hvl,hnl,hqF,f1,f2,hk00,hH2,hw3,hw4,hw,hge,aaA]|refine An ?_ ?_<;>intro hb|refine fd ?_|fail))
      exact Av (kJ _ _ () ⟨i+1,by omega,by omega,by simp[up,g1],by simp[up,g2],by simp[up,g3],by simp[up,g4],by simp[up,g5],by simp[up,g11],by simp[up,g13],by simp[up]<;>omega,I',hsa2,hdn2⟩ rfl)
   ·exact⟨f,by omega,Nat.le_refl _,by simp[up,g1],by simp[up,g2],by simp[up,g3],by simp[up,g4],by simp[up,g5],by simp[up,g11],by simp[up,g13],by simp[up],I,fun k h1 h2=>(show f=k by omega)▸hsf,fun k y h1 h2=>by omega⟩
   ·rcases hk1 with rfl|⟨rfl,g10⟩
    ·(have hb:=trivial;with_reducible repeat' (first|simp only[hb,Vc.down,seval,Qq.down,hk]|refine An ?_ ?_<;>intro hb|refine fd ?_|fail))
    ·(have hb:=trivial;with_reducible repeat' (first|simp only[hb,Vc.down,seval,Qq.down,g10]|refine An ?_ ?_<;>intro hb|refine fd ?_|fail))
theorem tJ:∀avs,afQ Try.prog 7 Try.f11.params.toList avs→Bh.call (.fn 11) avs []=some (.ret (.bool true),[]):=by
 intro avs h
 rw[show Try.f11.params.toList=[27,3,25,66,3]from rfl]at h
 match avs,h with
 | [a,b,c,d,e],h=>
   obtain⟨h1,h2,h3,h4,h5,_⟩:=h
   obtain⟨m,rfl,hs⟩:=al3 h1
   obtain⟨x,rfl,_⟩:=ajY h2
   obtain⟨n1,sl,rfl,hsl,_⟩:=apI h3
   obtain⟨nn,l,rfl,hl,hr⟩:=aiV h4
   obtain⟨y,rfl,_⟩:=ajY h5
   cases hn:ag0 m x sl l y with
   |false=>exact ai4 hs hsl hl hr hn
   |true=>exact ag9 hs hsl hl hr hn
 | [],h=>exact h.elim
 | [_],h=>exact h.2.elim
 | [_,_],h=>exact h.2.2.elim
 | [_,_,_],h=>exact h.2.2.2.elim
 | [_,_,_,_],h=>exact h.2.2.2.2.elim
 |_::_::_::_::_::_::_,h=>exact h.2.2.2.2.2.elim
end Go.Proofs.Ytfkokgjfpojeoaa
