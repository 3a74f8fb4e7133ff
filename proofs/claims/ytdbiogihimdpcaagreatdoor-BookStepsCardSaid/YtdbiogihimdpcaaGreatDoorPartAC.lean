/- The functions of the layer, walked. -/
import Derived.Test.YtdbiogihimdpcaaGreatDoorPartAB
import Derived.Test.YtdbiogihimdpcaaGreatDoorLibD
set_option linter.unusedSimpArgs false
set_option linter.unusedVariables false
/- Layer 6: wants; shares of the reference; copies. -/
namespace Go.Proofs.YtdbiogihimdpcaaGreatDoor
open Go.Ev Go
set_option maxRecDepth 100000
set_option maxHeartbeats 16000000
/-- One part of a share. -/
def part1(amount whole so got:Int):Int:=if 0<whole then IntKind.i64.wrap (IntKind.i64.wrap ((IntKind.i64.wrap (amount*so)).tdiv whole)-got)else 0
def shareF(amount whole:Int):List Int→Int→Int→List Int
 | [],_,_=>[]
 |w::rest,so,got=>part1 amount whole (IntKind.i64.wrap (so+w)) got::shareF amount whole rest (IntKind.i64.wrap (so+w)) (IntKind.i64.wrap (got+part1 amount whole (IntKind.i64.wrap (so+w)) got))
theorem r_Share'(amount:Int)(l:List Int)(nn:Bool)(hl:l.length≤1000)(o:Out)(h':Heap)(c0:l=[]→(o,h')=(.ret .nils,[]))(c1:l≠[]→(o,h')=(.ret (.slr 1 0 0 l.length),[.live 1 true false ((shareF amount (sumF l 0) l 0 0).map iv)])):
 om'.call (.fn 78) [.int .i64 amount,slv 1 true nn (l.map iv)] []=some (o,h'):=by
 have hl':l.length≤maxLen:=by unfold maxLen;omega
 (refine ce Tryz.func78 ?_;simp only[Tryz.f78];(have hb:=trivial;with_reducible repeat' (first|simp only[hb,Va.down,seval,TY78.down,List.length_map]|refine fsp ?_ ?_<;>intro hb|refine fd ?_|fail)))
 refine fw_ot (lst 53 l (fun i (s:Int) t h=>t 0=.int .i64 amount∧t 6=.int .i64 0∧t 7=.int .i64 0∧t 1=slv 1 true nn (l.map iv)∧t 8=.int .i64 i∧t 5=.int .i64 s)
  (fun rest s=>sumF rest s) (fun r e t h=>e=.exit 0∧t 0=.int .i64 amount∧t 6=.int .i64 0∧t 7=.int .i64 0∧t 1=slv 1 true nn (l.map iv)∧t 5=.int .i64 r) ?_ ?_ 0 _ _ ?_) (fun e t h hk=>?_)
 ·rintro s t h Q' kQ ⟨h0,h6,h7,h1,h8,h5⟩
  (have hb:=trivial;with_reducible repeat' (first|simp only[hb,Va.down,seval,TY78.down,h1,h8,h5,Int.lt_irrefl,decide_false]|refine fsp ?_ ?_<;>intro hb|refine fd ?_|fail))
  exact kQ _ _ _ ⟨rfl,by simp[up,h0],by simp[up,h6],by simp[up,h7],by simp[up,h1],by simp[up,h5,sumF]⟩
 ·rintro x rest i s t h J Q' kJ kQ hx hi ⟨h0,h6,h7,h1,h8,h5⟩
  have hd:decide ((i:Int)<(l.length:Int))=true:=by simpa using hi
  have hw:=wrap_next hi hl'
  (have hb:=trivial;with_reducible repeat' (first|simp only[hb,Va.down,seval,TY78.down,h1,h8,h5,hd,hx,iv,hw]|refine fsp ?_ ?_<;>intro hb|refine fd ?_|fail))
  exact rnd_go (kJ _ _ (IntKind.i64.wrap (s+x)) ⟨by simp[up,h0],by simp[up,h6],by simp[up,h7],by simp[up,h1],by simp[up],by simp[up]⟩ rfl)
 ·exact⟨by simp[up,ent],by simp[up],by simp[up],by simp[up,ent],by simp[up],by simp[up]⟩
 ·obtain⟨rfl,h0,h6,h7,h1,h5⟩:=hk
  (have hb:=trivial;with_reducible repeat' (first|simp only[hb,Va.down,seval,TY78.down,h1,h0,h6,h7,h5]|refine fsp ?_ ?_<;>intro hb|refine fd ?_|fail))
  refine fw_ot (lst 53 l (fun i (a:List Int × Int × Int) t h=>t 0=.int .i64 amount∧t 1=slv 1 true nn (l.map iv)∧t 5=.int .i64 (sumF l 0)∧t 6=.int .i64 a.2.1∧t 7=.int .i64 a.2.2∧t 10=.int .i64 i∧a.1.length=i∧((i=0∧t 9=.nils)∨(0<i∧∃b,t 9=.slr 1 b 0 i∧h[b]?=some (.live 1 true false (a.1.map iv)))))
   (fun rest a=>a.1++shareF amount (sumF l 0) rest a.2.1 a.2.2) (fun r e t h=>e=.exit 2∧((l=[]∧t 9=.nils)∨(l≠[]∧∃b,t 9=.slr 1 b 0 l.length∧h[b]?=some (.live 1 true false (r.map iv))))) ?_ ?_ ([],0,0) _ _ ?_) (fun e t h hk=>?_)
  ·rintro⟨p,so,got⟩ t h Q' kQ ⟨h0,h1,h5,h6,h7,h10,hp,hc⟩
   (have hb:=trivial;with_reducible repeat' (first|simp only[hb,Va.down,seval,TY78.down,h1,h10,Int.lt_irrefl,decide_false]|refine fsp ?_ ?_<;>intro hb|refine fd ?_|fail))
   refine kQ _ _ _ ⟨rfl,?_⟩
   rcases hc with⟨hz,ho⟩|⟨hz,b,ho,hb⟩
   ·exact .inl ⟨List.length_eq_zero_iff.1 hz,by simp[up,ho]⟩
   ·exact .inr ⟨fun e=>by rw[e]at hz;simp at hz,b,by simp[up,ho],by simpa [shareF]using hb⟩
  ·rintro x rest i ⟨p,so,got⟩ t h J Q' kJ kQ hx hi ⟨h0,h1,h5,h6,h7,h10,hp,hc⟩
   simp only at hp h6 h7
   have hd:decide ((i:Int)<(l.length:Int))=true:=by simpa using hi
   have hw:=wrap_next hi hl'
   have hW:0<sumF l 0→(sumF l 0=0)=False:=fun h=>eq_false (by omega)
   rcases hc with⟨rfl,ho⟩|⟨hz,b,ho,hb⟩
   ·simp only[Int.natCast_zero]at hd
    by_cases hq:0<sumF l 0
    ·have hq1:decide (0<sumF l 0)=true:=by simpa using hq
     have hq2:=hW hq
     (have hb:=trivial;with_reducible repeat' (first|simp only[hb,Va.down,seval,TY78.down,h0,h1,h5,h6,h7,h10,ho,hd,hw,hx,iv,hq1,hq2]|refine fsp ?_ ?_<;>intro hb|refine fd ?_|fail))
     obtain rfl:p=[]:=List.length_eq_zero_iff.1 hp
     exact rnd_go (kJ _ _ ([part1 amount (sumF l 0) (IntKind.i64.wrap (so+x)) got],IntKind.i64.wrap (so+x),IntKind.i64.wrap (got+part1 amount (sumF l 0) (IntKind.i64.wrap (so+x)) got)) ⟨by simp[up,h0],by simp[up,h1],by simp[up,h5],by simp[up],by simp[up,part1,hq],by simp[up],rfl,.inr ⟨by omega,h.length+1,by simp[up],by rw[hp_getk];simp[iv,part1,hq]⟩⟩ (by simp[shareF]))
    ·have hq1:decide (0<sumF l 0)=false:=by simpa using hq
     (have hb:=trivial;with_reducible repeat' (first|simp only[hb,Va.down,seval,TY78.down,h0,h1,h5,h6,h7,h10,ho,hd,hw,hx,iv,hq1]|refine fsp ?_ ?_<;>intro hb|refine fd ?_|fail))
     obtain rfl:p=[]:=List.length_eq_zero_iff.1 hp
     exact rnd_go (kJ _ _ ([part1 amount (sumF l 0) (IntKind.i64.wrap (so+x)) got],IntKind.i64.wrap (so+x),IntKind.i64.wrap (got+part1 amount (sumF l 0) (IntKind.i64.wrap (so+x)) got)) ⟨by simp[up,h0],by simp[up,h1],by simp[up,h5],by simp[up],by simp[up,part1,hq],by simp[up],rfl,.inr ⟨by omega,h.length+1,by simp[up],by rw[hp_getk];simp[iv,part1,hq]⟩⟩ (by simp[shareF]))
   ·have hbl:b<h.length:=(List.getElem?_eq_some_iff.1 hb).1
    have hA:=get_app hb
    have hS:=set_app hbl
    have hlp:0+i=p.length:=by omega
    have hi39:(i+1≤549755813888)=True:=eq_true (by omega)
    by_cases hq:0<sumF l 0
    ·have hq1:decide (0<sumF l 0)=true:=by simpa using hq
     have hq2:=hW hq
     (have hb:=trivial;with_reducible repeat' (first|simp only[hb,Va.down,seval,TY78.down,h0,h1,h5,h6,h7,h10,ho,hd,hw,hx,iv,hq1,hq2,hA,hS,gset0,gsetk,List.length_set,hp,hi39]|refine fsp ?_ ?_<;>intro hb|refine fd ?_|fail))
     exact rnd_go (kJ _ _ (p++[part1 amount (sumF l 0) (IntKind.i64.wrap (so+x)) got],IntKind.i64.wrap (so+x),IntKind.i64.wrap (got+part1 amount (sumF l 0) (IntKind.i64.wrap (so+x)) got)) ⟨by simp[up,h0],by simp[up,h1],by simp[up,h5],by simp[up],by simp[up,part1,hq],by simp[up],by simp[hp],.inr ⟨by omega,h.length+1,by simp[up],by rw[gsetk];simp[iv,part1,hq]⟩⟩ (by simp[shareF]))
    ·have hq1:decide (0<sumF l 0)=false:=by simpa using hq
     (have hb:=trivial;with_reducible repeat' (first|simp only[hb,Va.down,seval,TY78.down,h0,h1,h5,h6,h7,h10,ho,hd,hw,hx,iv,hq1,hA,hS,gset0,gsetk,List.length_set,hp,hi39]|refine fsp ?_ ?_<;>intro hb|refine fd ?_|fail))
     exact rnd_go (kJ _ _ (p++[part1 amount (sumF l 0) (IntKind.i64.wrap (so+x)) got],IntKind.i64.wrap (so+x),IntKind.i64.wrap (got+part1 amount (sumF l 0) (IntKind.i64.wrap (so+x)) got)) ⟨by simp[up,h0],by simp[up,h1],by simp[up,h5],by simp[up],by simp[up,part1,hq],by simp[up],by simp[hp],.inr ⟨by omega,h.length+1,by simp[up],by rw[gsetk];simp[iv,part1,hq]⟩⟩ (by simp[shareF]))
  ·exact⟨by simp[up,h0],by simp[up,h1],by simp[up,h5],by simp[up,h6],by simp[up,h7],by simp[up],rfl,.inl ⟨rfl,by simp[up]⟩⟩
  ·obtain⟨rfl,⟨hnil,ho⟩|⟨hne,b,ho,hb⟩⟩:=hk
   ·rw[c0 hnil]
    (have hb:=trivial;with_reducible repeat' (first|simp only[hb,Va.down,seval,TY78.down,ho]|refine fsp ?_ ?_<;>intro hb|refine fd ?_|fail))
   ·rw[c1 hne]
    (with_reducible repeat' (first|simp only[hb,Va.down,seval,TY78.down,ho,hb]|refine fsp ?_ ?_<;>intro hb|refine fd ?_|fail))
theorem wrap_0:IntKind.i64.wrap 0=0:=by decide
theorem e_cloneInt{l:List Int}(hl:l.length≤1000)(hne:l≠[]):om'.call (.fn 102) [.imm 1 true (l.map iv)] []=some (.ret (.slr 1 0 0 l.length),[.live 1 true false (l.map iv)]):=by
 cases l with
 |nil=>exact(hne rfl).elim
 |cons x l=>
  have h39:(l.length+1≤549755813888)=True:=eq_true (by simp at hl;omega)
  (refine ce Tryz.func102 ?_;simp only[Tryz.f102];(have hb:=trivial;with_reducible repeat' (first|simp only[hb,Va.down,seval,TY102.down,List.length_map,h39,iv]|refine fsp ?_ ?_<;>intro hb|refine fd ?_|fail)))
/-- What a firm contract wants, and what another one does. -/
def firmW(c:BCon)(w:Int):Int:=if c.firm=true then w else 0
def othW(c:BCon)(w:Int):Int:=IntKind.i64.wrap (w-firmW c w)
theorem e_granted1{s:BStore}{l:List Int}{nn:Bool}{i:Nat}{c:BCon}{w:Int}(hc:s.cons[i]?=some c)(hw:l[i]?=some w):om'.call (.fn 125) [.int .i64 i,.ptr 0 0 0,.ptr 1 0 0] [.live 6 false false [s.cells],.live 1 false false [[slv 1 true nn (l.map iv)]]]=
 some (.ret (.int .i64 (firmW c w)),[.live 6 false false [s.cells],.live 1 false false [[slv 1 true nn (l.map iv)]]]):=by
 (refine ce Tryz.func125 ?_;simp only[Tryz.f125];(have hb:=trivial;with_reducible repeat' (first|simp only[hb,Va.down,seval,TY125.down,hc,hw,BCon.cells,iv]|refine fsp ?_ ?_<;>intro hb|refine fd ?_|fail)))
 all_goals simp[firmW,hb]
theorem e_granted2{s:BStore}{l:List Int}{nn:Bool}{i:Nat}{c:BCon}{w:Int}(hc:s.cons[i]?=some c)(hw:l[i]?=some w):om'.call (.fn 126) [.int .i64 i,.ptr 0 0 0,.ptr 1 0 0] [.live 1 false false [[slv 1 true nn (l.map iv)]],.live 1 false false [[.func (.func 125) [] [.ptr 2 0 0,.ptr 0 0 0]]],.live 6 false false [s.cells]]=
 some (.ret (.int .i64 (othW c w)),[.live 1 false false [[slv 1 true nn (l.map iv)]],.live 1 false false [[.func (.func 125) [] [.ptr 2 0 0,.ptr 0 0 0]]],.live 6 false false [s.cells]]):=by
 have h1:=e_granted1 (nn:=nn) hc hw
 (refine ce Tryz.func126 ?_;simp only[Tryz.f126];(have hb:=trivial;with_reducible repeat' (first|simp only[hb,Va.down,seval,TY126.down,hw,iv,h1]|refine fsp ?_ ?_<;>intro hb|refine fd ?_|fail)))
 all_goals rfl
theorem set_rep{p:List Int}{n i:Nat}(hp:p.length=i)(hi:i<n)(v:Int):((p++List.replicate (n-i) 0).map iv).set i [.int .i64 v]=(p++(v::List.replicate (n-(i+1)) 0)).map iv:=by
 obtain⟨m,rfl⟩:∃m,n=i+1+m:=⟨n-(i+1),by omega⟩
 have e1:i+1+m-i=m+1:=by omega
 have e2:i+1+m-(i+1)=m:=by omega
 rw[e1,e2,List.replicate_succ]
 subst hp
 simp[iv]
theorem get_rep{p:List Int}{n i:Nat}(hp:p.length=i)(hi:i<n):(p++List.replicate (n-i) 0)[i]?=some (0:Int):=by
 rw[List.getElem?_append_right (by omega),hp,Nat.sub_self,List.getElem?_replicate,if_pos (by omega)]
theorem get_mid{α:Type}{p:List α}{i:Nat}(hp:p.length=i)(v:α)(l:List α):(p++(v::l))[i]?=some v:=by
 rw[List.getElem?_append_right (by omega),hp,Nat.sub_self];rfl
theorem e_shareA{amount:Int}{l:List Int}{nn:Bool}{g:Nat}{w:Int→Int}{s:BStore}{wl:List Int}{wn:Bool}(hp:∀x∈l,om'.call (.fn g) (.int .i64 x::[.ptr 0 0 0,.ptr 1 0 0]) [.live 6 false false [s.cells],.live 1 false false [[slv 1 true wn (wl.map iv)]]]=some (.ret (.int .i64 (w x)),[.live 6 false false [s.cells],.live 1 false false [[slv 1 true wn (wl.map iv)]]]))(hl:l.length≤1000):
 om'.call (.fn 127) [.int .i64 amount,slv 1 true nn (l.map iv),.func (.func g) [] [.ptr 0 0 0,.ptr 1 0 0]] [.live 6 false false [s.cells],.live 1 false false [[slv 1 true wn (wl.map iv)]]]=some (.ret (.slr 1 2 0 l.length),[.live 6 false false [s.cells],.live 1 false false [[slv 1 true wn (wl.map iv)]]]++[.live 1 true (decide (0<sumF (l.map w) 0)) ((shareF amount (sumF (l.map w) 0) (l.map w) 0 0).map iv)]):=by
 have hl':l.length≤maxLen:=by unfold maxLen;omega
 have h40:((l.length:Int)≤1099511627776)=True:=eq_true (by omega)
 (refine ce Tryz.func127 ?_;simp only[Tryz.f127];(have hb:=trivial;with_reducible repeat' (first|simp only[hb,Va.down,seval,TY127.down,List.length_map]|refine fsp ?_ ?_<;>intro hb|refine fd ?_|fail)))
 refine fw_ot (lst 62 l (fun i (zz:Int) t h=>t 0=.int .i64 amount∧t 1=slv 1 true nn (l.map iv)∧t 2=.func (.func g) [] [.ptr 0 0 0,.ptr 1 0 0]∧t 15=slv 1 true nn (l.map iv)∧t 16=.int .i64 l.length∧t 17=.int .i64 i∧t 7=.int .i64 zz∧h=[.live 6 false false [s.cells],.live 1 false false [[slv 1 true wn (wl.map iv)]]]) (fun rest zz=>sumF (rest.map w) zz) (fun r e t h=>e=.exit 0∧t 0=.int .i64 amount∧t 1=slv 1 true nn (l.map iv)∧t 2=.func (.func g) [] [.ptr 0 0 0,.ptr 1 0 0]∧t 7=.int .i64 r∧h=[.live 6 false false [s.cells],.live 1 false false [[slv 1 true wn (wl.map iv)]]]) ?_ ?_ (0) _ _ ?_) (fun e t h hk=>?_)
 ·rintro s' t h Q' kQ ⟨h0,h1,h2,h15,h16,h17,h7,rfl⟩
  (have hb:=trivial;with_reducible repeat' (first|simp only[hb,Va.down,seval,TY127.down,h0,h1,h2,h15,h16,h17,h7,Int.lt_irrefl,decide_false]|refine fsp ?_ ?_<;>intro hb|refine fd ?_|fail))
  exact kQ _ _ _ ⟨rfl,by simp[up,h0],by simp[up,h1],by simp[up,h2],by simp[up,h7,sumF],rfl⟩
 ·rintro x rest i s' t h J Q' kJ kQ hx hi ⟨h0,h1,h2,h15,h16,h17,h7,rfl⟩
  have hd:decide ((i:Int)<(l.length:Int))=true:=decide_eq_true (by omega)
  have hw:=wrap_next hi hl'
  have hpx:=hp x (List.mem_of_getElem? hx)
  (have hb:=trivial;with_reducible repeat' (first|simp only[hb,Va.down,seval,TY127.down,h0,h1,h2,h15,h16,h17,h7,hd,hx,hw,iv,hpx]|refine fsp ?_ ?_<;>intro hb|refine fd ?_|fail))
  (refine rnd_go (kJ _ _ (IntKind.i64.wrap (s'+w x)) ⟨?_,?_,?_,?_,?_,?_,?_,rfl⟩ ?_);(simp[up,h0]);(simp[up,h1]);(simp[up,h2]);(simp[up,h15]);(simp[up,h16]);(simp[up]);(simp[up,h7]);(simp[sumF]))
 ·exact⟨by simp[up,ent],by simp[up,ent],by simp[up,ent],by simp[up,ent],by simp[up,ent],by simp[up],by simp[up,ent],rfl⟩
 ·obtain⟨rfl,h0,h1,h2,h7,rfl⟩:=hk
  (have hb:=trivial;with_reducible repeat' (first|simp only[hb,Va.down,seval,TY127.down,h0,h1,h2,h7,h40,iv,Int.le_refl,Int.reducePow]|refine fsp ?_ ?_<;>intro hb|refine fd ?_|fail))
  refine fw_ot (lst 62 l (fun i (zz:List Int × Int × Int) t h=>t 0=.int .i64 amount∧t 2=.func (.func g) [] [.ptr 0 0 0,.ptr 1 0 0]∧t 7=.int .i64 (sumF (l.map w) 0)∧t 10=.slr 1 2 0 l.length∧t 30=slv 1 true nn (l.map iv)∧t 31=.int .i64 l.length∧t 32=.int .i64 i∧t 11=.int .i64 zz.2.1∧t 12=.int .i64 zz.2.2∧h=[.live 6 false false [s.cells],.live 1 false false [[slv 1 true wn (wl.map iv)]]]++[.live 1 true (!zz.1.isEmpty&&decide (0<sumF (l.map w) 0)) ((zz.1++List.replicate (l.length-i) 0).map iv)]∧zz.1.length=i∧(0<sumF (l.map w) 0∨zz.2.2=0)) (fun rest zz=>zz.1++shareF amount (sumF (l.map w) 0) (rest.map w) zz.2.1 zz.2.2) (fun r e t h=>e=.exit 2∧t 10=.slr 1 2 0 l.length∧h=[.live 6 false false [s.cells],.live 1 false false [[slv 1 true wn (wl.map iv)]]]++[.live 1 true (!l.isEmpty&&decide (0<sumF (l.map w) 0)) (r.map iv)]) ?_ ?_ ([],0,0) _ _ ?_) (fun e t h hk=>?_)
  ·rintro⟨p,so,got⟩ t h Q' kQ ⟨h0,h2,h7,h10,h30,h31,h32,h11,h12,rfl,hpl,hgot⟩
   try dsimp only at *
   (have hb:=trivial;with_reducible repeat' (first|simp only[hb,Va.down,seval,TY127.down,h0,h2,h7,h10,h30,h31,h32,h11,h12,Int.lt_irrefl,decide_false]|refine fsp ?_ ?_<;>intro hb|refine fd ?_|fail))
   have hpe:p.isEmpty=l.isEmpty:=by cases p<;>cases l<;>simp at hpl ⊢
   exact kQ _ _ _ ⟨rfl,by simp[up,h10],by simp[shareF,hpe]⟩
  ·rintro x rest i ⟨p,so,got⟩ t h J Q' kJ kQ hx hi ⟨h0,h2,h7,h10,h30,h31,h32,h11,h12,rfl,hpl,hgot⟩
   have hd:decide ((i:Int)<(l.length:Int))=true:=decide_eq_true (by omega)
   have hw:=wrap_next hi hl'
   try dsimp only at *
   have hpx:=hp x (List.mem_of_getElem? hx)
   have hset:=set_rep hpl hi
   have hget:=get_rep hpl hi
   have hmid:=fun(v:Int) l=>get_mid hpl v l
   have hcon:p++(0:Int)::List.replicate (l.length-(i+1)) 0=p++List.replicate (l.length-i) 0:=by
    rw[show l.length-i=(l.length-(i+1))+1 by omega,List.replicate_succ]
   have hii:((i:Int)<(l.length:Int))=True:=eq_true (by omega)
   by_cases hq:0<sumF (l.map w) 0
   ·have hq1:decide (0<sumF (l.map w) 0)=true:=by simpa using hq
    have hq2:(sumF (l.map w) 0=0)=False:=eq_false (by omega)
    (have hb:=trivial;with_reducible repeat' (first|simp only[hb,Va.down,seval,TY127.down,h0,h2,h7,h10,h30,h31,h32,h11,h12,hd,hx,hw,hpx,hset,hget,hmid,hq1,hq2,hii,iv]|refine fsp ?_ ?_<;>intro hb|refine fd ?_|fail))
    all_goals (refine rnd_go (kJ _ _ (p++[part1 amount (sumF (l.map w) 0) (IntKind.i64.wrap (so+w x)) got],IntKind.i64.wrap (so+w x),IntKind.i64.wrap (got+part1 amount (sumF (l.map w) 0) (IntKind.i64.wrap (so+w x)) got)) ⟨?_,?_,?_,?_,?_,?_,?_,?_,?_,by simp[part1,hq],by simp[hpl],.inl hq⟩ ?_);(simp[up,h0]);(simp[up,h2]);(simp[up,h7]);(simp[up,h10]);(simp[up,h30]);(simp[up,h31]);(simp[up]);(simp[up,h11,part1,hq,wrap_0]);(simp[up,h12,part1,hq,wrap_0]);(simp[shareF]))
   ·obtain rfl:got=0:=by rcases hgot with h|h;exact(hq h).elim;exact h
    have hq1:decide (0<sumF (l.map w) 0)=false:=by simpa using hq
    (have hb:=trivial;with_reducible repeat' (first|simp only[hb,Va.down,seval,TY127.down,h0,h2,h7,h10,h30,h31,h32,h11,h12,hd,hx,hw,hpx,hq1,hii,iv]|refine fsp ?_ ?_<;>intro hb|refine fd ?_|fail))
    all_goals (refine rnd_go (kJ _ _ (p++[part1 amount (sumF (l.map w) 0) (IntKind.i64.wrap (so+w x)) 0],IntKind.i64.wrap (so+w x),IntKind.i64.wrap (0+part1 amount (sumF (l.map w) 0) (IntKind.i64.wrap (so+w x)) 0)) ⟨?_,?_,?_,?_,?_,?_,?_,?_,?_,by simp[part1,hq,hcon],by simp[hpl],.inr (by simp[part1,hq];rfl)⟩ ?_);(simp[up,h0]);(simp[up,h2]);(simp[up,h7]);(simp[up,h10]);(simp[up,h30]);(simp[up,h31]);(simp[up]);(simp[up,h11,part1,hq,wrap_0]);(simp[up,h12,part1,hq,wrap_0]);(simp[shareF]))
  ·exact⟨by simp[up,ent,h0,h1,h2,h7],by simp[up,ent,h0,h1,h2,h7],by simp[up,ent,h0,h1,h2,h7],by simp[up,ent,h0,h1,h2,h7],by simp[up,ent,h0,h1,h2,h7],by simp[up,ent,h0,h1,h2,h7],by simp[up],by simp[up,ent,h0,h1,h2,h7],by simp[up,ent,h0,h1,h2,h7],by simp[iv],rfl,.inr rfl⟩
  ·obtain⟨rfl,h10,rfl⟩:=hk
   have hw:(!l.isEmpty&&decide (0<sumF (l.map w) 0))=decide (0<sumF (l.map w) 0):=by cases l<;>simp[sumF]
   (have hb:=trivial;with_reducible repeat' (first|simp only[hb,Va.down,seval,TY127.down,h10,hw]|refine fsp ?_ ?_<;>intro hb|refine fd ?_|fail))
theorem e_shareB{amount:Int}{l:List Int}{nn:Bool}{g:Nat}{w:Int→Int}{s:BStore}{wl:List Int}{wn:Bool}{q:Nat}(hp:∀x∈l,om'.call (.fn g) (.int .i64 x::[.ptr 0 0 0,.ptr 1 0 0]) [.live 1 false false [[slv 1 true wn (wl.map iv)]],.live 1 false false [[.func (.func q) [] [.ptr 2 0 0,.ptr 0 0 0]]],.live 6 false false [s.cells]]=some (.ret (.int .i64 (w x)),[.live 1 false false [[slv 1 true wn (wl.map iv)]],.live 1 false false [[.func (.func q) [] [.ptr 2 0 0,.ptr 0 0 0]]],.live 6 false false [s.cells]]))(hl:l.length≤1000):
 om'.call (.fn 127) [.int .i64 amount,slv 1 true nn (l.map iv),.func (.func g) [] [.ptr 0 0 0,.ptr 1 0 0]] [.live 1 false false [[slv 1 true wn (wl.map iv)]],.live 1 false false [[.func (.func q) [] [.ptr 2 0 0,.ptr 0 0 0]]],.live 6 false false [s.cells]]=some (.ret (.slr 1 3 0 l.length),[.live 1 false false [[slv 1 true wn (wl.map iv)]],.live 1 false false [[.func (.func q) [] [.ptr 2 0 0,.ptr 0 0 0]]],.live 6 false false [s.cells]]++[.live 1 true (decide (0<sumF (l.map w) 0)) ((shareF amount (sumF (l.map w) 0) (l.map w) 0 0).map iv)]):=by
 have hl':l.length≤maxLen:=by unfold maxLen;omega
 have h40:((l.length:Int)≤1099511627776)=True:=eq_true (by omega)
 (refine ce Tryz.func127 ?_;simp only[Tryz.f127];(have hb:=trivial;with_reducible repeat' (first|simp only[hb,Va.down,seval,TY127.down,List.length_map]|refine fsp ?_ ?_<;>intro hb|refine fd ?_|fail)))
 refine fw_ot (lst 62 l (fun i (zz:Int) t h=>t 0=.int .i64 amount∧t 1=slv 1 true nn (l.map iv)∧t 2=.func (.func g) [] [.ptr 0 0 0,.ptr 1 0 0]∧t 15=slv 1 true nn (l.map iv)∧t 16=.int .i64 l.length∧t 17=.int .i64 i∧t 7=.int .i64 zz∧h=[.live 1 false false [[slv 1 true wn (wl.map iv)]],.live 1 false false [[.func (.func q) [] [.ptr 2 0 0,.ptr 0 0 0]]],.live 6 false false [s.cells]]) (fun rest zz=>sumF (rest.map w) zz) (fun r e t h=>e=.exit 0∧t 0=.int .i64 amount∧t 1=slv 1 true nn (l.map iv)∧t 2=.func (.func g) [] [.ptr 0 0 0,.ptr 1 0 0]∧t 7=.int .i64 r∧h=[.live 1 false false [[slv 1 true wn (wl.map iv)]],.live 1 false false [[.func (.func q) [] [.ptr 2 0 0,.ptr 0 0 0]]],.live 6 false false [s.cells]]) ?_ ?_ (0) _ _ ?_) (fun e t h hk=>?_)
 ·rintro s' t h Q' kQ ⟨h0,h1,h2,h15,h16,h17,h7,rfl⟩
  (have hb:=trivial;with_reducible repeat' (first|simp only[hb,Va.down,seval,TY127.down,h0,h1,h2,h15,h16,h17,h7,Int.lt_irrefl,decide_false]|refine fsp ?_ ?_<;>intro hb|refine fd ?_|fail))
  exact kQ _ _ _ ⟨rfl,by simp[up,h0],by simp[up,h1],by simp[up,h2],by simp[up,h7,sumF],rfl⟩
 ·rintro x rest i s' t h J Q' kJ kQ hx hi ⟨h0,h1,h2,h15,h16,h17,h7,rfl⟩
  have hd:decide ((i:Int)<(l.length:Int))=true:=decide_eq_true (by omega)
  have hw:=wrap_next hi hl'
  have hpx:=hp x (List.mem_of_getElem? hx)
  (have hb:=trivial;with_reducible repeat' (first|simp only[hb,Va.down,seval,TY127.down,h0,h1,h2,h15,h16,h17,h7,hd,hx,hw,iv,hpx]|refine fsp ?_ ?_<;>intro hb|refine fd ?_|fail))
  (refine rnd_go (kJ _ _ (IntKind.i64.wrap (s'+w x)) ⟨?_,?_,?_,?_,?_,?_,?_,rfl⟩ ?_);(simp[up,h0]);(simp[up,h1]);(simp[up,h2]);(simp[up,h15]);(simp[up,h16]);(simp[up]);(simp[up,h7]);(simp[sumF]))
 ·exact⟨by simp[up,ent],by simp[up,ent],by simp[up,ent],by simp[up,ent],by simp[up,ent],by simp[up],by simp[up,ent],rfl⟩
 ·obtain⟨rfl,h0,h1,h2,h7,rfl⟩:=hk
  (have hb:=trivial;with_reducible repeat' (first|simp only[hb,Va.down,seval,TY127.down,h0,h1,h2,h7,h40,iv,Int.le_refl,Int.reducePow]|refine fsp ?_ ?_<;>intro hb|refine fd ?_|fail))
  refine fw_ot (lst 62 l (fun i (zz:List Int × Int × Int) t h=>t 0=.int .i64 amount∧t 2=.func (.func g) [] [.ptr 0 0 0,.ptr 1 0 0]∧t 7=.int .i64 (sumF (l.map w) 0)∧t 10=.slr 1 3 0 l.length∧t 30=slv 1 true nn (l.map iv)∧t 31=.int .i64 l.length∧t 32=.int .i64 i∧t 11=.int .i64 zz.2.1∧t 12=.int .i64 zz.2.2∧h=[.live 1 false false [[slv 1 true wn (wl.map iv)]],.live 1 false false [[.func (.func q) [] [.ptr 2 0 0,.ptr 0 0 0]]],.live 6 false false [s.cells]]++[.live 1 true (!zz.1.isEmpty&&decide (0<sumF (l.map w) 0)) ((zz.1++List.replicate (l.length-i) 0).map iv)]∧zz.1.length=i∧(0<sumF (l.map w) 0∨zz.2.2=0)) (fun rest zz=>zz.1++shareF amount (sumF (l.map w) 0) (rest.map w) zz.2.1 zz.2.2) (fun r e t h=>e=.exit 2∧t 10=.slr 1 3 0 l.length∧h=[.live 1 false false [[slv 1 true wn (wl.map iv)]],.live 1 false false [[.func (.func q) [] [.ptr 2 0 0,.ptr 0 0 0]]],.live 6 false false [s.cells]]++[.live 1 true (!l.isEmpty&&decide (0<sumF (l.map w) 0)) (r.map iv)]) ?_ ?_ ([],0,0) _ _ ?_) (fun e t h hk=>?_)
  ·rintro⟨p,so,got⟩ t h Q' kQ ⟨h0,h2,h7,h10,h30,h31,h32,h11,h12,rfl,hpl,hgot⟩
   try dsimp only at *
   (have hb:=trivial;with_reducible repeat' (first|simp only[hb,Va.down,seval,TY127.down,h0,h2,h7,h10,h30,h31,h32,h11,h12,Int.lt_irrefl,decide_false]|refine fsp ?_ ?_<;>intro hb|refine fd ?_|fail))
   have hpe:p.isEmpty=l.isEmpty:=by cases p<;>cases l<;>simp at hpl ⊢
   exact kQ _ _ _ ⟨rfl,by simp[up,h10],by simp[shareF,hpe]⟩
  ·rintro x rest i ⟨p,so,got⟩ t h J Q' kJ kQ hx hi ⟨h0,h2,h7,h10,h30,h31,h32,h11,h12,rfl,hpl,hgot⟩
   have hd:decide ((i:Int)<(l.length:Int))=true:=decide_eq_true (by omega)
   have hw:=wrap_next hi hl'
   try dsimp only at *
   have hpx:=hp x (List.mem_of_getElem? hx)
   have hset:=set_rep hpl hi
   have hget:=get_rep hpl hi
   have hmid:=fun(v:Int) l=>get_mid hpl v l
   have hcon:p++(0:Int)::List.replicate (l.length-(i+1)) 0=p++List.replicate (l.length-i) 0:=by
    rw[show l.length-i=(l.length-(i+1))+1 by omega,List.replicate_succ]
   have hii:((i:Int)<(l.length:Int))=True:=eq_true (by omega)
   by_cases hq:0<sumF (l.map w) 0
   ·have hq1:decide (0<sumF (l.map w) 0)=true:=by simpa using hq
    have hq2:(sumF (l.map w) 0=0)=False:=eq_false (by omega)
    (have hb:=trivial;with_reducible repeat' (first|simp only[hb,Va.down,seval,TY127.down,h0,h2,h7,h10,h30,h31,h32,h11,h12,hd,hx,hw,hpx,hset,hget,hmid,hq1,hq2,hii,iv]|refine fsp ?_ ?_<;>intro hb|refine fd ?_|fail))
    all_goals (refine rnd_go (kJ _ _ (p++[part1 amount (sumF (l.map w) 0) (IntKind.i64.wrap (so+w x)) got],IntKind.i64.wrap (so+w x),IntKind.i64.wrap (got+part1 amount (sumF (l.map w) 0) (IntKind.i64.wrap (so+w x)) got)) ⟨?_,?_,?_,?_,?_,?_,?_,?_,?_,by simp[part1,hq],by simp[hpl],.inl hq⟩ ?_);(simp[up,h0]);(simp[up,h2]);(simp[up,h7]);(simp[up,h10]);(simp[up,h30]);(simp[up,h31]);(simp[up]);(simp[up,h11,part1,hq,wrap_0]);(simp[up,h12,part1,hq,wrap_0]);(simp[shareF]))
   ·obtain rfl:got=0:=by rcases hgot with h|h;exact(hq h).elim;exact h
    have hq1:decide (0<sumF (l.map w) 0)=false:=by simpa using hq
    (have hb:=trivial;with_reducible repeat' (first|simp only[hb,Va.down,seval,TY127.down,h0,h2,h7,h10,h30,h31,h32,h11,h12,hd,hx,hw,hpx,hq1,hii,iv]|refine fsp ?_ ?_<;>intro hb|refine fd ?_|fail))
    all_goals (refine rnd_go (kJ _ _ (p++[part1 amount (sumF (l.map w) 0) (IntKind.i64.wrap (so+w x)) 0],IntKind.i64.wrap (so+w x),IntKind.i64.wrap (0+part1 amount (sumF (l.map w) 0) (IntKind.i64.wrap (so+w x)) 0)) ⟨?_,?_,?_,?_,?_,?_,?_,?_,?_,by simp[part1,hq,hcon],by simp[hpl],.inr (by simp[part1,hq];rfl)⟩ ?_);(simp[up,h0]);(simp[up,h2]);(simp[up,h7]);(simp[up,h10]);(simp[up,h30]);(simp[up,h31]);(simp[up]);(simp[up,h11,part1,hq,wrap_0]);(simp[up,h12,part1,hq,wrap_0]);(simp[shareF]))
  ·exact⟨by simp[up,ent,h0,h1,h2,h7],by simp[up,ent,h0,h1,h2,h7],by simp[up,ent,h0,h1,h2,h7],by simp[up,ent,h0,h1,h2,h7],by simp[up,ent,h0,h1,h2,h7],by simp[up,ent,h0,h1,h2,h7],by simp[up],by simp[up,ent,h0,h1,h2,h7],by simp[up,ent,h0,h1,h2,h7],by simp[iv],rfl,.inr rfl⟩
  ·obtain⟨rfl,h10,rfl⟩:=hk
   have hw:(!l.isEmpty&&decide (0<sumF (l.map w) 0))=decide (0<sumF (l.map w) 0):=by cases l<;>simp[sumF]
   (have hb:=trivial;with_reducible repeat' (first|simp only[hb,Va.down,seval,TY127.down,h10,hw]|refine fsp ?_ ?_<;>intro hb|refine fd ?_|fail))
theorem e_shareC{amount:Int}{l:List Int}{nn:Bool}{g:Nat}{w:Int→Int}  (hp:∀x∈l,om'.call (.fn g) (.int .i64 x::[]) []=some (.ret (.int .i64 (w x)),[]))(hl:l.length≤1000):
 om'.call (.fn 127) [.int .i64 amount,slv 1 true nn (l.map iv),.func (.func g) [] []] []=some (.ret (.slr 1 0 0 l.length),[]++[.live 1 true (decide (0<sumF (l.map w) 0)) ((shareF amount (sumF (l.map w) 0) (l.map w) 0 0).map iv)]):=by
 have hl':l.length≤maxLen:=by unfold maxLen;omega
 have h40:((l.length:Int)≤1099511627776)=True:=eq_true (by omega)
 (refine ce Tryz.func127 ?_;simp only[Tryz.f127];(have hb:=trivial;with_reducible repeat' (first|simp only[hb,Va.down,seval,TY127.down,List.length_map]|refine fsp ?_ ?_<;>intro hb|refine fd ?_|fail)))
 refine fw_ot (lst 62 l (fun i (zz:Int) t h=>t 0=.int .i64 amount∧t 1=slv 1 true nn (l.map iv)∧t 2=.func (.func g) [] []∧t 15=slv 1 true nn (l.map iv)∧t 16=.int .i64 l.length∧t 17=.int .i64 i∧t 7=.int .i64 zz∧h=[]) (fun rest zz=>sumF (rest.map w) zz) (fun r e t h=>e=.exit 0∧t 0=.int .i64 amount∧t 1=slv 1 true nn (l.map iv)∧t 2=.func (.func g) [] []∧t 7=.int .i64 r∧h=[]) ?_ ?_ (0) _ _ ?_) (fun e t h hk=>?_)
 ·rintro s' t h Q' kQ ⟨h0,h1,h2,h15,h16,h17,h7,rfl⟩
  (have hb:=trivial;with_reducible repeat' (first|simp only[hb,Va.down,seval,TY127.down,h0,h1,h2,h15,h16,h17,h7,Int.lt_irrefl,decide_false]|refine fsp ?_ ?_<;>intro hb|refine fd ?_|fail))
  exact kQ _ _ _ ⟨rfl,by simp[up,h0],by simp[up,h1],by simp[up,h2],by simp[up,h7,sumF],rfl⟩
 ·rintro x rest i s' t h J Q' kJ kQ hx hi ⟨h0,h1,h2,h15,h16,h17,h7,rfl⟩
  have hd:decide ((i:Int)<(l.length:Int))=true:=decide_eq_true (by omega)
  have hw:=wrap_next hi hl'
  have hpx:=hp x (List.mem_of_getElem? hx)
  (have hb:=trivial;with_reducible repeat' (first|simp only[hb,Va.down,seval,TY127.down,h0,h1,h2,h15,h16,h17,h7,hd,hx,hw,iv,hpx]|refine fsp ?_ ?_<;>intro hb|refine fd ?_|fail))
  (refine rnd_go (kJ _ _ (IntKind.i64.wrap (s'+w x)) ⟨?_,?_,?_,?_,?_,?_,?_,rfl⟩ ?_);(simp[up,h0]);(simp[up,h1]);(simp[up,h2]);(simp[up,h15]);(simp[up,h16]);(simp[up]);(simp[up,h7]);(simp[sumF]))
 ·exact⟨by simp[up,ent],by simp[up,ent],by simp[up,ent],by simp[up,ent],by simp[up,ent],by simp[up],by simp[up,ent],rfl⟩
 ·obtain⟨rfl,h0,h1,h2,h7,rfl⟩:=hk
  (have hb:=trivial;with_reducible repeat' (first|simp only[hb,Va.down,seval,TY127.down,h0,h1,h2,h7,h40,iv,Int.le_refl,Int.reducePow]|refine fsp ?_ ?_<;>intro hb|refine fd ?_|fail))
  refine fw_ot (lst 62 l (fun i (zz:List Int × Int × Int) t h=>t 0=.int .i64 amount∧t 2=.func (.func g) [] []∧t 7=.int .i64 (sumF (l.map w) 0)∧t 10=.slr 1 0 0 l.length∧t 30=slv 1 true nn (l.map iv)∧t 31=.int .i64 l.length∧t 32=.int .i64 i∧t 11=.int .i64 zz.2.1∧t 12=.int .i64 zz.2.2∧h=[]++[.live 1 true (!zz.1.isEmpty&&decide (0<sumF (l.map w) 0)) ((zz.1++List.replicate (l.length-i) 0).map iv)]∧zz.1.length=i∧(0<sumF (l.map w) 0∨zz.2.2=0)) (fun rest zz=>zz.1++shareF amount (sumF (l.map w) 0) (rest.map w) zz.2.1 zz.2.2) (fun r e t h=>e=.exit 2∧t 10=.slr 1 0 0 l.length∧h=[]++[.live 1 true (!l.isEmpty&&decide (0<sumF (l.map w) 0)) (r.map iv)]) ?_ ?_ ([],0,0) _ _ ?_) (fun e t h hk=>?_)
  ·rintro⟨p,so,got⟩ t h Q' kQ ⟨h0,h2,h7,h10,h30,h31,h32,h11,h12,rfl,hpl,hgot⟩
   try dsimp only at *
   (have hb:=trivial;with_reducible repeat' (first|simp only[hb,Va.down,seval,TY127.down,h0,h2,h7,h10,h30,h31,h32,h11,h12,Int.lt_irrefl,decide_false]|refine fsp ?_ ?_<;>intro hb|refine fd ?_|fail))
   have hpe:p.isEmpty=l.isEmpty:=by cases p<;>cases l<;>simp at hpl ⊢
   exact kQ _ _ _ ⟨rfl,by simp[up,h10],by simp[shareF,hpe]⟩
  ·rintro x rest i ⟨p,so,got⟩ t h J Q' kJ kQ hx hi ⟨h0,h2,h7,h10,h30,h31,h32,h11,h12,rfl,hpl,hgot⟩
   have hd:decide ((i:Int)<(l.length:Int))=true:=decide_eq_true (by omega)
   have hw:=wrap_next hi hl'
   try dsimp only at *
   have hpx:=hp x (List.mem_of_getElem? hx)
   have hset:=set_rep hpl hi
   have hget:=get_rep hpl hi
   have hmid:=fun(v:Int) l=>get_mid hpl v l
   have hcon:p++(0:Int)::List.replicate (l.length-(i+1)) 0=p++List.replicate (l.length-i) 0:=by
    rw[show l.length-i=(l.length-(i+1))+1 by omega,List.replicate_succ]
   have hii:((i:Int)<(l.length:Int))=True:=eq_true (by omega)
   by_cases hq:0<sumF (l.map w) 0
   ·have hq1:decide (0<sumF (l.map w) 0)=true:=by simpa using hq
    have hq2:(sumF (l.map w) 0=0)=False:=eq_false (by omega)
    (have hb:=trivial;with_reducible repeat' (first|simp only[hb,Va.down,seval,TY127.down,h0,h2,h7,h10,h30,h31,h32,h11,h12,hd,hx,hw,hpx,hset,hget,hmid,hq1,hq2,hii,iv]|refine fsp ?_ ?_<;>intro hb|refine fd ?_|fail))
    all_goals (refine rnd_go (kJ _ _ (p++[part1 amount (sumF (l.map w) 0) (IntKind.i64.wrap (so+w x)) got],IntKind.i64.wrap (so+w x),IntKind.i64.wrap (got+part1 amount (sumF (l.map w) 0) (IntKind.i64.wrap (so+w x)) got)) ⟨?_,?_,?_,?_,?_,?_,?_,?_,?_,by simp[part1,hq],by simp[hpl],.inl hq⟩ ?_);(simp[up,h0]);(simp[up,h2]);(simp[up,h7]);(simp[up,h10]);(simp[up,h30]);(simp[up,h31]);(simp[up]);(simp[up,h11,part1,hq,wrap_0]);(simp[up,h12,part1,hq,wrap_0]);(simp[shareF]))
   ·obtain rfl:got=0:=by rcases hgot with h|h;exact(hq h).elim;exact h
    have hq1:decide (0<sumF (l.map w) 0)=false:=by simpa using hq
    (have hb:=trivial;with_reducible repeat' (first|simp only[hb,Va.down,seval,TY127.down,h0,h2,h7,h10,h30,h31,h32,h11,h12,hd,hx,hw,hpx,hq1,hii,iv]|refine fsp ?_ ?_<;>intro hb|refine fd ?_|fail))
    all_goals (refine rnd_go (kJ _ _ (p++[part1 amount (sumF (l.map w) 0) (IntKind.i64.wrap (so+w x)) 0],IntKind.i64.wrap (so+w x),IntKind.i64.wrap (0+part1 amount (sumF (l.map w) 0) (IntKind.i64.wrap (so+w x)) 0)) ⟨?_,?_,?_,?_,?_,?_,?_,?_,?_,by simp[part1,hq,hcon],by simp[hpl],.inr (by simp[part1,hq];rfl)⟩ ?_);(simp[up,h0]);(simp[up,h2]);(simp[up,h7]);(simp[up,h10]);(simp[up,h30]);(simp[up,h31]);(simp[up]);(simp[up,h11,part1,hq,wrap_0]);(simp[up,h12,part1,hq,wrap_0]);(simp[shareF]))
  ·exact⟨by simp[up,ent,h0,h1,h2,h7],by simp[up,ent,h0,h1,h2,h7],by simp[up,ent,h0,h1,h2,h7],by simp[up,ent,h0,h1,h2,h7],by simp[up,ent,h0,h1,h2,h7],by simp[up,ent,h0,h1,h2,h7],by simp[up],by simp[up,ent,h0,h1,h2,h7],by simp[up,ent,h0,h1,h2,h7],by simp[iv],rfl,.inr rfl⟩
  ·obtain⟨rfl,h10,rfl⟩:=hk
   have hw:(!l.isEmpty&&decide (0<sumF (l.map w) 0))=decide (0<sumF (l.map w) 0):=by cases l<;>simp[sumF]
   (have hb:=trivial;with_reducible repeat' (first|simp only[hb,Va.down,seval,TY127.down,h10,hw]|refine fsp ?_ ?_<;>intro hb|refine fd ?_|fail))
def addW(x y:Int):Int:=IntKind.i64.wrap (x+y)
def fzL(cs:List BCon)(l:List Int):List Int:=List.zipWith firmW cs l
def ozL(cs:List BCon)(l:List Int):List Int:=List.zipWith othW cs l
def idxL(n:Nat):List Int:=(List.range n).map Int.ofNat
def grantL(cs:List BCon)(l:List Int)(most:Int):List Int:=
 if sumF l 0≤most then l else if most<sumF (fzL cs l) 0 then shareF most (sumF (fzL cs l) 0) (fzL cs l) 0 0
 else List.zipWith addW (shareF (IntKind.i64.wrap (most-sumF (fzL cs l) 0)) (sumF (ozL cs l) 0) (ozL cs l) 0 0) (fzL cs l)
def grantW(cs:List BCon)(l:List Int)(most:Int):Bool:=if sumF l 0≤most then false else if most<sumF (fzL cs l) 0 then decide (0<sumF (fzL cs l) 0)else true
theorem idxL_length(n:Nat):(idxL n).length=n:=by simp[idxL]
theorem idxL_succ(n:Nat):idxL (n+1)=idxL n++[(n:Int)]:=by simp[idxL,List.range_succ]
theorem shareF_length(a b:Int):∀(l:List Int) (so got:Int),(shareF a b l so got).length=l.length
 | [],_,_=>rfl
 |x::l,so,got=>by simp[shareF,shareF_length a b l]
theorem zip_get{f:BCon→Int→Int}{cs:List BCon}{l:List Int}{i:Nat}{x:Int}(h:(List.zipWith f cs l)[i]?=some x):∃c w,cs[i]?=some c∧l[i]?=some w∧x=f c w:=by
 rw[List.getElem?_zipWith]at h
 cases hc:cs[i]? with
 |none=>simp[hc]at h
 |some c=>
  cases hw:l[i]? with
  |none=>simp[hc,hw]at h
  |some w=>simp[hc,hw]at h;exact⟨c,w,rfl,rfl,h.symm⟩
theorem map_idx(l:List Int):(idxL l.length).map (fun x=>(l[x.toNat]?).getD 0)=l:=by
 refine List.ext_getElem? fun i=>?_
 simp only[idxL,List.map_map,List.getElem?_map,Function.comp_def]
 by_cases hi:i<l.length
 ·rw[List.getElem?_range hi];simp[hi]
 ·rw[List.getElem?_eq_none (by simpa using hi),List.getElem?_eq_none (by simpa using hi)];rfl
theorem idx_mem{n:Nat}{x:Int}(h:x∈idxL n):∃k:Nat,x=(k:Int)∧k<n:=by
 simp only[idxL,List.mem_map,List.mem_range]at h
 obtain⟨k,hk,rfl⟩:=h
 exact⟨k,rfl,hk⟩
theorem set_drop{p sh:List Int}{i:Nat}{y:Int}(hp:p.length=i)(hy:sh[i]?=some y)(v:Int):((p++sh.drop i).map iv).set i [.int .i64 v]=(p++(v::sh.drop (i+1))).map iv:=by
 have hlt:i<sh.length:=(List.getElem?_eq_some_iff.1 hy).1
 subst hp
 rw[List.drop_eq_getElem_cons hlt,List.map_append,List.map_cons,List.set_append_right _ _ (by simp)]
 simp only[List.length_map,Nat.sub_self,List.set_cons_zero,List.map_append,List.map_cons]
 rfl
theorem get_drop{p sh:List Int}{i:Nat}{y:Int}(hp:p.length=i)(hy:sh[i]?=some y):(p++sh.drop i)[i]?=some y:=by
 rw[List.getElem?_append_right (by omega),hp,Nat.sub_self,List.getElem?_drop];simpa using hy
theorem zip_step2{x y:Int}{rest sh:List Int}{i:Nat}(hy:sh[i]?=some y)(p:List Int)(hp:p.length=i):(p++[addW y x])++List.zipWith addW (sh.drop (p++[addW y x]).length) rest=p++List.zipWith addW (sh.drop p.length) (x::rest):=by
 have hlt:i<sh.length:=(List.getElem?_eq_some_iff.1 hy).1
 have hd:sh.drop i=y::sh.drop (i+1):=by
  rw[List.drop_eq_getElem_cons hlt]
  congr 1
  exact Option.some.inj ((List.getElem?_eq_getElem hlt).symm.trans hy)
 rw[List.length_append,hp,hd]
 simp
theorem e_granted{s:BStore}{l:List Int}{nn:Bool}{most:Int}(hcl:l.length=s.cons.length)(hl:l.length≤1000)(hne:l≠[]):om'.call (.fn 96) [.agg s.cells,slv 1 true nn (l.map iv),.int .i64 most] []=some (.ret (.slr 1 0 0 l.length),[.live 1 true (grantW s.cons l most) ((grantL s.cons l most).map iv)]):=by
 have hl':l.length≤maxLen:=by unfold maxLen;omega
 have hsum:=e_sum (nn:=nn) hl'
 have hcln:=e_cloneInt hl hne
 rw[←slv_ne (n:=1) (fl:=true) (nn:=nn) (rows:=l.map iv) (by simpa using hne)]at hcln
 (refine ce Tryz.func96 ?_;simp only[Tryz.f96];(have hb:=trivial;with_reducible repeat' (first|simp only[hb,Va.down,seval,TY96.down,List.length_map,hsum,hcln]|refine fsp ?_ ?_<;>intro hb|refine fd ?_|fail)))
 ·have hb:sumF l 0≤most:=by simpa using hb
  simp[grantL,grantW,hb]
 have hq:¬sumF l 0≤most:=by simpa using hb
 have hfl:(fzL s.cons l).length=l.length:=by simp[fzL,hcl]
 have hol:(ozL s.cons l).length=l.length:=by simp[ozL,hcl]
 have hfl':(fzL s.cons l).length≤maxLen:=by omega
 refine fw_ot (lst 73 l (fun i (zz:Unit) t h=>t 2=.int .i64 most∧t 3=.ptr 0 0 0∧t 4=.ptr 1 0 0∧t 22=.int .i64 l.length∧t 23=.int .i64 i∧h[0]?=some (.live 6 false false [s.cells])∧h[1]?=some (.live 1 false false [[slv 1 true nn (l.map iv)]])∧((i=0∧t 7=.nils∧h.length=2)∨(0<i∧∃b,2≤b∧t 7=.slr 1 b 0 i∧h[b]?=some (.live 1 true false ((idxL i).map iv))))) (fun rest zz=>()) (fun r e t h=>e=.exit 0∧t 2=.int .i64 most∧t 3=.ptr 0 0 0∧t 4=.ptr 1 0 0∧h[0]?=some (.live 6 false false [s.cells])∧h[1]?=some (.live 1 false false [[slv 1 true nn (l.map iv)]])∧(∃b,2≤b∧t 7=.slr 1 b 0 l.length∧h[b]?=some (.live 1 true false ((idxL l.length).map iv)))) ?_ ?_ () _ _ ?_) (fun e tA hA hk=>?_)
 ·rintro _ t h Q' kQ ⟨h2,h3,h4,h22,h23,hS,hW,hc⟩
  (have hb:=trivial;with_reducible repeat' (first|simp only[hb,Va.down,seval,TY96.down,h2,h3,h4,h22,h23,Int.lt_irrefl,decide_false]|refine fsp ?_ ?_<;>intro hb|refine fd ?_|fail))
  rcases hc with⟨hz,_⟩|⟨_,b,hb2,h7,hb⟩
  ·exact(hne (List.length_eq_zero_iff.1 hz)).elim
  ·exact kQ _ _ _ ⟨rfl,by simp[up,h2],by simp[up,h3],by simp[up,h4],hS,hW,b,hb2,by simp[up,h7],hb⟩
 ·rintro x rest i _ t h J Q' kJ kQ hx hi ⟨h2,h3,h4,h22,h23,hS,hW,hc⟩
  have hd:decide ((i:Int)<(l.length:Int))=true:=decide_eq_true (by omega)
  have hw:=wrap_next hi hl'
  rcases hc with⟨rfl,h7,hlen⟩|⟨h0,b,hb2,h7,hb⟩
  ·simp only[Int.natCast_zero]at hd
   (have hb:=trivial;with_reducible repeat' (first|simp only[hb,Va.down,seval,TY96.down,h2,h3,h4,h22,h23,h7,hd,hx,hw,iv]|refine fsp ?_ ?_<;>intro hb|refine fd ?_|fail))
   (refine rnd_go (kJ _ _ () ⟨?_,?_,?_,?_,?_,get_app hS _,get_app hW _,.inr ⟨by omega,h.length+1,by omega,by simp[up],by rw[hp_getk];simp[idxL,iv]⟩⟩ ?_);(simp[up,h2]);(simp[up,h3]);(simp[up,h4]);(simp[up,h22]);(simp[up]);exact rfl)
  ·have hbl:b<h.length:=(List.getElem?_eq_some_iff.1 hb).1
   have hA:=get_app hb
   have hSt:=set_app hbl
   have hi39:(i+1≤549755813888)=True:=eq_true (by omega)
   have hlp:0+i=(idxL i).length:=by simp[idxL_length]
   (have hb:=trivial;with_reducible repeat' (first|simp only[hb,Va.down,seval,TY96.down,h2,h3,h4,h22,h23,h7,hd,hx,hw,iv,hA,hSt,gset0,gsetk,List.length_set,hi39,idxL_length]|refine fsp ?_ ?_<;>intro hb|refine fd ?_|fail))
   (refine rnd_go (kJ _ _ () ⟨?_,?_,?_,?_,?_,gset_ne _ (by omega) hS _,gset_ne _ (by omega) hW _,.inr ⟨by omega,h.length+1,by omega,by simp[up],by rw[gsetk];simp[idxL_succ,iv]⟩⟩ ?_);(simp[up,h2]);(simp[up,h3]);(simp[up,h4]);(simp[up,h22]);(simp[up]);exact rfl)
 ·exact⟨by simp[up,ent],by simp[up,ent],by simp[up,ent],by simp[up,ent],by simp[up],rfl,rfl,.inl ⟨rfl,by simp[up],rfl⟩⟩
 ·obtain⟨rfl,h2,h3,h4,hS,hW,b,hb2,h7,hbi⟩:=hk
  have hbl:b<hA.length:=(List.getElem?_eq_some_iff.1 hbi).1
  have hS1:=get_app hS
  have hW1:=get_app hW
  have hb1:=get_app hbi
  have z1:(hA.length=0)=False:=eq_false (by omega)
  have z2:(1=hA.length)=False:=eq_false (by omega)
  have y1:(b==1)=false:=by simp;omega
  have y2:(b==hA.length)=false:=by simp;omega
  have y3:(b==0)=false:=by simp;omega
  have z3:(0=hA.length)=False:=eq_false (by omega)
  (have hb:=trivial;with_reducible repeat' (first|simp only[hb,Va.down,seval,TY96.down,h2,h3,h4,h7,hS1,hW1]|refine fsp ?_ ?_<;>intro hb|refine fd ?_|fail))
  refine fw_ot (lst 73 (fzL s.cons l) (fun i (zz:Int) t h=>t 2=.int .i64 most∧t 7=.slr 1 b 0 l.length∧t 9=.ptr hA.length 0 0∧t 10=.func (.func 126) [] [.ptr 1 0 0,.ptr hA.length 0 0]∧t 34=.int .i64 (fzL s.cons l).length∧t 35=.int .i64 i∧t 11=.int .i64 zz∧h=hA++[.live 1 false true [[.func (.func 125) [] [.ptr 0 0 0,.ptr 1 0 0]]]]) (fun rest zz=>sumF rest zz) (fun r e t h=>e=.exit 2∧t 2=.int .i64 most∧t 7=.slr 1 b 0 l.length∧t 9=.ptr hA.length 0 0∧t 10=.func (.func 126) [] [.ptr 1 0 0,.ptr hA.length 0 0]∧t 11=.int .i64 r∧h=hA++[.live 1 false true [[.func (.func 125) [] [.ptr 0 0 0,.ptr 1 0 0]]]]) ?_ ?_ (0) _ _ ?_) (fun e tB hB hk=>?_)
  ·rintro a' t h Q' kQ ⟨h2,h7,h9,h10,h34,h35,h11,rfl⟩
   (have hb:=trivial;with_reducible repeat' (first|simp only[hb,Va.down,seval,TY96.down,h2,h7,h9,h10,h34,h35,h11,Int.lt_irrefl,decide_false]|refine fsp ?_ ?_<;>intro hb|refine fd ?_|fail))
   exact kQ _ _ _ ⟨rfl,by simp[up,h2],by simp[up,h7],by simp[up,h9],by simp[up,h10],by simp[up,h11,sumF],rfl⟩
  ·rintro x rest i a' t h J Q' kJ kQ hx hi ⟨h2,h7,h9,h10,h34,h35,h11,rfl⟩
   have hd:decide ((i:Int)<((fzL s.cons l).length:Int))=true:=decide_eq_true (by omega)
   have hw:=wrap_next hi hfl'
   obtain⟨c,w,hc,hw',rfl⟩:=zip_get hx
   have hg:=e_granted1 (nn:=nn) hc hw'
   (have hb:=trivial;with_reducible repeat' (first|simp only[hb,Va.down,seval,TY96.down,h2,h7,h9,h10,h34,h35,h11,hd,hx,hw,hS1,hW1,hg]|refine fsp ?_ ?_<;>intro hb|refine fd ?_|fail))
   (refine rnd_go (kJ _ _ (IntKind.i64.wrap (a'+firmW c w)) ⟨?_,?_,?_,?_,?_,?_,?_,rfl⟩ ?_);(simp[up,h2]);(simp[up,h7]);(simp[up,h9]);(simp[up,h10]);(simp[up,h34]);(simp[up]);(simp[up,h11]);exact rfl)
  ·exact⟨by simp[up,ent,h2,h3,h4,h7,hfl],by simp[up,ent,h2,h3,h4,h7,hfl],by simp[up,ent,h2,h3,h4,h7,hfl],by simp[up,ent,h2,h3,h4,h7,hfl],by simp[up,ent,h2,h3,h4,h7,hfl],by simp[up],by simp[up,ent,h2,h3,h4,h7,hfl],rfl⟩
  ·obtain⟨rfl,h2,h7,h9,h10,h11,rfl⟩:=hk
   have htk:((idxL l.length).map iv).take l.length=(idxL l.length).map iv:=List.take_of_length_le (by simp[idxL_length])
   have hshA:=e_shareA (amount:=most) (nn:=true) (g:=125) (s:=s) (wl:=l) (wn:=nn) (l:=idxL l.length) (w:=fun x=>((fzL s.cons l)[x.toNat]?).getD 0) (fun x hx=>by
    obtain⟨k,rfl,hk⟩:=idx_mem hx
    obtain⟨y,hy⟩:∃y,(fzL s.cons l)[k]?=some y:=⟨_,List.getElem?_eq_getElem (by omega)⟩
    obtain⟨c,w,hc,hw',rfl⟩:=zip_get hy
    simp only[Int.toNat_natCast,hy,Option.getD_some]
    exact e_granted1 hc hw') (by rw[idxL_length];exact hl)
   have hshB:=e_shareB (amount:=IntKind.i64.wrap (most-sumF (fzL s.cons l) 0)) (nn:=true) (g:=126) (q:=125) (s:=s) (wl:=l) (wn:=nn) (l:=idxL l.length) (w:=fun x=>((ozL s.cons l)[x.toNat]?).getD 0) (fun x hx=>by
    obtain⟨k,rfl,hk⟩:=idx_mem hx
    obtain⟨y,hy⟩:∃y,(ozL s.cons l)[k]?=some y:=⟨_,List.getElem?_eq_getElem (by omega)⟩
    obtain⟨c,w,hc,hw',rfl⟩:=zip_get hy
    simp only[Int.toNat_natCast,hy,Option.getD_some]
    exact e_granted2 hc hw') (by rw[idxL_length];exact hl)
   have m1:=map_idx (fzL s.cons l)
   have m2:=map_idx (ozL s.cons l)
   rw[hfl]at m1
   rw[hol]at m2
   rw[slv_true,m1,idxL_length]at hshA
   rw[slv_true,m2,idxL_length]at hshB
   simp only[List.cons_append,List.nil_append]at hshA hshB
   have hle:(0+l.length≤(idxL l.length).length)=True:=eq_true (by simp[idxL_length])
   (have hb:=trivial;with_reducible repeat' (first|simp only[hb,Va.down,seval,TY96.down,h2,h7,h9,h10,h11,hS1,hW1,hb1,hshA,hshB,y1,y2,y3,z1,z2,z3,htk,idxL_length]|refine fsp ?_ ?_<;>intro hb|refine fd ?_|fail))
   ·have hb:most<sumF (fzL s.cons l) 0:=by simpa using hb
    simp[grantL,grantW,hq,hb]
   have hbm:¬most<sumF (fzL s.cons l) 0:=by simpa using hb
   have hshl:∀a b,(shareF a b (ozL s.cons l) 0 0).length=l.length:=fun a b=>by rw[shareF_length,hol]
   refine fw_ot (lst 73 (fzL s.cons l) (fun i (zz:List Int × Bool) t h=>t 9=.ptr hA.length 0 0∧t 13=.slr 1 (hA.length+1) 0 l.length∧t 58=.int .i64 (fzL s.cons l).length∧t 59=.int .i64 i∧h=hA++[.live 1 false true [[.func (.func 125) [] [.ptr 0 0 0,.ptr 1 0 0]]],.live 1 true zz.2 ((zz.1++(shareF (IntKind.i64.wrap (most-sumF (fzL s.cons l) 0)) (sumF (ozL s.cons l) 0) (ozL s.cons l) 0 0).drop i).map iv)]∧zz.1.length=i∧(i=0∨zz.2=true)) (fun rest zz=>zz.1++List.zipWith addW ((shareF (IntKind.i64.wrap (most-sumF (fzL s.cons l) 0)) (sumF (ozL s.cons l) 0) (ozL s.cons l) 0 0).drop zz.1.length) rest) (fun r e t h=>e=.exit 4∧t 13=.slr 1 (hA.length+1) 0 l.length∧h=hA++[.live 1 false true [[.func (.func 125) [] [.ptr 0 0 0,.ptr 1 0 0]]],.live 1 true true (r.map iv)]) ?_ ?_ ([],decide (0<sumF (ozL s.cons l) 0)) _ _ ?_) (fun e tC hC hk=>?_)
   ·rintro⟨p,wf⟩ t h Q' kQ ⟨h9,h13,h58,h59,rfl,hp,hf⟩
    try dsimp only at *
    (have hb:=trivial;with_reducible repeat' (first|simp only[hb,Va.down,seval,TY96.down,h9,h13,h58,h59,Int.lt_irrefl,decide_false]|refine fsp ?_ ?_<;>intro hb|refine fd ?_|fail))
    rcases hf with hz|rfl
    ·exact(hne (List.length_eq_zero_iff.1 (by omega))).elim
    ·exact kQ _ _ _ ⟨rfl,by simp[up,h13],by rw[List.drop_eq_nil_iff.2 (by rw[hshl];omega)];simp⟩
   ·rintro x rest i ⟨p,wf⟩ t h J Q' kJ kQ hx hi ⟨h9,h13,h58,h59,rfl,hp,hf⟩
    have hd:decide ((i:Int)<((fzL s.cons l).length:Int))=true:=decide_eq_true (by omega)
    have hw:=wrap_next hi hfl'
    try dsimp only at *
    obtain⟨c,w,hc,hw',rfl⟩:=zip_get hx
    have hg:=e_granted1 (nn:=nn) hc hw'
    obtain⟨y,hy⟩:∃y,(shareF (IntKind.i64.wrap (most-sumF (fzL s.cons l) 0)) (sumF (ozL s.cons l) 0) (ozL s.cons l) 0 0)[i]?=some y:=⟨_,List.getElem?_eq_getElem (by rw[hshl];omega)⟩
    have hset:=set_drop hp hy
    have hget:=get_drop hp hy
    have hii:((i:Int)<(l.length:Int))=True:=eq_true (by omega)
    (have hb:=trivial;with_reducible repeat' (first|simp only[hb,Va.down,seval,TY96.down,h9,h13,h58,h59,hd,hx,hw,hS1,hW1,hg,hset,hget,hii,iv]|refine fsp ?_ ?_<;>intro hb|refine fd ?_|fail))
    (refine rnd_go (kJ _ _ (p++[addW y (firmW c w)],true) ⟨?_,?_,?_,?_,by simp[addW],by simp[hp],.inr rfl⟩ ?_);(simp[up,h9]);(simp[up,h13]);(simp[up,h58]);(simp[up]);(exact zip_step2 hy p hp))
   ·exact⟨by simp[up,ent,h2,h7,h9,h10,h11,hfl],by simp[up,ent,h2,h7,h9,h10,h11,hfl],by simp[up,ent,h2,h7,h9,h10,h11,hfl],by simp[up],by simp,rfl,.inl rfl⟩
   ·obtain⟨rfl,h13,rfl⟩:=hk
    (have hb:=trivial;with_reducible repeat' (first|simp only[hb,Va.down,seval,TY96.down,h13]|refine fsp ?_ ?_<;>intro hb|refine fd ?_|fail))
    simp[grantL,grantW,hq,hbm]
def othR(c:BCon)(w:Int):Int:=if c.firm=true then 0 else w
def ozR(cs:List BCon)(l:List Int):List Int:=List.zipWith othR cs l
def grantR(cs:List BCon)(l:List Int)(most:Int):List Int:=
 if sumF l 0≤most then l else if most<sumF (fzL cs l) 0 then shareF most (sumF (fzL cs l) 0) (fzL cs l) 0 0
 else List.zipWith addW (shareF (IntKind.i64.wrap (most-sumF (fzL cs l) 0)) (sumF (ozR cs l) 0) (ozR cs l) 0 0) (fzL cs l)
theorem grantL_length{cs:List BCon}{l:List Int}(h:l.length=cs.length)(most:Int):(grantL cs l most).length=l.length:=by
 unfold grantL
 split
 ·rfl
 ·split
  ·simp[shareF_length,fzL,h]
  ·simp[shareF_length,fzL,ozL,h]
theorem grantR_length{cs:List BCon}{l:List Int}(h:l.length=cs.length)(most:Int):(grantR cs l most).length=l.length:=by
 unfold grantR
 split
 ·rfl
 ·split
  ·simp[shareF_length,fzL,h]
  ·simp[shareF_length,fzL,ozR,h]
theorem r_grant1{s:BStore}{l:List Int}{nn:Bool}{most:Int}(hl:l.length≤maxLen)(hq:sumF l 0≤most):om'.call (.fn 58) [.agg s.cells,slv 1 true nn (l.map iv),.int .i64 most] []=some (.ret (slv 1 true nn (l.map iv)),[]):=by
 have hsum:=r_Sum (nn:=nn) hl
 have hb:decide (sumF l 0≤most)=true:=by simpa using hq
 (refine ce Tryz.func58 ?_;simp only[Tryz.f58];(with_reducible repeat' (first|simp only[hb,Va.down,seval,TY58.down,hsum,hb]|refine fsp ?_ ?_<;>intro hb|refine fd ?_|fail)))
theorem take_set{fz:List Int}{n i:Nat}{y:Int}(hy:fz[i]?=some y)(hi:i<n):((fz.take i++List.replicate (n-i) 0).map iv).set i [.int .i64 y]=(fz.take (i+1)++List.replicate (n-(i+1)) 0).map iv:=by
 have hlt:i<fz.length:=(List.getElem?_eq_some_iff.1 hy).1
 rw[set_rep (by simp;omega) hi,List.take_add_one,hy]
 simp
theorem take_zero{fz:List Int}{n i:Nat}(hy:fz[i]?=some 0)(hi:i<n):fz.take i++List.replicate (n-i) 0=fz.take (i+1)++List.replicate (n-(i+1)) 0:=by
 rw[List.take_add_one,hy,show n-i=(n-(i+1))+1 by omega,List.replicate_succ]
 simp
theorem r_grant2{s:BStore}{l:List Int}{nn:Bool}{most:Int}(hcl:l.length=s.cons.length)(hl:l.length≤1000)(hne:l≠[])(hq:¬sumF l 0≤most):∃w,om'.call (.fn 58) [.agg s.cells,slv 1 true nn (l.map iv),.int .i64 most] []=some (.ret (.slr 1 0 0 l.length),[.live 1 true w ((grantR s.cons l most).map iv)]):=by
 refine⟨if most<sumF (fzL s.cons l) 0 then false else true,?_⟩
 have hl':l.length≤maxLen:=by unfold maxLen;omega
 have hsum:=r_Sum (nn:=nn) hl'
 have hb:decide (sumF l 0≤most)=false:=by simpa using hq
 have h40:((l.length:Int)≤1099511627776)=True:=eq_true (by omega)
 have hfl:(fzL s.cons l).length=l.length:=by simp[fzL,hcl]
 have hol:(ozR s.cons l).length=l.length:=by simp[ozR,hcl]
 have hfne:fzL s.cons l≠[]:=fun e=>hne (List.length_eq_zero_iff.1 (by rw[←hfl,e];rfl))
 have hone:ozR s.cons l≠[]:=fun e=>hne (List.length_eq_zero_iff.1 (by rw[←hol,e];rfl))
 have hs1:=r_Sum (l:=fzL s.cons l) (nn:=true) (by omega)
 rw[slv_true]at hs1
 have hsh1:=r_Share' most (fzL s.cons l) true (by omega) _ _ (fun e=>(hfne e).elim) (fun _=>rfl)
 have hsh2:=r_Share' (IntKind.i64.wrap (most-sumF (fzL s.cons l) 0)) (ozR s.cons l) true (by omega) _ _ (fun e=>(hone e).elim) (fun _=>rfl)
 rw[slv_true,hfl]at hsh1
 rw[slv_true,hol]at hsh2
 have htk1:((fzL s.cons l).map iv).take l.length=(fzL s.cons l).map iv:=List.take_of_length_le (by simp[hfl])
 have htk2:((ozR s.cons l).map iv).take l.length=(ozR s.cons l).map iv:=List.take_of_length_le (by simp[hol])
 (refine ce Tryz.func58 ?_;simp only[Tryz.f58];(with_reducible repeat' (first|simp only[hb,Va.down,seval,TY58.down,hsum,hb,h40,Int.le_refl,Int.reducePow]|refine fsp ?_ ?_<;>intro hb|refine fd ?_|fail)))
 refine fw_ot (lst 81 l (fun i (zz:Unit) t h=>t 1=slv 1 true nn (l.map iv)∧t 2=.int .i64 most∧t 3=.ptr 0 0 0∧t 7=.slr 1 1 0 l.length∧t 8=.slr 1 2 0 l.length∧t 9=.int .i64 i∧∃w1 w2,h=[.live 6 false false [s.cells],.live 1 true w1 (((fzL s.cons l).take i++List.replicate (l.length-i) 0).map iv),.live 1 true w2 (((ozR s.cons l).take i++List.replicate (l.length-i) 0).map iv)]) (fun rest zz=>()) (fun r e t h=>e=.exit 0∧t 1=slv 1 true nn (l.map iv)∧t 2=.int .i64 most∧t 7=.slr 1 1 0 l.length∧t 8=.slr 1 2 0 l.length∧∃w1 w2,h=[.live 6 false false [s.cells],.live 1 true w1 ((fzL s.cons l).map iv),.live 1 true w2 ((ozR s.cons l).map iv)]) ?_ ?_ () _ _ ?_) (fun e t h hk=>?_)
 ·rintro _ t h Q' kQ ⟨h1,h2,h3,h7,h8,h9,⟨w1,w2,rfl⟩⟩
  (have hb:=trivial;with_reducible repeat' (first|simp only[hb,Va.down,seval,TY58.down,h1,h2,h3,h7,h8,h9,Int.lt_irrefl,decide_false]|refine fsp ?_ ?_<;>intro hb|refine fd ?_|fail))
  refine kQ _ _ _ ⟨rfl,by simp[up,h1],by simp[up,h2],by simp[up,h7],by simp[up,h8],w1,w2,?_⟩
  rw[List.take_of_length_le (by omega),List.take_of_length_le (by omega)]
  simp
 ·rintro x rest i _ t h J Q' kJ kQ hx hi ⟨h1,h2,h3,h7,h8,h9,⟨w1,w2,rfl⟩⟩
  have hd:decide ((i:Int)<(l.length:Int))=true:=decide_eq_true (by omega)
  have hw:=wrap_next hi hl'
  obtain⟨c,hc⟩:∃c,s.cons[i]?=some c:=⟨_,List.getElem?_eq_getElem (by omega)⟩
  have hf:(fzL s.cons l)[i]?=some (firmW c x):=by simp[fzL,List.getElem?_zipWith,hc,hx]
  have ho:(ozR s.cons l)[i]?=some (othR c x):=by simp[ozR,List.getElem?_zipWith,hc,hx]
  have hii:((i:Int)<(l.length:Int))=True:=eq_true (by omega)
  have hg1:=get_rep (p:=(fzL s.cons l).take i) (n:=l.length) (i:=i) (by simp;omega) hi
  have hg2:=get_rep (p:=(ozR s.cons l).take i) (n:=l.length) (i:=i) (by simp;omega) hi
  (have hb:=trivial;with_reducible repeat' (first|simp only[hb,Va.down,seval,TY58.down,h1,h2,h3,h7,h8,h9,hd,hx,hw,hc,hii,hg1,hg2,iv,BCon.cells]|refine fsp ?_ ?_<;>intro hb|refine fd ?_|fail))
  ·have e1:=take_set (fz:=fzL s.cons l) (n:=l.length) hf hi
   have e2:=take_zero (fz:=ozR s.cons l) (n:=l.length) (by simpa [othR,hb]using ho) hi
   simp only[firmW,hb,if_true]at e1
   rw[e1,e2]
   (refine rnd_go (kJ _ _ () ⟨?_,?_,?_,?_,?_,?_,⟨_,_,rfl⟩⟩ ?_);(simp[up,h1]);(simp[up,h2]);(simp[up,h3]);(simp[up,h7]);(simp[up,h8]);(simp[up]);exact rfl)
  ·have e1:=take_set (fz:=ozR s.cons l) (n:=l.length) ho hi
   have e2:=take_zero (fz:=fzL s.cons l) (n:=l.length) (by simpa [firmW,hb]using hf) hi
   simp only[othR,hb,Bool.false_eq_true,if_false]at e1
   rw[e1,e2]
   (refine rnd_go (kJ _ _ () ⟨?_,?_,?_,?_,?_,?_,⟨_,_,rfl⟩⟩ ?_);(simp[up,h1]);(simp[up,h2]);(simp[up,h3]);(simp[up,h7]);(simp[up,h8]);(simp[up]);exact rfl)
 ·exact⟨by simp[up,ent],by simp[up,ent],by simp[up,ent],by simp[up,ent],by simp[up,ent],by simp[up],⟨false,false,by simp[iv]⟩⟩
 ·obtain⟨rfl,h1,h2,h7,h8,w1,w2,rfl⟩:=hk
  (have hb:=trivial;with_reducible repeat' (first|simp only[hb,Va.down,seval,TY58.down,h1,h2,h7,h8,hfl,hol,htk1,htk2,hs1,hsh1,hsh2]|refine fsp ?_ ?_<;>intro hb|refine fd ?_|fail))
  ·have hb:most<sumF (fzL s.cons l) 0:=by simpa using hb
   simp[grantR,hq,hb]
  have hbm:¬most<sumF (fzL s.cons l) 0:=by simpa using hb
  have hshl:∀a b,(shareF a b (ozR s.cons l) 0 0).length=l.length:=fun a b=>by rw[shareF_length,hol]
  refine fw_ot (lst 81 (fzL s.cons l) (fun i (zz:List Int × Bool) t h=>t 1=slv 1 true nn (l.map iv)∧t 7=.slr 1 1 0 l.length∧t 10=.slr 1 3 0 l.length∧t 11=.int .i64 i∧h=[.live 6 false false [s.cells],.live 1 true w1 ((fzL s.cons l).map iv),.live 1 true w2 ((ozR s.cons l).map iv),.live 1 true zz.2 ((zz.1++(shareF (IntKind.i64.wrap (most-sumF (fzL s.cons l) 0)) (sumF (ozR s.cons l) 0) (ozR s.cons l) 0 0).drop i).map iv)]∧zz.1.length=i∧(i=0∨zz.2=true)) (fun rest zz=>zz.1++List.zipWith addW ((shareF (IntKind.i64.wrap (most-sumF (fzL s.cons l) 0)) (sumF (ozR s.cons l) 0) (ozR s.cons l) 0 0).drop zz.1.length) rest) (fun r e t h=>e=.exit 2∧t 10=.slr 1 3 0 l.length∧h=[.live 6 false false [s.cells],.live 1 true w1 ((fzL s.cons l).map iv),.live 1 true w2 ((ozR s.cons l).map iv),.live 1 true true (r.map iv)]) ?_ ?_ ([],false) _ _ ?_) (fun e t h hk=>?_)
  ·rintro⟨p,wf⟩ t h Q' kQ ⟨h1,h7,h10,h11,rfl,hp,hf⟩
   try dsimp only at *
   (have hb:=trivial;with_reducible repeat' (first|simp only[hb,Va.down,seval,TY58.down,h1,h7,h10,h11,Int.lt_irrefl,decide_false,hfl]|refine fsp ?_ ?_<;>intro hb|refine fd ?_|fail))
   rcases hf with hz|rfl
   ·exact(hne (List.length_eq_zero_iff.1 (by omega))).elim
   ·exact kQ _ _ _ ⟨rfl,by simp[up,h10],by rw[List.drop_eq_nil_iff.2 (by rw[hshl];omega)];simp⟩
  ·rintro x rest i ⟨p,wf⟩ t h J Q' kJ kQ hx hi ⟨h1,h7,h10,h11,rfl,hp,hf⟩
   have hd:decide ((i:Int)<((fzL s.cons l).length:Int))=true:=decide_eq_true (by omega)
   have hw:=wrap_next hi (by omega:(fzL s.cons l).length≤maxLen)
   try dsimp only at *
   obtain⟨y,hy⟩:∃y,(shareF (IntKind.i64.wrap (most-sumF (fzL s.cons l) 0)) (sumF (ozR s.cons l) 0) (ozR s.cons l) 0 0)[i]?=some y:=⟨_,List.getElem?_eq_getElem (by rw[hshl];omega)⟩
   have hset:=set_drop hp hy
   have hget:=get_drop hp hy
   have hii:((i:Int)<(l.length:Int))=True:=eq_true (by omega)
   rw[hfl]at hd
   (have hb:=trivial;with_reducible repeat' (first|simp only[hb,Va.down,seval,TY58.down,h1,h7,h10,h11,hd,hx,hw,hset,hget,hii,iv]|refine fsp ?_ ?_<;>intro hb|refine fd ?_|fail))
   (refine rnd_go (kJ _ _ (p++[addW y x],true) ⟨?_,?_,?_,?_,by simp[addW],by simp[hp],.inr rfl⟩ ?_);(simp[up,h1]);(simp[up,h7]);(simp[up,h10]);(simp[up]);(exact zip_step2 hy p hp))
  ·exact⟨by simp[up,ent,h1,h2,h7],by simp[up,ent,h1,h2,h7],by simp[up,ent,h1,h2,h7],by simp[up],by simp,rfl,.inl rfl⟩
  ·obtain⟨rfl,h10,rfl⟩:=hk
   (have hb:=trivial;with_reducible repeat' (first|simp only[hb,Va.down,seval,TY58.down,h10]|refine fsp ?_ ?_<;>intro hb|refine fd ?_|fail))
   simp[grantR,hq,hbm]
def grantAll(g:List BCon→List Int→Int→List Int)(cs:List BCon)(l:List Int)(most least:Int):List Int:=List.zipWith subW (g cs (l.map posI) most) (g cs (l.map negI) least)
theorem map_ne{α β:Type}{f:α→β}{l:List α}(h:l≠[]):l.map f≠[]:=by simpa using h
theorem e_grant{s:BStore}{l:List Int}{nn:Bool}{most least:Int}(hcl:l.length=s.cons.length)(hl:l.length≤1000)(hne:l≠[]):om'.call (.fn 53) [.agg s.cells,slv 1 true nn (l.map iv),.int .i64 most,.int .i64 least] []=
 some (.ret (.slr 1 0 0 l.length),[.live 1 true false ((grantAll grantL s.cons l most least).map iv)]):=by
 have h1:=e_sides (nn:=nn) hl hne
 have h2:=e_granted (s:=s) (l:=l.map posI) (nn:=true) (most:=most) (by simpa using hcl) (by simpa using hl) (map_ne hne)
 have h3:=e_granted (s:=s) (l:=l.map negI) (nn:=true) (most:=least) (by simpa using hcl) (by simpa using hl) (map_ne hne)
 have k2:=grantL_length (cs:=s.cons) (l:=l.map posI) (by simpa using hcl) most
 have k3:=grantL_length (cs:=s.cons) (l:=l.map negI) (by simpa using hcl) least
 rw[List.length_map]at k2 k3 h2 h3
 have hgl:(List.zipWith subW (grantL s.cons (l.map posI) most) (grantL s.cons (l.map negI) least)).length=l.length:=by simp[k2,k3]
 have hgn:grantL s.cons (l.map posI) most≠[]:=fun e=>hne (List.length_eq_zero_iff.1 (by rw[←k2,e];rfl))
 have h4:=e_joined' (grantL s.cons (l.map posI) most) (grantL s.cons (l.map negI) least) true true (by omega) (by omega) _ _ (fun e=>(hgn e).elim) (fun _=>rfl)
 rw[slv_true]at h2 h3
 rw[slv_true,slv_true,k2]at h4
 have t1:((l.map posI).map iv).take l.length=(l.map posI).map iv:=List.take_of_length_le (by simp)
 have t2:((l.map negI).map iv).take l.length=(l.map negI).map iv:=List.take_of_length_le (by simp)
 have t3:((grantL s.cons (l.map posI) most).map iv).take l.length=(grantL s.cons (l.map posI) most).map iv:=List.take_of_length_le (by simp[k2])
 have t4:((grantL s.cons (l.map negI) least).map iv).take l.length=(grantL s.cons (l.map negI) least).map iv:=List.take_of_length_le (by simp[k3])
 (refine ce Tryz.func53 ?_;simp only[Tryz.f53];(have hb:=trivial;with_reducible repeat' (first|simp only[hb,Va.down,seval,TY53.down,h1,h2,h3,h4,k2,k3,t1,t2,t3,t4]|refine fsp ?_ ?_<;>intro hb|refine fdl ?_|fail)))
 all_goals rfl
theorem e_grant_nil{s:BStore}{nn:Bool}{most least:Int}(hm:0≤most)(hm':0≤least):om'.call (.fn 53) [.agg s.cells,slv 1 true nn [],.int .i64 most,.int .i64 least] []=some (.ret .nils,[]):=by
 have g:∀m:Int,0≤m→om'.call (.fn 96) [.agg s.cells,.nils,.int .i64 m] []=some (.ret .nils,[]):=fun m hm=>by
  have hsum:=e_sum (l:=[]) (nn:=false) (by simp)
  rw[List.map_nil,slv_nil]at hsum
  have hcl:om'.call (.fn 102) [.nils] []=some (.ret .nils,[]):=by
   (refine ce Tryz.func102 ?_;simp only[Tryz.f102];(have hb:=trivial;with_reducible repeat' (first|simp only[hb,Va.down,seval,TY102.down]|refine fsp ?_ ?_<;>intro hb|refine fd ?_|fail)))
  have hb:decide (sumF [] 0≤m)=true:=decide_eq_true (by simpa [sumF]using hm)
  (refine ce Tryz.func96 ?_;simp only[Tryz.f96];(with_reducible repeat' (first|simp only[hb,Va.down,seval,TY96.down,hsum,hcl,hb]|refine fsp ?_ ?_<;>intro hb|refine fd ?_|fail)))
 have h1:=e_sides_nil (nn:=nn)
 have h2:=g most hm
 have h3:=g least hm'
 have h4:=e_joined' [] [] false false (by simp) (by simp) _ _ (fun _=>rfl) (fun e=>(e rfl).elim)
 rw[List.map_nil,slv_nil]at h4
 (refine ce Tryz.func53 ?_;simp only[Tryz.f53];(have hb:=trivial;with_reducible repeat' (first|simp only[hb,Va.down,seval,TY53.down,h1,h2,h3,h4]|refine fsp ?_ ?_<;>intro hb|refine fd ?_|fail)))
def wantsB(l:List Int):Bool:=l.all fun x=>inB x (-100000000) 100000000
theorem r_In1{l:List Int}(nn:Bool)(hl:l.length≤1000)(hne:l≠[]):om'.call (.fn 59) [slv 1 true nn (l.map iv)] []=some (.ret (.slr 1 0 0 l.length),[.live 1 true false ((l.map posI).map iv)]):=r_In' l nn hl _ _ (fun e=>(hne e).elim) (fun _=>rfl)
theorem r_Out1{l:List Int}(nn:Bool)(hl:l.length≤1000)(hne:l≠[]):om'.call (.fn 60) [slv 1 true nn (l.map iv)] []=some (.ret (.slr 1 0 0 l.length),[.live 1 true false ((l.map negI).map iv)]):=r_Out' l nn hl _ _ (fun e=>(hne e).elim) (fun _=>rfl)
theorem hi_ne{l:List Int}(h:l≠[]):hasImm 8 (.imm 1 true (l.map iv))=true:=by
 cases l with
 |nil=>exact(h rfl).elim
 |cons x l=>rfl
theorem r_Grant{s:BStore}{l:List Int}{nn:Bool}{most least:Int}(hcl:l.length=s.cons.length)(hl:l.length≤1000)(hne:l≠[]):om'.call (.fn 21) [.agg s.cells,slv 1 true nn (l.map iv),.int .i64 most,.int .i64 least] []=
 some (.ret (.slr 1 0 0 l.length),[.live 1 true false ((grantAll grantR s.cons l most least).map iv)]):=by
 have h1:=r_In1 nn hl hne
 have h2:=r_Out1 nn hl hne
 have k2:=grantR_length (cs:=s.cons) (l:=l.map posI) (by simpa using hcl) most
 have k3:=grantR_length (cs:=s.cons) (l:=l.map negI) (by simpa using hcl) least
 rw[List.length_map]at k2 k3
 have hgn:grantR s.cons (l.map posI) most≠[]:=fun e=>hne (List.length_eq_zero_iff.1 (by rw[←k2,e];rfl))
 have h4:=r_both' (grantR s.cons (l.map posI) most) (grantR s.cons (l.map negI) least) true true (by omega) (by omega) _ _ (fun e=>(hgn e).elim) (fun _=>rfl)
 rw[slv_true,slv_true,k2]at h4
 have t1:((l.map posI).map iv).take l.length=(l.map posI).map iv:=List.take_of_length_le (by simp)
 have t2:((l.map negI).map iv).take l.length=(l.map negI).map iv:=List.take_of_length_le (by simp)
 have t3:((grantR s.cons (l.map posI) most).map iv).take l.length=(grantR s.cons (l.map posI) most).map iv:=List.take_of_length_le (by simp[k2])
 have t4:((grantR s.cons (l.map negI) least).map iv).take l.length=(grantR s.cons (l.map negI) least).map iv:=List.take_of_length_le (by simp[k3])
 have i1:=hi_ne (map_ne (f:=posI) hne)
 have i2:=hi_ne (map_ne (f:=negI) hne)
 have hpl:(l.map posI).length≤maxLen:=by simp[maxLen];omega
 have hnl:(l.map negI).length≤maxLen:=by simp[maxLen];omega
 by_cases q1:sumF (l.map posI) 0≤most
 ·have g1:=r_grant1 (s:=s) (nn:=true) hpl q1
  have e1:grantR s.cons (l.map posI) most=l.map posI:=by simp[grantR,q1]
  rw[slv_true]at g1
  rw[e1]at h4
  by_cases q2:sumF (l.map negI) 0≤least
  ·have g2:=r_grant1 (s:=s) (nn:=true) hnl q2
   have e2:grantR s.cons (l.map negI) least=l.map negI:=by simp[grantR,q2]
   rw[slv_true]at g2
   rw[e2]at h4
   (refine ce Tryz.func21 ?_;simp only[Tryz.f21];(have hb:=trivial;with_reducible repeat' (first|simp only[hb,Va.down,seval,TY21.down,h1,h2,h4,g1,g2,k2,k3,t1,t2,t3,t4,i1,i2]|refine fsp ?_ ?_<;>intro hb|refine fdl ?_|fail)))
   all_goals (unfold grantAll;rw[e1,e2])
  ·obtain⟨w2,g2⟩:=r_grant2 (s:=s) (nn:=true) (l:=l.map negI) (by simpa using hcl) (by simpa using hl) (map_ne hne) q2
   rw[slv_true,List.length_map]at g2
   (refine ce Tryz.func21 ?_;simp only[Tryz.f21];(have hb:=trivial;with_reducible repeat' (first|simp only[hb,Va.down,seval,TY21.down,h1,h2,h4,g1,g2,k2,k3,t1,t2,t3,t4,i1,i2]|refine fsp ?_ ?_<;>intro hb|refine fdl ?_|fail)))
   all_goals (unfold grantAll;rw[e1])
 ·obtain⟨w1,g1⟩:=r_grant2 (s:=s) (nn:=true) (l:=l.map posI) (by simpa using hcl) (by simpa using hl) (map_ne hne) q1
  rw[slv_true,List.length_map]at g1
  by_cases q2:sumF (l.map negI) 0≤least
  ·have g2:=r_grant1 (s:=s) (nn:=true) hnl q2
   have e2:grantR s.cons (l.map negI) least=l.map negI:=by simp[grantR,q2]
   rw[slv_true]at g2
   rw[e2]at h4
   (refine ce Tryz.func21 ?_;simp only[Tryz.f21];(have hb:=trivial;with_reducible repeat' (first|simp only[hb,Va.down,seval,TY21.down,h1,h2,h4,g1,g2,k2,k3,t1,t2,t3,t4,i1,i2]|refine fsp ?_ ?_<;>intro hb|refine fdl ?_|fail)))
   all_goals (unfold grantAll;rw[e2])
  ·obtain⟨w2,g2⟩:=r_grant2 (s:=s) (nn:=true) (l:=l.map negI) (by simpa using hcl) (by simpa using hl) (map_ne hne) q2
   rw[slv_true,List.length_map]at g2
   (refine ce Tryz.func21 ?_;simp only[Tryz.f21];(have hb:=trivial;with_reducible repeat' (first|simp only[hb,Va.down,seval,TY21.down,h1,h2,h4,g1,g2,k2,k3,t1,t2,t3,t4,i1,i2]|refine fsp ?_ ?_<;>intro hb|refine fdl ?_|fail)))
   all_goals rfl
theorem r_Grant_nil{s:BStore}{nn:Bool}{most least:Int}(hm:0≤most)(hm':0≤least):om'.call (.fn 21) [.agg s.cells,slv 1 true nn [],.int .i64 most,.int .i64 least] []=some (.ret .nils,[]):=by
 have g:∀m:Int,0≤m→om'.call (.fn 58) [.agg s.cells,.nils,.int .i64 m] []=some (.ret .nils,[]):=fun m hm=>by
  have:=r_grant1 (s:=s) (l:=[]) (nn:=false) (most:=m) (by simp) (by simpa [sumF]using hm)
  rwa[List.map_nil,slv_nil]at this
 have h1:=r_In' [] nn (by simp) _ _ (fun _=>rfl) (fun e=>(e rfl).elim)
 have h2:=r_Out' [] nn (by simp) _ _ (fun _=>rfl) (fun e=>(e rfl).elim)
 have h3:=g most hm
 have h3':=g least hm'
 have h4:=r_both' [] [] false false (by simp) (by simp) _ _ (fun _=>rfl) (fun e=>(e rfl).elim)
 rw[List.map_nil]at h1 h2
 rw[List.map_nil,slv_nil]at h4
 (refine ce Tryz.func21 ?_;simp only[Tryz.f21];(have hb:=trivial;with_reducible repeat' (first|simp only[hb,Va.down,seval,TY21.down,h1,h2,h3,h3',h4]|refine fsp ?_ ?_<;>intro hb|refine fd ?_|fail)))
theorem storeB_len'{s:BStore}(h:storeB s=true):s.cons.length≤8:=by
 simp only[storeB,Bool.and_eq_true,decide_eq_true_eq]at h
 omega
theorem kl_get(k:Nat)(v:AV)(g l:Heap)(j:Nat):(kl k v g++l)[g.length+j]?=l[j]?:=by rw[←kl_length k v g];exact hp_getk _ _ _
theorem OwnS.cell{k st:Nat}{fl:Bool}{rows:List (List AV)}{v:AV}{g:Heap}(h:OwnS k st fl rows v g):AV.isCell v=true:=by
 rcases h with⟨_,rfl⟩|⟨b,w,rfl,_⟩<;>rfl
theorem OwnS.acells{k st:Nat}{fl:Bool}{rows:List (List AV)}{v:AV}{g:Heap}(h:OwnS k st fl rows v g):acells v=[v]:=by
 rcases h with⟨_,rfl⟩|⟨b,w,rfl,_⟩<;>rfl
structure BTrade where
 hour:Int
 back:Int
 frm:Int
 to:Int
 amount:Int
def BTrade.cells(t:BTrade):List AV:=[.int .i64 t.hour,.int .i64 t.back,.int .i64 t.frm,.int .i64 t.to,.int .i64 t.amount]
structure BHour where
 inn:Int
 out:Int
 flowIn:Int
 flowOut:Int
def BHour.cells(h:BHour):List AV:=[.int .i64 h.inn,.int .i64 h.out,.int .i64 h.flowIn,.int .i64 h.flowOut]
structure BDay where
 nh:Bool
 hours:List BHour
 nn:Bool
 noms:List BNom
 nt:Bool
 trades:List BTrade
abbrev BDay.cells(d:BDay):List AV:=[slv 4 true d.nh (d.hours.map BHour.cells),slv 4 true d.nn (d.noms.map BNom.cells),slv 5 true d.nt (d.trades.map BTrade.cells)]
/-- The cells of an hour under way. -/
abbrev rc(s:BStore)(d:BDay)(hr:Int)(gv:AV)(own fuel:Int)(lv ov wv av fv rv:AV):List AV:=[.int .i64 s.space,.int .i64 s.inn,.int .i64 s.out,.int .i64 s.lead,.int .i64 s.fuel,slv 11 false s.nn (s.cons.map BCon.cells),slv 4 true d.nh (d.hours.map BHour.cells),slv 4 true d.nn (d.noms.map BNom.cells),slv 5 true d.nt (d.trades.map BTrade.cells),.int .i64 hr,gv,.int .i64 own,.int .i64 fuel,lv,ov,wv,av,fv,rv]
def gI(l:List Int)(i:Int):Int:=(l[i.toNat]?).getD 0
def sI(l:List Int)(i v:Int):List Int:=l.set i.toNat v
def inL(n:Nat)(i:Int):Prop:=0≤i∧i<n
theorem inL.toNat{n:Nat}{i:Int}(h:inL n i):i.toNat<n:=by unfold inL at h;omega
theorem sI_length(l:List Int)(i v:Int):(sI l i v).length=l.length:=by simp[sI]
theorem gI_at{l:List Int}{i:Int}(h:i.toNat<l.length):l[i.toNat]?=some (gI l i):=by
 simp[gI,h]
theorem sI_map(l:List Int)(i v:Int):(l.map iv).set i.toNat [.int .i64 v]=(sI l i v).map iv:=by
 simp[sI,iv,List.map_set]
theorem h_room{s:BStore}{d:BDay}{fl w:Bool}{h:Heap}{b bg:Nat}{hr own fuel i:Int}{lv ov wv av fv rv:AV}{G:List Int}{n:Nat}{fl2 w2:Bool}{c:BCon}(hn:G.length=n)
 (hB:h[b]?=some (.live 19 fl w [(rc s d hr (.slr 1 bg 0 n) own fuel lv ov wv av fv rv)])) (hg:h[bg]?=some (.live 1 fl2 w2 (G.map iv))) (hi:inL n i) (hc:s.cons[i.toNat]?=some c):
 om'.call (.sh 130) [.ptr b 0 0,.int .i64 i] h=some (.ret (.int .i64 (IntKind.i64.wrap (c.space-gI G i))),h):=by
 subst hn
 have h1:=gI_at hi.toNat
 have h2:(0≤i)=True:=eq_true hi.1
 have h3:(i<(G.length:Int))=True:=eq_true hi.2
 (refine csh Tryz.func130 ?_;simp only[Tryz.f130];(have hb:=trivial;with_reducible repeat' (first|simp only[hb,Vb.down,seval,TY130.down,hB,hg,h1,h2,h3,hc,iv,BCon.cells]|refine fsp ?_ ?_<;>intro hb|refine fd ?_|fail)))
theorem h_hour{s:BStore}{d:BDay}{fl w:Bool}{h:Heap}{b:Nat}{hr own fuel:Int}{gv lv ov wv av fv rv:AV}{x:BHour}
 (hB:h[b]?=some (.live 19 fl w [(rc s d hr gv own fuel lv ov wv av fv rv)])) (h2:0≤hr) (hx:d.hours[hr.toNat]?=some x):
 om'.call (.sh 133) [.ptr b 0 0] h=some (.ret (.agg x.cells),h++[.live 4 true true [x.cells]]):=by
 have h2':(0≤hr)=True:=eq_true h2
 have hA:=get_app hB
 (refine csh Tryz.func133 ?_;simp only[Tryz.f133];(have hb:=trivial;with_reducible repeat' (first|simp only[hb,Vb.down,seval,TY133.down,hB,hA,h2',hx,BHour.cells]|refine fsp ?_ ?_<;>intro hb|refine fd ?_|fail)))
theorem quietH_set{g:Heap}(h:quietH g=true)(b:Nat):quietH (g.set b .dead)=true:=by
 simp only[quietH,List.all_eq_true]at h ⊢
 intro c hc
 rcases List.mem_or_eq_of_mem_set hc with h1|rfl
 ·exact h c h1
 ·rfl
end Go.Proofs.YtdbiogihimdpcaaGreatDoor
