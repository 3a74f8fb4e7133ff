/- The functions of the layer, walked. -/
import Derived.Test.YtdbiogihimdpcaaGreatDoorPartAB
import Derived.Test.YtdbiogihimdpcaaGreatDoorLibD
open List renaming replicate→aa9,zipWith→acI,length_map→acL,mem_of_getElem?→acQ,getElem?_eq_getElem→acR,getElem?_eq_some_iff→acV,take_of_length_le→adG,replicate_succ→adJ,getElem?_append_right→adL,length_eq_zero_iff→adO,getElem?_eq_none→adP,drop_eq_getElem_cons→adQ,map_append→aeY,length_set→ajX
open Int renaming lt_irrefl→abQ,le_refl→adM,reducePow→adN,natCast_zero→ae4,toNat_natCast→ajY
open Nat renaming sub_self→adK,le_succ_of_le→aj0
open Option renaming getD_some→ajZ
set_option linter.unusedSimpArgs false
set_option linter.unusedVariables false
namespace Go.Proofs.YtdbiogihimdpcaaGreatDoor
open Go.Ev Go
set_option maxRecDepth 100000
set_option maxHeartbeats 16000000
theorem Om:IntKind.i64.wrap 0=0:=by decide
theorem Rl{l:List Int}(hl:l.length≤1000)(hne:l≠[]):Bl.call (.fn 102) [.imm 1 true (l.map iv)] []=some (.ret (.slr 1 0 0 l.length),[.live 1 true false (l.map iv)]):=by
 cases l with
 |nil=>exact(hne rfl).elim
 |cons x l=>
  have h39:(l.length+1≤549755813888)=True:=eq_true (by simp at hl;omega)
  (refine ce Tryz.func102 ?_;simp only[Tryz.f102];(have hb:=trivial;with_reducible repeat' (first|simp only[hb,Va.down,seval,zJ.down,acL,h39,iv]|refine Ai ?_ ?_<;>intro hb|refine fd ?_|fail)))
def Jf(c:Ah)(w:Int):Int:=if c.firm=true then w else 0
def amW(c:Ah)(w:Int):Int:=IntKind.i64.wrap (w-Jf c w)
theorem Wm{s:Ac}{l:List Int}{nn:Bool}{i:Nat}{c:Ah}{w:Int}(hc:s.cons[i]?=some c)(hw:l[i]?=some w):Bl.call (.fn 125) [.int .i64 i,.ptr 0 0 0,.ptr 1 0 0] [.live 6 false false [s.cells],.live 1 false false [[Az 1 true nn (l.map iv)]]]=
 some (.ret (.int .i64 (Jf c w)),[.live 6 false false [s.cells],.live 1 false false [[Az 1 true nn (l.map iv)]]]):=by
 (refine ce Tryz.func125 ?_;simp only[Tryz.f125];(have hb:=trivial;with_reducible repeat' (first|simp only[hb,Va.down,seval,au2.down,hc,hw,Ah.cells,iv]|refine Ai ?_ ?_<;>intro hb|refine fd ?_|fail)))
 all_goals simp[Jf,hb]
theorem xK{s:Ac}{l:List Int}{nn:Bool}{i:Nat}{c:Ah}{w:Int}(hc:s.cons[i]?=some c)(hw:l[i]?=some w):Bl.call (.fn 126) [.int .i64 i,.ptr 0 0 0,.ptr 1 0 0] [.live 1 false false [[Az 1 true nn (l.map iv)]],.live 1 false false [[.func (.func 125) [] [.ptr 2 0 0,.ptr 0 0 0]]],.live 6 false false [s.cells]]=
 some (.ret (.int .i64 (amW c w)),[.live 1 false false [[Az 1 true nn (l.map iv)]],.live 1 false false [[.func (.func 125) [] [.ptr 2 0 0,.ptr 0 0 0]]],.live 6 false false [s.cells]]):=by
 have h1:=Wm (nn:=nn) hc hw
 (refine ce Tryz.func126 ?_;simp only[Tryz.f126];(have hb:=trivial;with_reducible repeat' (first|simp only[hb,Va.down,seval,auI.down,hw,iv,h1]|refine Ai ?_ ?_<;>intro hb|refine fd ?_|fail)))
 all_goals rfl
theorem pR{p:List Int}{n i:Nat}(hp:p.length=i)(hi:i<n)(v:Int):((p++aa9 (n-i) 0).map iv).set i [.int .i64 v]=(p++(v::aa9 (n-(i+1)) 0)).map iv:=by
 obtain⟨m,rfl⟩:∃m,n=i+1+m:=⟨n-(i+1),by omega⟩
 have e1:i+1+m-i=m+1:=by omega
 have e2:i+1+m-(i+1)=m:=by omega
 rw[e1,e2,adJ]
 subst hp
 simp[iv]
theorem pO{p:List Int}{n i:Nat}(hp:p.length=i)(hi:i<n):(p++aa9 (n-i) 0)[i]?=some (0:Int):=by
 rw[adL (by omega),hp,adK,List.getElem?_replicate,if_pos (by omega)]
theorem pX{α:Type}{p:List α}{i:Nat}(hp:p.length=i)(v:α)(l:List α):(p++(v::l))[i]?=some v:=by
 rw[adL (by omega),hp,adK];rfl
theorem afW{amount:Int}{l:List Int}{nn:Bool}{g:Nat}{w:Int→Int}{s:Ac}{wl:List Int}{wn:Bool}(hp:∀x∈l,Bl.call (.fn g) (.int .i64 x::[.ptr 0 0 0,.ptr 1 0 0]) [.live 6 false false [s.cells],.live 1 false false [[Az 1 true wn (wl.map iv)]]]=some (.ret (.int .i64 (w x)),[.live 6 false false [s.cells],.live 1 false false [[Az 1 true wn (wl.map iv)]]]))(hl:l.length≤1000):
 Bl.call (.fn 127) [.int .i64 amount,Az 1 true nn (l.map iv),.func (.func g) [] [.ptr 0 0 0,.ptr 1 0 0]] [.live 6 false false [s.cells],.live 1 false false [[Az 1 true wn (wl.map iv)]]]=some (.ret (.slr 1 2 0 l.length),[.live 6 false false [s.cells],.live 1 false false [[Az 1 true wn (wl.map iv)]]]++[.live 1 true (decide (0<Ax (l.map w) 0)) ((Dn amount (Ax (l.map w) 0) (l.map w) 0 0).map iv)]):=by
 have hl':l.length≤maxLen:=by unfold maxLen;omega
 have h40:((l.length:Int)≤1099511627776)=True:=eq_true (by omega)
 (refine ce Tryz.func127 ?_;simp only[Tryz.f127];(have hb:=trivial;with_reducible repeat' (first|simp only[hb,Va.down,seval,Jh.down,acL]|refine Ai ?_ ?_<;>intro hb|refine fd ?_|fail)))
 refine Dm (Sj 62 l (fun i (zz:Int) t h=>t 0=.int .i64 amount∧t 1=Az 1 true nn (l.map iv)∧t 2=.func (.func g) [] [.ptr 0 0 0,.ptr 1 0 0]∧t 15=Az 1 true nn (l.map iv)∧t 16=.int .i64 l.length∧t 17=.int .i64 i∧t 7=.int .i64 zz∧h=[.live 6 false false [s.cells],.live 1 false false [[Az 1 true wn (wl.map iv)]]]) (fun rest zz=>Ax (rest.map w) zz) (fun r e t h=>e=.exit 0∧t 0=.int .i64 amount∧t 1=Az 1 true nn (l.map iv)∧t 2=.func (.func g) [] [.ptr 0 0 0,.ptr 1 0 0]∧t 7=.int .i64 r∧h=[.live 6 false false [s.cells],.live 1 false false [[Az 1 true wn (wl.map iv)]]]) ?_ ?_ (0) _ _ ?_) (fun e t h hk=>?_)
 ·rintro s' t h Q' kQ ⟨h0,h1,h2,h15,h16,h17,h7,rfl⟩
  (have hb:=trivial;with_reducible repeat' (first|simp only[hb,Va.down,seval,Jh.down,h0,h1,h2,h15,h16,h17,h7,abQ,decide_false]|refine Ai ?_ ?_<;>intro hb|refine fd ?_|fail))
  exact kQ _ _ _ ⟨rfl,by simp[up,h0],by simp[up,h1],by simp[up,h2],by simp[up,h7,Ax],rfl⟩
 ·rintro x rest i s' t h J Q' kJ kQ hx hi ⟨h0,h1,h2,h15,h16,h17,h7,rfl⟩
  have hd:decide ((i:Int)<(l.length:Int))=true:=decide_eq_true (by omega)
  have hw:=Ak hi hl'
  have hpx:=hp x (acQ hx)
  (have hb:=trivial;with_reducible repeat' (first|simp only[hb,Va.down,seval,Jh.down,h0,h1,h2,h15,h16,h17,h7,hd,hx,hw,iv,hpx]|refine Ai ?_ ?_<;>intro hb|refine fd ?_|fail))
  (refine Aq (kJ _ _ (IntKind.i64.wrap (s'+w x)) ⟨?_,?_,?_,?_,?_,?_,?_,rfl⟩ ?_);(simp[up,h0]);(simp[up,h1]);(simp[up,h2]);(simp[up,h15]);(simp[up,h16]);(simp[up]);(simp[up,h7]);(simp[Ax]))
 ·exact⟨by simp[up,Dj],by simp[up,Dj],by simp[up,Dj],by simp[up,Dj],by simp[up,Dj],by simp[up],by simp[up,Dj],rfl⟩
 ·obtain⟨rfl,h0,h1,h2,h7,rfl⟩:=hk
  (have hb:=trivial;with_reducible repeat' (first|simp only[hb,Va.down,seval,Jh.down,h0,h1,h2,h7,h40,iv,adM,adN]|refine Ai ?_ ?_<;>intro hb|refine fd ?_|fail))
  refine Dm (Sj 62 l (fun i (zz:List Int × Int × Int) t h=>t 0=.int .i64 amount∧t 2=.func (.func g) [] [.ptr 0 0 0,.ptr 1 0 0]∧t 7=.int .i64 (Ax (l.map w) 0)∧t 10=.slr 1 2 0 l.length∧t 30=Az 1 true nn (l.map iv)∧t 31=.int .i64 l.length∧t 32=.int .i64 i∧t 11=.int .i64 zz.2.1∧t 12=.int .i64 zz.2.2∧h=[.live 6 false false [s.cells],.live 1 false false [[Az 1 true wn (wl.map iv)]]]++[.live 1 true (!zz.1.isEmpty&&decide (0<Ax (l.map w) 0)) ((zz.1++aa9 (l.length-i) 0).map iv)]∧zz.1.length=i∧(0<Ax (l.map w) 0∨zz.2.2=0)) (fun rest zz=>zz.1++Dn amount (Ax (l.map w) 0) (rest.map w) zz.2.1 zz.2.2) (fun r e t h=>e=.exit 2∧t 10=.slr 1 2 0 l.length∧h=[.live 6 false false [s.cells],.live 1 false false [[Az 1 true wn (wl.map iv)]]]++[.live 1 true (!l.isEmpty&&decide (0<Ax (l.map w) 0)) (r.map iv)]) ?_ ?_ ([],0,0) _ _ ?_) (fun e t h hk=>?_)
  ·rintro⟨p,so,got⟩ t h Q' kQ ⟨h0,h2,h7,h10,h30,h31,h32,h11,h12,rfl,hpl,hgot⟩
   try dsimp only at *
   (have hb:=trivial;with_reducible repeat' (first|simp only[hb,Va.down,seval,Jh.down,h0,h2,h7,h10,h30,h31,h32,h11,h12,abQ,decide_false]|refine Ai ?_ ?_<;>intro hb|refine fd ?_|fail))
   have hpe:p.isEmpty=l.isEmpty:=by cases p<;>cases l<;>simp at hpl ⊢
   exact kQ _ _ _ ⟨rfl,by simp[up,h10],by simp[Dn,hpe]⟩
  ·rintro x rest i ⟨p,so,got⟩ t h J Q' kJ kQ hx hi ⟨h0,h2,h7,h10,h30,h31,h32,h11,h12,rfl,hpl,hgot⟩
   have hd:decide ((i:Int)<(l.length:Int))=true:=decide_eq_true (by omega)
   have hw:=Ak hi hl'
   try dsimp only at *
   have hpx:=hp x (acQ hx)
   have hset:=pR hpl hi
   have hget:=pO hpl hi
   have hmid:=fun(v:Int) l=>pX hpl v l
   have hcon:p++(0:Int)::aa9 (l.length-(i+1)) 0=p++aa9 (l.length-i) 0:=by
    rw[show l.length-i=(l.length-(i+1))+1 by omega,adJ]
   have hii:((i:Int)<(l.length:Int))=True:=eq_true (by omega)
   by_cases hq:0<Ax (l.map w) 0
   ·have hq1:decide (0<Ax (l.map w) 0)=true:=by simpa using hq
    have hq2:(Ax (l.map w) 0=0)=False:=eq_false (by omega)
    (have hb:=trivial;with_reducible repeat' (first|simp only[hb,Va.down,seval,Jh.down,h0,h2,h7,h10,h30,h31,h32,h11,h12,hd,hx,hw,hpx,hset,hget,hmid,hq1,hq2,hii,iv]|refine Ai ?_ ?_<;>intro hb|refine fd ?_|fail))
    all_goals (refine Aq (kJ _ _ (p++[Ey amount (Ax (l.map w) 0) (IntKind.i64.wrap (so+w x)) got],IntKind.i64.wrap (so+w x),IntKind.i64.wrap (got+Ey amount (Ax (l.map w) 0) (IntKind.i64.wrap (so+w x)) got)) ⟨?_,?_,?_,?_,?_,?_,?_,?_,?_,by simp[Ey,hq],by simp[hpl],.inl hq⟩ ?_);(simp[up,h0]);(simp[up,h2]);(simp[up,h7]);(simp[up,h10]);(simp[up,h30]);(simp[up,h31]);(simp[up]);(simp[up,h11,Ey,hq,Om]);(simp[up,h12,Ey,hq,Om]);(simp[Dn]))
   ·obtain rfl:got=0:=by rcases hgot with h|h;exact(hq h).elim;exact h
    have hq1:decide (0<Ax (l.map w) 0)=false:=by simpa using hq
    (have hb:=trivial;with_reducible repeat' (first|simp only[hb,Va.down,seval,Jh.down,h0,h2,h7,h10,h30,h31,h32,h11,h12,hd,hx,hw,hpx,hq1,hii,iv]|refine Ai ?_ ?_<;>intro hb|refine fd ?_|fail))
    all_goals (refine Aq (kJ _ _ (p++[Ey amount (Ax (l.map w) 0) (IntKind.i64.wrap (so+w x)) 0],IntKind.i64.wrap (so+w x),IntKind.i64.wrap (0+Ey amount (Ax (l.map w) 0) (IntKind.i64.wrap (so+w x)) 0)) ⟨?_,?_,?_,?_,?_,?_,?_,?_,?_,by simp[Ey,hq,hcon],by simp[hpl],.inr (by simp[Ey,hq];rfl)⟩ ?_);(simp[up,h0]);(simp[up,h2]);(simp[up,h7]);(simp[up,h10]);(simp[up,h30]);(simp[up,h31]);(simp[up]);(simp[up,h11,Ey,hq,Om]);(simp[up,h12,Ey,hq,Om]);(simp[Dn]))
  ·exact⟨by simp[up,Dj,h0,h1,h2,h7],by simp[up,Dj,h0,h1,h2,h7],by simp[up,Dj,h0,h1,h2,h7],by simp[up,Dj,h0,h1,h2,h7],by simp[up,Dj,h0,h1,h2,h7],by simp[up,Dj,h0,h1,h2,h7],by simp[up],by simp[up,Dj,h0,h1,h2,h7],by simp[up,Dj,h0,h1,h2,h7],by simp[iv],rfl,.inr rfl⟩
  ·obtain⟨rfl,h10,rfl⟩:=hk
   have hw:(!l.isEmpty&&decide (0<Ax (l.map w) 0))=decide (0<Ax (l.map w) 0):=by cases l<;>simp[Ax]
   (have hb:=trivial;with_reducible repeat' (first|simp only[hb,Va.down,seval,Jh.down,h10,hw]|refine Ai ?_ ?_<;>intro hb|refine fd ?_|fail))
theorem agB{amount:Int}{l:List Int}{nn:Bool}{g:Nat}{w:Int→Int}{s:Ac}{wl:List Int}{wn:Bool}{q:Nat}(hp:∀x∈l,Bl.call (.fn g) (.int .i64 x::[.ptr 0 0 0,.ptr 1 0 0]) [.live 1 false false [[Az 1 true wn (wl.map iv)]],.live 1 false false [[.func (.func q) [] [.ptr 2 0 0,.ptr 0 0 0]]],.live 6 false false [s.cells]]=some (.ret (.int .i64 (w x)),[.live 1 false false [[Az 1 true wn (wl.map iv)]],.live 1 false false [[.func (.func q) [] [.ptr 2 0 0,.ptr 0 0 0]]],.live 6 false false [s.cells]]))(hl:l.length≤1000):
 Bl.call (.fn 127) [.int .i64 amount,Az 1 true nn (l.map iv),.func (.func g) [] [.ptr 0 0 0,.ptr 1 0 0]] [.live 1 false false [[Az 1 true wn (wl.map iv)]],.live 1 false false [[.func (.func q) [] [.ptr 2 0 0,.ptr 0 0 0]]],.live 6 false false [s.cells]]=some (.ret (.slr 1 3 0 l.length),[.live 1 false false [[Az 1 true wn (wl.map iv)]],.live 1 false false [[.func (.func q) [] [.ptr 2 0 0,.ptr 0 0 0]]],.live 6 false false [s.cells]]++[.live 1 true (decide (0<Ax (l.map w) 0)) ((Dn amount (Ax (l.map w) 0) (l.map w) 0 0).map iv)]):=by
 have hl':l.length≤maxLen:=by unfold maxLen;omega
 have h40:((l.length:Int)≤1099511627776)=True:=eq_true (by omega)
 (refine ce Tryz.func127 ?_;simp only[Tryz.f127];(have hb:=trivial;with_reducible repeat' (first|simp only[hb,Va.down,seval,Jh.down,acL]|refine Ai ?_ ?_<;>intro hb|refine fd ?_|fail)))
 refine Dm (Sj 62 l (fun i (zz:Int) t h=>t 0=.int .i64 amount∧t 1=Az 1 true nn (l.map iv)∧t 2=.func (.func g) [] [.ptr 0 0 0,.ptr 1 0 0]∧t 15=Az 1 true nn (l.map iv)∧t 16=.int .i64 l.length∧t 17=.int .i64 i∧t 7=.int .i64 zz∧h=[.live 1 false false [[Az 1 true wn (wl.map iv)]],.live 1 false false [[.func (.func q) [] [.ptr 2 0 0,.ptr 0 0 0]]],.live 6 false false [s.cells]]) (fun rest zz=>Ax (rest.map w) zz) (fun r e t h=>e=.exit 0∧t 0=.int .i64 amount∧t 1=Az 1 true nn (l.map iv)∧t 2=.func (.func g) [] [.ptr 0 0 0,.ptr 1 0 0]∧t 7=.int .i64 r∧h=[.live 1 false false [[Az 1 true wn (wl.map iv)]],.live 1 false false [[.func (.func q) [] [.ptr 2 0 0,.ptr 0 0 0]]],.live 6 false false [s.cells]]) ?_ ?_ (0) _ _ ?_) (fun e t h hk=>?_)
 ·rintro s' t h Q' kQ ⟨h0,h1,h2,h15,h16,h17,h7,rfl⟩
  (have hb:=trivial;with_reducible repeat' (first|simp only[hb,Va.down,seval,Jh.down,h0,h1,h2,h15,h16,h17,h7,abQ,decide_false]|refine Ai ?_ ?_<;>intro hb|refine fd ?_|fail))
  exact kQ _ _ _ ⟨rfl,by simp[up,h0],by simp[up,h1],by simp[up,h2],by simp[up,h7,Ax],rfl⟩
 ·rintro x rest i s' t h J Q' kJ kQ hx hi ⟨h0,h1,h2,h15,h16,h17,h7,rfl⟩
  have hd:decide ((i:Int)<(l.length:Int))=true:=decide_eq_true (by omega)
  have hw:=Ak hi hl'
  have hpx:=hp x (acQ hx)
  (have hb:=trivial;with_reducible repeat' (first|simp only[hb,Va.down,seval,Jh.down,h0,h1,h2,h15,h16,h17,h7,hd,hx,hw,iv,hpx]|refine Ai ?_ ?_<;>intro hb|refine fd ?_|fail))
  (refine Aq (kJ _ _ (IntKind.i64.wrap (s'+w x)) ⟨?_,?_,?_,?_,?_,?_,?_,rfl⟩ ?_);(simp[up,h0]);(simp[up,h1]);(simp[up,h2]);(simp[up,h15]);(simp[up,h16]);(simp[up]);(simp[up,h7]);(simp[Ax]))
 ·exact⟨by simp[up,Dj],by simp[up,Dj],by simp[up,Dj],by simp[up,Dj],by simp[up,Dj],by simp[up],by simp[up,Dj],rfl⟩
 ·obtain⟨rfl,h0,h1,h2,h7,rfl⟩:=hk
  (have hb:=trivial;with_reducible repeat' (first|simp only[hb,Va.down,seval,Jh.down,h0,h1,h2,h7,h40,iv,adM,adN]|refine Ai ?_ ?_<;>intro hb|refine fd ?_|fail))
  refine Dm (Sj 62 l (fun i (zz:List Int × Int × Int) t h=>t 0=.int .i64 amount∧t 2=.func (.func g) [] [.ptr 0 0 0,.ptr 1 0 0]∧t 7=.int .i64 (Ax (l.map w) 0)∧t 10=.slr 1 3 0 l.length∧t 30=Az 1 true nn (l.map iv)∧t 31=.int .i64 l.length∧t 32=.int .i64 i∧t 11=.int .i64 zz.2.1∧t 12=.int .i64 zz.2.2∧h=[.live 1 false false [[Az 1 true wn (wl.map iv)]],.live 1 false false [[.func (.func q) [] [.ptr 2 0 0,.ptr 0 0 0]]],.live 6 false false [s.cells]]++[.live 1 true (!zz.1.isEmpty&&decide (0<Ax (l.map w) 0)) ((zz.1++aa9 (l.length-i) 0).map iv)]∧zz.1.length=i∧(0<Ax (l.map w) 0∨zz.2.2=0)) (fun rest zz=>zz.1++Dn amount (Ax (l.map w) 0) (rest.map w) zz.2.1 zz.2.2) (fun r e t h=>e=.exit 2∧t 10=.slr 1 3 0 l.length∧h=[.live 1 false false [[Az 1 true wn (wl.map iv)]],.live 1 false false [[.func (.func q) [] [.ptr 2 0 0,.ptr 0 0 0]]],.live 6 false false [s.cells]]++[.live 1 true (!l.isEmpty&&decide (0<Ax (l.map w) 0)) (r.map iv)]) ?_ ?_ ([],0,0) _ _ ?_) (fun e t h hk=>?_)
  ·rintro⟨p,so,got⟩ t h Q' kQ ⟨h0,h2,h7,h10,h30,h31,h32,h11,h12,rfl,hpl,hgot⟩
   try dsimp only at *
   (have hb:=trivial;with_reducible repeat' (first|simp only[hb,Va.down,seval,Jh.down,h0,h2,h7,h10,h30,h31,h32,h11,h12,abQ,decide_false]|refine Ai ?_ ?_<;>intro hb|refine fd ?_|fail))
   have hpe:p.isEmpty=l.isEmpty:=by cases p<;>cases l<;>simp at hpl ⊢
   exact kQ _ _ _ ⟨rfl,by simp[up,h10],by simp[Dn,hpe]⟩
  ·rintro x rest i ⟨p,so,got⟩ t h J Q' kJ kQ hx hi ⟨h0,h2,h7,h10,h30,h31,h32,h11,h12,rfl,hpl,hgot⟩
   have hd:decide ((i:Int)<(l.length:Int))=true:=decide_eq_true (by omega)
   have hw:=Ak hi hl'
   try dsimp only at *
   have hpx:=hp x (acQ hx)
   have hset:=pR hpl hi
   have hget:=pO hpl hi
   have hmid:=fun(v:Int) l=>pX hpl v l
   have hcon:p++(0:Int)::aa9 (l.length-(i+1)) 0=p++aa9 (l.length-i) 0:=by
    rw[show l.length-i=(l.length-(i+1))+1 by omega,adJ]
   have hii:((i:Int)<(l.length:Int))=True:=eq_true (by omega)
   by_cases hq:0<Ax (l.map w) 0
   ·have hq1:decide (0<Ax (l.map w) 0)=true:=by simpa using hq
    have hq2:(Ax (l.map w) 0=0)=False:=eq_false (by omega)
    (have hb:=trivial;with_reducible repeat' (first|simp only[hb,Va.down,seval,Jh.down,h0,h2,h7,h10,h30,h31,h32,h11,h12,hd,hx,hw,hpx,hset,hget,hmid,hq1,hq2,hii,iv]|refine Ai ?_ ?_<;>intro hb|refine fd ?_|fail))
    all_goals (refine Aq (kJ _ _ (p++[Ey amount (Ax (l.map w) 0) (IntKind.i64.wrap (so+w x)) got],IntKind.i64.wrap (so+w x),IntKind.i64.wrap (got+Ey amount (Ax (l.map w) 0) (IntKind.i64.wrap (so+w x)) got)) ⟨?_,?_,?_,?_,?_,?_,?_,?_,?_,by simp[Ey,hq],by simp[hpl],.inl hq⟩ ?_);(simp[up,h0]);(simp[up,h2]);(simp[up,h7]);(simp[up,h10]);(simp[up,h30]);(simp[up,h31]);(simp[up]);(simp[up,h11,Ey,hq,Om]);(simp[up,h12,Ey,hq,Om]);(simp[Dn]))
   ·obtain rfl:got=0:=by rcases hgot with h|h;exact(hq h).elim;exact h
    have hq1:decide (0<Ax (l.map w) 0)=false:=by simpa using hq
    (have hb:=trivial;with_reducible repeat' (first|simp only[hb,Va.down,seval,Jh.down,h0,h2,h7,h10,h30,h31,h32,h11,h12,hd,hx,hw,hpx,hq1,hii,iv]|refine Ai ?_ ?_<;>intro hb|refine fd ?_|fail))
    all_goals (refine Aq (kJ _ _ (p++[Ey amount (Ax (l.map w) 0) (IntKind.i64.wrap (so+w x)) 0],IntKind.i64.wrap (so+w x),IntKind.i64.wrap (0+Ey amount (Ax (l.map w) 0) (IntKind.i64.wrap (so+w x)) 0)) ⟨?_,?_,?_,?_,?_,?_,?_,?_,?_,by simp[Ey,hq,hcon],by simp[hpl],.inr (by simp[Ey,hq];rfl)⟩ ?_);(simp[up,h0]);(simp[up,h2]);(simp[up,h7]);(simp[up,h10]);(simp[up,h30]);(simp[up,h31]);(simp[up]);(simp[up,h11,Ey,hq,Om]);(simp[up,h12,Ey,hq,Om]);(simp[Dn]))
  ·exact⟨by simp[up,Dj,h0,h1,h2,h7],by simp[up,Dj,h0,h1,h2,h7],by simp[up,Dj,h0,h1,h2,h7],by simp[up,Dj,h0,h1,h2,h7],by simp[up,Dj,h0,h1,h2,h7],by simp[up,Dj,h0,h1,h2,h7],by simp[up],by simp[up,Dj,h0,h1,h2,h7],by simp[up,Dj,h0,h1,h2,h7],by simp[iv],rfl,.inr rfl⟩
  ·obtain⟨rfl,h10,rfl⟩:=hk
   have hw:(!l.isEmpty&&decide (0<Ax (l.map w) 0))=decide (0<Ax (l.map w) 0):=by cases l<;>simp[Ax]
   (have hb:=trivial;with_reducible repeat' (first|simp only[hb,Va.down,seval,Jh.down,h10,hw]|refine Ai ?_ ?_<;>intro hb|refine fd ?_|fail))
theorem Oa{amount:Int}{l:List Int}{nn:Bool}{g:Nat}{w:Int→Int}  (hp:∀x∈l,Bl.call (.fn g) (.int .i64 x::[]) []=some (.ret (.int .i64 (w x)),[]))(hl:l.length≤1000):
 Bl.call (.fn 127) [.int .i64 amount,Az 1 true nn (l.map iv),.func (.func g) [] []] []=some (.ret (.slr 1 0 0 l.length),[]++[.live 1 true (decide (0<Ax (l.map w) 0)) ((Dn amount (Ax (l.map w) 0) (l.map w) 0 0).map iv)]):=by
 have hl':l.length≤maxLen:=by unfold maxLen;omega
 have h40:((l.length:Int)≤1099511627776)=True:=eq_true (by omega)
 (refine ce Tryz.func127 ?_;simp only[Tryz.f127];(have hb:=trivial;with_reducible repeat' (first|simp only[hb,Va.down,seval,Jh.down,acL]|refine Ai ?_ ?_<;>intro hb|refine fd ?_|fail)))
 refine Dm (Sj 62 l (fun i (zz:Int) t h=>t 0=.int .i64 amount∧t 1=Az 1 true nn (l.map iv)∧t 2=.func (.func g) [] []∧t 15=Az 1 true nn (l.map iv)∧t 16=.int .i64 l.length∧t 17=.int .i64 i∧t 7=.int .i64 zz∧h=[]) (fun rest zz=>Ax (rest.map w) zz) (fun r e t h=>e=.exit 0∧t 0=.int .i64 amount∧t 1=Az 1 true nn (l.map iv)∧t 2=.func (.func g) [] []∧t 7=.int .i64 r∧h=[]) ?_ ?_ (0) _ _ ?_) (fun e t h hk=>?_)
 ·rintro s' t h Q' kQ ⟨h0,h1,h2,h15,h16,h17,h7,rfl⟩
  (have hb:=trivial;with_reducible repeat' (first|simp only[hb,Va.down,seval,Jh.down,h0,h1,h2,h15,h16,h17,h7,abQ,decide_false]|refine Ai ?_ ?_<;>intro hb|refine fd ?_|fail))
  exact kQ _ _ _ ⟨rfl,by simp[up,h0],by simp[up,h1],by simp[up,h2],by simp[up,h7,Ax],rfl⟩
 ·rintro x rest i s' t h J Q' kJ kQ hx hi ⟨h0,h1,h2,h15,h16,h17,h7,rfl⟩
  have hd:decide ((i:Int)<(l.length:Int))=true:=decide_eq_true (by omega)
  have hw:=Ak hi hl'
  have hpx:=hp x (acQ hx)
  (have hb:=trivial;with_reducible repeat' (first|simp only[hb,Va.down,seval,Jh.down,h0,h1,h2,h15,h16,h17,h7,hd,hx,hw,iv,hpx]|refine Ai ?_ ?_<;>intro hb|refine fd ?_|fail))
  (refine Aq (kJ _ _ (IntKind.i64.wrap (s'+w x)) ⟨?_,?_,?_,?_,?_,?_,?_,rfl⟩ ?_);(simp[up,h0]);(simp[up,h1]);(simp[up,h2]);(simp[up,h15]);(simp[up,h16]);(simp[up]);(simp[up,h7]);(simp[Ax]))
 ·exact⟨by simp[up,Dj],by simp[up,Dj],by simp[up,Dj],by simp[up,Dj],by simp[up,Dj],by simp[up],by simp[up,Dj],rfl⟩
 ·obtain⟨rfl,h0,h1,h2,h7,rfl⟩:=hk
  (have hb:=trivial;with_reducible repeat' (first|simp only[hb,Va.down,seval,Jh.down,h0,h1,h2,h7,h40,iv,adM,adN]|refine Ai ?_ ?_<;>intro hb|refine fd ?_|fail))
  refine Dm (Sj 62 l (fun i (zz:List Int × Int × Int) t h=>t 0=.int .i64 amount∧t 2=.func (.func g) [] []∧t 7=.int .i64 (Ax (l.map w) 0)∧t 10=.slr 1 0 0 l.length∧t 30=Az 1 true nn (l.map iv)∧t 31=.int .i64 l.length∧t 32=.int .i64 i∧t 11=.int .i64 zz.2.1∧t 12=.int .i64 zz.2.2∧h=[]++[.live 1 true (!zz.1.isEmpty&&decide (0<Ax (l.map w) 0)) ((zz.1++aa9 (l.length-i) 0).map iv)]∧zz.1.length=i∧(0<Ax (l.map w) 0∨zz.2.2=0)) (fun rest zz=>zz.1++Dn amount (Ax (l.map w) 0) (rest.map w) zz.2.1 zz.2.2) (fun r e t h=>e=.exit 2∧t 10=.slr 1 0 0 l.length∧h=[]++[.live 1 true (!l.isEmpty&&decide (0<Ax (l.map w) 0)) (r.map iv)]) ?_ ?_ ([],0,0) _ _ ?_) (fun e t h hk=>?_)
  ·rintro⟨p,so,got⟩ t h Q' kQ ⟨h0,h2,h7,h10,h30,h31,h32,h11,h12,rfl,hpl,hgot⟩
   try dsimp only at *
   (have hb:=trivial;with_reducible repeat' (first|simp only[hb,Va.down,seval,Jh.down,h0,h2,h7,h10,h30,h31,h32,h11,h12,abQ,decide_false]|refine Ai ?_ ?_<;>intro hb|refine fd ?_|fail))
   have hpe:p.isEmpty=l.isEmpty:=by cases p<;>cases l<;>simp at hpl ⊢
   exact kQ _ _ _ ⟨rfl,by simp[up,h10],by simp[Dn,hpe]⟩
  ·rintro x rest i ⟨p,so,got⟩ t h J Q' kJ kQ hx hi ⟨h0,h2,h7,h10,h30,h31,h32,h11,h12,rfl,hpl,hgot⟩
   have hd:decide ((i:Int)<(l.length:Int))=true:=decide_eq_true (by omega)
   have hw:=Ak hi hl'
   try dsimp only at *
   have hpx:=hp x (acQ hx)
   have hset:=pR hpl hi
   have hget:=pO hpl hi
   have hmid:=fun(v:Int) l=>pX hpl v l
   have hcon:p++(0:Int)::aa9 (l.length-(i+1)) 0=p++aa9 (l.length-i) 0:=by
    rw[show l.length-i=(l.length-(i+1))+1 by omega,adJ]
   have hii:((i:Int)<(l.length:Int))=True:=eq_true (by omega)
   by_cases hq:0<Ax (l.map w) 0
   ·have hq1:decide (0<Ax (l.map w) 0)=true:=by simpa using hq
    have hq2:(Ax (l.map w) 0=0)=False:=eq_false (by omega)
    (have hb:=trivial;with_reducible repeat' (first|simp only[hb,Va.down,seval,Jh.down,h0,h2,h7,h10,h30,h31,h32,h11,h12,hd,hx,hw,hpx,hset,hget,hmid,hq1,hq2,hii,iv]|refine Ai ?_ ?_<;>intro hb|refine fd ?_|fail))
    all_goals (refine Aq (kJ _ _ (p++[Ey amount (Ax (l.map w) 0) (IntKind.i64.wrap (so+w x)) got],IntKind.i64.wrap (so+w x),IntKind.i64.wrap (got+Ey amount (Ax (l.map w) 0) (IntKind.i64.wrap (so+w x)) got)) ⟨?_,?_,?_,?_,?_,?_,?_,?_,?_,by simp[Ey,hq],by simp[hpl],.inl hq⟩ ?_);(simp[up,h0]);(simp[up,h2]);(simp[up,h7]);(simp[up,h10]);(simp[up,h30]);(simp[up,h31]);(simp[up]);(simp[up,h11,Ey,hq,Om]);(simp[up,h12,Ey,hq,Om]);(simp[Dn]))
   ·obtain rfl:got=0:=by rcases hgot with h|h;exact(hq h).elim;exact h
    have hq1:decide (0<Ax (l.map w) 0)=false:=by simpa using hq
    (have hb:=trivial;with_reducible repeat' (first|simp only[hb,Va.down,seval,Jh.down,h0,h2,h7,h10,h30,h31,h32,h11,h12,hd,hx,hw,hpx,hq1,hii,iv]|refine Ai ?_ ?_<;>intro hb|refine fd ?_|fail))
    all_goals (refine Aq (kJ _ _ (p++[Ey amount (Ax (l.map w) 0) (IntKind.i64.wrap (so+w x)) 0],IntKind.i64.wrap (so+w x),IntKind.i64.wrap (0+Ey amount (Ax (l.map w) 0) (IntKind.i64.wrap (so+w x)) 0)) ⟨?_,?_,?_,?_,?_,?_,?_,?_,?_,by simp[Ey,hq,hcon],by simp[hpl],.inr (by simp[Ey,hq];rfl)⟩ ?_);(simp[up,h0]);(simp[up,h2]);(simp[up,h7]);(simp[up,h10]);(simp[up,h30]);(simp[up,h31]);(simp[up]);(simp[up,h11,Ey,hq,Om]);(simp[up,h12,Ey,hq,Om]);(simp[Dn]))
  ·exact⟨by simp[up,Dj,h0,h1,h2,h7],by simp[up,Dj,h0,h1,h2,h7],by simp[up,Dj,h0,h1,h2,h7],by simp[up,Dj,h0,h1,h2,h7],by simp[up,Dj,h0,h1,h2,h7],by simp[up,Dj,h0,h1,h2,h7],by simp[up],by simp[up,Dj,h0,h1,h2,h7],by simp[up,Dj,h0,h1,h2,h7],by simp[iv],rfl,.inr rfl⟩
  ·obtain⟨rfl,h10,rfl⟩:=hk
   have hw:(!l.isEmpty&&decide (0<Ax (l.map w) 0))=decide (0<Ax (l.map w) 0):=by cases l<;>simp[Ax]
   (have hb:=trivial;with_reducible repeat' (first|simp only[hb,Va.down,seval,Jh.down,h10,hw]|refine Ai ?_ ?_<;>intro hb|refine fd ?_|fail))
def Vq(x y:Int):Int:=IntKind.i64.wrap (x+y)
def Hw(cs:List Ah)(l:List Int):List Int:=acI Jf cs l
def qJ(cs:List Ah)(l:List Int):List Int:=acI amW cs l
def Xs(n:Nat):List Int:=(List.range n).map Int.ofNat
def Ft(cs:List Ah)(l:List Int)(most:Int):List Int:=
 if Ax l 0≤most then l else if most<Ax (Hw cs l) 0 then Dn most (Ax (Hw cs l) 0) (Hw cs l) 0 0
 else acI Vq (Dn (IntKind.i64.wrap (most-Ax (Hw cs l) 0)) (Ax (qJ cs l) 0) (qJ cs l) 0 0) (Hw cs l)
def pM(cs:List Ah)(l:List Int)(most:Int):Bool:=if Ax l 0≤most then false else if most<Ax (Hw cs l) 0 then decide (0<Ax (Hw cs l) 0)else true
theorem Hq(n:Nat):(Xs n).length=n:=by simp[Xs]
theorem ab3(n:Nat):Xs (n+1)=Xs n++[(n:Int)]:=by simp[Xs,List.range_succ]
theorem Iz(a b:Int):∀(l:List Int) (so got:Int),(Dn a b l so got).length=l.length
 | [],_,_=>rfl
 |x::l,so,got=>by simp[Dn,Iz a b l]
theorem iL{f:Ah→Int→Int}{cs:List Ah}{l:List Int}{i:Nat}{x:Int}(h:(acI f cs l)[i]?=some x):∃c w,cs[i]?=some c∧l[i]?=some w∧x=f c w:=by
 rw[List.getElem?_zipWith]at h
 cases hc:cs[i]? with
 |none=>simp[hc]at h
 |some c=>
  cases hw:l[i]? with
  |none=>simp[hc,hw]at h
  |some w=>simp[hc,hw]at h;exact⟨c,w,rfl,rfl,h.symm⟩
theorem yI(l:List Int):(Xs l.length).map (fun x=>(l[x.toNat]?).getD 0)=l:=by
 refine List.ext_getElem? fun i=>?_
 simp only[Xs,List.map_map,List.getElem?_map,Function.comp_def]
 by_cases hi:i<l.length
 ·rw[List.getElem?_range hi];simp[hi]
 ·rw[adP (by simpa using hi),adP (by simpa using hi)];rfl
theorem zA{n:Nat}{x:Int}(h:x∈Xs n):∃k:Nat,x=(k:Int)∧k<n:=by
 simp only[Xs,List.mem_map,List.mem_range]at h
 obtain⟨k,hk,rfl⟩:=h
 exact⟨k,rfl,hk⟩
theorem aeZ{p sh:List Int}{i:Nat}{y:Int}(hp:p.length=i)(hy:sh[i]?=some y)(v:Int):((p++sh.drop i).map iv).set i [.int .i64 v]=(p++(v::sh.drop (i+1))).map iv:=by
 have hlt:i<sh.length:=(acV.1 hy).1
 subst hp
 rw[adQ hlt,aeY,List.map_cons,List.set_append_right _ _ (by simp)]
 simp only[acL,adK,List.set_cons_zero,aeY,List.map_cons]
 rfl
theorem adT{p sh:List Int}{i:Nat}{y:Int}(hp:p.length=i)(hy:sh[i]?=some y):(p++sh.drop i)[i]?=some y:=by
 rw[adL (by omega),hp,adK,List.getElem?_drop];simpa using hy
theorem aaT{x y:Int}{rest sh:List Int}{i:Nat}(hy:sh[i]?=some y)(p:List Int)(hp:p.length=i):(p++[Vq y x])++acI Vq (sh.drop (p++[Vq y x]).length) rest=p++acI Vq (sh.drop p.length) (x::rest):=by
 have hlt:i<sh.length:=(acV.1 hy).1
 have hd:sh.drop i=y::sh.drop (i+1):=by
  rw[adQ hlt]
  congr 1
  exact Option.some.inj ((acR hlt).symm.trans hy)
 rw[List.length_append,hp,hd]
 simp
theorem nY{s:Ac}{l:List Int}{nn:Bool}{most:Int}(hcl:l.length=s.cons.length)(hl:l.length≤1000)(hne:l≠[]):Bl.call (.fn 96) [.agg s.cells,Az 1 true nn (l.map iv),.int .i64 most] []=some (.ret (.slr 1 0 0 l.length),[.live 1 true (pM s.cons l most) ((Ft s.cons l most).map iv)]):=by
 have hl':l.length≤maxLen:=by unfold maxLen;omega
 have hsum:=Zb (nn:=nn) hl'
 have hcln:=Rl hl hne
 rw[←jF (n:=1) (fl:=true) (nn:=nn) (rows:=l.map iv) (by simpa using hne)]at hcln
 (refine ce Tryz.func96 ?_;simp only[Tryz.f96];(have hb:=trivial;with_reducible repeat' (first|simp only[hb,Va.down,seval,gW.down,acL,hsum,hcln]|refine Ai ?_ ?_<;>intro hb|refine fd ?_|fail)))
 ·have hb:Ax l 0≤most:=by simpa using hb
  simp[Ft,pM,hb]
 have hq:¬Ax l 0≤most:=by simpa using hb
 have hfl:(Hw s.cons l).length=l.length:=by simp[Hw,hcl]
 have hol:(qJ s.cons l).length=l.length:=by simp[qJ,hcl]
 have hfl':(Hw s.cons l).length≤maxLen:=by omega
 refine Dm (Sj 73 l (fun i (zz:Unit) t h=>t 2=.int .i64 most∧t 3=.ptr 0 0 0∧t 4=.ptr 1 0 0∧t 22=.int .i64 l.length∧t 23=.int .i64 i∧h[0]?=some (.live 6 false false [s.cells])∧h[1]?=some (.live 1 false false [[Az 1 true nn (l.map iv)]])∧((i=0∧t 7=.nils∧h.length=2)∨(0<i∧∃b,2≤b∧t 7=.slr 1 b 0 i∧h[b]?=some (.live 1 true false ((Xs i).map iv))))) (fun rest zz=>()) (fun r e t h=>e=.exit 0∧t 2=.int .i64 most∧t 3=.ptr 0 0 0∧t 4=.ptr 1 0 0∧h[0]?=some (.live 6 false false [s.cells])∧h[1]?=some (.live 1 false false [[Az 1 true nn (l.map iv)]])∧(∃b,2≤b∧t 7=.slr 1 b 0 l.length∧h[b]?=some (.live 1 true false ((Xs l.length).map iv)))) ?_ ?_ () _ _ ?_) (fun e tA hA hk=>?_)
 ·rintro _ t h Q' kQ ⟨h2,h3,h4,h22,h23,hS,hW,hc⟩
  (have hb:=trivial;with_reducible repeat' (first|simp only[hb,Va.down,seval,gW.down,h2,h3,h4,h22,h23,abQ,decide_false]|refine Ai ?_ ?_<;>intro hb|refine fd ?_|fail))
  rcases hc with⟨hz,_⟩|⟨_,b,hb2,h7,hb⟩
  ·exact(hne (adO.1 hz)).elim
  ·exact kQ _ _ _ ⟨rfl,by simp[up,h2],by simp[up,h3],by simp[up,h4],hS,hW,b,hb2,by simp[up,h7],hb⟩
 ·rintro x rest i _ t h J Q' kJ kQ hx hi ⟨h2,h3,h4,h22,h23,hS,hW,hc⟩
  have hd:decide ((i:Int)<(l.length:Int))=true:=decide_eq_true (by omega)
  have hw:=Ak hi hl'
  rcases hc with⟨rfl,h7,hlen⟩|⟨h0,b,hb2,h7,hb⟩
  ·simp only[ae4]at hd
   (have hb:=trivial;with_reducible repeat' (first|simp only[hb,Va.down,seval,gW.down,h2,h3,h4,h22,h23,h7,hd,hx,hw,iv]|refine Ai ?_ ?_<;>intro hb|refine fd ?_|fail))
   (refine Aq (kJ _ _ () ⟨?_,?_,?_,?_,?_,Bv hS _,Bv hW _,.inr ⟨by omega,h.length+1,by omega,by simp[up],by rw[Ur];simp[Xs,iv]⟩⟩ ?_);(simp[up,h2]);(simp[up,h3]);(simp[up,h4]);(simp[up,h22]);(simp[up]);exact rfl)
  ·have hbl:b<h.length:=(acV.1 hb).1
   have hA:=Bv hb
   have hSt:=Nu hbl
   have hi39:(i+1≤549755813888)=True:=eq_true (by omega)
   have hlp:0+i=(Xs i).length:=by simp[Hq]
   (have hb:=trivial;with_reducible repeat' (first|simp only[hb,Va.down,seval,gW.down,h2,h3,h4,h22,h23,h7,hd,hx,hw,iv,hA,hSt,cM,Sz,ajX,hi39,Hq]|refine Ai ?_ ?_<;>intro hb|refine fd ?_|fail))
   (refine Aq (kJ _ _ () ⟨?_,?_,?_,?_,?_,pZ _ (by omega) hS _,pZ _ (by omega) hW _,.inr ⟨by omega,h.length+1,by omega,by simp[up],by rw[Sz];simp[ab3,iv]⟩⟩ ?_);(simp[up,h2]);(simp[up,h3]);(simp[up,h4]);(simp[up,h22]);(simp[up]);exact rfl)
 ·exact⟨by simp[up,Dj],by simp[up,Dj],by simp[up,Dj],by simp[up,Dj],by simp[up],rfl,rfl,.inl ⟨rfl,by simp[up],rfl⟩⟩
 ·obtain⟨rfl,h2,h3,h4,hS,hW,b,hb2,h7,hbi⟩:=hk
  have hbl:b<hA.length:=(acV.1 hbi).1
  have hS1:=Bv hS
  have hW1:=Bv hW
  have hb1:=Bv hbi
  have z1:(hA.length=0)=False:=eq_false (by omega)
  have z2:(1=hA.length)=False:=eq_false (by omega)
  have y1:(b==1)=false:=by simp;omega
  have y2:(b==hA.length)=false:=by simp;omega
  have y3:(b==0)=false:=by simp;omega
  have z3:(0=hA.length)=False:=eq_false (by omega)
  (have hb:=trivial;with_reducible repeat' (first|simp only[hb,Va.down,seval,gW.down,h2,h3,h4,h7,hS1,hW1]|refine Ai ?_ ?_<;>intro hb|refine fd ?_|fail))
  refine Dm (Sj 73 (Hw s.cons l) (fun i (zz:Int) t h=>t 2=.int .i64 most∧t 7=.slr 1 b 0 l.length∧t 9=.ptr hA.length 0 0∧t 10=.func (.func 126) [] [.ptr 1 0 0,.ptr hA.length 0 0]∧t 34=.int .i64 (Hw s.cons l).length∧t 35=.int .i64 i∧t 11=.int .i64 zz∧h=hA++[.live 1 false true [[.func (.func 125) [] [.ptr 0 0 0,.ptr 1 0 0]]]]) (fun rest zz=>Ax rest zz) (fun r e t h=>e=.exit 2∧t 2=.int .i64 most∧t 7=.slr 1 b 0 l.length∧t 9=.ptr hA.length 0 0∧t 10=.func (.func 126) [] [.ptr 1 0 0,.ptr hA.length 0 0]∧t 11=.int .i64 r∧h=hA++[.live 1 false true [[.func (.func 125) [] [.ptr 0 0 0,.ptr 1 0 0]]]]) ?_ ?_ (0) _ _ ?_) (fun e tB hB hk=>?_)
  ·rintro a' t h Q' kQ ⟨h2,h7,h9,h10,h34,h35,h11,rfl⟩
   (have hb:=trivial;with_reducible repeat' (first|simp only[hb,Va.down,seval,gW.down,h2,h7,h9,h10,h34,h35,h11,abQ,decide_false]|refine Ai ?_ ?_<;>intro hb|refine fd ?_|fail))
   exact kQ _ _ _ ⟨rfl,by simp[up,h2],by simp[up,h7],by simp[up,h9],by simp[up,h10],by simp[up,h11,Ax],rfl⟩
  ·rintro x rest i a' t h J Q' kJ kQ hx hi ⟨h2,h7,h9,h10,h34,h35,h11,rfl⟩
   have hd:decide ((i:Int)<((Hw s.cons l).length:Int))=true:=decide_eq_true (by omega)
   have hw:=Ak hi hfl'
   obtain⟨c,w,hc,hw',rfl⟩:=iL hx
   have hg:=Wm (nn:=nn) hc hw'
   (have hb:=trivial;with_reducible repeat' (first|simp only[hb,Va.down,seval,gW.down,h2,h7,h9,h10,h34,h35,h11,hd,hx,hw,hS1,hW1,hg]|refine Ai ?_ ?_<;>intro hb|refine fd ?_|fail))
   (refine Aq (kJ _ _ (IntKind.i64.wrap (a'+Jf c w)) ⟨?_,?_,?_,?_,?_,?_,?_,rfl⟩ ?_);(simp[up,h2]);(simp[up,h7]);(simp[up,h9]);(simp[up,h10]);(simp[up,h34]);(simp[up]);(simp[up,h11]);exact rfl)
  ·exact⟨by simp[up,Dj,h2,h3,h4,h7,hfl],by simp[up,Dj,h2,h3,h4,h7,hfl],by simp[up,Dj,h2,h3,h4,h7,hfl],by simp[up,Dj,h2,h3,h4,h7,hfl],by simp[up,Dj,h2,h3,h4,h7,hfl],by simp[up],by simp[up,Dj,h2,h3,h4,h7,hfl],rfl⟩
  ·obtain⟨rfl,h2,h7,h9,h10,h11,rfl⟩:=hk
   have htk:((Xs l.length).map iv).take l.length=(Xs l.length).map iv:=adG (by simp[Hq])
   have hshA:=afW (amount:=most) (nn:=true) (g:=125) (s:=s) (wl:=l) (wn:=nn) (l:=Xs l.length) (w:=fun x=>((Hw s.cons l)[x.toNat]?).getD 0) (fun x hx=>by
    obtain⟨k,rfl,hk⟩:=zA hx
    obtain⟨y,hy⟩:∃y,(Hw s.cons l)[k]?=some y:=⟨_,acR (by omega)⟩
    obtain⟨c,w,hc,hw',rfl⟩:=iL hy
    simp only[ajY,hy,ajZ]
    exact Wm hc hw') (by rw[Hq];exact hl)
   have hshB:=agB (amount:=IntKind.i64.wrap (most-Ax (Hw s.cons l) 0)) (nn:=true) (g:=126) (q:=125) (s:=s) (wl:=l) (wn:=nn) (l:=Xs l.length) (w:=fun x=>((qJ s.cons l)[x.toNat]?).getD 0) (fun x hx=>by
    obtain⟨k,rfl,hk⟩:=zA hx
    obtain⟨y,hy⟩:∃y,(qJ s.cons l)[k]?=some y:=⟨_,acR (by omega)⟩
    obtain⟨c,w,hc,hw',rfl⟩:=iL hy
    simp only[ajY,hy,ajZ]
    exact xK hc hw') (by rw[Hq];exact hl)
   have m1:=yI (Hw s.cons l)
   have m2:=yI (qJ s.cons l)
   rw[hfl]at m1
   rw[hol]at m2
   rw[Bh,m1,Hq]at hshA
   rw[Bh,m2,Hq]at hshB
   simp only[List.cons_append,List.nil_append]at hshA hshB
   have hle:(0+l.length≤(Xs l.length).length)=True:=eq_true (by simp[Hq])
   (have hb:=trivial;with_reducible repeat' (first|simp only[hb,Va.down,seval,gW.down,h2,h7,h9,h10,h11,hS1,hW1,hb1,hshA,hshB,y1,y2,y3,z1,z2,z3,htk,Hq]|refine Ai ?_ ?_<;>intro hb|refine fd ?_|fail))
   ·have hb:most<Ax (Hw s.cons l) 0:=by simpa using hb
    simp[Ft,pM,hq,hb]
   have hbm:¬most<Ax (Hw s.cons l) 0:=by simpa using hb
   have hshl:∀a b,(Dn a b (qJ s.cons l) 0 0).length=l.length:=fun a b=>by rw[Iz,hol]
   refine Dm (Sj 73 (Hw s.cons l) (fun i (zz:List Int × Bool) t h=>t 9=.ptr hA.length 0 0∧t 13=.slr 1 (hA.length+1) 0 l.length∧t 58=.int .i64 (Hw s.cons l).length∧t 59=.int .i64 i∧h=hA++[.live 1 false true [[.func (.func 125) [] [.ptr 0 0 0,.ptr 1 0 0]]],.live 1 true zz.2 ((zz.1++(Dn (IntKind.i64.wrap (most-Ax (Hw s.cons l) 0)) (Ax (qJ s.cons l) 0) (qJ s.cons l) 0 0).drop i).map iv)]∧zz.1.length=i∧(i=0∨zz.2=true)) (fun rest zz=>zz.1++acI Vq ((Dn (IntKind.i64.wrap (most-Ax (Hw s.cons l) 0)) (Ax (qJ s.cons l) 0) (qJ s.cons l) 0 0).drop zz.1.length) rest) (fun r e t h=>e=.exit 4∧t 13=.slr 1 (hA.length+1) 0 l.length∧h=hA++[.live 1 false true [[.func (.func 125) [] [.ptr 0 0 0,.ptr 1 0 0]]],.live 1 true true (r.map iv)]) ?_ ?_ ([],decide (0<Ax (qJ s.cons l) 0)) _ _ ?_) (fun e tC hC hk=>?_)
   ·rintro⟨p,wf⟩ t h Q' kQ ⟨h9,h13,h58,h59,rfl,hp,hf⟩
    try dsimp only at *
    (have hb:=trivial;with_reducible repeat' (first|simp only[hb,Va.down,seval,gW.down,h9,h13,h58,h59,abQ,decide_false]|refine Ai ?_ ?_<;>intro hb|refine fd ?_|fail))
    rcases hf with hz|rfl
    ·exact(hne (adO.1 (by omega))).elim
    ·exact kQ _ _ _ ⟨rfl,by simp[up,h13],by rw[List.drop_eq_nil_iff.2 (by rw[hshl];omega)];simp⟩
   ·rintro x rest i ⟨p,wf⟩ t h J Q' kJ kQ hx hi ⟨h9,h13,h58,h59,rfl,hp,hf⟩
    have hd:decide ((i:Int)<((Hw s.cons l).length:Int))=true:=decide_eq_true (by omega)
    have hw:=Ak hi hfl'
    try dsimp only at *
    obtain⟨c,w,hc,hw',rfl⟩:=iL hx
    have hg:=Wm (nn:=nn) hc hw'
    obtain⟨y,hy⟩:∃y,(Dn (IntKind.i64.wrap (most-Ax (Hw s.cons l) 0)) (Ax (qJ s.cons l) 0) (qJ s.cons l) 0 0)[i]?=some y:=⟨_,acR (by rw[hshl];omega)⟩
    have hset:=aeZ hp hy
    have hget:=adT hp hy
    have hii:((i:Int)<(l.length:Int))=True:=eq_true (by omega)
    (have hb:=trivial;with_reducible repeat' (first|simp only[hb,Va.down,seval,gW.down,h9,h13,h58,h59,hd,hx,hw,hS1,hW1,hg,hset,hget,hii,iv]|refine Ai ?_ ?_<;>intro hb|refine fd ?_|fail))
    (refine Aq (kJ _ _ (p++[Vq y (Jf c w)],true) ⟨?_,?_,?_,?_,by simp[Vq],by simp[hp],.inr rfl⟩ ?_);(simp[up,h9]);(simp[up,h13]);(simp[up,h58]);(simp[up]);(exact aaT hy p hp))
   ·exact⟨by simp[up,Dj,h2,h7,h9,h10,h11,hfl],by simp[up,Dj,h2,h7,h9,h10,h11,hfl],by simp[up,Dj,h2,h7,h9,h10,h11,hfl],by simp[up],by simp,rfl,.inl rfl⟩
   ·obtain⟨rfl,h13,rfl⟩:=hk
    (have hb:=trivial;with_reducible repeat' (first|simp only[hb,Va.down,seval,gW.down,h13]|refine Ai ?_ ?_<;>intro hb|refine fd ?_|fail))
    simp[Ft,pM,hq,hbm]
def gY(c:Ah)(w:Int):Int:=if c.firm=true then 0 else w
def Pl(cs:List Ah)(l:List Int):List Int:=acI gY cs l
def Wz(cs:List Ah)(l:List Int)(most:Int):List Int:=
 if Ax l 0≤most then l else if most<Ax (Hw cs l) 0 then Dn most (Ax (Hw cs l) 0) (Hw cs l) 0 0
 else acI Vq (Dn (IntKind.i64.wrap (most-Ax (Hw cs l) 0)) (Ax (Pl cs l) 0) (Pl cs l) 0 0) (Hw cs l)
theorem Ut{cs:List Ah}{l:List Int}(h:l.length=cs.length)(most:Int):(Ft cs l most).length=l.length:=by
 unfold Ft
 split
 ·rfl
 ·split
  ·simp[Iz,Hw,h]
  ·simp[Iz,Hw,qJ,h]
theorem aB{cs:List Ah}{l:List Int}(h:l.length=cs.length)(most:Int):(Wz cs l most).length=l.length:=by
 unfold Wz
 split
 ·rfl
 ·split
  ·simp[Iz,Hw,h]
  ·simp[Iz,Hw,Pl,h]
def Gk(g:List Ah→List Int→Int→List Int)(cs:List Ah)(l:List Int)(most least:Int):List Int:=acI Xr (g cs (l.map Db) most) (g cs (l.map Do) least)
theorem eQ{α β:Type}{f:α→β}{l:List α}(h:l≠[]):l.map f≠[]:=by simpa using h
theorem iP{s:Ac}{l:List Int}{nn:Bool}{most least:Int}(hcl:l.length=s.cons.length)(hl:l.length≤1000)(hne:l≠[]):Bl.call (.fn 53) [.agg s.cells,Az 1 true nn (l.map iv),.int .i64 most,.int .i64 least] []=
 some (.ret (.slr 1 0 0 l.length),[.live 1 true false ((Gk Ft s.cons l most least).map iv)]):=by
 have h1:=cG (nn:=nn) hl hne
 have h2:=nY (s:=s) (l:=l.map Db) (nn:=true) (most:=most) (by simpa using hcl) (by simpa using hl) (eQ hne)
 have h3:=nY (s:=s) (l:=l.map Do) (nn:=true) (most:=least) (by simpa using hcl) (by simpa using hl) (eQ hne)
 have k2:=Ut (cs:=s.cons) (l:=l.map Db) (by simpa using hcl) most
 have k3:=Ut (cs:=s.cons) (l:=l.map Do) (by simpa using hcl) least
 rw[acL]at k2 k3 h2 h3
 have hgl:(acI Xr (Ft s.cons (l.map Db) most) (Ft s.cons (l.map Do) least)).length=l.length:=by simp[k2,k3]
 have hgn:Ft s.cons (l.map Db) most≠[]:=fun e=>hne (adO.1 (by rw[←k2,e];rfl))
 have h4:=Ou (Ft s.cons (l.map Db) most) (Ft s.cons (l.map Do) least) true true (by omega) (by omega) _ _ (fun e=>(hgn e).elim) (fun _=>rfl)
 rw[Bh]at h2 h3
 rw[Bh,Bh,k2]at h4
 have t1:((l.map Db).map iv).take l.length=(l.map Db).map iv:=adG (by simp)
 have t2:((l.map Do).map iv).take l.length=(l.map Do).map iv:=adG (by simp)
 have t3:((Ft s.cons (l.map Db) most).map iv).take l.length=(Ft s.cons (l.map Db) most).map iv:=adG (by simp[k2])
 have t4:((Ft s.cons (l.map Do) least).map iv).take l.length=(Ft s.cons (l.map Do) least).map iv:=adG (by simp[k3])
 (refine ce Tryz.func53 ?_;simp only[Tryz.f53];(have hb:=trivial;with_reducible repeat' (first|simp only[hb,Va.down,seval,au7.down,h1,h2,h3,h4,k2,k3,t1,t2,t3,t4]|refine Ai ?_ ?_<;>intro hb|refine fdl ?_|fail)))
 all_goals rfl
theorem uQ{s:Ac}{nn:Bool}{most least:Int}(hm:0≤most)(hm':0≤least):Bl.call (.fn 53) [.agg s.cells,Az 1 true nn [],.int .i64 most,.int .i64 least] []=some (.ret .nils,[]):=by
 have g:∀m:Int,0≤m→Bl.call (.fn 96) [.agg s.cells,.nils,.int .i64 m] []=some (.ret .nils,[]):=fun m hm=>by
  have hsum:=Zb (l:=[]) (nn:=false) (by simp)
  rw[List.map_nil,Wn]at hsum
  have hcl:Bl.call (.fn 102) [.nils] []=some (.ret .nils,[]):=by
   (refine ce Tryz.func102 ?_;simp only[Tryz.f102];(have hb:=trivial;with_reducible repeat' (first|simp only[hb,Va.down,seval,zJ.down]|refine Ai ?_ ?_<;>intro hb|refine fd ?_|fail)))
  have hb:decide (Ax [] 0≤m)=true:=decide_eq_true (by simpa [Ax]using hm)
  (refine ce Tryz.func96 ?_;simp only[Tryz.f96];(with_reducible repeat' (first|simp only[hb,Va.down,seval,gW.down,hsum,hcl,hb]|refine Ai ?_ ?_<;>intro hb|refine fd ?_|fail)))
 have h1:=fY (nn:=nn)
 have h2:=g most hm
 have h3:=g least hm'
 have h4:=Ou [] [] false false (by simp) (by simp) _ _ (fun _=>rfl) (fun e=>(e rfl).elim)
 rw[List.map_nil,Wn]at h4
 (refine ce Tryz.func53 ?_;simp only[Tryz.f53];(have hb:=trivial;with_reducible repeat' (first|simp only[hb,Va.down,seval,au7.down,h1,h2,h3,h4]|refine Ai ?_ ?_<;>intro hb|refine fd ?_|fail)))
def wF(l:List Int):Bool:=l.all fun x=>Gp x (-100000000) 100000000
theorem rZ{s:Ac}(h:Fj s=true):s.cons.length≤8:=by
 simp only[Fj,Bool.and_eq_true,decide_eq_true_eq]at h
 omega
theorem Jc(k:Nat)(v:AV)(g l:Aa)(j:Nat):(kl k v g++l)[g.length+j]?=l[j]?:=by rw[←Ek k v g];exact Ur _ _ _
theorem Ep.cell{k st:Nat}{fl:Bool}{rows:List (List AV)}{v:AV}{g:Aa}(h:Ep k st fl rows v g):AV.isCell v=true:=by
 rcases h with⟨_,rfl⟩|⟨b,w,rfl,_⟩<;>rfl
theorem Ep.acells{k st:Nat}{fl:Bool}{rows:List (List AV)}{v:AV}{g:Aa}(h:Ep k st fl rows v g):acells v=[v]:=by
 rcases h with⟨_,rfl⟩|⟨b,w,rfl,_⟩<;>rfl
structure Ab where
 hour:Int
 back:Int
 frm:Int
 to:Int
 amount:Int
def Ab.cells(t:Ab):List AV:=[.int .i64 t.hour,.int .i64 t.back,.int .i64 t.frm,.int .i64 t.to,.int .i64 t.amount]
structure Au where
 inn:Int
 out:Int
 flowIn:Int
 flowOut:Int
def Au.cells(h:Au):List AV:=[.int .i64 h.inn,.int .i64 h.out,.int .i64 h.flowIn,.int .i64 h.flowOut]
structure An where
 nh:Bool
 hours:List Au
 nn:Bool
 noms:List Bq
 nt:Bool
 trades:List Ab
abbrev An.cells(d:An):List AV:=[Az 4 true d.nh (d.hours.map Au.cells),Az 4 true d.nn (d.noms.map Bq.cells),Az 5 true d.nt (d.trades.map Ab.cells)]
abbrev rc(s:Ac)(d:An)(hr:Int)(gv:AV)(own fuel:Int)(lv ov wv av fv rv:AV):List AV:=[.int .i64 s.space,.int .i64 s.inn,.int .i64 s.out,.int .i64 s.lead,.int .i64 s.fuel,Az 11 false s.nn (s.cons.map Ah.cells),Az 4 true d.nh (d.hours.map Au.cells),Az 4 true d.nn (d.noms.map Bq.cells),Az 5 true d.nt (d.trades.map Ab.cells),.int .i64 hr,gv,.int .i64 own,.int .i64 fuel,lv,ov,wv,av,fv,rv]
def gI(l:List Int)(i:Int):Int:=(l[i.toNat]?).getD 0
def sI(l:List Int)(i v:Int):List Int:=l.set i.toNat v
def xQ(n:Nat)(i:Int):Prop:=0≤i∧i<n
theorem xQ.toNat{n:Nat}{i:Int}(h:xQ n i):i.toNat<n:=by unfold xQ at h;omega
theorem Bj(l:List Int)(i v:Int):(sI l i v).length=l.length:=by simp[sI]
theorem Hn{l:List Int}{i:Int}(h:i.toNat<l.length):l[i.toNat]?=some (gI l i):=by
 simp[gI,h]
theorem Fo(l:List Int)(i v:Int):(l.map iv).set i.toNat [.int .i64 v]=(sI l i v).map iv:=by
 simp[sI,iv,List.map_set]
theorem aT{s:Ac}{d:An}{fl w:Bool}{h:Aa}{b bg:Nat}{hr own fuel i:Int}{lv ov wv av fv rv:AV}{G:List Int}{n:Nat}{fl2 w2:Bool}{c:Ah}(hn:G.length=n)
 (hB:h[b]?=some (.live 19 fl w [(rc s d hr (.slr 1 bg 0 n) own fuel lv ov wv av fv rv)])) (hg:h[bg]?=some (.live 1 fl2 w2 (G.map iv))) (hi:xQ n i) (hc:s.cons[i.toNat]?=some c):
 Bl.call (.sh 130) [.ptr b 0 0,.int .i64 i] h=some (.ret (.int .i64 (IntKind.i64.wrap (c.space-gI G i))),h):=by
 subst hn
 have h1:=Hn hi.toNat
 have h2:(0≤i)=True:=eq_true hi.1
 have h3:(i<(G.length:Int))=True:=eq_true hi.2
 (refine csh Tryz.func130 ?_;simp only[Tryz.f130];(have hb:=trivial;with_reducible repeat' (first|simp only[hb,Vb.down,seval,avF.down,hB,hg,h1,h2,h3,hc,iv,Ah.cells]|refine Ai ?_ ?_<;>intro hb|refine fd ?_|fail)))
theorem Wc{s:Ac}{d:An}{fl w:Bool}{h:Aa}{b:Nat}{hr own fuel:Int}{gv lv ov wv av fv rv:AV}{x:Au}
 (hB:h[b]?=some (.live 19 fl w [(rc s d hr gv own fuel lv ov wv av fv rv)])) (h2:0≤hr) (hx:d.hours[hr.toNat]?=some x):
 Bl.call (.sh 133) [.ptr b 0 0] h=some (.ret (.agg x.cells),h++[.live 4 true true [x.cells]]):=by
 have h2':(0≤hr)=True:=eq_true h2
 have hA:=Bv hB
 (refine csh Tryz.func133 ?_;simp only[Tryz.f133];(have hb:=trivial;with_reducible repeat' (first|simp only[hb,Vb.down,seval,awF.down,hB,hA,h2',hx,Au.cells]|refine Ai ?_ ?_<;>intro hb|refine fd ?_|fail)))
theorem bK{g:Aa}(h:Be g=true)(b:Nat):Be (g.set b .dead)=true:=by
 simp only[Be,List.all_eq_true]at h ⊢
 intro c hc
 rcases List.mem_or_eq_of_mem_set hc with h1|rfl
 ·exact h c h1
 ·rfl
def bG(cs:List Ah)(i:Int):Int:=((cs[i.toNat]?).map Ah.lack).getD 0
def Ie(cs:List Ah)(i:Int):Int:=((cs[i.toNat]?).map Ah.space).getD 0
def kC(cs:List Ah)(t:Ab)(G:List Int):Int:=IntKind.i64.wrap (IntKind.i64.wrap (t.amount-gI G t.to)*bG cs t.to)
def To(cs:List Ah)(t:Ab)(G L:List Int):List Int:=
 if 0<IntKind.i64.wrap (t.amount-gI G t.to)then
  sI (sI L t.to (IntKind.i64.wrap (gI L t.to+kC cs t G))) t.frm (IntKind.i64.wrap (gI (sI L t.to (IntKind.i64.wrap (gI L t.to+kC cs t G))) t.frm-kC cs t G))else L
def kW(cs:List Ah)(t:Ab)(G:List Int):Int:=
 min2 (min2 t.amount (gI G t.to)) (IntKind.i64.wrap (Ie cs t.frm-gI G t.frm))
def Ud(cs:List Ah)(t:Ab)(G:List Int):List Int:=
 sI (sI G t.to (IntKind.i64.wrap (gI G t.to-kW cs t G))) t.frm (IntKind.i64.wrap (gI (sI G t.to (IntKind.i64.wrap (gI G t.to-kW cs t G))) t.frm+kW cs t G))
def Cd(cs:List Ah)(hr:Int):List Ab→List Int × List Int × List Ab→List Int × List Int × List Ab
 | [],a=>a
 |t::rest,(G,L,p)=>if t.back=hr then Cd cs hr rest (Ud cs t G,To cs t G L,p)else Cd cs hr rest (G,L,p++[t])
def Ab.ok(n:Nat)(t:Ab):Prop:=xQ n t.frm∧xQ n t.to
theorem Wj(cs:List Ah)(t:Ab)(G:List Int):(Ud cs t G).length=G.length:=by simp[Ud,Bj]
theorem Ns(cs:List Ah)(t:Ab)(G L:List Int):(To cs t G L).length=L.length:=by unfold To;split<;>simp[Bj]
def rP(p:List Ab):AV:=if p=[]then .nils else .slr 5 4 0 p.length
def qU(p:List Ab):Aa:=if p=[]then []else [.live 5 true false (p.map Ab.cells)]
theorem alH{s:Ac}{d:An}{fl w w1 w2 w3:Bool}{hr own fuel:Int}{wv av fv rv:AV}{G L:List Int}{O:List Ab}(hG:G.length=s.cons.length)(hL:L.length=s.cons.length)(hOl:O.length≤1000)(ho:∀t∈O,t.ok s.cons.length)
 (hwv:wv=.nils) (hav:av=.nils) (hfv:fv=.nils) (hrv:rv=.nils):
 Vg Bl 104 [.ptr 0 0 0] [.live 19 fl w [(rc s d hr (.slr 1 1 0 G.length) own fuel (.slr 1 2 0 L.length) (.slr 5 3 0 O.length) wv av fv rv)],.live 1 true w1 (G.map iv),.live 1 true w2 (L.map iv),.live 5 true w3 (O.map Ab.cells)]
  fun o h'=>o=.ret (.tup [])∧∃w1' w2',∀G' L' p',(G',L',p')=Cd s.cons hr O (G,L,[])→
   (w1'=false→G'=G)∧(w2'=false→L'=L)∧h'=[.live 19 false true [(rc s d hr (.slr 1 1 0 G.length) own fuel (.slr 1 2 0 L.length) (rP p') wv av fv rv)],.live 1 true w1' (G'.map iv),.live 1 true w2' (L'.map iv),.live 5 true w3 (O.map Ab.cells)]++qU p':=by
 have hl':O.length≤maxLen:=by unfold maxLen;omega
 refine Nj rfl Tryz.func104 rfl rfl ?_
 simp only[Tryz.f104]
 (have hb:=trivial;with_reducible repeat' (first|simp only[hb,Vb.down,seval,Xo.down]|refine Ai ?_ ?_<;>intro hb|refine fd ?_|fail))
 refine Dm (Sj 135 O (fun i (zz:List Int × List Int × List Ab) t h=>t 0=.ptr 0 0 0∧t 11=.slr 5 3 0 O.length∧t 12=.int .i64 O.length∧t 13=.int .i64 i∧(∃wG wL g,h=.live 19 fl w [(rc s d hr (.slr 1 1 0 G.length) own fuel (.slr 1 2 0 L.length) (.slr 5 3 0 O.length) wv av fv rv)]::.live 1 true wG (zz.1.map iv)::.live 1 true wL (zz.2.1.map iv)::.live 5 true w3 (O.map Ab.cells)::g∧Be g=true∧(wG=false→zz.1=G)∧(wL=false→zz.2.1=L)∧zz.1.length=G.length∧zz.2.1.length=L.length∧zz.2.2.length≤i∧((zz.2.2=[]∧t 2=.nils)∨(zz.2.2≠[]∧∃b,t 2=.slr 5 (b+4) 0 zz.2.2.length∧g[b]?=some (.live 5 true false (zz.2.2.map Ab.cells)))))) (fun rest zz=>Cd s.cons hr rest (zz.1,zz.2.1,zz.2.2)) (fun r e t h=>e=.exit 0∧t 0=.ptr 0 0 0∧(∃wG wL g,h=.live 19 fl w [(rc s d hr (.slr 1 1 0 G.length) own fuel (.slr 1 2 0 L.length) (.slr 5 3 0 O.length) wv av fv rv)]::.live 1 true wG (r.1.map iv)::.live 1 true wL (r.2.1.map iv)::.live 5 true w3 (O.map Ab.cells)::g∧Be g=true∧(wG=false→r.1=G)∧(wL=false→r.2.1=L)∧((r.2.2=[]∧t 2=.nils)∨(r.2.2≠[]∧∃b,t 2=.slr 5 (b+4) 0 r.2.2.length∧g[b]?=some (.live 5 true false (r.2.2.map Ab.cells)))))) ?_ ?_ (G,L,[]) _ _ ?_) (fun e t h hk=>?_)
 ·rintro⟨G',L',p⟩ t h Q' kQ ⟨h0,h11,h12,h13,⟨wG,wL,g,rfl,hqg,hwG,hwL,hG',hL',hpl,hp⟩⟩
  try dsimp only at *
  (have hb:=trivial;with_reducible repeat' (first|simp only[hb,Vb.down,seval,Xo.down,h0,h11,h12,h13,abQ,decide_false]|refine Ai ?_ ?_<;>intro hb|refine fd ?_|fail))
  exact kQ _ _ _ ⟨rfl,by simp[up,h0],wG,wL,g,rfl,hqg,by simpa [Cd]using hwG,by simpa [Cd]using hwL,by simpa [up,Cd]using hp⟩
 ·rintro x rest i ⟨G',L',p⟩ t h J Q' kJ kQ hx hi ⟨h0,h11,h12,h13,⟨wG,wL,g,rfl,hqg,hwG,hwL,hG',hL',hpl,hp⟩⟩
  have hd:decide ((i:Int)<(O.length:Int))=true:=decide_eq_true (by omega)
  have hw:=Ak hi hl'
  try dsimp only at *
  obtain⟨⟨f0,f1⟩,k0,k1⟩:=ho x (acQ hx)
  have hok:=ho x (acQ hx)
  have e1:(0≤x.to)=True:=eq_true k0
  have e2:(x.to<(G.length:Int))=True:=eq_true (by omega)
  have e3:(x.to<(L.length:Int))=True:=eq_true (by omega)
  have e4:(0≤x.frm)=True:=eq_true f0
  have e5:(x.frm<(G.length:Int))=True:=eq_true (by omega)
  have e6:(x.frm<(L.length:Int))=True:=eq_true (by omega)
  have hii:((i:Int)<(O.length:Int))=True:=eq_true (by omega)
  obtain⟨ct,hct⟩:∃c,s.cons[x.to.toNat]?=some c:=⟨_,acR (by omega)⟩
  obtain⟨cf,hcf⟩:∃c,s.cons[x.frm.toNat]?=some c:=⟨_,acR (by omega)⟩
  have a1:G'[x.to.toNat]?=some (gI G' x.to):=Hn (by omega)
  have a2:L'[x.to.toNat]?=some (gI L' x.to):=Hn (by omega)
  have a3:G'[x.frm.toNat]?=some (gI G' x.frm):=Hn (by omega)
  have a4:L'[x.frm.toNat]?=some (gI L' x.frm):=Hn (by omega)
  have a5:∀v,(sI G' x.to v)[x.frm.toNat]?=some (gI (sI G' x.to v) x.frm):=fun v=>Hn (by rw[Bj];omega)
  have a6:∀v,(sI L' x.to v)[x.frm.toNat]?=some (gI (sI L' x.to v) x.frm):=fun v=>Hn (by rw[Bj];omega)
  have hroom:∀(L2:List Int) (tl:Aa),Bl.call (.sh 130) [.ptr 0 0 0,.int .i64 x.frm] (.live 19 fl false [(rc s d hr (.slr 1 1 0 G.length) own fuel (.slr 1 2 0 L.length) (.slr 5 3 0 O.length) wv av fv rv)]::.live 1 true false (G'.map iv)::.live 1 true false (L2.map iv)::.live 5 true false (O.map Ab.cells)::tl)=
   some (.ret (.int .i64 (IntKind.i64.wrap (cf.space-gI G' x.frm))),.live 19 fl false [(rc s d hr (.slr 1 1 0 G.length) own fuel (.slr 1 2 0 L.length) (.slr 5 3 0 O.length) wv av fv rv)]::.live 1 true false (G'.map iv)::.live 1 true false (L2.map iv)::.live 5 true false (O.map Ab.cells)::tl):=fun L2 tl=>
   aT (b:=0) (bg:=1) (n:=G.length) hG' rfl rfl ⟨f0,by omega⟩ hcf
  have hse:=fun i l l'=>Yh hqg i l l'
  cases hbk:(x.back==hr)with
  |false=>
   have hbn:¬x.back=hr:=by simpa using hbk
   rcases hp with⟨rfl,h2⟩|⟨hpn,b,h2,hgb⟩
   ·(have hb:=trivial;with_reducible repeat' (first|simp only[hb,Vb.down,seval,Xo.down,h0,h11,h12,h13,h2,hd,hx,hw,hii,hbk,Ab.cells]|refine Ai ?_ ?_<;>intro hb|refine fd ?_|fail))
    (refine Aq (kJ _ _ (G',L',[x]) ⟨?_,?_,?_,?_,⟨wG,wL,_,rfl,by rw[Dq,hqg];rfl,hwG,hwL,hG',hL',by simp<;>omega,.inr ⟨by simp,g.length+2,by simp[up],by rw[Ur];simp[Ab.cells]⟩⟩⟩ ?_);(simp[up,h0]);(simp[up,h11]);(simp[up,h12]);(simp[up]);(simp[Cd,hbn]))
   ·have hbl:b<g.length:=(acV.1 hgb).1
    have hA:=Bv hgb
    have hS:=Nu hbl
    have hi39:(p.length+1≤549755813888)=True:=eq_true (by have:=hpl;omega)
    (have hb:=trivial;with_reducible repeat' (first|simp only[hb,Vb.down,seval,Xo.down,h0,h11,h12,h13,h2,hd,hx,hw,hii,hbk,Ab.cells,hA,hS,cM,Sz,ajX,acL,hi39]|refine Ai ?_ ?_<;>intro hb|refine fd ?_|fail))
    (refine Aq (kJ _ _ (G',L',p++[x]) ⟨?_,?_,?_,?_,⟨wG,wL,_,rfl,by rw[Dq,bK hqg b];rfl,hwG,hwL,hG',hL',by simp<;>omega,.inr ⟨by simp,g.length+2,by simp[up],by rw[Sz];simp[Ab.cells]⟩⟩⟩ ?_);(simp[up,h0]);(simp[up,h11]);(simp[up,h12]);(simp[up]);(simp[Cd,hbn]))
  |true=>
   have hbn:x.back=hr:=by simpa using hbk
   have hpg:∀{t':Tm},t' 2=t 2→((p=[]∧t' 2=.nils)∨(p≠[]∧∃b,t' 2=.slr 5 (b+4) 0 p.length∧(g++[.live 5 true true [x.cells]])[b]?=some (.live 5 true false (p.map Ab.cells)))):=fun {t'} e=>by
    rw[e]
    rcases hp with h|⟨h,b,h',h''⟩
    ·exact .inl h
    ·exact .inr ⟨h,b,h',Bv h'' _⟩
   by_cases hlk:0<IntKind.i64.wrap (x.amount-gI G' x.to)
   ·have hlk':decide (0<IntKind.i64.wrap (x.amount-gI G' x.to))=true:=decide_eq_true hlk
    (have hb:=trivial;with_reducible repeat' (first|simp only[hb,Vb.down,seval,Xo.down,h0,h11,h12,h13,hd,hx,hw,hii,hbk,hlk',Ab.cells,Ah.cells,e1,e2,e3,e4,e5,e6,a1,a2,a3,a4,a5,a6,hct,hcf,hroom,hse,iv,Fo,Ph]|refine Ai ?_ ?_<;>intro hb|refine fd ?_|fail))
    (refine Aq (kJ _ _ (Ud s.cons x G',To s.cons x G' L',p) ⟨?_,?_,?_,?_,⟨true,true,g++[.live 5 true true [x.cells]],by simp[Ud,kW,To,min2,Ie,bG,kC,hcf,hct,hlk,Ab.cells],by rw[Dq,hqg];rfl,(fun h=>by cases h),(fun h=>by cases h),by rw[Wj];exact hG',by rw[Ns];exact hL',aj0 hpl,hpg (by simp[up])⟩⟩ ?_);(simp[up,h0]);(simp[up,h11]);(simp[up,h12]);(simp[up]);(simp[Cd,hbn]))
   ·have hlk':decide (0<IntKind.i64.wrap (x.amount-gI G' x.to))=false:=decide_eq_false hlk
    (have hb:=trivial;with_reducible repeat' (first|simp only[hb,Vb.down,seval,Xo.down,h0,h11,h12,h13,hd,hx,hw,hii,hbk,hlk',Ab.cells,Ah.cells,e1,e2,e3,e4,e5,e6,a1,a2,a3,a4,a5,a6,hct,hcf,hroom,hse,iv,Fo]|refine Ai ?_ ?_<;>intro hb|refine fd ?_|fail))
    (refine Aq (kJ _ _ (Ud s.cons x G',To s.cons x G' L',p) ⟨?_,?_,?_,?_,⟨true,wL,g++[.live 5 true true [x.cells]],by simp[Ud,kW,To,min2,Ie,bG,kC,hcf,hct,hlk,Ab.cells],by rw[Dq,hqg];rfl,(fun h=>by cases h),(by simpa [To,hlk]using hwL),by rw[Wj];exact hG',by rw[Ns];exact hL',aj0 hpl,hpg (by simp[up])⟩⟩ ?_);(simp[up,h0]);(simp[up,h11]);(simp[up,h12]);(simp[up]);(simp[Cd,hbn]))
 ·exact⟨by simp[up,Dj],by simp[up,Dj],by simp[up,Dj],by simp[up],⟨_,_,[],rfl,rfl,fun _=>rfl,fun _=>rfl,rfl,rfl,Nat.le_refl _,.inl ⟨rfl,by simp[up]⟩⟩⟩
 ·obtain⟨rfl,h0,wG,wL,g,rfl,hqg,hwG,hwL,hp⟩:=hk
  generalize hr0:Cd s.cons hr O (G,L,[])=r at *
  obtain⟨G',L',p⟩:=r
  dsimp only at *
  have hV:wv=.nils:=hwv
  subst hwv hav hfv hrv
  rcases hp with⟨hp,h2⟩|⟨hp,b,h2,hgb⟩
  ·(have hb:=trivial;with_reducible repeat' (first|simp only[hb,Vb.down,seval,Xo.down,h0,h2]|refine Ai ?_ ?_<;>intro hb|refine fd ?_|fail))
   exact⟨wG,wL,fun _ _ _ e=>by cases e;exact⟨hwG,hwL,by simp[rP,qU,hp]⟩⟩
  ·(have hb:=trivial;with_reducible repeat' (first|simp only[hb,Vb.down,seval,Xo.down,h0,h2,hgb]|refine Ai ?_ ?_<;>intro hb|refine fd ?_|fail))
   exact⟨wG,wL,fun _ _ _ e=>by cases e;exact⟨hwG,hwL,by simp[rP,qU,hp]⟩⟩
theorem agE{s:Ac}{d:An}{fl w w1 w2:Bool}{hr own fuel:Int}{wv av fv rv:AV}{G L:List Int}(hwv:wv=.nils)(hav:av=.nils)(hfv:fv=.nils)(hrv:rv=.nils):
 Vg Bl 104 [.ptr 0 0 0] [.live 19 fl w [(rc s d hr (.slr 1 1 0 G.length) own fuel (.slr 1 2 0 L.length) .nils wv av fv rv)],.live 1 true w1 (G.map iv),.live 1 true w2 (L.map iv)]
  fun o h'=>o=.ret (.tup [])∧h'=[.live 19 false true [(rc s d hr (.slr 1 1 0 G.length) own fuel (.slr 1 2 0 L.length) .nils wv av fv rv)],.live 1 true w1 (G.map iv),.live 1 true w2 (L.map iv)]:=by
 subst hwv hav hfv hrv
 refine Nj rfl Tryz.func104 rfl rfl ?_
 simp only[Tryz.f104]
 (have hb:=trivial;with_reducible repeat' (first|simp only[hb,Vb.down,seval,Xo.down]|refine Ai ?_ ?_<;>intro hb|refine fd ?_|fail))
 refine Dm (Sj 135 ([]:List Ab) (fun i (zz:Unit) t h=>t 0=.ptr 0 0 0∧t 2=.nils∧t 11=.nils∧t 12=.int .i64 0∧t 13=.int .i64 i∧h=[.live 19 fl w [(rc s d hr (.slr 1 1 0 G.length) own fuel (.slr 1 2 0 L.length) .nils .nils .nils .nils .nils)],.live 1 true w1 (G.map iv),.live 1 true w2 (L.map iv)]) (fun rest zz=>()) (fun r e t h=>e=.exit 0∧t 0=.ptr 0 0 0∧t 2=.nils∧h=[.live 19 fl w [(rc s d hr (.slr 1 1 0 G.length) own fuel (.slr 1 2 0 L.length) .nils .nils .nils .nils .nils)],.live 1 true w1 (G.map iv),.live 1 true w2 (L.map iv)]) ?_ ?_ () _ _ ?_) (fun e t h hk=>?_)
 ·rintro _ t h Q' kQ ⟨h0,h2,h11,h12,h13,rfl⟩
  (have hb:=trivial;with_reducible repeat' (first|simp only[hb,Vb.down,seval,Xo.down,h0,h2,h11,h12,h13,abQ,decide_false,List.length_nil,ae4]|refine Ai ?_ ?_<;>intro hb|refine fd ?_|fail))
  exact kQ _ _ _ ⟨rfl,by simp[up,h0],by simp[up,h2],rfl⟩
 ·rintro x rest i _ t h J Q' kJ kQ hx hi ⟨h0,h2,h11,h12,h13,rfl⟩
  have hd:decide ((i:Int)<(([]:List Ab).length:Int))=true:=decide_eq_true (by omega)
  have hw:=Ak hi (by simp[maxLen])
  cases hx
 ·exact⟨by simp[up,Dj],by simp[up,Dj],by simp[up,Dj],by simp[up,Dj],by simp[up],rfl⟩
 ·obtain⟨rfl,h0,h2,rfl⟩:=hk
  (have hb:=trivial;with_reducible repeat' (first|simp only[hb,Vb.down,seval,Xo.down,h0,h2]|refine Ai ?_ ?_<;>intro hb|refine fd ?_|fail))
end Go.Proofs.YtdbiogihimdpcaaGreatDoor
