/- The functions of the layer, walked. -/
import Derived.Test.YtdbiogihimdpcaaGreatDoorPartAB
import Derived.Test.YtdbiogihimdpcaaGreatDoorLibD
open List renaming replicate→aaE,zipWith→abI,length_map→ab1,mem_of_getElem?→acM,getElem?_eq_getElem→acT,getElem?_eq_some_iff→acZ,take_of_length_le→adA,replicate_succ→adF,getElem?_append_right→adJ,length_eq_zero_iff→adM,getElem?_eq_none→adN,drop_eq_getElem_cons→adO,map_append→adP,length_set→ai4
open Int renaming lt_irrefl→abH,le_refl→adK,reducePow→adL,natCast_zero→aiK,toNat_natCast→ajQ
open Nat renaming sub_self→adI,le_succ_of_le→ajS
open Option renaming getD_some→ajR
set_option linter.unusedSimpArgs false
set_option linter.unusedVariables false
namespace Go.Proofs.YtdbiogihimdpcaaGreatDoor
open Go.Ev Go
set_option maxRecDepth 100000
set_option maxHeartbeats 16000000
theorem Ov:IntKind.i64.wrap 0=0:=by decide
theorem Ri{l:List Int}(hl:l.length≤1000)(hne:l≠[]):Bo.call (.fn 102) [.imm 1 true (l.map iv)] []=some (.ret (.slr 1 0 0 l.length),[.live 1 true false (l.map iv)]):=by
 cases l with
 |nil=>exact(hne rfl).elim
 |cons x l=>
  have h39:(l.length+1≤549755813888)=True:=eq_true (by simp at hl;omega)
  (refine ce Tryz.func102 ?_;simp only[Tryz.f102];(have hb:=trivial;with_reducible repeat' (first|simp only[hb,Va.down,seval,zE.down,ab1,h39,iv]|refine Aj ?_ ?_<;>intro hb|refine fd ?_|fail)))
def Jj(c:Ag)(w:Int):Int:=if c.firm=true then w else 0
def ak6(c:Ag)(w:Int):Int:=IntKind.i64.wrap (w-Jj c w)
theorem Wh{s:Ac}{l:List Int}{nn:Bool}{i:Nat}{c:Ag}{w:Int}(hc:s.cons[i]?=some c)(hw:l[i]?=some w):Bo.call (.fn 125) [.int .i64 i,.ptr 0 0 0,.ptr 1 0 0] [.live 6 false false [s.cells],.live 1 false false [[Bj 1 true nn (l.map iv)]]]=
 some (.ret (.int .i64 (Jj c w)),[.live 6 false false [s.cells],.live 1 false false [[Bj 1 true nn (l.map iv)]]]):=by
 (refine ce Tryz.func125 ?_;simp only[Tryz.f125];(have hb:=trivial;with_reducible repeat' (first|simp only[hb,Va.down,seval,av4.down,hc,hw,Ag.cells,iv]|refine Aj ?_ ?_<;>intro hb|refine fd ?_|fail)))
 all_goals simp[Jj,hb]
theorem wE{s:Ac}{l:List Int}{nn:Bool}{i:Nat}{c:Ag}{w:Int}(hc:s.cons[i]?=some c)(hw:l[i]?=some w):Bo.call (.fn 126) [.int .i64 i,.ptr 0 0 0,.ptr 1 0 0] [.live 1 false false [[Bj 1 true nn (l.map iv)]],.live 1 false false [[.func (.func 125) [] [.ptr 2 0 0,.ptr 0 0 0]]],.live 6 false false [s.cells]]=
 some (.ret (.int .i64 (ak6 c w)),[.live 1 false false [[Bj 1 true nn (l.map iv)]],.live 1 false false [[.func (.func 125) [] [.ptr 2 0 0,.ptr 0 0 0]]],.live 6 false false [s.cells]]):=by
 have h1:=Wh (nn:=nn) hc hw
 (refine ce Tryz.func126 ?_;simp only[Tryz.f126];(have hb:=trivial;with_reducible repeat' (first|simp only[hb,Va.down,seval,avY.down,hw,iv,h1]|refine Aj ?_ ?_<;>intro hb|refine fd ?_|fail)))
 all_goals rfl
theorem pK{p:List Int}{n i:Nat}(hp:p.length=i)(hi:i<n)(v:Int):((p++aaE (n-i) 0).map iv).set i [.int .i64 v]=(p++(v::aaE (n-(i+1)) 0)).map iv:=by
 obtain⟨m,rfl⟩:∃m,n=i+1+m:=⟨n-(i+1),by omega⟩
 have e1:i+1+m-i=m+1:=by omega
 have e2:i+1+m-(i+1)=m:=by omega
 rw[e1,e2,adF]
 subst hp
 simp[iv]
theorem pQ{p:List Int}{n i:Nat}(hp:p.length=i)(hi:i<n):(p++aaE (n-i) 0)[i]?=some (0:Int):=by
 rw[adJ (by omega),hp,adI,List.getElem?_replicate,if_pos (by omega)]
theorem pC{α:Type}{p:List α}{i:Nat}(hp:p.length=i)(v:α)(l:List α):(p++(v::l))[i]?=some v:=by
 rw[adJ (by omega),hp,adI];rfl
theorem agP{amount:Int}{l:List Int}{nn:Bool}{g:Nat}{w:Int→Int}{s:Ac}{wl:List Int}{wn:Bool}(hp:∀x∈l,Bo.call (.fn g) (.int .i64 x::[.ptr 0 0 0,.ptr 1 0 0]) [.live 6 false false [s.cells],.live 1 false false [[Bj 1 true wn (wl.map iv)]]]=some (.ret (.int .i64 (w x)),[.live 6 false false [s.cells],.live 1 false false [[Bj 1 true wn (wl.map iv)]]]))(hl:l.length≤1000):
 Bo.call (.fn 127) [.int .i64 amount,Bj 1 true nn (l.map iv),.func (.func g) [] [.ptr 0 0 0,.ptr 1 0 0]] [.live 6 false false [s.cells],.live 1 false false [[Bj 1 true wn (wl.map iv)]]]=some (.ret (.slr 1 2 0 l.length),[.live 6 false false [s.cells],.live 1 false false [[Bj 1 true wn (wl.map iv)]]]++[.live 1 true (decide (0<Ax (l.map w) 0)) ((Dl amount (Ax (l.map w) 0) (l.map w) 0 0).map iv)]):=by
 have hl':l.length≤maxLen:=by unfold maxLen;omega
 have h40:((l.length:Int)≤1099511627776)=True:=eq_true (by omega)
 (refine ce Tryz.func127 ?_;simp only[Tryz.f127];(have hb:=trivial;with_reducible repeat' (first|simp only[hb,Va.down,seval,Jh.down,ab1]|refine Aj ?_ ?_<;>intro hb|refine fd ?_|fail)))
 refine Dk (Sr 62 l (fun i (zz:Int) t h=>t 0=.int .i64 amount∧t 1=Bj 1 true nn (l.map iv)∧t 2=.func (.func g) [] [.ptr 0 0 0,.ptr 1 0 0]∧t 15=Bj 1 true nn (l.map iv)∧t 16=.int .i64 l.length∧t 17=.int .i64 i∧t 7=.int .i64 zz∧h=[.live 6 false false [s.cells],.live 1 false false [[Bj 1 true wn (wl.map iv)]]]) (fun rest zz=>Ax (rest.map w) zz) (fun r e t h=>e=.exit 0∧t 0=.int .i64 amount∧t 1=Bj 1 true nn (l.map iv)∧t 2=.func (.func g) [] [.ptr 0 0 0,.ptr 1 0 0]∧t 7=.int .i64 r∧h=[.live 6 false false [s.cells],.live 1 false false [[Bj 1 true wn (wl.map iv)]]]) ?_ ?_ (0) _ _ ?_) (fun e t h hk=>?_)
 ·rintro s' t h Q' kQ ⟨h0,h1,h2,h15,h16,h17,h7,rfl⟩
  (have hb:=trivial;with_reducible repeat' (first|simp only[hb,Va.down,seval,Jh.down,h0,h1,h2,h15,h16,h17,h7,abH,decide_false]|refine Aj ?_ ?_<;>intro hb|refine fd ?_|fail))
  exact kQ _ _ _ ⟨rfl,by simp[up,h0],by simp[up,h1],by simp[up,h2],by simp[up,h7,Ax],rfl⟩
 ·rintro x rest i s' t h J Q' kJ kQ hx hi ⟨h0,h1,h2,h15,h16,h17,h7,rfl⟩
  have hd:decide ((i:Int)<(l.length:Int))=true:=decide_eq_true (by omega)
  have hw:=Ak hi hl'
  have hpx:=hp x (acM hx)
  (have hb:=trivial;with_reducible repeat' (first|simp only[hb,Va.down,seval,Jh.down,h0,h1,h2,h15,h16,h17,h7,hd,hx,hw,iv,hpx]|refine Aj ?_ ?_<;>intro hb|refine fd ?_|fail))
  (refine Aq (kJ _ _ (IntKind.i64.wrap (s'+w x)) ⟨?_,?_,?_,?_,?_,?_,?_,rfl⟩ ?_);(simp[up,h0]);(simp[up,h1]);(simp[up,h2]);(simp[up,h15]);(simp[up,h16]);(simp[up]);(simp[up,h7]);(simp[Ax]))
 ·exact⟨by simp[up,Dn],by simp[up,Dn],by simp[up,Dn],by simp[up,Dn],by simp[up,Dn],by simp[up],by simp[up,Dn],rfl⟩
 ·obtain⟨rfl,h0,h1,h2,h7,rfl⟩:=hk
  (have hb:=trivial;with_reducible repeat' (first|simp only[hb,Va.down,seval,Jh.down,h0,h1,h2,h7,h40,iv,adK,adL]|refine Aj ?_ ?_<;>intro hb|refine fd ?_|fail))
  refine Dk (Sr 62 l (fun i (zz:List Int × Int × Int) t h=>t 0=.int .i64 amount∧t 2=.func (.func g) [] [.ptr 0 0 0,.ptr 1 0 0]∧t 7=.int .i64 (Ax (l.map w) 0)∧t 10=.slr 1 2 0 l.length∧t 30=Bj 1 true nn (l.map iv)∧t 31=.int .i64 l.length∧t 32=.int .i64 i∧t 11=.int .i64 zz.2.1∧t 12=.int .i64 zz.2.2∧h=[.live 6 false false [s.cells],.live 1 false false [[Bj 1 true wn (wl.map iv)]]]++[.live 1 true (!zz.1.isEmpty&&decide (0<Ax (l.map w) 0)) ((zz.1++aaE (l.length-i) 0).map iv)]∧zz.1.length=i∧(0<Ax (l.map w) 0∨zz.2.2=0)) (fun rest zz=>zz.1++Dl amount (Ax (l.map w) 0) (rest.map w) zz.2.1 zz.2.2) (fun r e t h=>e=.exit 2∧t 10=.slr 1 2 0 l.length∧h=[.live 6 false false [s.cells],.live 1 false false [[Bj 1 true wn (wl.map iv)]]]++[.live 1 true (!l.isEmpty&&decide (0<Ax (l.map w) 0)) (r.map iv)]) ?_ ?_ ([],0,0) _ _ ?_) (fun e t h hk=>?_)
  ·rintro⟨p,so,got⟩ t h Q' kQ ⟨h0,h2,h7,h10,h30,h31,h32,h11,h12,rfl,hpl,hgot⟩
   try dsimp only at *
   (have hb:=trivial;with_reducible repeat' (first|simp only[hb,Va.down,seval,Jh.down,h0,h2,h7,h10,h30,h31,h32,h11,h12,abH,decide_false]|refine Aj ?_ ?_<;>intro hb|refine fd ?_|fail))
   have hpe:p.isEmpty=l.isEmpty:=by cases p<;>cases l<;>simp at hpl ⊢
   exact kQ _ _ _ ⟨rfl,by simp[up,h10],by simp[Dl,hpe]⟩
  ·rintro x rest i ⟨p,so,got⟩ t h J Q' kJ kQ hx hi ⟨h0,h2,h7,h10,h30,h31,h32,h11,h12,rfl,hpl,hgot⟩
   have hd:decide ((i:Int)<(l.length:Int))=true:=decide_eq_true (by omega)
   have hw:=Ak hi hl'
   try dsimp only at *
   have hpx:=hp x (acM hx)
   have hset:=pK hpl hi
   have hget:=pQ hpl hi
   have hmid:=fun(v:Int) l=>pC hpl v l
   have hcon:p++(0:Int)::aaE (l.length-(i+1)) 0=p++aaE (l.length-i) 0:=by
    rw[show l.length-i=(l.length-(i+1))+1 by omega,adF]
   have hii:((i:Int)<(l.length:Int))=True:=eq_true (by omega)
   by_cases hq:0<Ax (l.map w) 0
   ·have hq1:decide (0<Ax (l.map w) 0)=true:=by simpa using hq
    have hq2:(Ax (l.map w) 0=0)=False:=eq_false (by omega)
    (have hb:=trivial;with_reducible repeat' (first|simp only[hb,Va.down,seval,Jh.down,h0,h2,h7,h10,h30,h31,h32,h11,h12,hd,hx,hw,hpx,hset,hget,hmid,hq1,hq2,hii,iv]|refine Aj ?_ ?_<;>intro hb|refine fd ?_|fail))
    all_goals (refine Aq (kJ _ _ (p++[Fa amount (Ax (l.map w) 0) (IntKind.i64.wrap (so+w x)) got],IntKind.i64.wrap (so+w x),IntKind.i64.wrap (got+Fa amount (Ax (l.map w) 0) (IntKind.i64.wrap (so+w x)) got)) ⟨?_,?_,?_,?_,?_,?_,?_,?_,?_,by simp[Fa,hq],by simp[hpl],.inl hq⟩ ?_);(simp[up,h0]);(simp[up,h2]);(simp[up,h7]);(simp[up,h10]);(simp[up,h30]);(simp[up,h31]);(simp[up]);(simp[up,h11,Fa,hq,Ov]);(simp[up,h12,Fa,hq,Ov]);(simp[Dl]))
   ·obtain rfl:got=0:=by rcases hgot with h|h;exact(hq h).elim;exact h
    have hq1:decide (0<Ax (l.map w) 0)=false:=by simpa using hq
    (have hb:=trivial;with_reducible repeat' (first|simp only[hb,Va.down,seval,Jh.down,h0,h2,h7,h10,h30,h31,h32,h11,h12,hd,hx,hw,hpx,hq1,hii,iv]|refine Aj ?_ ?_<;>intro hb|refine fd ?_|fail))
    all_goals (refine Aq (kJ _ _ (p++[Fa amount (Ax (l.map w) 0) (IntKind.i64.wrap (so+w x)) 0],IntKind.i64.wrap (so+w x),IntKind.i64.wrap (0+Fa amount (Ax (l.map w) 0) (IntKind.i64.wrap (so+w x)) 0)) ⟨?_,?_,?_,?_,?_,?_,?_,?_,?_,by simp[Fa,hq,hcon],by simp[hpl],.inr (by simp[Fa,hq];rfl)⟩ ?_);(simp[up,h0]);(simp[up,h2]);(simp[up,h7]);(simp[up,h10]);(simp[up,h30]);(simp[up,h31]);(simp[up]);(simp[up,h11,Fa,hq,Ov]);(simp[up,h12,Fa,hq,Ov]);(simp[Dl]))
  ·exact⟨by simp[up,Dn,h0,h1,h2,h7],by simp[up,Dn,h0,h1,h2,h7],by simp[up,Dn,h0,h1,h2,h7],by simp[up,Dn,h0,h1,h2,h7],by simp[up,Dn,h0,h1,h2,h7],by simp[up,Dn,h0,h1,h2,h7],by simp[up],by simp[up,Dn,h0,h1,h2,h7],by simp[up,Dn,h0,h1,h2,h7],by simp[iv],rfl,.inr rfl⟩
  ·obtain⟨rfl,h10,rfl⟩:=hk
   have hw:(!l.isEmpty&&decide (0<Ax (l.map w) 0))=decide (0<Ax (l.map w) 0):=by cases l<;>simp[Ax]
   (have hb:=trivial;with_reducible repeat' (first|simp only[hb,Va.down,seval,Jh.down,h10,hw]|refine Aj ?_ ?_<;>intro hb|refine fd ?_|fail))
theorem aeM{amount:Int}{l:List Int}{nn:Bool}{g:Nat}{w:Int→Int}{s:Ac}{wl:List Int}{wn:Bool}{q:Nat}(hp:∀x∈l,Bo.call (.fn g) (.int .i64 x::[.ptr 0 0 0,.ptr 1 0 0]) [.live 1 false false [[Bj 1 true wn (wl.map iv)]],.live 1 false false [[.func (.func q) [] [.ptr 2 0 0,.ptr 0 0 0]]],.live 6 false false [s.cells]]=some (.ret (.int .i64 (w x)),[.live 1 false false [[Bj 1 true wn (wl.map iv)]],.live 1 false false [[.func (.func q) [] [.ptr 2 0 0,.ptr 0 0 0]]],.live 6 false false [s.cells]]))(hl:l.length≤1000):
 Bo.call (.fn 127) [.int .i64 amount,Bj 1 true nn (l.map iv),.func (.func g) [] [.ptr 0 0 0,.ptr 1 0 0]] [.live 1 false false [[Bj 1 true wn (wl.map iv)]],.live 1 false false [[.func (.func q) [] [.ptr 2 0 0,.ptr 0 0 0]]],.live 6 false false [s.cells]]=some (.ret (.slr 1 3 0 l.length),[.live 1 false false [[Bj 1 true wn (wl.map iv)]],.live 1 false false [[.func (.func q) [] [.ptr 2 0 0,.ptr 0 0 0]]],.live 6 false false [s.cells]]++[.live 1 true (decide (0<Ax (l.map w) 0)) ((Dl amount (Ax (l.map w) 0) (l.map w) 0 0).map iv)]):=by
 have hl':l.length≤maxLen:=by unfold maxLen;omega
 have h40:((l.length:Int)≤1099511627776)=True:=eq_true (by omega)
 (refine ce Tryz.func127 ?_;simp only[Tryz.f127];(have hb:=trivial;with_reducible repeat' (first|simp only[hb,Va.down,seval,Jh.down,ab1]|refine Aj ?_ ?_<;>intro hb|refine fd ?_|fail)))
 refine Dk (Sr 62 l (fun i (zz:Int) t h=>t 0=.int .i64 amount∧t 1=Bj 1 true nn (l.map iv)∧t 2=.func (.func g) [] [.ptr 0 0 0,.ptr 1 0 0]∧t 15=Bj 1 true nn (l.map iv)∧t 16=.int .i64 l.length∧t 17=.int .i64 i∧t 7=.int .i64 zz∧h=[.live 1 false false [[Bj 1 true wn (wl.map iv)]],.live 1 false false [[.func (.func q) [] [.ptr 2 0 0,.ptr 0 0 0]]],.live 6 false false [s.cells]]) (fun rest zz=>Ax (rest.map w) zz) (fun r e t h=>e=.exit 0∧t 0=.int .i64 amount∧t 1=Bj 1 true nn (l.map iv)∧t 2=.func (.func g) [] [.ptr 0 0 0,.ptr 1 0 0]∧t 7=.int .i64 r∧h=[.live 1 false false [[Bj 1 true wn (wl.map iv)]],.live 1 false false [[.func (.func q) [] [.ptr 2 0 0,.ptr 0 0 0]]],.live 6 false false [s.cells]]) ?_ ?_ (0) _ _ ?_) (fun e t h hk=>?_)
 ·rintro s' t h Q' kQ ⟨h0,h1,h2,h15,h16,h17,h7,rfl⟩
  (have hb:=trivial;with_reducible repeat' (first|simp only[hb,Va.down,seval,Jh.down,h0,h1,h2,h15,h16,h17,h7,abH,decide_false]|refine Aj ?_ ?_<;>intro hb|refine fd ?_|fail))
  exact kQ _ _ _ ⟨rfl,by simp[up,h0],by simp[up,h1],by simp[up,h2],by simp[up,h7,Ax],rfl⟩
 ·rintro x rest i s' t h J Q' kJ kQ hx hi ⟨h0,h1,h2,h15,h16,h17,h7,rfl⟩
  have hd:decide ((i:Int)<(l.length:Int))=true:=decide_eq_true (by omega)
  have hw:=Ak hi hl'
  have hpx:=hp x (acM hx)
  (have hb:=trivial;with_reducible repeat' (first|simp only[hb,Va.down,seval,Jh.down,h0,h1,h2,h15,h16,h17,h7,hd,hx,hw,iv,hpx]|refine Aj ?_ ?_<;>intro hb|refine fd ?_|fail))
  (refine Aq (kJ _ _ (IntKind.i64.wrap (s'+w x)) ⟨?_,?_,?_,?_,?_,?_,?_,rfl⟩ ?_);(simp[up,h0]);(simp[up,h1]);(simp[up,h2]);(simp[up,h15]);(simp[up,h16]);(simp[up]);(simp[up,h7]);(simp[Ax]))
 ·exact⟨by simp[up,Dn],by simp[up,Dn],by simp[up,Dn],by simp[up,Dn],by simp[up,Dn],by simp[up],by simp[up,Dn],rfl⟩
 ·obtain⟨rfl,h0,h1,h2,h7,rfl⟩:=hk
  (have hb:=trivial;with_reducible repeat' (first|simp only[hb,Va.down,seval,Jh.down,h0,h1,h2,h7,h40,iv,adK,adL]|refine Aj ?_ ?_<;>intro hb|refine fd ?_|fail))
  refine Dk (Sr 62 l (fun i (zz:List Int × Int × Int) t h=>t 0=.int .i64 amount∧t 2=.func (.func g) [] [.ptr 0 0 0,.ptr 1 0 0]∧t 7=.int .i64 (Ax (l.map w) 0)∧t 10=.slr 1 3 0 l.length∧t 30=Bj 1 true nn (l.map iv)∧t 31=.int .i64 l.length∧t 32=.int .i64 i∧t 11=.int .i64 zz.2.1∧t 12=.int .i64 zz.2.2∧h=[.live 1 false false [[Bj 1 true wn (wl.map iv)]],.live 1 false false [[.func (.func q) [] [.ptr 2 0 0,.ptr 0 0 0]]],.live 6 false false [s.cells]]++[.live 1 true (!zz.1.isEmpty&&decide (0<Ax (l.map w) 0)) ((zz.1++aaE (l.length-i) 0).map iv)]∧zz.1.length=i∧(0<Ax (l.map w) 0∨zz.2.2=0)) (fun rest zz=>zz.1++Dl amount (Ax (l.map w) 0) (rest.map w) zz.2.1 zz.2.2) (fun r e t h=>e=.exit 2∧t 10=.slr 1 3 0 l.length∧h=[.live 1 false false [[Bj 1 true wn (wl.map iv)]],.live 1 false false [[.func (.func q) [] [.ptr 2 0 0,.ptr 0 0 0]]],.live 6 false false [s.cells]]++[.live 1 true (!l.isEmpty&&decide (0<Ax (l.map w) 0)) (r.map iv)]) ?_ ?_ ([],0,0) _ _ ?_) (fun e t h hk=>?_)
  ·rintro⟨p,so,got⟩ t h Q' kQ ⟨h0,h2,h7,h10,h30,h31,h32,h11,h12,rfl,hpl,hgot⟩
   try dsimp only at *
   (have hb:=trivial;with_reducible repeat' (first|simp only[hb,Va.down,seval,Jh.down,h0,h2,h7,h10,h30,h31,h32,h11,h12,abH,decide_false]|refine Aj ?_ ?_<;>intro hb|refine fd ?_|fail))
   have hpe:p.isEmpty=l.isEmpty:=by cases p<;>cases l<;>simp at hpl ⊢
   exact kQ _ _ _ ⟨rfl,by simp[up,h10],by simp[Dl,hpe]⟩
  ·rintro x rest i ⟨p,so,got⟩ t h J Q' kJ kQ hx hi ⟨h0,h2,h7,h10,h30,h31,h32,h11,h12,rfl,hpl,hgot⟩
   have hd:decide ((i:Int)<(l.length:Int))=true:=decide_eq_true (by omega)
   have hw:=Ak hi hl'
   try dsimp only at *
   have hpx:=hp x (acM hx)
   have hset:=pK hpl hi
   have hget:=pQ hpl hi
   have hmid:=fun(v:Int) l=>pC hpl v l
   have hcon:p++(0:Int)::aaE (l.length-(i+1)) 0=p++aaE (l.length-i) 0:=by
    rw[show l.length-i=(l.length-(i+1))+1 by omega,adF]
   have hii:((i:Int)<(l.length:Int))=True:=eq_true (by omega)
   by_cases hq:0<Ax (l.map w) 0
   ·have hq1:decide (0<Ax (l.map w) 0)=true:=by simpa using hq
    have hq2:(Ax (l.map w) 0=0)=False:=eq_false (by omega)
    (have hb:=trivial;with_reducible repeat' (first|simp only[hb,Va.down,seval,Jh.down,h0,h2,h7,h10,h30,h31,h32,h11,h12,hd,hx,hw,hpx,hset,hget,hmid,hq1,hq2,hii,iv]|refine Aj ?_ ?_<;>intro hb|refine fd ?_|fail))
    all_goals (refine Aq (kJ _ _ (p++[Fa amount (Ax (l.map w) 0) (IntKind.i64.wrap (so+w x)) got],IntKind.i64.wrap (so+w x),IntKind.i64.wrap (got+Fa amount (Ax (l.map w) 0) (IntKind.i64.wrap (so+w x)) got)) ⟨?_,?_,?_,?_,?_,?_,?_,?_,?_,by simp[Fa,hq],by simp[hpl],.inl hq⟩ ?_);(simp[up,h0]);(simp[up,h2]);(simp[up,h7]);(simp[up,h10]);(simp[up,h30]);(simp[up,h31]);(simp[up]);(simp[up,h11,Fa,hq,Ov]);(simp[up,h12,Fa,hq,Ov]);(simp[Dl]))
   ·obtain rfl:got=0:=by rcases hgot with h|h;exact(hq h).elim;exact h
    have hq1:decide (0<Ax (l.map w) 0)=false:=by simpa using hq
    (have hb:=trivial;with_reducible repeat' (first|simp only[hb,Va.down,seval,Jh.down,h0,h2,h7,h10,h30,h31,h32,h11,h12,hd,hx,hw,hpx,hq1,hii,iv]|refine Aj ?_ ?_<;>intro hb|refine fd ?_|fail))
    all_goals (refine Aq (kJ _ _ (p++[Fa amount (Ax (l.map w) 0) (IntKind.i64.wrap (so+w x)) 0],IntKind.i64.wrap (so+w x),IntKind.i64.wrap (0+Fa amount (Ax (l.map w) 0) (IntKind.i64.wrap (so+w x)) 0)) ⟨?_,?_,?_,?_,?_,?_,?_,?_,?_,by simp[Fa,hq,hcon],by simp[hpl],.inr (by simp[Fa,hq];rfl)⟩ ?_);(simp[up,h0]);(simp[up,h2]);(simp[up,h7]);(simp[up,h10]);(simp[up,h30]);(simp[up,h31]);(simp[up]);(simp[up,h11,Fa,hq,Ov]);(simp[up,h12,Fa,hq,Ov]);(simp[Dl]))
  ·exact⟨by simp[up,Dn,h0,h1,h2,h7],by simp[up,Dn,h0,h1,h2,h7],by simp[up,Dn,h0,h1,h2,h7],by simp[up,Dn,h0,h1,h2,h7],by simp[up,Dn,h0,h1,h2,h7],by simp[up,Dn,h0,h1,h2,h7],by simp[up],by simp[up,Dn,h0,h1,h2,h7],by simp[up,Dn,h0,h1,h2,h7],by simp[iv],rfl,.inr rfl⟩
  ·obtain⟨rfl,h10,rfl⟩:=hk
   have hw:(!l.isEmpty&&decide (0<Ax (l.map w) 0))=decide (0<Ax (l.map w) 0):=by cases l<;>simp[Ax]
   (have hb:=trivial;with_reducible repeat' (first|simp only[hb,Va.down,seval,Jh.down,h10,hw]|refine Aj ?_ ?_<;>intro hb|refine fd ?_|fail))
theorem Oe{amount:Int}{l:List Int}{nn:Bool}{g:Nat}{w:Int→Int}  (hp:∀x∈l,Bo.call (.fn g) (.int .i64 x::[]) []=some (.ret (.int .i64 (w x)),[]))(hl:l.length≤1000):
 Bo.call (.fn 127) [.int .i64 amount,Bj 1 true nn (l.map iv),.func (.func g) [] []] []=some (.ret (.slr 1 0 0 l.length),[]++[.live 1 true (decide (0<Ax (l.map w) 0)) ((Dl amount (Ax (l.map w) 0) (l.map w) 0 0).map iv)]):=by
 have hl':l.length≤maxLen:=by unfold maxLen;omega
 have h40:((l.length:Int)≤1099511627776)=True:=eq_true (by omega)
 (refine ce Tryz.func127 ?_;simp only[Tryz.f127];(have hb:=trivial;with_reducible repeat' (first|simp only[hb,Va.down,seval,Jh.down,ab1]|refine Aj ?_ ?_<;>intro hb|refine fd ?_|fail)))
 refine Dk (Sr 62 l (fun i (zz:Int) t h=>t 0=.int .i64 amount∧t 1=Bj 1 true nn (l.map iv)∧t 2=.func (.func g) [] []∧t 15=Bj 1 true nn (l.map iv)∧t 16=.int .i64 l.length∧t 17=.int .i64 i∧t 7=.int .i64 zz∧h=[]) (fun rest zz=>Ax (rest.map w) zz) (fun r e t h=>e=.exit 0∧t 0=.int .i64 amount∧t 1=Bj 1 true nn (l.map iv)∧t 2=.func (.func g) [] []∧t 7=.int .i64 r∧h=[]) ?_ ?_ (0) _ _ ?_) (fun e t h hk=>?_)
 ·rintro s' t h Q' kQ ⟨h0,h1,h2,h15,h16,h17,h7,rfl⟩
  (have hb:=trivial;with_reducible repeat' (first|simp only[hb,Va.down,seval,Jh.down,h0,h1,h2,h15,h16,h17,h7,abH,decide_false]|refine Aj ?_ ?_<;>intro hb|refine fd ?_|fail))
  exact kQ _ _ _ ⟨rfl,by simp[up,h0],by simp[up,h1],by simp[up,h2],by simp[up,h7,Ax],rfl⟩
 ·rintro x rest i s' t h J Q' kJ kQ hx hi ⟨h0,h1,h2,h15,h16,h17,h7,rfl⟩
  have hd:decide ((i:Int)<(l.length:Int))=true:=decide_eq_true (by omega)
  have hw:=Ak hi hl'
  have hpx:=hp x (acM hx)
  (have hb:=trivial;with_reducible repeat' (first|simp only[hb,Va.down,seval,Jh.down,h0,h1,h2,h15,h16,h17,h7,hd,hx,hw,iv,hpx]|refine Aj ?_ ?_<;>intro hb|refine fd ?_|fail))
  (refine Aq (kJ _ _ (IntKind.i64.wrap (s'+w x)) ⟨?_,?_,?_,?_,?_,?_,?_,rfl⟩ ?_);(simp[up,h0]);(simp[up,h1]);(simp[up,h2]);(simp[up,h15]);(simp[up,h16]);(simp[up]);(simp[up,h7]);(simp[Ax]))
 ·exact⟨by simp[up,Dn],by simp[up,Dn],by simp[up,Dn],by simp[up,Dn],by simp[up,Dn],by simp[up],by simp[up,Dn],rfl⟩
 ·obtain⟨rfl,h0,h1,h2,h7,rfl⟩:=hk
  (have hb:=trivial;with_reducible repeat' (first|simp only[hb,Va.down,seval,Jh.down,h0,h1,h2,h7,h40,iv,adK,adL]|refine Aj ?_ ?_<;>intro hb|refine fd ?_|fail))
  refine Dk (Sr 62 l (fun i (zz:List Int × Int × Int) t h=>t 0=.int .i64 amount∧t 2=.func (.func g) [] []∧t 7=.int .i64 (Ax (l.map w) 0)∧t 10=.slr 1 0 0 l.length∧t 30=Bj 1 true nn (l.map iv)∧t 31=.int .i64 l.length∧t 32=.int .i64 i∧t 11=.int .i64 zz.2.1∧t 12=.int .i64 zz.2.2∧h=[]++[.live 1 true (!zz.1.isEmpty&&decide (0<Ax (l.map w) 0)) ((zz.1++aaE (l.length-i) 0).map iv)]∧zz.1.length=i∧(0<Ax (l.map w) 0∨zz.2.2=0)) (fun rest zz=>zz.1++Dl amount (Ax (l.map w) 0) (rest.map w) zz.2.1 zz.2.2) (fun r e t h=>e=.exit 2∧t 10=.slr 1 0 0 l.length∧h=[]++[.live 1 true (!l.isEmpty&&decide (0<Ax (l.map w) 0)) (r.map iv)]) ?_ ?_ ([],0,0) _ _ ?_) (fun e t h hk=>?_)
  ·rintro⟨p,so,got⟩ t h Q' kQ ⟨h0,h2,h7,h10,h30,h31,h32,h11,h12,rfl,hpl,hgot⟩
   try dsimp only at *
   (have hb:=trivial;with_reducible repeat' (first|simp only[hb,Va.down,seval,Jh.down,h0,h2,h7,h10,h30,h31,h32,h11,h12,abH,decide_false]|refine Aj ?_ ?_<;>intro hb|refine fd ?_|fail))
   have hpe:p.isEmpty=l.isEmpty:=by cases p<;>cases l<;>simp at hpl ⊢
   exact kQ _ _ _ ⟨rfl,by simp[up,h10],by simp[Dl,hpe]⟩
  ·rintro x rest i ⟨p,so,got⟩ t h J Q' kJ kQ hx hi ⟨h0,h2,h7,h10,h30,h31,h32,h11,h12,rfl,hpl,hgot⟩
   have hd:decide ((i:Int)<(l.length:Int))=true:=decide_eq_true (by omega)
   have hw:=Ak hi hl'
   try dsimp only at *
   have hpx:=hp x (acM hx)
   have hset:=pK hpl hi
   have hget:=pQ hpl hi
   have hmid:=fun(v:Int) l=>pC hpl v l
   have hcon:p++(0:Int)::aaE (l.length-(i+1)) 0=p++aaE (l.length-i) 0:=by
    rw[show l.length-i=(l.length-(i+1))+1 by omega,adF]
   have hii:((i:Int)<(l.length:Int))=True:=eq_true (by omega)
   by_cases hq:0<Ax (l.map w) 0
   ·have hq1:decide (0<Ax (l.map w) 0)=true:=by simpa using hq
    have hq2:(Ax (l.map w) 0=0)=False:=eq_false (by omega)
    (have hb:=trivial;with_reducible repeat' (first|simp only[hb,Va.down,seval,Jh.down,h0,h2,h7,h10,h30,h31,h32,h11,h12,hd,hx,hw,hpx,hset,hget,hmid,hq1,hq2,hii,iv]|refine Aj ?_ ?_<;>intro hb|refine fd ?_|fail))
    all_goals (refine Aq (kJ _ _ (p++[Fa amount (Ax (l.map w) 0) (IntKind.i64.wrap (so+w x)) got],IntKind.i64.wrap (so+w x),IntKind.i64.wrap (got+Fa amount (Ax (l.map w) 0) (IntKind.i64.wrap (so+w x)) got)) ⟨?_,?_,?_,?_,?_,?_,?_,?_,?_,by simp[Fa,hq],by simp[hpl],.inl hq⟩ ?_);(simp[up,h0]);(simp[up,h2]);(simp[up,h7]);(simp[up,h10]);(simp[up,h30]);(simp[up,h31]);(simp[up]);(simp[up,h11,Fa,hq,Ov]);(simp[up,h12,Fa,hq,Ov]);(simp[Dl]))
   ·obtain rfl:got=0:=by rcases hgot with h|h;exact(hq h).elim;exact h
    have hq1:decide (0<Ax (l.map w) 0)=false:=by simpa using hq
    (have hb:=trivial;with_reducible repeat' (first|simp only[hb,Va.down,seval,Jh.down,h0,h2,h7,h10,h30,h31,h32,h11,h12,hd,hx,hw,hpx,hq1,hii,iv]|refine Aj ?_ ?_<;>intro hb|refine fd ?_|fail))
    all_goals (refine Aq (kJ _ _ (p++[Fa amount (Ax (l.map w) 0) (IntKind.i64.wrap (so+w x)) 0],IntKind.i64.wrap (so+w x),IntKind.i64.wrap (0+Fa amount (Ax (l.map w) 0) (IntKind.i64.wrap (so+w x)) 0)) ⟨?_,?_,?_,?_,?_,?_,?_,?_,?_,by simp[Fa,hq,hcon],by simp[hpl],.inr (by simp[Fa,hq];rfl)⟩ ?_);(simp[up,h0]);(simp[up,h2]);(simp[up,h7]);(simp[up,h10]);(simp[up,h30]);(simp[up,h31]);(simp[up]);(simp[up,h11,Fa,hq,Ov]);(simp[up,h12,Fa,hq,Ov]);(simp[Dl]))
  ·exact⟨by simp[up,Dn,h0,h1,h2,h7],by simp[up,Dn,h0,h1,h2,h7],by simp[up,Dn,h0,h1,h2,h7],by simp[up,Dn,h0,h1,h2,h7],by simp[up,Dn,h0,h1,h2,h7],by simp[up,Dn,h0,h1,h2,h7],by simp[up],by simp[up,Dn,h0,h1,h2,h7],by simp[up,Dn,h0,h1,h2,h7],by simp[iv],rfl,.inr rfl⟩
  ·obtain⟨rfl,h10,rfl⟩:=hk
   have hw:(!l.isEmpty&&decide (0<Ax (l.map w) 0))=decide (0<Ax (l.map w) 0):=by cases l<;>simp[Ax]
   (have hb:=trivial;with_reducible repeat' (first|simp only[hb,Va.down,seval,Jh.down,h10,hw]|refine Aj ?_ ?_<;>intro hb|refine fd ?_|fail))
def Vy(x y:Int):Int:=IntKind.i64.wrap (x+y)
def Hw(cs:List Ag)(l:List Int):List Int:=abI Jj cs l
def qP(cs:List Ag)(l:List Int):List Int:=abI ak6 cs l
def Xu(n:Nat):List Int:=(List.range n).map Int.ofNat
def Fj(cs:List Ag)(l:List Int)(most:Int):List Int:=
 if Ax l 0≤most then l else if most<Ax (Hw cs l) 0 then Dl most (Ax (Hw cs l) 0) (Hw cs l) 0 0
 else abI Vy (Dl (IntKind.i64.wrap (most-Ax (Hw cs l) 0)) (Ax (qP cs l) 0) (qP cs l) 0 0) (Hw cs l)
def pD(cs:List Ag)(l:List Int)(most:Int):Bool:=if Ax l 0≤most then false else if most<Ax (Hw cs l) 0 then decide (0<Ax (Hw cs l) 0)else true
theorem Hn(n:Nat):(Xu n).length=n:=by simp[Xu]
theorem abX(n:Nat):Xu (n+1)=Xu n++[(n:Int)]:=by simp[Xu,List.range_succ]
theorem Iz(a b:Int):∀(l:List Int) (so got:Int),(Dl a b l so got).length=l.length
 | [],_,_=>rfl
 |x::l,so,got=>by simp[Dl,Iz a b l]
theorem iJ{f:Ag→Int→Int}{cs:List Ag}{l:List Int}{i:Nat}{x:Int}(h:(abI f cs l)[i]?=some x):∃c w,cs[i]?=some c∧l[i]?=some w∧x=f c w:=by
 rw[List.getElem?_zipWith]at h
 cases hc:cs[i]? with
 |none=>simp[hc]at h
 |some c=>
  cases hw:l[i]? with
  |none=>simp[hc,hw]at h
  |some w=>simp[hc,hw]at h;exact⟨c,w,rfl,rfl,h.symm⟩
theorem yA(l:List Int):(Xu l.length).map (fun x=>(l[x.toNat]?).getD 0)=l:=by
 refine List.ext_getElem? fun i=>?_
 simp only[Xu,List.map_map,List.getElem?_map,Function.comp_def]
 by_cases hi:i<l.length
 ·rw[List.getElem?_range hi];simp[hi]
 ·rw[adN (by simpa using hi),adN (by simpa using hi)];rfl
theorem zJ{n:Nat}{x:Int}(h:x∈Xu n):∃k:Nat,x=(k:Int)∧k<n:=by
 simp only[Xu,List.mem_map,List.mem_range]at h
 obtain⟨k,hk,rfl⟩:=h
 exact⟨k,rfl,hk⟩
theorem ajC{p sh:List Int}{i:Nat}{y:Int}(hp:p.length=i)(hy:sh[i]?=some y)(v:Int):((p++sh.drop i).map iv).set i [.int .i64 v]=(p++(v::sh.drop (i+1))).map iv:=by
 have hlt:i<sh.length:=(acZ.1 hy).1
 subst hp
 rw[adO hlt,adP,List.map_cons,List.set_append_right _ _ (by simp)]
 simp only[ab1,adI,List.set_cons_zero,adP,List.map_cons]
 rfl
theorem ahS{p sh:List Int}{i:Nat}{y:Int}(hp:p.length=i)(hy:sh[i]?=some y):(p++sh.drop i)[i]?=some y:=by
 rw[adJ (by omega),hp,adI,List.getElem?_drop];simpa using hy
theorem acB{x y:Int}{rest sh:List Int}{i:Nat}(hy:sh[i]?=some y)(p:List Int)(hp:p.length=i):(p++[Vy y x])++abI Vy (sh.drop (p++[Vy y x]).length) rest=p++abI Vy (sh.drop p.length) (x::rest):=by
 have hlt:i<sh.length:=(acZ.1 hy).1
 have hd:sh.drop i=y::sh.drop (i+1):=by
  rw[adO hlt]
  congr 1
  exact Option.some.inj ((acT hlt).symm.trans hy)
 rw[List.length_append,hp,hd]
 simp
theorem nI{s:Ac}{l:List Int}{nn:Bool}{most:Int}(hcl:l.length=s.cons.length)(hl:l.length≤1000)(hne:l≠[]):Bo.call (.fn 96) [.agg s.cells,Bj 1 true nn (l.map iv),.int .i64 most] []=some (.ret (.slr 1 0 0 l.length),[.live 1 true (pD s.cons l most) ((Fj s.cons l most).map iv)]):=by
 have hl':l.length≤maxLen:=by unfold maxLen;omega
 have hsum:=Yl (nn:=nn) hl'
 have hcln:=Ri hl hne
 rw[←kC (n:=1) (fl:=true) (nn:=nn) (rows:=l.map iv) (by simpa using hne)]at hcln
 (refine ce Tryz.func96 ?_;simp only[Tryz.f96];(have hb:=trivial;with_reducible repeat' (first|simp only[hb,Va.down,seval,iD.down,ab1,hsum,hcln]|refine Aj ?_ ?_<;>intro hb|refine fd ?_|fail)))
 ·have hb:Ax l 0≤most:=by simpa using hb
  simp[Fj,pD,hb]
 have hq:¬Ax l 0≤most:=by simpa using hb
 have hfl:(Hw s.cons l).length=l.length:=by simp[Hw,hcl]
 have hol:(qP s.cons l).length=l.length:=by simp[qP,hcl]
 have hfl':(Hw s.cons l).length≤maxLen:=by omega
 refine Dk (Sr 73 l (fun i (zz:Unit) t h=>t 2=.int .i64 most∧t 3=.ptr 0 0 0∧t 4=.ptr 1 0 0∧t 22=.int .i64 l.length∧t 23=.int .i64 i∧h[0]?=some (.live 6 false false [s.cells])∧h[1]?=some (.live 1 false false [[Bj 1 true nn (l.map iv)]])∧((i=0∧t 7=.nils∧h.length=2)∨(0<i∧∃b,2≤b∧t 7=.slr 1 b 0 i∧h[b]?=some (.live 1 true false ((Xu i).map iv))))) (fun rest zz=>()) (fun r e t h=>e=.exit 0∧t 2=.int .i64 most∧t 3=.ptr 0 0 0∧t 4=.ptr 1 0 0∧h[0]?=some (.live 6 false false [s.cells])∧h[1]?=some (.live 1 false false [[Bj 1 true nn (l.map iv)]])∧(∃b,2≤b∧t 7=.slr 1 b 0 l.length∧h[b]?=some (.live 1 true false ((Xu l.length).map iv)))) ?_ ?_ () _ _ ?_) (fun e tA hA hk=>?_)
 ·rintro _ t h Q' kQ ⟨h2,h3,h4,h22,h23,hS,hW,hc⟩
  (have hb:=trivial;with_reducible repeat' (first|simp only[hb,Va.down,seval,iD.down,h2,h3,h4,h22,h23,abH,decide_false]|refine Aj ?_ ?_<;>intro hb|refine fd ?_|fail))
  rcases hc with⟨hz,_⟩|⟨_,b,hb2,h7,hb⟩
  ·exact(hne (adM.1 hz)).elim
  ·exact kQ _ _ _ ⟨rfl,by simp[up,h2],by simp[up,h3],by simp[up,h4],hS,hW,b,hb2,by simp[up,h7],hb⟩
 ·rintro x rest i _ t h J Q' kJ kQ hx hi ⟨h2,h3,h4,h22,h23,hS,hW,hc⟩
  have hd:decide ((i:Int)<(l.length:Int))=true:=decide_eq_true (by omega)
  have hw:=Ak hi hl'
  rcases hc with⟨rfl,h7,hlen⟩|⟨h0,b,hb2,h7,hb⟩
  ·simp only[aiK]at hd
   (have hb:=trivial;with_reducible repeat' (first|simp only[hb,Va.down,seval,iD.down,h2,h3,h4,h22,h23,h7,hd,hx,hw,iv]|refine Aj ?_ ?_<;>intro hb|refine fd ?_|fail))
   (refine Aq (kJ _ _ () ⟨?_,?_,?_,?_,?_,Bv hS _,Bv hW _,.inr ⟨by omega,h.length+1,by omega,by simp[up],by rw[Td];simp[Xu,iv]⟩⟩ ?_);(simp[up,h2]);(simp[up,h3]);(simp[up,h4]);(simp[up,h22]);(simp[up]);exact rfl)
  ·have hbl:b<h.length:=(acZ.1 hb).1
   have hA:=Bv hb
   have hSt:=Nw hbl
   have hi39:(i+1≤549755813888)=True:=eq_true (by omega)
   have hlp:0+i=(Xu i).length:=by simp[Hn]
   (have hb:=trivial;with_reducible repeat' (first|simp only[hb,Va.down,seval,iD.down,h2,h3,h4,h22,h23,h7,hd,hx,hw,iv,hA,hSt,dD,Ud,ai4,hi39,Hn]|refine Aj ?_ ?_<;>intro hb|refine fd ?_|fail))
   (refine Aq (kJ _ _ () ⟨?_,?_,?_,?_,?_,pP _ (by omega) hS _,pP _ (by omega) hW _,.inr ⟨by omega,h.length+1,by omega,by simp[up],by rw[Ud];simp[abX,iv]⟩⟩ ?_);(simp[up,h2]);(simp[up,h3]);(simp[up,h4]);(simp[up,h22]);(simp[up]);exact rfl)
 ·exact⟨by simp[up,Dn],by simp[up,Dn],by simp[up,Dn],by simp[up,Dn],by simp[up],rfl,rfl,.inl ⟨rfl,by simp[up],rfl⟩⟩
 ·obtain⟨rfl,h2,h3,h4,hS,hW,b,hb2,h7,hbi⟩:=hk
  have hbl:b<hA.length:=(acZ.1 hbi).1
  have hS1:=Bv hS
  have hW1:=Bv hW
  have hb1:=Bv hbi
  have z1:(hA.length=0)=False:=eq_false (by omega)
  have z2:(1=hA.length)=False:=eq_false (by omega)
  have y1:(b==1)=false:=by simp;omega
  have y2:(b==hA.length)=false:=by simp;omega
  have y3:(b==0)=false:=by simp;omega
  have z3:(0=hA.length)=False:=eq_false (by omega)
  (have hb:=trivial;with_reducible repeat' (first|simp only[hb,Va.down,seval,iD.down,h2,h3,h4,h7,hS1,hW1]|refine Aj ?_ ?_<;>intro hb|refine fd ?_|fail))
  refine Dk (Sr 73 (Hw s.cons l) (fun i (zz:Int) t h=>t 2=.int .i64 most∧t 7=.slr 1 b 0 l.length∧t 9=.ptr hA.length 0 0∧t 10=.func (.func 126) [] [.ptr 1 0 0,.ptr hA.length 0 0]∧t 34=.int .i64 (Hw s.cons l).length∧t 35=.int .i64 i∧t 11=.int .i64 zz∧h=hA++[.live 1 false true [[.func (.func 125) [] [.ptr 0 0 0,.ptr 1 0 0]]]]) (fun rest zz=>Ax rest zz) (fun r e t h=>e=.exit 2∧t 2=.int .i64 most∧t 7=.slr 1 b 0 l.length∧t 9=.ptr hA.length 0 0∧t 10=.func (.func 126) [] [.ptr 1 0 0,.ptr hA.length 0 0]∧t 11=.int .i64 r∧h=hA++[.live 1 false true [[.func (.func 125) [] [.ptr 0 0 0,.ptr 1 0 0]]]]) ?_ ?_ (0) _ _ ?_) (fun e tB hB hk=>?_)
  ·rintro a' t h Q' kQ ⟨h2,h7,h9,h10,h34,h35,h11,rfl⟩
   (have hb:=trivial;with_reducible repeat' (first|simp only[hb,Va.down,seval,iD.down,h2,h7,h9,h10,h34,h35,h11,abH,decide_false]|refine Aj ?_ ?_<;>intro hb|refine fd ?_|fail))
   exact kQ _ _ _ ⟨rfl,by simp[up,h2],by simp[up,h7],by simp[up,h9],by simp[up,h10],by simp[up,h11,Ax],rfl⟩
  ·rintro x rest i a' t h J Q' kJ kQ hx hi ⟨h2,h7,h9,h10,h34,h35,h11,rfl⟩
   have hd:decide ((i:Int)<((Hw s.cons l).length:Int))=true:=decide_eq_true (by omega)
   have hw:=Ak hi hfl'
   obtain⟨c,w,hc,hw',rfl⟩:=iJ hx
   have hg:=Wh (nn:=nn) hc hw'
   (have hb:=trivial;with_reducible repeat' (first|simp only[hb,Va.down,seval,iD.down,h2,h7,h9,h10,h34,h35,h11,hd,hx,hw,hS1,hW1,hg]|refine Aj ?_ ?_<;>intro hb|refine fd ?_|fail))
   (refine Aq (kJ _ _ (IntKind.i64.wrap (a'+Jj c w)) ⟨?_,?_,?_,?_,?_,?_,?_,rfl⟩ ?_);(simp[up,h2]);(simp[up,h7]);(simp[up,h9]);(simp[up,h10]);(simp[up,h34]);(simp[up]);(simp[up,h11]);exact rfl)
  ·exact⟨by simp[up,Dn,h2,h3,h4,h7,hfl],by simp[up,Dn,h2,h3,h4,h7,hfl],by simp[up,Dn,h2,h3,h4,h7,hfl],by simp[up,Dn,h2,h3,h4,h7,hfl],by simp[up,Dn,h2,h3,h4,h7,hfl],by simp[up],by simp[up,Dn,h2,h3,h4,h7,hfl],rfl⟩
  ·obtain⟨rfl,h2,h7,h9,h10,h11,rfl⟩:=hk
   have htk:((Xu l.length).map iv).take l.length=(Xu l.length).map iv:=adA (by simp[Hn])
   have hshA:=agP (amount:=most) (nn:=true) (g:=125) (s:=s) (wl:=l) (wn:=nn) (l:=Xu l.length) (w:=fun x=>((Hw s.cons l)[x.toNat]?).getD 0) (fun x hx=>by
    obtain⟨k,rfl,hk⟩:=zJ hx
    obtain⟨y,hy⟩:∃y,(Hw s.cons l)[k]?=some y:=⟨_,acT (by omega)⟩
    obtain⟨c,w,hc,hw',rfl⟩:=iJ hy
    simp only[ajQ,hy,ajR]
    exact Wh hc hw') (by rw[Hn];exact hl)
   have hshB:=aeM (amount:=IntKind.i64.wrap (most-Ax (Hw s.cons l) 0)) (nn:=true) (g:=126) (q:=125) (s:=s) (wl:=l) (wn:=nn) (l:=Xu l.length) (w:=fun x=>((qP s.cons l)[x.toNat]?).getD 0) (fun x hx=>by
    obtain⟨k,rfl,hk⟩:=zJ hx
    obtain⟨y,hy⟩:∃y,(qP s.cons l)[k]?=some y:=⟨_,acT (by omega)⟩
    obtain⟨c,w,hc,hw',rfl⟩:=iJ hy
    simp only[ajQ,hy,ajR]
    exact wE hc hw') (by rw[Hn];exact hl)
   have m1:=yA (Hw s.cons l)
   have m2:=yA (qP s.cons l)
   rw[hfl]at m1
   rw[hol]at m2
   rw[Bg,m1,Hn]at hshA
   rw[Bg,m2,Hn]at hshB
   simp only[List.cons_append,List.nil_append]at hshA hshB
   have hle:(0+l.length≤(Xu l.length).length)=True:=eq_true (by simp[Hn])
   (have hb:=trivial;with_reducible repeat' (first|simp only[hb,Va.down,seval,iD.down,h2,h7,h9,h10,h11,hS1,hW1,hb1,hshA,hshB,y1,y2,y3,z1,z2,z3,htk,Hn]|refine Aj ?_ ?_<;>intro hb|refine fd ?_|fail))
   ·have hb:most<Ax (Hw s.cons l) 0:=by simpa using hb
    simp[Fj,pD,hq,hb]
   have hbm:¬most<Ax (Hw s.cons l) 0:=by simpa using hb
   have hshl:∀a b,(Dl a b (qP s.cons l) 0 0).length=l.length:=fun a b=>by rw[Iz,hol]
   refine Dk (Sr 73 (Hw s.cons l) (fun i (zz:List Int × Bool) t h=>t 9=.ptr hA.length 0 0∧t 13=.slr 1 (hA.length+1) 0 l.length∧t 58=.int .i64 (Hw s.cons l).length∧t 59=.int .i64 i∧h=hA++[.live 1 false true [[.func (.func 125) [] [.ptr 0 0 0,.ptr 1 0 0]]],.live 1 true zz.2 ((zz.1++(Dl (IntKind.i64.wrap (most-Ax (Hw s.cons l) 0)) (Ax (qP s.cons l) 0) (qP s.cons l) 0 0).drop i).map iv)]∧zz.1.length=i∧(i=0∨zz.2=true)) (fun rest zz=>zz.1++abI Vy ((Dl (IntKind.i64.wrap (most-Ax (Hw s.cons l) 0)) (Ax (qP s.cons l) 0) (qP s.cons l) 0 0).drop zz.1.length) rest) (fun r e t h=>e=.exit 4∧t 13=.slr 1 (hA.length+1) 0 l.length∧h=hA++[.live 1 false true [[.func (.func 125) [] [.ptr 0 0 0,.ptr 1 0 0]]],.live 1 true true (r.map iv)]) ?_ ?_ ([],decide (0<Ax (qP s.cons l) 0)) _ _ ?_) (fun e tC hC hk=>?_)
   ·rintro⟨p,wf⟩ t h Q' kQ ⟨h9,h13,h58,h59,rfl,hp,hf⟩
    try dsimp only at *
    (have hb:=trivial;with_reducible repeat' (first|simp only[hb,Va.down,seval,iD.down,h9,h13,h58,h59,abH,decide_false]|refine Aj ?_ ?_<;>intro hb|refine fd ?_|fail))
    rcases hf with hz|rfl
    ·exact(hne (adM.1 (by omega))).elim
    ·exact kQ _ _ _ ⟨rfl,by simp[up,h13],by rw[List.drop_eq_nil_iff.2 (by rw[hshl];omega)];simp⟩
   ·rintro x rest i ⟨p,wf⟩ t h J Q' kJ kQ hx hi ⟨h9,h13,h58,h59,rfl,hp,hf⟩
    have hd:decide ((i:Int)<((Hw s.cons l).length:Int))=true:=decide_eq_true (by omega)
    have hw:=Ak hi hfl'
    try dsimp only at *
    obtain⟨c,w,hc,hw',rfl⟩:=iJ hx
    have hg:=Wh (nn:=nn) hc hw'
    obtain⟨y,hy⟩:∃y,(Dl (IntKind.i64.wrap (most-Ax (Hw s.cons l) 0)) (Ax (qP s.cons l) 0) (qP s.cons l) 0 0)[i]?=some y:=⟨_,acT (by rw[hshl];omega)⟩
    have hset:=ajC hp hy
    have hget:=ahS hp hy
    have hii:((i:Int)<(l.length:Int))=True:=eq_true (by omega)
    (have hb:=trivial;with_reducible repeat' (first|simp only[hb,Va.down,seval,iD.down,h9,h13,h58,h59,hd,hx,hw,hS1,hW1,hg,hset,hget,hii,iv]|refine Aj ?_ ?_<;>intro hb|refine fd ?_|fail))
    (refine Aq (kJ _ _ (p++[Vy y (Jj c w)],true) ⟨?_,?_,?_,?_,by simp[Vy],by simp[hp],.inr rfl⟩ ?_);(simp[up,h9]);(simp[up,h13]);(simp[up,h58]);(simp[up]);(exact acB hy p hp))
   ·exact⟨by simp[up,Dn,h2,h7,h9,h10,h11,hfl],by simp[up,Dn,h2,h7,h9,h10,h11,hfl],by simp[up,Dn,h2,h7,h9,h10,h11,hfl],by simp[up],by simp,rfl,.inl rfl⟩
   ·obtain⟨rfl,h13,rfl⟩:=hk
    (have hb:=trivial;with_reducible repeat' (first|simp only[hb,Va.down,seval,iD.down,h13]|refine Aj ?_ ?_<;>intro hb|refine fd ?_|fail))
    simp[Fj,pD,hq,hbm]
def iE(c:Ag)(w:Int):Int:=if c.firm=true then 0 else w
def Pq(cs:List Ag)(l:List Int):List Int:=abI iE cs l
def Xe(cs:List Ag)(l:List Int)(most:Int):List Int:=
 if Ax l 0≤most then l else if most<Ax (Hw cs l) 0 then Dl most (Ax (Hw cs l) 0) (Hw cs l) 0 0
 else abI Vy (Dl (IntKind.i64.wrap (most-Ax (Hw cs l) 0)) (Ax (Pq cs l) 0) (Pq cs l) 0 0) (Hw cs l)
theorem Uy{cs:List Ag}{l:List Int}(h:l.length=cs.length)(most:Int):(Fj cs l most).length=l.length:=by
 unfold Fj
 split
 ·rfl
 ·split
  ·simp[Iz,Hw,h]
  ·simp[Iz,Hw,qP,h]
theorem aT{cs:List Ag}{l:List Int}(h:l.length=cs.length)(most:Int):(Xe cs l most).length=l.length:=by
 unfold Xe
 split
 ·rfl
 ·split
  ·simp[Iz,Hw,h]
  ·simp[Iz,Hw,Pq,h]
def Gk(g:List Ag→List Int→Int→List Int)(cs:List Ag)(l:List Int)(most least:Int):List Int:=abI Xv (g cs (l.map Cm) most) (g cs (l.map Dt) least)
theorem eE{α β:Type}{f:α→β}{l:List α}(h:l≠[]):l.map f≠[]:=by simpa using h
theorem iV{s:Ac}{l:List Int}{nn:Bool}{most least:Int}(hcl:l.length=s.cons.length)(hl:l.length≤1000)(hne:l≠[]):Bo.call (.fn 53) [.agg s.cells,Bj 1 true nn (l.map iv),.int .i64 most,.int .i64 least] []=
 some (.ret (.slr 1 0 0 l.length),[.live 1 true false ((Gk Fj s.cons l most least).map iv)]):=by
 have h1:=cY (nn:=nn) hl hne
 have h2:=nI (s:=s) (l:=l.map Cm) (nn:=true) (most:=most) (by simpa using hcl) (by simpa using hl) (eE hne)
 have h3:=nI (s:=s) (l:=l.map Dt) (nn:=true) (most:=least) (by simpa using hcl) (by simpa using hl) (eE hne)
 have k2:=Uy (cs:=s.cons) (l:=l.map Cm) (by simpa using hcl) most
 have k3:=Uy (cs:=s.cons) (l:=l.map Dt) (by simpa using hcl) least
 rw[ab1]at k2 k3 h2 h3
 have hgl:(abI Xv (Fj s.cons (l.map Cm) most) (Fj s.cons (l.map Dt) least)).length=l.length:=by simp[k2,k3]
 have hgn:Fj s.cons (l.map Cm) most≠[]:=fun e=>hne (adM.1 (by rw[←k2,e];rfl))
 have h4:=Oj (Fj s.cons (l.map Cm) most) (Fj s.cons (l.map Dt) least) true true (by omega) (by omega) _ _ (fun e=>(hgn e).elim) (fun _=>rfl)
 rw[Bg]at h2 h3
 rw[Bg,Bg,k2]at h4
 have t1:((l.map Cm).map iv).take l.length=(l.map Cm).map iv:=adA (by simp)
 have t2:((l.map Dt).map iv).take l.length=(l.map Dt).map iv:=adA (by simp)
 have t3:((Fj s.cons (l.map Cm) most).map iv).take l.length=(Fj s.cons (l.map Cm) most).map iv:=adA (by simp[k2])
 have t4:((Fj s.cons (l.map Dt) least).map iv).take l.length=(Fj s.cons (l.map Dt) least).map iv:=adA (by simp[k3])
 (refine ce Tryz.func53 ?_;simp only[Tryz.f53];(have hb:=trivial;with_reducible repeat' (first|simp only[hb,Va.down,seval,au2.down,h1,h2,h3,h4,k2,k3,t1,t2,t3,t4]|refine Aj ?_ ?_<;>intro hb|refine fdl ?_|fail)))
 all_goals rfl
theorem qT{s:Ac}{nn:Bool}{most least:Int}(hm:0≤most)(hm':0≤least):Bo.call (.fn 53) [.agg s.cells,Bj 1 true nn [],.int .i64 most,.int .i64 least] []=some (.ret .nils,[]):=by
 have g:∀m:Int,0≤m→Bo.call (.fn 96) [.agg s.cells,.nils,.int .i64 m] []=some (.ret .nils,[]):=fun m hm=>by
  have hsum:=Yl (l:=[]) (nn:=false) (by simp)
  rw[List.map_nil,Xj]at hsum
  have hcl:Bo.call (.fn 102) [.nils] []=some (.ret .nils,[]):=by
   (refine ce Tryz.func102 ?_;simp only[Tryz.f102];(have hb:=trivial;with_reducible repeat' (first|simp only[hb,Va.down,seval,zE.down]|refine Aj ?_ ?_<;>intro hb|refine fd ?_|fail)))
  have hb:decide (Ax [] 0≤m)=true:=decide_eq_true (by simpa [Ax]using hm)
  (refine ce Tryz.func96 ?_;simp only[Tryz.f96];(with_reducible repeat' (first|simp only[hb,Va.down,seval,iD.down,hsum,hcl,hb]|refine Aj ?_ ?_<;>intro hb|refine fd ?_|fail)))
 have h1:=gR (nn:=nn)
 have h2:=g most hm
 have h3:=g least hm'
 have h4:=Oj [] [] false false (by simp) (by simp) _ _ (fun _=>rfl) (fun e=>(e rfl).elim)
 rw[List.map_nil,Xj]at h4
 (refine ce Tryz.func53 ?_;simp only[Tryz.f53];(have hb:=trivial;with_reducible repeat' (first|simp only[hb,Va.down,seval,au2.down,h1,h2,h3,h4]|refine Aj ?_ ?_<;>intro hb|refine fd ?_|fail)))
def xE(l:List Int):Bool:=l.all fun x=>Gg x (-100000000) 100000000
theorem sR{s:Ac}(h:Ek s=true):s.cons.length≤8:=by
 simp only[Ek,Bool.and_eq_true,decide_eq_true_eq]at h
 omega
theorem Je(k:Nat)(v:AV)(g l:Aa)(j:Nat):(kl k v g++l)[g.length+j]?=l[j]?:=by rw[←Eh k v g];exact Td _ _ _
theorem Ey.cell{k st:Nat}{fl:Bool}{rows:List (List AV)}{v:AV}{g:Aa}(h:Ey k st fl rows v g):AV.isCell v=true:=by
 rcases h with⟨_,rfl⟩|⟨b,w,rfl,_⟩<;>rfl
theorem Ey.acells{k st:Nat}{fl:Bool}{rows:List (List AV)}{v:AV}{g:Aa}(h:Ey k st fl rows v g):acells v=[v]:=by
 rcases h with⟨_,rfl⟩|⟨b,w,rfl,_⟩<;>rfl
structure Ab where
 hour:Int
 back:Int
 frm:Int
 to:Int
 amount:Int
def Ab.cells(t:Ab):List AV:=[.int .i64 t.hour,.int .i64 t.back,.int .i64 t.frm,.int .i64 t.to,.int .i64 t.amount]
structure Aw where
 inn:Int
 out:Int
 flowIn:Int
 flowOut:Int
def Aw.cells(h:Aw):List AV:=[.int .i64 h.inn,.int .i64 h.out,.int .i64 h.flowIn,.int .i64 h.flowOut]
structure Ao where
 nh:Bool
 hours:List Aw
 nn:Bool
 noms:List Gl
 nt:Bool
 trades:List Ab
abbrev Ao.cells(d:Ao):List AV:=[Bj 4 true d.nh (d.hours.map Aw.cells),Bj 4 true d.nn (d.noms.map Gl.cells),Bj 5 true d.nt (d.trades.map Ab.cells)]
abbrev rc(s:Ac)(d:Ao)(hr:Int)(gv:AV)(own fuel:Int)(lv ov wv av fv rv:AV):List AV:=[.int .i64 s.space,.int .i64 s.inn,.int .i64 s.out,.int .i64 s.lead,.int .i64 s.fuel,Bj 11 false s.nn (s.cons.map Ag.cells),Bj 4 true d.nh (d.hours.map Aw.cells),Bj 4 true d.nn (d.noms.map Gl.cells),Bj 5 true d.nt (d.trades.map Ab.cells),.int .i64 hr,gv,.int .i64 own,.int .i64 fuel,lv,ov,wv,av,fv,rv]
def gI(l:List Int)(i:Int):Int:=(l[i.toNat]?).getD 0
def sI(l:List Int)(i v:Int):List Int:=l.set i.toNat v
def yZ(n:Nat)(i:Int):Prop:=0≤i∧i<n
theorem yZ.toNat{n:Nat}{i:Int}(h:yZ n i):i.toNat<n:=by unfold yZ at h;omega
theorem Bi(l:List Int)(i v:Int):(sI l i v).length=l.length:=by simp[sI]
theorem Ht{l:List Int}{i:Int}(h:i.toNat<l.length):l[i.toNat]?=some (gI l i):=by
 simp[gI,h]
theorem Fo(l:List Int)(i v:Int):(l.map iv).set i.toNat [.int .i64 v]=(sI l i v).map iv:=by
 simp[sI,iv,List.map_set]
theorem bI{s:Ac}{d:Ao}{fl w:Bool}{h:Aa}{b bg:Nat}{hr own fuel i:Int}{lv ov wv av fv rv:AV}{G:List Int}{n:Nat}{fl2 w2:Bool}{c:Ag}(hn:G.length=n)
 (hB:h[b]?=some (.live 19 fl w [(rc s d hr (.slr 1 bg 0 n) own fuel lv ov wv av fv rv)])) (hg:h[bg]?=some (.live 1 fl2 w2 (G.map iv))) (hi:yZ n i) (hc:s.cons[i.toNat]?=some c):
 Bo.call (.sh 130) [.ptr b 0 0,.int .i64 i] h=some (.ret (.int .i64 (IntKind.i64.wrap (c.space-gI G i))),h):=by
 subst hn
 have h1:=Ht hi.toNat
 have h2:(0≤i)=True:=eq_true hi.1
 have h3:(i<(G.length:Int))=True:=eq_true hi.2
 (refine csh Tryz.func130 ?_;simp only[Tryz.f130];(have hb:=trivial;with_reducible repeat' (first|simp only[hb,Vb.down,seval,as4.down,hB,hg,h1,h2,h3,hc,iv,Ag.cells]|refine Aj ?_ ?_<;>intro hb|refine fd ?_|fail)))
theorem Xm{s:Ac}{d:Ao}{fl w:Bool}{h:Aa}{b:Nat}{hr own fuel:Int}{gv lv ov wv av fv rv:AV}{x:Aw}
 (hB:h[b]?=some (.live 19 fl w [(rc s d hr gv own fuel lv ov wv av fv rv)])) (h2:0≤hr) (hx:d.hours[hr.toNat]?=some x):
 Bo.call (.sh 133) [.ptr b 0 0] h=some (.ret (.agg x.cells),h++[.live 4 true true [x.cells]]):=by
 have h2':(0≤hr)=True:=eq_true h2
 have hA:=Bv hB
 (refine csh Tryz.func133 ?_;simp only[Tryz.f133];(have hb:=trivial;with_reducible repeat' (first|simp only[hb,Vb.down,seval,awD.down,hB,hA,h2',hx,Aw.cells]|refine Aj ?_ ?_<;>intro hb|refine fd ?_|fail)))
theorem bN{g:Aa}(h:Bd g=true)(b:Nat):Bd (g.set b .dead)=true:=by
 simp only[Bd,List.all_eq_true]at h ⊢
 intro c hc
 rcases List.mem_or_eq_of_mem_set hc with h1|rfl
 ·exact h c h1
 ·rfl
def bR(cs:List Ag)(i:Int):Int:=((cs[i.toNat]?).map Ag.lack).getD 0
def Ig(cs:List Ag)(i:Int):Int:=((cs[i.toNat]?).map Ag.space).getD 0
def jR(cs:List Ag)(t:Ab)(G:List Int):Int:=IntKind.i64.wrap (IntKind.i64.wrap (t.amount-gI G t.to)*bR cs t.to)
def Tn(cs:List Ag)(t:Ab)(G L:List Int):List Int:=
 if 0<IntKind.i64.wrap (t.amount-gI G t.to)then
  sI (sI L t.to (IntKind.i64.wrap (gI L t.to+jR cs t G))) t.frm (IntKind.i64.wrap (gI (sI L t.to (IntKind.i64.wrap (gI L t.to+jR cs t G))) t.frm-jR cs t G))else L
def jE(cs:List Ag)(t:Ab)(G:List Int):Int:=
 min2 (min2 t.amount (gI G t.to)) (IntKind.i64.wrap (Ig cs t.frm-gI G t.frm))
def Ss(cs:List Ag)(t:Ab)(G:List Int):List Int:=
 sI (sI G t.to (IntKind.i64.wrap (gI G t.to-jE cs t G))) t.frm (IntKind.i64.wrap (gI (sI G t.to (IntKind.i64.wrap (gI G t.to-jE cs t G))) t.frm+jE cs t G))
def Cd(cs:List Ag)(hr:Int):List Ab→List Int × List Int × List Ab→List Int × List Int × List Ab
 | [],a=>a
 |t::rest,(G,L,p)=>if t.back=hr then Cd cs hr rest (Ss cs t G,Tn cs t G L,p)else Cd cs hr rest (G,L,p++[t])
def Ab.ok(n:Nat)(t:Ab):Prop:=yZ n t.frm∧yZ n t.to
theorem Wv(cs:List Ag)(t:Ab)(G:List Int):(Ss cs t G).length=G.length:=by simp[Ss,Bi]
theorem Oc(cs:List Ag)(t:Ab)(G L:List Int):(Tn cs t G L).length=L.length:=by unfold Tn;split<;>simp[Bi]
def tV(p:List Ab):AV:=if p=[]then .nils else .slr 5 4 0 p.length
def rC(p:List Ab):Aa:=if p=[]then []else [.live 5 true false (p.map Ab.cells)]
theorem ak2{s:Ac}{d:Ao}{fl w w1 w2 w3:Bool}{hr own fuel:Int}{wv av fv rv:AV}{G L:List Int}{O:List Ab}(hG:G.length=s.cons.length)(hL:L.length=s.cons.length)(hOl:O.length≤1000)(ho:∀t∈O,t.ok s.cons.length)
 (hwv:wv=.nils) (hav:av=.nils) (hfv:fv=.nils) (hrv:rv=.nils):
 Vo Bo 104 [.ptr 0 0 0] [.live 19 fl w [(rc s d hr (.slr 1 1 0 G.length) own fuel (.slr 1 2 0 L.length) (.slr 5 3 0 O.length) wv av fv rv)],.live 1 true w1 (G.map iv),.live 1 true w2 (L.map iv),.live 5 true w3 (O.map Ab.cells)]
  fun o h'=>o=.ret (.tup [])∧∃w1' w2',∀G' L' p',(G',L',p')=Cd s.cons hr O (G,L,[])→
   (w1'=false→G'=G)∧(w2'=false→L'=L)∧h'=[.live 19 false true [(rc s d hr (.slr 1 1 0 G.length) own fuel (.slr 1 2 0 L.length) (tV p') wv av fv rv)],.live 1 true w1' (G'.map iv),.live 1 true w2' (L'.map iv),.live 5 true w3 (O.map Ab.cells)]++rC p':=by
 have hl':O.length≤maxLen:=by unfold maxLen;omega
 refine Nk rfl Tryz.func104 rfl rfl ?_
 simp only[Tryz.f104]
 (have hb:=trivial;with_reducible repeat' (first|simp only[hb,Vb.down,seval,Xs.down]|refine Aj ?_ ?_<;>intro hb|refine fd ?_|fail))
 refine Dk (Sr 135 O (fun i (zz:List Int × List Int × List Ab) t h=>t 0=.ptr 0 0 0∧t 11=.slr 5 3 0 O.length∧t 12=.int .i64 O.length∧t 13=.int .i64 i∧(∃wG wL g,h=.live 19 fl w [(rc s d hr (.slr 1 1 0 G.length) own fuel (.slr 1 2 0 L.length) (.slr 5 3 0 O.length) wv av fv rv)]::.live 1 true wG (zz.1.map iv)::.live 1 true wL (zz.2.1.map iv)::.live 5 true w3 (O.map Ab.cells)::g∧Bd g=true∧(wG=false→zz.1=G)∧(wL=false→zz.2.1=L)∧zz.1.length=G.length∧zz.2.1.length=L.length∧zz.2.2.length≤i∧((zz.2.2=[]∧t 2=.nils)∨(zz.2.2≠[]∧∃b,t 2=.slr 5 (b+4) 0 zz.2.2.length∧g[b]?=some (.live 5 true false (zz.2.2.map Ab.cells)))))) (fun rest zz=>Cd s.cons hr rest (zz.1,zz.2.1,zz.2.2)) (fun r e t h=>e=.exit 0∧t 0=.ptr 0 0 0∧(∃wG wL g,h=.live 19 fl w [(rc s d hr (.slr 1 1 0 G.length) own fuel (.slr 1 2 0 L.length) (.slr 5 3 0 O.length) wv av fv rv)]::.live 1 true wG (r.1.map iv)::.live 1 true wL (r.2.1.map iv)::.live 5 true w3 (O.map Ab.cells)::g∧Bd g=true∧(wG=false→r.1=G)∧(wL=false→r.2.1=L)∧((r.2.2=[]∧t 2=.nils)∨(r.2.2≠[]∧∃b,t 2=.slr 5 (b+4) 0 r.2.2.length∧g[b]?=some (.live 5 true false (r.2.2.map Ab.cells)))))) ?_ ?_ (G,L,[]) _ _ ?_) (fun e t h hk=>?_)
 ·rintro⟨G',L',p⟩ t h Q' kQ ⟨h0,h11,h12,h13,⟨wG,wL,g,rfl,hqg,hwG,hwL,hG',hL',hpl,hp⟩⟩
  try dsimp only at *
  (have hb:=trivial;with_reducible repeat' (first|simp only[hb,Vb.down,seval,Xs.down,h0,h11,h12,h13,abH,decide_false]|refine Aj ?_ ?_<;>intro hb|refine fd ?_|fail))
  exact kQ _ _ _ ⟨rfl,by simp[up,h0],wG,wL,g,rfl,hqg,by simpa [Cd]using hwG,by simpa [Cd]using hwL,by simpa [up,Cd]using hp⟩
 ·rintro x rest i ⟨G',L',p⟩ t h J Q' kJ kQ hx hi ⟨h0,h11,h12,h13,⟨wG,wL,g,rfl,hqg,hwG,hwL,hG',hL',hpl,hp⟩⟩
  have hd:decide ((i:Int)<(O.length:Int))=true:=decide_eq_true (by omega)
  have hw:=Ak hi hl'
  try dsimp only at *
  obtain⟨⟨f0,f1⟩,k0,k1⟩:=ho x (acM hx)
  have hok:=ho x (acM hx)
  have e1:(0≤x.to)=True:=eq_true k0
  have e2:(x.to<(G.length:Int))=True:=eq_true (by omega)
  have e3:(x.to<(L.length:Int))=True:=eq_true (by omega)
  have e4:(0≤x.frm)=True:=eq_true f0
  have e5:(x.frm<(G.length:Int))=True:=eq_true (by omega)
  have e6:(x.frm<(L.length:Int))=True:=eq_true (by omega)
  have hii:((i:Int)<(O.length:Int))=True:=eq_true (by omega)
  obtain⟨ct,hct⟩:∃c,s.cons[x.to.toNat]?=some c:=⟨_,acT (by omega)⟩
  obtain⟨cf,hcf⟩:∃c,s.cons[x.frm.toNat]?=some c:=⟨_,acT (by omega)⟩
  have a1:G'[x.to.toNat]?=some (gI G' x.to):=Ht (by omega)
  have a2:L'[x.to.toNat]?=some (gI L' x.to):=Ht (by omega)
  have a3:G'[x.frm.toNat]?=some (gI G' x.frm):=Ht (by omega)
  have a4:L'[x.frm.toNat]?=some (gI L' x.frm):=Ht (by omega)
  have a5:∀v,(sI G' x.to v)[x.frm.toNat]?=some (gI (sI G' x.to v) x.frm):=fun v=>Ht (by rw[Bi];omega)
  have a6:∀v,(sI L' x.to v)[x.frm.toNat]?=some (gI (sI L' x.to v) x.frm):=fun v=>Ht (by rw[Bi];omega)
  have hroom:∀(L2:List Int) (tl:Aa),Bo.call (.sh 130) [.ptr 0 0 0,.int .i64 x.frm] (.live 19 fl false [(rc s d hr (.slr 1 1 0 G.length) own fuel (.slr 1 2 0 L.length) (.slr 5 3 0 O.length) wv av fv rv)]::.live 1 true false (G'.map iv)::.live 1 true false (L2.map iv)::.live 5 true false (O.map Ab.cells)::tl)=
   some (.ret (.int .i64 (IntKind.i64.wrap (cf.space-gI G' x.frm))),.live 19 fl false [(rc s d hr (.slr 1 1 0 G.length) own fuel (.slr 1 2 0 L.length) (.slr 5 3 0 O.length) wv av fv rv)]::.live 1 true false (G'.map iv)::.live 1 true false (L2.map iv)::.live 5 true false (O.map Ab.cells)::tl):=fun L2 tl=>
   bI (b:=0) (bg:=1) (n:=G.length) hG' rfl rfl ⟨f0,by omega⟩ hcf
  have hse:=fun i l l'=>Ya hqg i l l'
  cases hbk:(x.back==hr)with
  |false=>
   have hbn:¬x.back=hr:=by simpa using hbk
   rcases hp with⟨rfl,h2⟩|⟨hpn,b,h2,hgb⟩
   ·(have hb:=trivial;with_reducible repeat' (first|simp only[hb,Vb.down,seval,Xs.down,h0,h11,h12,h13,h2,hd,hx,hw,hii,hbk,Ab.cells]|refine Aj ?_ ?_<;>intro hb|refine fd ?_|fail))
    (refine Aq (kJ _ _ (G',L',[x]) ⟨?_,?_,?_,?_,⟨wG,wL,_,rfl,by rw[Dv,hqg];rfl,hwG,hwL,hG',hL',by simp<;>omega,.inr ⟨by simp,g.length+2,by simp[up],by rw[Td];simp[Ab.cells]⟩⟩⟩ ?_);(simp[up,h0]);(simp[up,h11]);(simp[up,h12]);(simp[up]);(simp[Cd,hbn]))
   ·have hbl:b<g.length:=(acZ.1 hgb).1
    have hA:=Bv hgb
    have hS:=Nw hbl
    have hi39:(p.length+1≤549755813888)=True:=eq_true (by have:=hpl;omega)
    (have hb:=trivial;with_reducible repeat' (first|simp only[hb,Vb.down,seval,Xs.down,h0,h11,h12,h13,h2,hd,hx,hw,hii,hbk,Ab.cells,hA,hS,dD,Ud,ai4,ab1,hi39]|refine Aj ?_ ?_<;>intro hb|refine fd ?_|fail))
    (refine Aq (kJ _ _ (G',L',p++[x]) ⟨?_,?_,?_,?_,⟨wG,wL,_,rfl,by rw[Dv,bN hqg b];rfl,hwG,hwL,hG',hL',by simp<;>omega,.inr ⟨by simp,g.length+2,by simp[up],by rw[Ud];simp[Ab.cells]⟩⟩⟩ ?_);(simp[up,h0]);(simp[up,h11]);(simp[up,h12]);(simp[up]);(simp[Cd,hbn]))
  |true=>
   have hbn:x.back=hr:=by simpa using hbk
   have hpg:∀{t':Tm},t' 2=t 2→((p=[]∧t' 2=.nils)∨(p≠[]∧∃b,t' 2=.slr 5 (b+4) 0 p.length∧(g++[.live 5 true true [x.cells]])[b]?=some (.live 5 true false (p.map Ab.cells)))):=fun {t'} e=>by
    rw[e]
    rcases hp with h|⟨h,b,h',h''⟩
    ·exact .inl h
    ·exact .inr ⟨h,b,h',Bv h'' _⟩
   by_cases hlk:0<IntKind.i64.wrap (x.amount-gI G' x.to)
   ·have hlk':decide (0<IntKind.i64.wrap (x.amount-gI G' x.to))=true:=decide_eq_true hlk
    (have hb:=trivial;with_reducible repeat' (first|simp only[hb,Vb.down,seval,Xs.down,h0,h11,h12,h13,hd,hx,hw,hii,hbk,hlk',Ab.cells,Ag.cells,e1,e2,e3,e4,e5,e6,a1,a2,a3,a4,a5,a6,hct,hcf,hroom,hse,iv,Fo,Qc]|refine Aj ?_ ?_<;>intro hb|refine fd ?_|fail))
    (refine Aq (kJ _ _ (Ss s.cons x G',Tn s.cons x G' L',p) ⟨?_,?_,?_,?_,⟨true,true,g++[.live 5 true true [x.cells]],by simp[Ss,jE,Tn,min2,Ig,bR,jR,hcf,hct,hlk,Ab.cells],by rw[Dv,hqg];rfl,(fun h=>by cases h),(fun h=>by cases h),by rw[Wv];exact hG',by rw[Oc];exact hL',ajS hpl,hpg (by simp[up])⟩⟩ ?_);(simp[up,h0]);(simp[up,h11]);(simp[up,h12]);(simp[up]);(simp[Cd,hbn]))
   ·have hlk':decide (0<IntKind.i64.wrap (x.amount-gI G' x.to))=false:=decide_eq_false hlk
    (have hb:=trivial;with_reducible repeat' (first|simp only[hb,Vb.down,seval,Xs.down,h0,h11,h12,h13,hd,hx,hw,hii,hbk,hlk',Ab.cells,Ag.cells,e1,e2,e3,e4,e5,e6,a1,a2,a3,a4,a5,a6,hct,hcf,hroom,hse,iv,Fo]|refine Aj ?_ ?_<;>intro hb|refine fd ?_|fail))
    (refine Aq (kJ _ _ (Ss s.cons x G',Tn s.cons x G' L',p) ⟨?_,?_,?_,?_,⟨true,wL,g++[.live 5 true true [x.cells]],by simp[Ss,jE,Tn,min2,Ig,bR,jR,hcf,hct,hlk,Ab.cells],by rw[Dv,hqg];rfl,(fun h=>by cases h),(by simpa [Tn,hlk]using hwL),by rw[Wv];exact hG',by rw[Oc];exact hL',ajS hpl,hpg (by simp[up])⟩⟩ ?_);(simp[up,h0]);(simp[up,h11]);(simp[up,h12]);(simp[up]);(simp[Cd,hbn]))
 ·exact⟨by simp[up,Dn],by simp[up,Dn],by simp[up,Dn],by simp[up],⟨_,_,[],rfl,rfl,fun _=>rfl,fun _=>rfl,rfl,rfl,Nat.le_refl _,.inl ⟨rfl,by simp[up]⟩⟩⟩
 ·obtain⟨rfl,h0,wG,wL,g,rfl,hqg,hwG,hwL,hp⟩:=hk
  generalize hr0:Cd s.cons hr O (G,L,[])=r at *
  obtain⟨G',L',p⟩:=r
  dsimp only at *
  have hV:wv=.nils:=hwv
  subst hwv hav hfv hrv
  rcases hp with⟨hp,h2⟩|⟨hp,b,h2,hgb⟩
  ·(have hb:=trivial;with_reducible repeat' (first|simp only[hb,Vb.down,seval,Xs.down,h0,h2]|refine Aj ?_ ?_<;>intro hb|refine fd ?_|fail))
   exact⟨wG,wL,fun _ _ _ e=>by cases e;exact⟨hwG,hwL,by simp[tV,rC,hp]⟩⟩
  ·(have hb:=trivial;with_reducible repeat' (first|simp only[hb,Vb.down,seval,Xs.down,h0,h2,hgb]|refine Aj ?_ ?_<;>intro hb|refine fd ?_|fail))
   exact⟨wG,wL,fun _ _ _ e=>by cases e;exact⟨hwG,hwL,by simp[tV,rC,hp]⟩⟩
theorem ah0{s:Ac}{d:Ao}{fl w w1 w2:Bool}{hr own fuel:Int}{wv av fv rv:AV}{G L:List Int}(hwv:wv=.nils)(hav:av=.nils)(hfv:fv=.nils)(hrv:rv=.nils):
 Vo Bo 104 [.ptr 0 0 0] [.live 19 fl w [(rc s d hr (.slr 1 1 0 G.length) own fuel (.slr 1 2 0 L.length) .nils wv av fv rv)],.live 1 true w1 (G.map iv),.live 1 true w2 (L.map iv)]
  fun o h'=>o=.ret (.tup [])∧h'=[.live 19 false true [(rc s d hr (.slr 1 1 0 G.length) own fuel (.slr 1 2 0 L.length) .nils wv av fv rv)],.live 1 true w1 (G.map iv),.live 1 true w2 (L.map iv)]:=by
 subst hwv hav hfv hrv
 refine Nk rfl Tryz.func104 rfl rfl ?_
 simp only[Tryz.f104]
 (have hb:=trivial;with_reducible repeat' (first|simp only[hb,Vb.down,seval,Xs.down]|refine Aj ?_ ?_<;>intro hb|refine fd ?_|fail))
 refine Dk (Sr 135 ([]:List Ab) (fun i (zz:Unit) t h=>t 0=.ptr 0 0 0∧t 2=.nils∧t 11=.nils∧t 12=.int .i64 0∧t 13=.int .i64 i∧h=[.live 19 fl w [(rc s d hr (.slr 1 1 0 G.length) own fuel (.slr 1 2 0 L.length) .nils .nils .nils .nils .nils)],.live 1 true w1 (G.map iv),.live 1 true w2 (L.map iv)]) (fun rest zz=>()) (fun r e t h=>e=.exit 0∧t 0=.ptr 0 0 0∧t 2=.nils∧h=[.live 19 fl w [(rc s d hr (.slr 1 1 0 G.length) own fuel (.slr 1 2 0 L.length) .nils .nils .nils .nils .nils)],.live 1 true w1 (G.map iv),.live 1 true w2 (L.map iv)]) ?_ ?_ () _ _ ?_) (fun e t h hk=>?_)
 ·rintro _ t h Q' kQ ⟨h0,h2,h11,h12,h13,rfl⟩
  (have hb:=trivial;with_reducible repeat' (first|simp only[hb,Vb.down,seval,Xs.down,h0,h2,h11,h12,h13,abH,decide_false,List.length_nil,aiK]|refine Aj ?_ ?_<;>intro hb|refine fd ?_|fail))
  exact kQ _ _ _ ⟨rfl,by simp[up,h0],by simp[up,h2],rfl⟩
 ·rintro x rest i _ t h J Q' kJ kQ hx hi ⟨h0,h2,h11,h12,h13,rfl⟩
  have hd:decide ((i:Int)<(([]:List Ab).length:Int))=true:=decide_eq_true (by omega)
  have hw:=Ak hi (by simp[maxLen])
  cases hx
 ·exact⟨by simp[up,Dn],by simp[up,Dn],by simp[up,Dn],by simp[up,Dn],by simp[up],rfl⟩
 ·obtain⟨rfl,h0,h2,rfl⟩:=hk
  (have hb:=trivial;with_reducible repeat' (first|simp only[hb,Vb.down,seval,Xs.down,h0,h2]|refine Aj ?_ ?_<;>intro hb|refine fd ?_|fail))
end Go.Proofs.YtdbiogihimdpcaaGreatDoor
