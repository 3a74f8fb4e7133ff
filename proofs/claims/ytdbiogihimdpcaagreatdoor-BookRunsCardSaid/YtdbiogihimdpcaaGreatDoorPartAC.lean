/- The functions of the layer, walked. -/
import Derived.Test.YtdbiogihimdpcaaGreatDoorPartAB
open Int renaming lt_irrefl→aaS,natCast_zero→ab9,le_refl→aeM,reducePow→aeP,toNat_natCast→ai5
open List renaming replicate→aaW,length_eq_zero_iff→aa0,zipWith→aa6,length_map→abB,getElem?_eq_some_iff→abO,getElem?_eq_getElem→abT,length_set→abY,mem_of_getElem?→acF,replicate_succ→acK,take_of_length_le→acZ,take_add_one→adV,drop_eq_getElem_cons→aeW,getElem?_append_right→aeZ,getElem?_zipWith→ae6,length_append→ae7,take_length→ae8,getElem?_eq_none→afM,map_append→af4,drop_eq_nil_iff→alC
open Nat renaming sub_self→aeH
open Option renaming getD_some→akJ
set_option linter.unusedSimpArgs false
set_option linter.unusedVariables false
namespace Go.Proofs.YtdbiogihimdpcaaGreatDoor
open Go.Ev Go
set_option maxRecDepth 100000
set_option maxHeartbeats 16000000
theorem af1(l:List Int)(nn:Bool)(hl:l.length≤1000)  (o:Eo)(h':Ab)(c0:l=[]→(o,h')=(.ret .nils,[]))(c1:l≠[]→(o,h')=(.ret (.slr 1 0 0 l.length),[.live 1 true false ((l.map Bm).map iv)])):
 Bi.call (.fn 59) [Ao 1 true nn (l.map iv)] []=some (o,h'):=by
 have hl':l.length≤maxLen:=by unfold maxLen;omega
 (refine ce Tryz.func59 ?_;simp only[Tryz.f59];(have hb:=trivial;with_reducible repeat' (first|simp only[hb,Va.down,seval,adG.down,abB]|refine Af ?_ ?_<;>intro hb|refine fd ?_|fail)))
 refine Cd (Np 20 l (fun i (a:List Int) t h=>t 0=Ao 1 true nn (l.map iv)∧t 4=.int .i64 i∧a.length=i∧((i=0∧t 3=.nils)∨(0<i∧∃b,t 3=.slr 1 b 0 i∧h[b]?=some (.live 1 true false (a.map iv)))))
  (fun rest a=>a++rest.map Bm) (fun r e t h=>e=.exit 0∧((l=[]∧t 3=.nils)∨(l≠[]∧∃b,t 3=.slr 1 b 0 l.length∧h[b]?=some (.live 1 true false (r.map iv))))) ?_ ?_ [] _ _ ?_) (fun e t h hk=>?_)
 ·rintro p t h Q' kQ ⟨h0',hi',hp,hc⟩
  (have hb:=trivial;with_reducible repeat' (first|simp only[hb,Va.down,seval,adG.down,h0',hi',aaS,decide_false]|refine Af ?_ ?_<;>intro hb|refine fd ?_|fail))
  refine kQ _ _ _ ⟨rfl,?_⟩
  rcases hc with⟨h0,ho⟩|⟨h0,b,ho,hb⟩
  ·exact .inl ⟨aa0.1 h0,by simp[up,ho]⟩
  ·exact .inr ⟨fun e=>by rw[e]at h0;simp at h0,b,by simp[up,ho],by simpa using hb⟩
 ·rintro x rest i p t h J Q' kJ kQ hx hi ⟨h0',hi',hp,hc⟩
  have hd:decide ((i:Int)<(l.length:Int))=true:=by simpa using hi
  have hw:=Ai hi hl'
  skip
  rcases hc with⟨rfl,ho⟩|⟨h0,b,ho,hb⟩
  ·simp only[ab9]at hd
   (have hb:=trivial;with_reducible repeat' (first|simp only[hb,Va.down,seval,adG.down,h0',hi',ho,hd,hw,hx,iv]|refine Af ?_ ?_<;>intro hb|refine fd ?_|fail))
   obtain rfl:p=[]:=aa0.1 hp
   exact Ah (kJ _ _ [Bm x] ⟨by simp[up,h0'],by simp[up],rfl,.inr ⟨by omega,h.length+1,by simp[up],by rw[Jf];simp[iv,Bm]⟩⟩ (by simp))
  ·have hbl:b<h.length:=(abO.1 hb).1
   have hA:=Av hb
   have hS:=Fa hbl
   have hlp:0+i=p.length:=by omega
   have hi39:(i+1≤549755813888)=True:=eq_true (by omega)
   (have hb:=trivial;with_reducible repeat' (first|simp only[hb,Va.down,seval,adG.down,h0',hi',ho,hd,hw,hx,iv,hA,hS,Lr,Ge,abY,hp,hi39]|refine Af ?_ ?_<;>intro hb|refine fd ?_|fail))
   exact Ah (kJ _ _ (p++[Bm x]) ⟨by simp[up,h0'],by simp[up],by simp[hp],.inr ⟨by omega,h.length+1,by simp[up],by rw[Ge];simp[iv,Bm]⟩⟩ (by simp))
 ·exact⟨by simp[up,Bw],by simp[up],rfl,.inl ⟨rfl,by simp[up]⟩⟩
 ·obtain⟨rfl,⟨hnil,ho⟩|⟨hne,b,ho,hb⟩⟩:=hk
  ·rw[c0 hnil]
   (have hb:=trivial;with_reducible repeat' (first|simp only[hb,Va.down,seval,adG.down,ho]|refine Af ?_ ?_<;>intro hb|refine fd ?_|fail))
  ·rw[c1 hne]
   (with_reducible repeat' (first|simp only[hb,Va.down,seval,adG.down,ho,hb]|refine Af ?_ ?_<;>intro hb|refine fd ?_|fail))
theorem zO(l:List Int)(nn:Bool)(hl:l.length≤1000)  (o:Eo)(h':Ab)(c0:l=[]→(o,h')=(.ret .nils,[]))(c1:l≠[]→(o,h')=(.ret (.slr 1 0 0 l.length),[.live 1 true false ((l.map Bz).map iv)])):
 Bi.call (.fn 60) [Ao 1 true nn (l.map iv)] []=some (o,h'):=by
 have hl':l.length≤maxLen:=by unfold maxLen;omega
 (refine ce Tryz.func60 ?_;simp only[Tryz.f60];(have hb:=trivial;with_reducible repeat' (first|simp only[hb,Va.down,seval,acM.down,abB]|refine Af ?_ ?_<;>intro hb|refine fd ?_|fail)))
 refine Cd (Np 21 l (fun i (a:List Int) t h=>t 0=Ao 1 true nn (l.map iv)∧t 4=.int .i64 i∧a.length=i∧((i=0∧t 3=.nils)∨(0<i∧∃b,t 3=.slr 1 b 0 i∧h[b]?=some (.live 1 true false (a.map iv)))))
  (fun rest a=>a++rest.map Bz) (fun r e t h=>e=.exit 0∧((l=[]∧t 3=.nils)∨(l≠[]∧∃b,t 3=.slr 1 b 0 l.length∧h[b]?=some (.live 1 true false (r.map iv))))) ?_ ?_ [] _ _ ?_) (fun e t h hk=>?_)
 ·rintro p t h Q' kQ ⟨h0',hi',hp,hc⟩
  (have hb:=trivial;with_reducible repeat' (first|simp only[hb,Va.down,seval,acM.down,h0',hi',aaS,decide_false]|refine Af ?_ ?_<;>intro hb|refine fd ?_|fail))
  refine kQ _ _ _ ⟨rfl,?_⟩
  rcases hc with⟨h0,ho⟩|⟨h0,b,ho,hb⟩
  ·exact .inl ⟨aa0.1 h0,by simp[up,ho]⟩
  ·exact .inr ⟨fun e=>by rw[e]at h0;simp at h0,b,by simp[up,ho],by simpa using hb⟩
 ·rintro x rest i p t h J Q' kJ kQ hx hi ⟨h0',hi',hp,hc⟩
  have hd:decide ((i:Int)<(l.length:Int))=true:=by simpa using hi
  have hw:=Ai hi hl'
  skip
  rcases hc with⟨rfl,ho⟩|⟨h0,b,ho,hb⟩
  ·simp only[ab9]at hd
   (have hb:=trivial;with_reducible repeat' (first|simp only[hb,Va.down,seval,acM.down,h0',hi',ho,hd,hw,hx,iv]|refine Af ?_ ?_<;>intro hb|refine fd ?_|fail))
   obtain rfl:p=[]:=aa0.1 hp
   exact Ah (kJ _ _ [Bz x] ⟨by simp[up,h0'],by simp[up],rfl,.inr ⟨by omega,h.length+1,by simp[up],by rw[Jf];simp[iv,Bm,Bz]⟩⟩ (by simp))
  ·have hbl:b<h.length:=(abO.1 hb).1
   have hA:=Av hb
   have hS:=Fa hbl
   have hlp:0+i=p.length:=by omega
   have hi39:(i+1≤549755813888)=True:=eq_true (by omega)
   (have hb:=trivial;with_reducible repeat' (first|simp only[hb,Va.down,seval,acM.down,h0',hi',ho,hd,hw,hx,iv,hA,hS,Lr,Ge,abY,hp,hi39]|refine Af ?_ ?_<;>intro hb|refine fd ?_|fail))
   exact Ah (kJ _ _ (p++[Bz x]) ⟨by simp[up,h0'],by simp[up],by simp[hp],.inr ⟨by omega,h.length+1,by simp[up],by rw[Ge];simp[iv,Bm,Bz]⟩⟩ (by simp))
 ·exact⟨by simp[up,Bw],by simp[up],rfl,.inl ⟨rfl,by simp[up]⟩⟩
 ·obtain⟨rfl,⟨hnil,ho⟩|⟨hne,b,ho,hb⟩⟩:=hk
  ·rw[c0 hnil]
   (have hb:=trivial;with_reducible repeat' (first|simp only[hb,Va.down,seval,acM.down,ho]|refine Af ?_ ?_<;>intro hb|refine fd ?_|fail))
  ·rw[c1 hne]
   (with_reducible repeat' (first|simp only[hb,Va.down,seval,acM.down,ho,hb]|refine Af ?_ ?_<;>intro hb|refine fd ?_|fail))
def Ti(x y:Int):Int:=IntKind.i64.wrap (x-y)
theorem uF{x y:Int}{rest l':List Int}{i:Nat}(hy:l'[i]?=some y)(p:List Int)(hp:p.length=i):(p++[Ti x y])++aa6 Ti rest (l'.drop (p++[Ti x y]).length)=p++aa6 Ti (x::rest) (l'.drop p.length):=by
 have hlt:i<l'.length:=(abO.1 hy).1
 have hd:l'.drop i=y::l'.drop (i+1):=by
  rw[aeW hlt]
  congr 1
  exact Option.some.inj ((abT hlt).symm.trans hy)
 rw[ae7,hp,hd]
 simp
theorem Qu(l l':List Int)(nn':Bool)(nn:Bool)(hl:l.length≤1000)(hll:l.length≤l'.length)(o:Eo)(h':Ab)(c0:l=[]→(o,h')=(.ret .nils,[]))(c1:l≠[]→(o,h')=(.ret (.slr 1 0 0 l.length),[.live 1 true false ((aa6 Ti l l').map iv)])):
 Bi.call (.fn 95) [Ao 1 true nn (l.map iv),Ao 1 true nn' (l'.map iv)] []=some (o,h'):=by
 have hl':l.length≤maxLen:=by unfold maxLen;omega
 (refine ce Tryz.func95 ?_;simp only[Tryz.f95];(have hb:=trivial;with_reducible repeat' (first|simp only[hb,Va.down,seval,aeV.down,abB]|refine Af ?_ ?_<;>intro hb|refine fd ?_|fail)))
 refine Cd (Np 26 l (fun i (a:List Int) t h=>t 0=Ao 1 true nn (l.map iv)∧t 1=Ao 1 true nn' (l'.map iv)∧t 8=.int .i64 l.length∧t 9=.int .i64 i∧a.length=i∧((i=0∧t 5=.nils)∨(0<i∧∃b,t 5=.slr 1 b 0 i∧h[b]?=some (.live 1 true false (a.map iv)))))
  (fun rest a=>a++aa6 Ti rest (l'.drop a.length)) (fun r e t h=>e=.exit 0∧((l=[]∧t 5=.nils)∨(l≠[]∧∃b,t 5=.slr 1 b 0 l.length∧h[b]?=some (.live 1 true false (r.map iv))))) ?_ ?_ [] _ _ ?_) (fun e t h hk=>?_)
 ·rintro p t h Q' kQ ⟨h0',h1',h8',hi',hp,hc⟩
  (have hb:=trivial;with_reducible repeat' (first|simp only[hb,Va.down,seval,aeV.down,h0',h1',h8',hi',aaS,decide_false]|refine Af ?_ ?_<;>intro hb|refine fd ?_|fail))
  refine kQ _ _ _ ⟨rfl,?_⟩
  rcases hc with⟨h0,ho⟩|⟨h0,b,ho,hb⟩
  ·exact .inl ⟨aa0.1 h0,by simp[up,ho]⟩
  ·exact .inr ⟨fun e=>by rw[e]at h0;simp at h0,b,by simp[up,ho],by simpa using hb⟩
 ·rintro x rest i p t h J Q' kJ kQ hx hi ⟨h0',h1',h8',hi',hp,hc⟩
  have hd:decide ((i:Int)<(l.length:Int))=true:=by simpa using hi
  have hw:=Ai hi hl'
  obtain⟨y,hy⟩:∃y,l'[i]?=some y:=⟨l'[i]'(by omega),abT _⟩
  have hF:=uF (x:=x) (rest:=rest) hy
  rcases hc with⟨rfl,ho⟩|⟨h0,b,ho,hb⟩
  ·simp only[ab9]at hd
   (have hb:=trivial;with_reducible repeat' (first|simp only[hb,Va.down,seval,aeV.down,h0',h1',h8',hi',ho,hd,hw,hx,iv,hy]|refine Af ?_ ?_<;>intro hb|refine fd ?_|fail))
   obtain rfl:p=[]:=aa0.1 hp
   exact Ah (kJ _ _ [Ti x y] ⟨by simp[up,h0'],by simp[up,h1'],by simp[up,h8'],by simp[up],rfl,.inr ⟨by omega,h.length+1,by simp[up],by rw[Jf];simp[iv,Ti]⟩⟩ (by exact hF _ hp))
  ·have hbl:b<h.length:=(abO.1 hb).1
   have hA:=Av hb
   have hS:=Fa hbl
   have hlp:0+i=p.length:=by omega
   have hi39:(i+1≤549755813888)=True:=eq_true (by omega)
   (have hb:=trivial;with_reducible repeat' (first|simp only[hb,Va.down,seval,aeV.down,h0',h1',h8',hi',ho,hd,hw,hx,iv,hA,hS,Lr,Ge,abY,hp,hi39,hy]|refine Af ?_ ?_<;>intro hb|refine fd ?_|fail))
   exact Ah (kJ _ _ (p++[Ti x y]) ⟨by simp[up,h0'],by simp[up,h1'],by simp[up,h8'],by simp[up],by simp[hp],.inr ⟨by omega,h.length+1,by simp[up],by rw[Ge];simp[iv,Ti]⟩⟩ (by exact hF _ hp))
 ·exact⟨by simp[up,Bw],by simp[up,Bw],by simp[up],by simp[up],rfl,.inl ⟨rfl,by simp[up]⟩⟩
 ·obtain⟨rfl,⟨hnil,ho⟩|⟨hne,b,ho,hb⟩⟩:=hk
  ·rw[c0 hnil]
   (have hb:=trivial;with_reducible repeat' (first|simp only[hb,Va.down,seval,aeV.down,ho]|refine Af ?_ ?_<;>intro hb|refine fd ?_|fail))
  ·rw[c1 hne]
   (with_reducible repeat' (first|simp only[hb,Va.down,seval,aeV.down,ho,hb]|refine Af ?_ ?_<;>intro hb|refine fd ?_|fail))
theorem kO(l l':List Int)(nn':Bool)(nn:Bool)(hl:l.length≤1000)(hll:l.length≤l'.length)(o:Eo)(h':Ab)(c0:l=[]→(o,h')=(.ret .nils,[]))(c1:l≠[]→(o,h')=(.ret (.slr 1 0 0 l.length),[.live 1 true false ((aa6 Ti l l').map iv)])):
 Bi.call (.fn 57) [Ao 1 true nn (l.map iv),Ao 1 true nn' (l'.map iv)] []=some (o,h'):=by
 have hl':l.length≤maxLen:=by unfold maxLen;omega
 (refine ce Tryz.func57 ?_;simp only[Tryz.f57];(have hb:=trivial;with_reducible repeat' (first|simp only[hb,Va.down,seval,ac7.down,abB]|refine Af ?_ ?_<;>intro hb|refine fd ?_|fail)))
 refine Cd (Np 26 l (fun i (a:List Int) t h=>t 0=Ao 1 true nn (l.map iv)∧t 1=Ao 1 true nn' (l'.map iv)∧t 6=.int .i64 i∧a.length=i∧((i=0∧t 5=.nils)∨(0<i∧∃b,t 5=.slr 1 b 0 i∧h[b]?=some (.live 1 true false (a.map iv)))))
  (fun rest a=>a++aa6 Ti rest (l'.drop a.length)) (fun r e t h=>e=.exit 0∧((l=[]∧t 5=.nils)∨(l≠[]∧∃b,t 5=.slr 1 b 0 l.length∧h[b]?=some (.live 1 true false (r.map iv))))) ?_ ?_ [] _ _ ?_) (fun e t h hk=>?_)
 ·rintro p t h Q' kQ ⟨h0',h1',hi',hp,hc⟩
  (have hb:=trivial;with_reducible repeat' (first|simp only[hb,Va.down,seval,ac7.down,h0',h1',hi',aaS,decide_false]|refine Af ?_ ?_<;>intro hb|refine fd ?_|fail))
  refine kQ _ _ _ ⟨rfl,?_⟩
  rcases hc with⟨h0,ho⟩|⟨h0,b,ho,hb⟩
  ·exact .inl ⟨aa0.1 h0,by simp[up,ho]⟩
  ·exact .inr ⟨fun e=>by rw[e]at h0;simp at h0,b,by simp[up,ho],by simpa using hb⟩
 ·rintro x rest i p t h J Q' kJ kQ hx hi ⟨h0',h1',hi',hp,hc⟩
  have hd:decide ((i:Int)<(l.length:Int))=true:=by simpa using hi
  have hw:=Ai hi hl'
  obtain⟨y,hy⟩:∃y,l'[i]?=some y:=⟨l'[i]'(by omega),abT _⟩
  have hF:=uF (x:=x) (rest:=rest) hy
  rcases hc with⟨rfl,ho⟩|⟨h0,b,ho,hb⟩
  ·simp only[ab9]at hd
   (have hb:=trivial;with_reducible repeat' (first|simp only[hb,Va.down,seval,ac7.down,h0',h1',hi',ho,hd,hw,hx,iv,hy]|refine Af ?_ ?_<;>intro hb|refine fd ?_|fail))
   obtain rfl:p=[]:=aa0.1 hp
   exact Ah (kJ _ _ [Ti x y] ⟨by simp[up,h0'],by simp[up,h1'],by simp[up],rfl,.inr ⟨by omega,h.length+1,by simp[up],by rw[Jf];simp[iv,Ti]⟩⟩ (by exact hF _ hp))
  ·have hbl:b<h.length:=(abO.1 hb).1
   have hA:=Av hb
   have hS:=Fa hbl
   have hlp:0+i=p.length:=by omega
   have hi39:(i+1≤549755813888)=True:=eq_true (by omega)
   (have hb:=trivial;with_reducible repeat' (first|simp only[hb,Va.down,seval,ac7.down,h0',h1',hi',ho,hd,hw,hx,iv,hA,hS,Lr,Ge,abY,hp,hi39,hy]|refine Af ?_ ?_<;>intro hb|refine fd ?_|fail))
   exact Ah (kJ _ _ (p++[Ti x y]) ⟨by simp[up,h0'],by simp[up,h1'],by simp[up],by simp[hp],.inr ⟨by omega,h.length+1,by simp[up],by rw[Ge];simp[iv,Ti]⟩⟩ (by exact hF _ hp))
 ·exact⟨by simp[up,Bw],by simp[up,Bw],by simp[up],rfl,.inl ⟨rfl,by simp[up]⟩⟩
 ·obtain⟨rfl,⟨hnil,ho⟩|⟨hne,b,ho,hb⟩⟩:=hk
  ·rw[c0 hnil]
   (have hb:=trivial;with_reducible repeat' (first|simp only[hb,Va.down,seval,ac7.down,ho]|refine Af ?_ ?_<;>intro hb|refine fd ?_|fail))
  ·rw[c1 hne]
   (with_reducible repeat' (first|simp only[hb,Va.down,seval,ac7.down,ho,hb]|refine Af ?_ ?_<;>intro hb|refine fd ?_|fail))
def Ar:List Int→Int→Int
 | [],a=>a
 |x::l,a=>Ar l (IntKind.i64.wrap (a+x))
theorem Zz{l:List Int}{nn:Bool}(hl:l.length≤maxLen):Bi.call (.fn 124) [Ao 1 true nn (l.map iv)] []=some (.ret (.int .i64 (Ar l 0)),[]):=by
 (refine ce Tryz.func124 ?_;simp only[Tryz.f124];(have hb:=trivial;with_reducible repeat' (first|simp only[hb,Va.down,seval,aaX.down,abB]|refine Af ?_ ?_<;>intro hb|refine fd ?_|fail)))
 refine Cd (Np 17 l (fun i (s:Int) t h=>t 6=Ao 1 true nn (l.map iv)∧t 7=.int .i64 l.length∧t 8=.int .i64 i∧t 3=.int .i64 s)
  (fun rest s=>Ar rest s) (fun r e t h=>e=.exit 0∧t 3=.int .i64 r) ?_ ?_ 0 _ _ ?_) (fun e t h hk=>?_)
 ·rintro s t h Q' kQ ⟨h6,h7,h8,h3⟩
  (have hb:=trivial;with_reducible repeat' (first|simp only[hb,Va.down,seval,aaX.down,h6,h7,h8,h3,aaS,decide_false]|refine Af ?_ ?_<;>intro hb|refine fd ?_|fail))
  exact kQ _ _ _ ⟨rfl,by simp[up,h3,Ar]⟩
 ·rintro x rest i s t h J Q' kJ kQ hx hi ⟨h6,h7,h8,h3⟩
  have hd:decide ((i:Int)<(l.length:Int))=true:=by simpa using hi
  have hw:=Ai hi hl
  (have hb:=trivial;with_reducible repeat' (first|simp only[hb,Va.down,seval,aaX.down,h6,h7,h8,h3,hd,hx,iv,hw]|refine Af ?_ ?_<;>intro hb|refine fd ?_|fail))
  exact Ah (kJ _ _ (IntKind.i64.wrap (s+x)) ⟨by simp[up,h6],by simp[up,h7],by simp[up],by simp[up]⟩ rfl)
 ·exact⟨by simp[up,Bw],by simp[up],by simp[up],by simp[up]⟩
 ·obtain⟨rfl,h3⟩:=hk
  (have hb:=trivial;with_reducible repeat' (first|simp only[hb,Va.down,seval,aaX.down,h3]|refine Af ?_ ?_<;>intro hb|refine fd ?_|fail))
theorem pJ{l:List Int}{nn:Bool}(hl:l.length≤maxLen):Bi.call (.fn 77) [Ao 1 true nn (l.map iv)] []=some (.ret (.int .i64 (Ar l 0)),[]):=by
 (refine ce Tryz.func77 ?_;simp only[Tryz.f77];(have hb:=trivial;with_reducible repeat' (first|simp only[hb,Va.down,seval,alW.down,abB]|refine Af ?_ ?_<;>intro hb|refine fd ?_|fail)))
 refine Cd (Np 18 l (fun i (s:Int) t h=>t 0=Ao 1 true nn (l.map iv)∧t 4=.int .i64 i∧t 3=.int .i64 s)
  (fun rest s=>Ar rest s) (fun r e t h=>e=.exit 0∧t 3=.int .i64 r) ?_ ?_ 0 _ _ ?_) (fun e t h hk=>?_)
 ·rintro s t h Q' kQ ⟨h0,h4,h3⟩
  (have hb:=trivial;with_reducible repeat' (first|simp only[hb,Va.down,seval,alW.down,h0,h4,h3,aaS,decide_false]|refine Af ?_ ?_<;>intro hb|refine fd ?_|fail))
  exact kQ _ _ _ ⟨rfl,by simp[up,h3,Ar]⟩
 ·rintro x rest i s t h J Q' kJ kQ hx hi ⟨h0,h4,h3⟩
  have hd:decide ((i:Int)<(l.length:Int))=true:=by simpa using hi
  have hw:=Ai hi hl
  (have hb:=trivial;with_reducible repeat' (first|simp only[hb,Va.down,seval,alW.down,h0,h4,h3,hd,hx,iv,hw]|refine Af ?_ ?_<;>intro hb|refine fd ?_|fail))
  exact Ah (kJ _ _ (IntKind.i64.wrap (s+x)) ⟨by simp[up,h0],by simp[up],by simp[up]⟩ rfl)
 ·exact⟨by simp[up,Bw],by simp[up],by simp[up]⟩
 ·obtain⟨rfl,h3⟩:=hk
  (have hb:=trivial;with_reducible repeat' (first|simp only[hb,Va.down,seval,alW.down,h3]|refine Af ?_ ?_<;>intro hb|refine fd ?_|fail))
theorem atW{l l':List Int}{nn nn':Bool}(hl:l.length≤maxLen)(hl':l'.length≤maxLen):Bi.call (.fn 20) [Ao 1 true nn (l.map iv),Ao 1 true nn' (l'.map iv)] []=some (.ret (.bool (decide (l=l'))),[]):=by
 have hne:(!((l.length:Int)==(l'.length:Int)))=decide (l.length≠l'.length):=by
  by_cases h:l.length=l'.length
  ·simp[h]
  ·simp[h];omega
 (refine ce Tryz.func20 ?_;simp only[Tryz.f20];(have hb:=trivial;with_reducible repeat' (first|simp only[hb,Va.down,seval,ak9.down,abB,hne]|refine Af ?_ ?_<;>intro hb|refine fd ?_|fail)))
 ·rw[decide_eq_true_eq]at hb
  simp
  intro e;rw[e]at hb;exact hb rfl
 rw[decide_eq_false_iff_not]at hb
 have hlen:l.length=l'.length:=by omega
 refine Cd (Np 26 l (fun i (_:Unit) t h=>t 0=Ao 1 true nn (l.map iv)∧t 1=Ao 1 true nn' (l'.map iv)∧t 5=.int .i64 i∧l.take i=l'.take i)
  (fun rest _=>()) (fun r e t h=>if l=l' then e=.exit 0 else e=.ret∧t 4=.bool false) ?_ ?_ () _ _ ?_) (fun e t h hk=>?_)
 ·rintro _ t h Q' kQ ⟨h0,h1,h5,hp⟩
  (have hb:=trivial;with_reducible repeat' (first|simp only[hb,Va.down,seval,ak9.down,h0,h5,aaS,decide_false]|refine Af ?_ ?_<;>intro hb|refine fd ?_|fail))
  rw[ae8,hlen,ae8]at hp
  exact kQ _ _ _ (by rw[if_pos hp])
 ·rintro x rest i _ t h J Q' kJ kQ hx hi ⟨h0,h1,h5,hp⟩
  have hd:decide ((i:Int)<(l.length:Int))=true:=by simpa using hi
  have hw:=Ai hi hl
  obtain⟨y,hy⟩:∃y,l'[i]?=some y:=⟨l'[i]'(by omega),abT _⟩
  (have hb:=trivial;with_reducible repeat' (first|simp only[hb,Va.down,seval,ak9.down,h0,h1,h5,hd,hx,hy,iv,hw]|refine Af ?_ ?_<;>intro hb|refine fd ?_|fail))
  ·refine kQ _ _ _ ?_
   rw[if_neg (fun e=>by rw[e]at hx;rw[hx]at hy;cases hy;simp at hb)]
   exact⟨rfl,rfl⟩
  ·have hxy:x=y:=by simpa using hb
   exact Ah (kJ _ _ () ⟨by simp[up,h0],by simp[up,h1],by simp[up],by rw[adV,adV,hp,hx,hy,hxy]⟩ rfl)
 ·exact⟨by simp[up,Bw],by simp[up,Bw],by simp[up],by simp⟩
 ·by_cases he:l=l'
  ·rw[if_pos he]at hk
   subst hk
   (have hb:=trivial;with_reducible repeat' (first|simp only[hb,Va.down,seval,ak9.down]|refine Af ?_ ?_<;>intro hb|refine fd ?_|fail))
   all_goals simp[he]
  ·rw[if_neg he]at hk
   obtain⟨rfl,h4⟩:=hk
   (have hb:=trivial;with_reducible repeat' (first|simp only[hb,Va.down,seval,ak9.down,h4]|refine Af ?_ ?_<;>intro hb|refine fd ?_|fail))
   all_goals simp[he]
def Eb(amount whole so got:Int):Int:=if 0<whole then IntKind.i64.wrap (IntKind.i64.wrap ((IntKind.i64.wrap (amount*so)).tdiv whole)-got)else 0
def Cm(amount whole:Int):List Int→Int→Int→List Int
 | [],_,_=>[]
 |w::rest,so,got=>Eb amount whole (IntKind.i64.wrap (so+w)) got::Cm amount whole rest (IntKind.i64.wrap (so+w)) (IntKind.i64.wrap (got+Eb amount whole (IntKind.i64.wrap (so+w)) got))
theorem aR(amount:Int)(l:List Int)(nn:Bool)(hl:l.length≤1000)(o:Eo)(h':Ab)(c0:l=[]→(o,h')=(.ret .nils,[]))(c1:l≠[]→(o,h')=(.ret (.slr 1 0 0 l.length),[.live 1 true false ((Cm amount (Ar l 0) l 0 0).map iv)])):
 Bi.call (.fn 78) [.int .i64 amount,Ao 1 true nn (l.map iv)] []=some (o,h'):=by
 have hl':l.length≤maxLen:=by unfold maxLen;omega
 (refine ce Tryz.func78 ?_;simp only[Tryz.f78];(have hb:=trivial;with_reducible repeat' (first|simp only[hb,Va.down,seval,lT.down,abB]|refine Af ?_ ?_<;>intro hb|refine fd ?_|fail)))
 refine Cd (Np 53 l (fun i (s:Int) t h=>t 0=.int .i64 amount∧t 6=.int .i64 0∧t 7=.int .i64 0∧t 1=Ao 1 true nn (l.map iv)∧t 8=.int .i64 i∧t 5=.int .i64 s)
  (fun rest s=>Ar rest s) (fun r e t h=>e=.exit 0∧t 0=.int .i64 amount∧t 6=.int .i64 0∧t 7=.int .i64 0∧t 1=Ao 1 true nn (l.map iv)∧t 5=.int .i64 r) ?_ ?_ 0 _ _ ?_) (fun e t h hk=>?_)
 ·rintro s t h Q' kQ ⟨h0,h6,h7,h1,h8,h5⟩
  (have hb:=trivial;with_reducible repeat' (first|simp only[hb,Va.down,seval,lT.down,h1,h8,h5,aaS,decide_false]|refine Af ?_ ?_<;>intro hb|refine fd ?_|fail))
  exact kQ _ _ _ ⟨rfl,by simp[up,h0],by simp[up,h6],by simp[up,h7],by simp[up,h1],by simp[up,h5,Ar]⟩
 ·rintro x rest i s t h J Q' kJ kQ hx hi ⟨h0,h6,h7,h1,h8,h5⟩
  have hd:decide ((i:Int)<(l.length:Int))=true:=by simpa using hi
  have hw:=Ai hi hl'
  (have hb:=trivial;with_reducible repeat' (first|simp only[hb,Va.down,seval,lT.down,h1,h8,h5,hd,hx,iv,hw]|refine Af ?_ ?_<;>intro hb|refine fd ?_|fail))
  exact Ah (kJ _ _ (IntKind.i64.wrap (s+x)) ⟨by simp[up,h0],by simp[up,h6],by simp[up,h7],by simp[up,h1],by simp[up],by simp[up]⟩ rfl)
 ·exact⟨by simp[up,Bw],by simp[up],by simp[up],by simp[up,Bw],by simp[up],by simp[up]⟩
 ·obtain⟨rfl,h0,h6,h7,h1,h5⟩:=hk
  (have hb:=trivial;with_reducible repeat' (first|simp only[hb,Va.down,seval,lT.down,h1,h0,h6,h7,h5]|refine Af ?_ ?_<;>intro hb|refine fd ?_|fail))
  refine Cd (Np 53 l (fun i (a:List Int × Int × Int) t h=>t 0=.int .i64 amount∧t 1=Ao 1 true nn (l.map iv)∧t 5=.int .i64 (Ar l 0)∧t 6=.int .i64 a.2.1∧t 7=.int .i64 a.2.2∧t 10=.int .i64 i∧a.1.length=i∧((i=0∧t 9=.nils)∨(0<i∧∃b,t 9=.slr 1 b 0 i∧h[b]?=some (.live 1 true false (a.1.map iv)))))
   (fun rest a=>a.1++Cm amount (Ar l 0) rest a.2.1 a.2.2) (fun r e t h=>e=.exit 2∧((l=[]∧t 9=.nils)∨(l≠[]∧∃b,t 9=.slr 1 b 0 l.length∧h[b]?=some (.live 1 true false (r.map iv))))) ?_ ?_ ([],0,0) _ _ ?_) (fun e t h hk=>?_)
  ·rintro⟨p,so,got⟩ t h Q' kQ ⟨h0,h1,h5,h6,h7,h10,hp,hc⟩
   (have hb:=trivial;with_reducible repeat' (first|simp only[hb,Va.down,seval,lT.down,h1,h10,aaS,decide_false]|refine Af ?_ ?_<;>intro hb|refine fd ?_|fail))
   refine kQ _ _ _ ⟨rfl,?_⟩
   rcases hc with⟨hz,ho⟩|⟨hz,b,ho,hb⟩
   ·exact .inl ⟨aa0.1 hz,by simp[up,ho]⟩
   ·exact .inr ⟨fun e=>by rw[e]at hz;simp at hz,b,by simp[up,ho],by simpa [Cm]using hb⟩
  ·rintro x rest i ⟨p,so,got⟩ t h J Q' kJ kQ hx hi ⟨h0,h1,h5,h6,h7,h10,hp,hc⟩
   simp only at hp h6 h7
   have hd:decide ((i:Int)<(l.length:Int))=true:=by simpa using hi
   have hw:=Ai hi hl'
   have hW:0<Ar l 0→(Ar l 0=0)=False:=fun h=>eq_false (by omega)
   rcases hc with⟨rfl,ho⟩|⟨hz,b,ho,hb⟩
   ·simp only[ab9]at hd
    by_cases hq:0<Ar l 0
    ·have hq1:decide (0<Ar l 0)=true:=by simpa using hq
     have hq2:=hW hq
     (have hb:=trivial;with_reducible repeat' (first|simp only[hb,Va.down,seval,lT.down,h0,h1,h5,h6,h7,h10,ho,hd,hw,hx,iv,hq1,hq2]|refine Af ?_ ?_<;>intro hb|refine fd ?_|fail))
     obtain rfl:p=[]:=aa0.1 hp
     exact Ah (kJ _ _ ([Eb amount (Ar l 0) (IntKind.i64.wrap (so+x)) got],IntKind.i64.wrap (so+x),IntKind.i64.wrap (got+Eb amount (Ar l 0) (IntKind.i64.wrap (so+x)) got)) ⟨by simp[up,h0],by simp[up,h1],by simp[up,h5],by simp[up],by simp[up,Eb,hq],by simp[up],rfl,.inr ⟨by omega,h.length+1,by simp[up],by rw[Jf];simp[iv,Eb,hq]⟩⟩ (by simp[Cm]))
    ·have hq1:decide (0<Ar l 0)=false:=by simpa using hq
     (have hb:=trivial;with_reducible repeat' (first|simp only[hb,Va.down,seval,lT.down,h0,h1,h5,h6,h7,h10,ho,hd,hw,hx,iv,hq1]|refine Af ?_ ?_<;>intro hb|refine fd ?_|fail))
     obtain rfl:p=[]:=aa0.1 hp
     exact Ah (kJ _ _ ([Eb amount (Ar l 0) (IntKind.i64.wrap (so+x)) got],IntKind.i64.wrap (so+x),IntKind.i64.wrap (got+Eb amount (Ar l 0) (IntKind.i64.wrap (so+x)) got)) ⟨by simp[up,h0],by simp[up,h1],by simp[up,h5],by simp[up],by simp[up,Eb,hq],by simp[up],rfl,.inr ⟨by omega,h.length+1,by simp[up],by rw[Jf];simp[iv,Eb,hq]⟩⟩ (by simp[Cm]))
   ·have hbl:b<h.length:=(abO.1 hb).1
    have hA:=Av hb
    have hS:=Fa hbl
    have hlp:0+i=p.length:=by omega
    have hi39:(i+1≤549755813888)=True:=eq_true (by omega)
    by_cases hq:0<Ar l 0
    ·have hq1:decide (0<Ar l 0)=true:=by simpa using hq
     have hq2:=hW hq
     (have hb:=trivial;with_reducible repeat' (first|simp only[hb,Va.down,seval,lT.down,h0,h1,h5,h6,h7,h10,ho,hd,hw,hx,iv,hq1,hq2,hA,hS,Lr,Ge,abY,hp,hi39]|refine Af ?_ ?_<;>intro hb|refine fd ?_|fail))
     exact Ah (kJ _ _ (p++[Eb amount (Ar l 0) (IntKind.i64.wrap (so+x)) got],IntKind.i64.wrap (so+x),IntKind.i64.wrap (got+Eb amount (Ar l 0) (IntKind.i64.wrap (so+x)) got)) ⟨by simp[up,h0],by simp[up,h1],by simp[up,h5],by simp[up],by simp[up,Eb,hq],by simp[up],by simp[hp],.inr ⟨by omega,h.length+1,by simp[up],by rw[Ge];simp[iv,Eb,hq]⟩⟩ (by simp[Cm]))
    ·have hq1:decide (0<Ar l 0)=false:=by simpa using hq
     (have hb:=trivial;with_reducible repeat' (first|simp only[hb,Va.down,seval,lT.down,h0,h1,h5,h6,h7,h10,ho,hd,hw,hx,iv,hq1,hA,hS,Lr,Ge,abY,hp,hi39]|refine Af ?_ ?_<;>intro hb|refine fd ?_|fail))
     exact Ah (kJ _ _ (p++[Eb amount (Ar l 0) (IntKind.i64.wrap (so+x)) got],IntKind.i64.wrap (so+x),IntKind.i64.wrap (got+Eb amount (Ar l 0) (IntKind.i64.wrap (so+x)) got)) ⟨by simp[up,h0],by simp[up,h1],by simp[up,h5],by simp[up],by simp[up,Eb,hq],by simp[up],by simp[hp],.inr ⟨by omega,h.length+1,by simp[up],by rw[Ge];simp[iv,Eb,hq]⟩⟩ (by simp[Cm]))
  ·exact⟨by simp[up,h0],by simp[up,h1],by simp[up,h5],by simp[up,h6],by simp[up,h7],by simp[up],rfl,.inl ⟨rfl,by simp[up]⟩⟩
  ·obtain⟨rfl,⟨hnil,ho⟩|⟨hne,b,ho,hb⟩⟩:=hk
   ·rw[c0 hnil]
    (have hb:=trivial;with_reducible repeat' (first|simp only[hb,Va.down,seval,lT.down,ho]|refine Af ?_ ?_<;>intro hb|refine fd ?_|fail))
   ·rw[c1 hne]
    (with_reducible repeat' (first|simp only[hb,Va.down,seval,lT.down,ho,hb]|refine Af ?_ ?_<;>intro hb|refine fd ?_|fail))
theorem Qq:IntKind.i64.wrap 0=0:=by decide
theorem Uu{l:List Int}(hl:l.length≤1000)(hne:l≠[]):Bi.call (.fn 102) [.imm 1 true (l.map iv)] []=some (.ret (.slr 1 0 0 l.length),[.live 1 true false (l.map iv)]):=by
 cases l with
 |nil=>exact(hne rfl).elim
 |cons x l=>
  have h39:(l.length+1≤549755813888)=True:=eq_true (by simp at hl;omega)
  (refine ce Tryz.func102 ?_;simp only[Tryz.f102];(have hb:=trivial;with_reducible repeat' (first|simp only[hb,Va.down,seval,aaJ.down,abB,h39,iv]|refine Af ?_ ?_<;>intro hb|refine fd ?_|fail)))
def Jm(c:Ag)(w:Int):Int:=if c.firm=true then w else 0
def amY(c:Ag)(w:Int):Int:=IntKind.i64.wrap (w-Jm c w)
theorem Yz{s:Ac}{l:List Int}{nn:Bool}{i:Nat}{c:Ag}{w:Int}(hc:s.cons[i]?=some c)(hw:l[i]?=some w):Bi.call (.fn 125) [.int .i64 i,.ptr 0 0 0,.ptr 1 0 0] [.live 6 false false [s.cells],.live 1 false false [[Ao 1 true nn (l.map iv)]]]=
 some (.ret (.int .i64 (Jm c w)),[.live 6 false false [s.cells],.live 1 false false [[Ao 1 true nn (l.map iv)]]]):=by
 (refine ce Tryz.func125 ?_;simp only[Tryz.f125];(have hb:=trivial;with_reducible repeat' (first|simp only[hb,Va.down,seval,awF.down,hc,hw,Ag.cells,iv]|refine Af ?_ ?_<;>intro hb|refine fd ?_|fail)))
 all_goals simp[Jm,hb]
theorem xN{s:Ac}{l:List Int}{nn:Bool}{i:Nat}{c:Ag}{w:Int}(hc:s.cons[i]?=some c)(hw:l[i]?=some w):Bi.call (.fn 126) [.int .i64 i,.ptr 0 0 0,.ptr 1 0 0] [.live 1 false false [[Ao 1 true nn (l.map iv)]],.live 1 false false [[.func (.func 125) [] [.ptr 2 0 0,.ptr 0 0 0]]],.live 6 false false [s.cells]]=
 some (.ret (.int .i64 (amY c w)),[.live 1 false false [[Ao 1 true nn (l.map iv)]],.live 1 false false [[.func (.func 125) [] [.ptr 2 0 0,.ptr 0 0 0]]],.live 6 false false [s.cells]]):=by
 have h1:=Yz (nn:=nn) hc hw
 (refine ce Tryz.func126 ?_;simp only[Tryz.f126];(have hb:=trivial;with_reducible repeat' (first|simp only[hb,Va.down,seval,av9.down,hw,iv,h1]|refine Af ?_ ?_<;>intro hb|refine fd ?_|fail)))
 all_goals rfl
theorem kD{p:List Int}{n i:Nat}(hp:p.length=i)(hi:i<n)(v:Int):((p++aaW (n-i) 0).map iv).set i [.int .i64 v]=(p++(v::aaW (n-(i+1)) 0)).map iv:=by
 obtain⟨m,rfl⟩:∃m,n=i+1+m:=⟨n-(i+1),by omega⟩
 have e1:i+1+m-i=m+1:=by omega
 have e2:i+1+m-(i+1)=m:=by omega
 rw[e1,e2,acK]
 subst hp
 simp[iv]
theorem eB{p:List Int}{n i:Nat}(hp:p.length=i)(hi:i<n):(p++aaW (n-i) 0)[i]?=some (0:Int):=by
 rw[aeZ (by omega),hp,aeH,List.getElem?_replicate,if_pos (by omega)]
theorem qY{α:Type}{p:List α}{i:Nat}(hp:p.length=i)(v:α)(l:List α):(p++(v::l))[i]?=some v:=by
 rw[aeZ (by omega),hp,aeH];rfl
theorem aj2{amount:Int}{l:List Int}{nn:Bool}{g:Nat}{w:Int→Int}{s:Ac}{wl:List Int}{wn:Bool}(hp:∀x∈l,Bi.call (.fn g) (.int .i64 x::[.ptr 0 0 0,.ptr 1 0 0]) [.live 6 false false [s.cells],.live 1 false false [[Ao 1 true wn (wl.map iv)]]]=some (.ret (.int .i64 (w x)),[.live 6 false false [s.cells],.live 1 false false [[Ao 1 true wn (wl.map iv)]]]))(hl:l.length≤1000):
 Bi.call (.fn 127) [.int .i64 amount,Ao 1 true nn (l.map iv),.func (.func g) [] [.ptr 0 0 0,.ptr 1 0 0]] [.live 6 false false [s.cells],.live 1 false false [[Ao 1 true wn (wl.map iv)]]]=some (.ret (.slr 1 2 0 l.length),[.live 6 false false [s.cells],.live 1 false false [[Ao 1 true wn (wl.map iv)]]]++[.live 1 true (decide (0<Ar (l.map w) 0)) ((Cm amount (Ar (l.map w) 0) (l.map w) 0 0).map iv)]):=by
 have hl':l.length≤maxLen:=by unfold maxLen;omega
 have h40:((l.length:Int)≤1099511627776)=True:=eq_true (by omega)
 (refine ce Tryz.func127 ?_;simp only[Tryz.f127];(have hb:=trivial;with_reducible repeat' (first|simp only[hb,Va.down,seval,Ku.down,abB]|refine Af ?_ ?_<;>intro hb|refine fd ?_|fail)))
 refine Cd (Np 62 l (fun i (zz:Int) t h=>t 0=.int .i64 amount∧t 1=Ao 1 true nn (l.map iv)∧t 2=.func (.func g) [] [.ptr 0 0 0,.ptr 1 0 0]∧t 15=Ao 1 true nn (l.map iv)∧t 16=.int .i64 l.length∧t 17=.int .i64 i∧t 7=.int .i64 zz∧h=[.live 6 false false [s.cells],.live 1 false false [[Ao 1 true wn (wl.map iv)]]]) (fun rest zz=>Ar (rest.map w) zz) (fun r e t h=>e=.exit 0∧t 0=.int .i64 amount∧t 1=Ao 1 true nn (l.map iv)∧t 2=.func (.func g) [] [.ptr 0 0 0,.ptr 1 0 0]∧t 7=.int .i64 r∧h=[.live 6 false false [s.cells],.live 1 false false [[Ao 1 true wn (wl.map iv)]]]) ?_ ?_ (0) _ _ ?_) (fun e t h hk=>?_)
 ·rintro s' t h Q' kQ ⟨h0,h1,h2,h15,h16,h17,h7,rfl⟩
  (have hb:=trivial;with_reducible repeat' (first|simp only[hb,Va.down,seval,Ku.down,h0,h1,h2,h15,h16,h17,h7,aaS,decide_false]|refine Af ?_ ?_<;>intro hb|refine fd ?_|fail))
  exact kQ _ _ _ ⟨rfl,by simp[up,h0],by simp[up,h1],by simp[up,h2],by simp[up,h7,Ar],rfl⟩
 ·rintro x rest i s' t h J Q' kJ kQ hx hi ⟨h0,h1,h2,h15,h16,h17,h7,rfl⟩
  have hd:decide ((i:Int)<(l.length:Int))=true:=decide_eq_true (by omega)
  have hw:=Ai hi hl'
  have hpx:=hp x (acF hx)
  (have hb:=trivial;with_reducible repeat' (first|simp only[hb,Va.down,seval,Ku.down,h0,h1,h2,h15,h16,h17,h7,hd,hx,hw,iv,hpx]|refine Af ?_ ?_<;>intro hb|refine fd ?_|fail))
  (refine Ah (kJ _ _ (IntKind.i64.wrap (s'+w x)) ⟨?_,?_,?_,?_,?_,?_,?_,rfl⟩ ?_);(simp[up,h0]);(simp[up,h1]);(simp[up,h2]);(simp[up,h15]);(simp[up,h16]);(simp[up]);(simp[up,h7]);(simp[Ar]))
 ·exact⟨by simp[up,Bw],by simp[up,Bw],by simp[up,Bw],by simp[up,Bw],by simp[up,Bw],by simp[up],by simp[up,Bw],rfl⟩
 ·obtain⟨rfl,h0,h1,h2,h7,rfl⟩:=hk
  (have hb:=trivial;with_reducible repeat' (first|simp only[hb,Va.down,seval,Ku.down,h0,h1,h2,h7,h40,iv,aeM,aeP]|refine Af ?_ ?_<;>intro hb|refine fd ?_|fail))
  refine Cd (Np 62 l (fun i (zz:List Int × Int × Int) t h=>t 0=.int .i64 amount∧t 2=.func (.func g) [] [.ptr 0 0 0,.ptr 1 0 0]∧t 7=.int .i64 (Ar (l.map w) 0)∧t 10=.slr 1 2 0 l.length∧t 30=Ao 1 true nn (l.map iv)∧t 31=.int .i64 l.length∧t 32=.int .i64 i∧t 11=.int .i64 zz.2.1∧t 12=.int .i64 zz.2.2∧h=[.live 6 false false [s.cells],.live 1 false false [[Ao 1 true wn (wl.map iv)]]]++[.live 1 true (!zz.1.isEmpty&&decide (0<Ar (l.map w) 0)) ((zz.1++aaW (l.length-i) 0).map iv)]∧zz.1.length=i∧(0<Ar (l.map w) 0∨zz.2.2=0)) (fun rest zz=>zz.1++Cm amount (Ar (l.map w) 0) (rest.map w) zz.2.1 zz.2.2) (fun r e t h=>e=.exit 2∧t 10=.slr 1 2 0 l.length∧h=[.live 6 false false [s.cells],.live 1 false false [[Ao 1 true wn (wl.map iv)]]]++[.live 1 true (!l.isEmpty&&decide (0<Ar (l.map w) 0)) (r.map iv)]) ?_ ?_ ([],0,0) _ _ ?_) (fun e t h hk=>?_)
  ·rintro⟨p,so,got⟩ t h Q' kQ ⟨h0,h2,h7,h10,h30,h31,h32,h11,h12,rfl,hpl,hgot⟩
   try dsimp only at *
   (have hb:=trivial;with_reducible repeat' (first|simp only[hb,Va.down,seval,Ku.down,h0,h2,h7,h10,h30,h31,h32,h11,h12,aaS,decide_false]|refine Af ?_ ?_<;>intro hb|refine fd ?_|fail))
   have hpe:p.isEmpty=l.isEmpty:=by cases p<;>cases l<;>simp at hpl ⊢
   exact kQ _ _ _ ⟨rfl,by simp[up,h10],by simp[Cm,hpe]⟩
  ·rintro x rest i ⟨p,so,got⟩ t h J Q' kJ kQ hx hi ⟨h0,h2,h7,h10,h30,h31,h32,h11,h12,rfl,hpl,hgot⟩
   have hd:decide ((i:Int)<(l.length:Int))=true:=decide_eq_true (by omega)
   have hw:=Ai hi hl'
   try dsimp only at *
   have hpx:=hp x (acF hx)
   have hset:=kD hpl hi
   have hget:=eB hpl hi
   have hmid:=fun(v:Int) l=>qY hpl v l
   have hcon:p++(0:Int)::aaW (l.length-(i+1)) 0=p++aaW (l.length-i) 0:=by
    rw[show l.length-i=(l.length-(i+1))+1 by omega,acK]
   have hii:((i:Int)<(l.length:Int))=True:=eq_true (by omega)
   by_cases hq:0<Ar (l.map w) 0
   ·have hq1:decide (0<Ar (l.map w) 0)=true:=by simpa using hq
    have hq2:(Ar (l.map w) 0=0)=False:=eq_false (by omega)
    (have hb:=trivial;with_reducible repeat' (first|simp only[hb,Va.down,seval,Ku.down,h0,h2,h7,h10,h30,h31,h32,h11,h12,hd,hx,hw,hpx,hset,hget,hmid,hq1,hq2,hii,iv]|refine Af ?_ ?_<;>intro hb|refine fd ?_|fail))
    all_goals (refine Ah (kJ _ _ (p++[Eb amount (Ar (l.map w) 0) (IntKind.i64.wrap (so+w x)) got],IntKind.i64.wrap (so+w x),IntKind.i64.wrap (got+Eb amount (Ar (l.map w) 0) (IntKind.i64.wrap (so+w x)) got)) ⟨?_,?_,?_,?_,?_,?_,?_,?_,?_,by simp[Eb,hq],by simp[hpl],.inl hq⟩ ?_);(simp[up,h0]);(simp[up,h2]);(simp[up,h7]);(simp[up,h10]);(simp[up,h30]);(simp[up,h31]);(simp[up]);(simp[up,h11,Eb,hq,Qq]);(simp[up,h12,Eb,hq,Qq]);(simp[Cm]))
   ·obtain rfl:got=0:=by rcases hgot with h|h;exact(hq h).elim;exact h
    have hq1:decide (0<Ar (l.map w) 0)=false:=by simpa using hq
    (have hb:=trivial;with_reducible repeat' (first|simp only[hb,Va.down,seval,Ku.down,h0,h2,h7,h10,h30,h31,h32,h11,h12,hd,hx,hw,hpx,hq1,hii,iv]|refine Af ?_ ?_<;>intro hb|refine fd ?_|fail))
    all_goals (refine Ah (kJ _ _ (p++[Eb amount (Ar (l.map w) 0) (IntKind.i64.wrap (so+w x)) 0],IntKind.i64.wrap (so+w x),IntKind.i64.wrap (0+Eb amount (Ar (l.map w) 0) (IntKind.i64.wrap (so+w x)) 0)) ⟨?_,?_,?_,?_,?_,?_,?_,?_,?_,by simp[Eb,hq,hcon],by simp[hpl],.inr (by simp[Eb,hq];rfl)⟩ ?_);(simp[up,h0]);(simp[up,h2]);(simp[up,h7]);(simp[up,h10]);(simp[up,h30]);(simp[up,h31]);(simp[up]);(simp[up,h11,Eb,hq,Qq]);(simp[up,h12,Eb,hq,Qq]);(simp[Cm]))
  ·exact⟨by simp[up,Bw,h0,h1,h2,h7],by simp[up,Bw,h0,h1,h2,h7],by simp[up,Bw,h0,h1,h2,h7],by simp[up,Bw,h0,h1,h2,h7],by simp[up,Bw,h0,h1,h2,h7],by simp[up,Bw,h0,h1,h2,h7],by simp[up],by simp[up,Bw,h0,h1,h2,h7],by simp[up,Bw,h0,h1,h2,h7],by simp[iv],rfl,.inr rfl⟩
  ·obtain⟨rfl,h10,rfl⟩:=hk
   have hw:(!l.isEmpty&&decide (0<Ar (l.map w) 0))=decide (0<Ar (l.map w) 0):=by cases l<;>simp[Ar]
   (have hb:=trivial;with_reducible repeat' (first|simp only[hb,Va.down,seval,Ku.down,h10,hw]|refine Af ?_ ?_<;>intro hb|refine fd ?_|fail))
theorem ak0{amount:Int}{l:List Int}{nn:Bool}{g:Nat}{w:Int→Int}{s:Ac}{wl:List Int}{wn:Bool}{q:Nat}(hp:∀x∈l,Bi.call (.fn g) (.int .i64 x::[.ptr 0 0 0,.ptr 1 0 0]) [.live 1 false false [[Ao 1 true wn (wl.map iv)]],.live 1 false false [[.func (.func q) [] [.ptr 2 0 0,.ptr 0 0 0]]],.live 6 false false [s.cells]]=some (.ret (.int .i64 (w x)),[.live 1 false false [[Ao 1 true wn (wl.map iv)]],.live 1 false false [[.func (.func q) [] [.ptr 2 0 0,.ptr 0 0 0]]],.live 6 false false [s.cells]]))(hl:l.length≤1000):
 Bi.call (.fn 127) [.int .i64 amount,Ao 1 true nn (l.map iv),.func (.func g) [] [.ptr 0 0 0,.ptr 1 0 0]] [.live 1 false false [[Ao 1 true wn (wl.map iv)]],.live 1 false false [[.func (.func q) [] [.ptr 2 0 0,.ptr 0 0 0]]],.live 6 false false [s.cells]]=some (.ret (.slr 1 3 0 l.length),[.live 1 false false [[Ao 1 true wn (wl.map iv)]],.live 1 false false [[.func (.func q) [] [.ptr 2 0 0,.ptr 0 0 0]]],.live 6 false false [s.cells]]++[.live 1 true (decide (0<Ar (l.map w) 0)) ((Cm amount (Ar (l.map w) 0) (l.map w) 0 0).map iv)]):=by
 have hl':l.length≤maxLen:=by unfold maxLen;omega
 have h40:((l.length:Int)≤1099511627776)=True:=eq_true (by omega)
 (refine ce Tryz.func127 ?_;simp only[Tryz.f127];(have hb:=trivial;with_reducible repeat' (first|simp only[hb,Va.down,seval,Ku.down,abB]|refine Af ?_ ?_<;>intro hb|refine fd ?_|fail)))
 refine Cd (Np 62 l (fun i (zz:Int) t h=>t 0=.int .i64 amount∧t 1=Ao 1 true nn (l.map iv)∧t 2=.func (.func g) [] [.ptr 0 0 0,.ptr 1 0 0]∧t 15=Ao 1 true nn (l.map iv)∧t 16=.int .i64 l.length∧t 17=.int .i64 i∧t 7=.int .i64 zz∧h=[.live 1 false false [[Ao 1 true wn (wl.map iv)]],.live 1 false false [[.func (.func q) [] [.ptr 2 0 0,.ptr 0 0 0]]],.live 6 false false [s.cells]]) (fun rest zz=>Ar (rest.map w) zz) (fun r e t h=>e=.exit 0∧t 0=.int .i64 amount∧t 1=Ao 1 true nn (l.map iv)∧t 2=.func (.func g) [] [.ptr 0 0 0,.ptr 1 0 0]∧t 7=.int .i64 r∧h=[.live 1 false false [[Ao 1 true wn (wl.map iv)]],.live 1 false false [[.func (.func q) [] [.ptr 2 0 0,.ptr 0 0 0]]],.live 6 false false [s.cells]]) ?_ ?_ (0) _ _ ?_) (fun e t h hk=>?_)
 ·rintro s' t h Q' kQ ⟨h0,h1,h2,h15,h16,h17,h7,rfl⟩
  (have hb:=trivial;with_reducible repeat' (first|simp only[hb,Va.down,seval,Ku.down,h0,h1,h2,h15,h16,h17,h7,aaS,decide_false]|refine Af ?_ ?_<;>intro hb|refine fd ?_|fail))
  exact kQ _ _ _ ⟨rfl,by simp[up,h0],by simp[up,h1],by simp[up,h2],by simp[up,h7,Ar],rfl⟩
 ·rintro x rest i s' t h J Q' kJ kQ hx hi ⟨h0,h1,h2,h15,h16,h17,h7,rfl⟩
  have hd:decide ((i:Int)<(l.length:Int))=true:=decide_eq_true (by omega)
  have hw:=Ai hi hl'
  have hpx:=hp x (acF hx)
  (have hb:=trivial;with_reducible repeat' (first|simp only[hb,Va.down,seval,Ku.down,h0,h1,h2,h15,h16,h17,h7,hd,hx,hw,iv,hpx]|refine Af ?_ ?_<;>intro hb|refine fd ?_|fail))
  (refine Ah (kJ _ _ (IntKind.i64.wrap (s'+w x)) ⟨?_,?_,?_,?_,?_,?_,?_,rfl⟩ ?_);(simp[up,h0]);(simp[up,h1]);(simp[up,h2]);(simp[up,h15]);(simp[up,h16]);(simp[up]);(simp[up,h7]);(simp[Ar]))
 ·exact⟨by simp[up,Bw],by simp[up,Bw],by simp[up,Bw],by simp[up,Bw],by simp[up,Bw],by simp[up],by simp[up,Bw],rfl⟩
 ·obtain⟨rfl,h0,h1,h2,h7,rfl⟩:=hk
  (have hb:=trivial;with_reducible repeat' (first|simp only[hb,Va.down,seval,Ku.down,h0,h1,h2,h7,h40,iv,aeM,aeP]|refine Af ?_ ?_<;>intro hb|refine fd ?_|fail))
  refine Cd (Np 62 l (fun i (zz:List Int × Int × Int) t h=>t 0=.int .i64 amount∧t 2=.func (.func g) [] [.ptr 0 0 0,.ptr 1 0 0]∧t 7=.int .i64 (Ar (l.map w) 0)∧t 10=.slr 1 3 0 l.length∧t 30=Ao 1 true nn (l.map iv)∧t 31=.int .i64 l.length∧t 32=.int .i64 i∧t 11=.int .i64 zz.2.1∧t 12=.int .i64 zz.2.2∧h=[.live 1 false false [[Ao 1 true wn (wl.map iv)]],.live 1 false false [[.func (.func q) [] [.ptr 2 0 0,.ptr 0 0 0]]],.live 6 false false [s.cells]]++[.live 1 true (!zz.1.isEmpty&&decide (0<Ar (l.map w) 0)) ((zz.1++aaW (l.length-i) 0).map iv)]∧zz.1.length=i∧(0<Ar (l.map w) 0∨zz.2.2=0)) (fun rest zz=>zz.1++Cm amount (Ar (l.map w) 0) (rest.map w) zz.2.1 zz.2.2) (fun r e t h=>e=.exit 2∧t 10=.slr 1 3 0 l.length∧h=[.live 1 false false [[Ao 1 true wn (wl.map iv)]],.live 1 false false [[.func (.func q) [] [.ptr 2 0 0,.ptr 0 0 0]]],.live 6 false false [s.cells]]++[.live 1 true (!l.isEmpty&&decide (0<Ar (l.map w) 0)) (r.map iv)]) ?_ ?_ ([],0,0) _ _ ?_) (fun e t h hk=>?_)
  ·rintro⟨p,so,got⟩ t h Q' kQ ⟨h0,h2,h7,h10,h30,h31,h32,h11,h12,rfl,hpl,hgot⟩
   try dsimp only at *
   (have hb:=trivial;with_reducible repeat' (first|simp only[hb,Va.down,seval,Ku.down,h0,h2,h7,h10,h30,h31,h32,h11,h12,aaS,decide_false]|refine Af ?_ ?_<;>intro hb|refine fd ?_|fail))
   have hpe:p.isEmpty=l.isEmpty:=by cases p<;>cases l<;>simp at hpl ⊢
   exact kQ _ _ _ ⟨rfl,by simp[up,h10],by simp[Cm,hpe]⟩
  ·rintro x rest i ⟨p,so,got⟩ t h J Q' kJ kQ hx hi ⟨h0,h2,h7,h10,h30,h31,h32,h11,h12,rfl,hpl,hgot⟩
   have hd:decide ((i:Int)<(l.length:Int))=true:=decide_eq_true (by omega)
   have hw:=Ai hi hl'
   try dsimp only at *
   have hpx:=hp x (acF hx)
   have hset:=kD hpl hi
   have hget:=eB hpl hi
   have hmid:=fun(v:Int) l=>qY hpl v l
   have hcon:p++(0:Int)::aaW (l.length-(i+1)) 0=p++aaW (l.length-i) 0:=by
    rw[show l.length-i=(l.length-(i+1))+1 by omega,acK]
   have hii:((i:Int)<(l.length:Int))=True:=eq_true (by omega)
   by_cases hq:0<Ar (l.map w) 0
   ·have hq1:decide (0<Ar (l.map w) 0)=true:=by simpa using hq
    have hq2:(Ar (l.map w) 0=0)=False:=eq_false (by omega)
    (have hb:=trivial;with_reducible repeat' (first|simp only[hb,Va.down,seval,Ku.down,h0,h2,h7,h10,h30,h31,h32,h11,h12,hd,hx,hw,hpx,hset,hget,hmid,hq1,hq2,hii,iv]|refine Af ?_ ?_<;>intro hb|refine fd ?_|fail))
    all_goals (refine Ah (kJ _ _ (p++[Eb amount (Ar (l.map w) 0) (IntKind.i64.wrap (so+w x)) got],IntKind.i64.wrap (so+w x),IntKind.i64.wrap (got+Eb amount (Ar (l.map w) 0) (IntKind.i64.wrap (so+w x)) got)) ⟨?_,?_,?_,?_,?_,?_,?_,?_,?_,by simp[Eb,hq],by simp[hpl],.inl hq⟩ ?_);(simp[up,h0]);(simp[up,h2]);(simp[up,h7]);(simp[up,h10]);(simp[up,h30]);(simp[up,h31]);(simp[up]);(simp[up,h11,Eb,hq,Qq]);(simp[up,h12,Eb,hq,Qq]);(simp[Cm]))
   ·obtain rfl:got=0:=by rcases hgot with h|h;exact(hq h).elim;exact h
    have hq1:decide (0<Ar (l.map w) 0)=false:=by simpa using hq
    (have hb:=trivial;with_reducible repeat' (first|simp only[hb,Va.down,seval,Ku.down,h0,h2,h7,h10,h30,h31,h32,h11,h12,hd,hx,hw,hpx,hq1,hii,iv]|refine Af ?_ ?_<;>intro hb|refine fd ?_|fail))
    all_goals (refine Ah (kJ _ _ (p++[Eb amount (Ar (l.map w) 0) (IntKind.i64.wrap (so+w x)) 0],IntKind.i64.wrap (so+w x),IntKind.i64.wrap (0+Eb amount (Ar (l.map w) 0) (IntKind.i64.wrap (so+w x)) 0)) ⟨?_,?_,?_,?_,?_,?_,?_,?_,?_,by simp[Eb,hq,hcon],by simp[hpl],.inr (by simp[Eb,hq];rfl)⟩ ?_);(simp[up,h0]);(simp[up,h2]);(simp[up,h7]);(simp[up,h10]);(simp[up,h30]);(simp[up,h31]);(simp[up]);(simp[up,h11,Eb,hq,Qq]);(simp[up,h12,Eb,hq,Qq]);(simp[Cm]))
  ·exact⟨by simp[up,Bw,h0,h1,h2,h7],by simp[up,Bw,h0,h1,h2,h7],by simp[up,Bw,h0,h1,h2,h7],by simp[up,Bw,h0,h1,h2,h7],by simp[up,Bw,h0,h1,h2,h7],by simp[up,Bw,h0,h1,h2,h7],by simp[up],by simp[up,Bw,h0,h1,h2,h7],by simp[up,Bw,h0,h1,h2,h7],by simp[iv],rfl,.inr rfl⟩
  ·obtain⟨rfl,h10,rfl⟩:=hk
   have hw:(!l.isEmpty&&decide (0<Ar (l.map w) 0))=decide (0<Ar (l.map w) 0):=by cases l<;>simp[Ar]
   (have hb:=trivial;with_reducible repeat' (first|simp only[hb,Va.down,seval,Ku.down,h10,hw]|refine Af ?_ ?_<;>intro hb|refine fd ?_|fail))
theorem Qc{amount:Int}{l:List Int}{nn:Bool}{g:Nat}{w:Int→Int}  (hp:∀x∈l,Bi.call (.fn g) (.int .i64 x::[]) []=some (.ret (.int .i64 (w x)),[]))(hl:l.length≤1000):
 Bi.call (.fn 127) [.int .i64 amount,Ao 1 true nn (l.map iv),.func (.func g) [] []] []=some (.ret (.slr 1 0 0 l.length),[]++[.live 1 true (decide (0<Ar (l.map w) 0)) ((Cm amount (Ar (l.map w) 0) (l.map w) 0 0).map iv)]):=by
 have hl':l.length≤maxLen:=by unfold maxLen;omega
 have h40:((l.length:Int)≤1099511627776)=True:=eq_true (by omega)
 (refine ce Tryz.func127 ?_;simp only[Tryz.f127];(have hb:=trivial;with_reducible repeat' (first|simp only[hb,Va.down,seval,Ku.down,abB]|refine Af ?_ ?_<;>intro hb|refine fd ?_|fail)))
 refine Cd (Np 62 l (fun i (zz:Int) t h=>t 0=.int .i64 amount∧t 1=Ao 1 true nn (l.map iv)∧t 2=.func (.func g) [] []∧t 15=Ao 1 true nn (l.map iv)∧t 16=.int .i64 l.length∧t 17=.int .i64 i∧t 7=.int .i64 zz∧h=[]) (fun rest zz=>Ar (rest.map w) zz) (fun r e t h=>e=.exit 0∧t 0=.int .i64 amount∧t 1=Ao 1 true nn (l.map iv)∧t 2=.func (.func g) [] []∧t 7=.int .i64 r∧h=[]) ?_ ?_ (0) _ _ ?_) (fun e t h hk=>?_)
 ·rintro s' t h Q' kQ ⟨h0,h1,h2,h15,h16,h17,h7,rfl⟩
  (have hb:=trivial;with_reducible repeat' (first|simp only[hb,Va.down,seval,Ku.down,h0,h1,h2,h15,h16,h17,h7,aaS,decide_false]|refine Af ?_ ?_<;>intro hb|refine fd ?_|fail))
  exact kQ _ _ _ ⟨rfl,by simp[up,h0],by simp[up,h1],by simp[up,h2],by simp[up,h7,Ar],rfl⟩
 ·rintro x rest i s' t h J Q' kJ kQ hx hi ⟨h0,h1,h2,h15,h16,h17,h7,rfl⟩
  have hd:decide ((i:Int)<(l.length:Int))=true:=decide_eq_true (by omega)
  have hw:=Ai hi hl'
  have hpx:=hp x (acF hx)
  (have hb:=trivial;with_reducible repeat' (first|simp only[hb,Va.down,seval,Ku.down,h0,h1,h2,h15,h16,h17,h7,hd,hx,hw,iv,hpx]|refine Af ?_ ?_<;>intro hb|refine fd ?_|fail))
  (refine Ah (kJ _ _ (IntKind.i64.wrap (s'+w x)) ⟨?_,?_,?_,?_,?_,?_,?_,rfl⟩ ?_);(simp[up,h0]);(simp[up,h1]);(simp[up,h2]);(simp[up,h15]);(simp[up,h16]);(simp[up]);(simp[up,h7]);(simp[Ar]))
 ·exact⟨by simp[up,Bw],by simp[up,Bw],by simp[up,Bw],by simp[up,Bw],by simp[up,Bw],by simp[up],by simp[up,Bw],rfl⟩
 ·obtain⟨rfl,h0,h1,h2,h7,rfl⟩:=hk
  (have hb:=trivial;with_reducible repeat' (first|simp only[hb,Va.down,seval,Ku.down,h0,h1,h2,h7,h40,iv,aeM,aeP]|refine Af ?_ ?_<;>intro hb|refine fd ?_|fail))
  refine Cd (Np 62 l (fun i (zz:List Int × Int × Int) t h=>t 0=.int .i64 amount∧t 2=.func (.func g) [] []∧t 7=.int .i64 (Ar (l.map w) 0)∧t 10=.slr 1 0 0 l.length∧t 30=Ao 1 true nn (l.map iv)∧t 31=.int .i64 l.length∧t 32=.int .i64 i∧t 11=.int .i64 zz.2.1∧t 12=.int .i64 zz.2.2∧h=[]++[.live 1 true (!zz.1.isEmpty&&decide (0<Ar (l.map w) 0)) ((zz.1++aaW (l.length-i) 0).map iv)]∧zz.1.length=i∧(0<Ar (l.map w) 0∨zz.2.2=0)) (fun rest zz=>zz.1++Cm amount (Ar (l.map w) 0) (rest.map w) zz.2.1 zz.2.2) (fun r e t h=>e=.exit 2∧t 10=.slr 1 0 0 l.length∧h=[]++[.live 1 true (!l.isEmpty&&decide (0<Ar (l.map w) 0)) (r.map iv)]) ?_ ?_ ([],0,0) _ _ ?_) (fun e t h hk=>?_)
  ·rintro⟨p,so,got⟩ t h Q' kQ ⟨h0,h2,h7,h10,h30,h31,h32,h11,h12,rfl,hpl,hgot⟩
   try dsimp only at *
   (have hb:=trivial;with_reducible repeat' (first|simp only[hb,Va.down,seval,Ku.down,h0,h2,h7,h10,h30,h31,h32,h11,h12,aaS,decide_false]|refine Af ?_ ?_<;>intro hb|refine fd ?_|fail))
   have hpe:p.isEmpty=l.isEmpty:=by cases p<;>cases l<;>simp at hpl ⊢
   exact kQ _ _ _ ⟨rfl,by simp[up,h10],by simp[Cm,hpe]⟩
  ·rintro x rest i ⟨p,so,got⟩ t h J Q' kJ kQ hx hi ⟨h0,h2,h7,h10,h30,h31,h32,h11,h12,rfl,hpl,hgot⟩
   have hd:decide ((i:Int)<(l.length:Int))=true:=decide_eq_true (by omega)
   have hw:=Ai hi hl'
   try dsimp only at *
   have hpx:=hp x (acF hx)
   have hset:=kD hpl hi
   have hget:=eB hpl hi
   have hmid:=fun(v:Int) l=>qY hpl v l
   have hcon:p++(0:Int)::aaW (l.length-(i+1)) 0=p++aaW (l.length-i) 0:=by
    rw[show l.length-i=(l.length-(i+1))+1 by omega,acK]
   have hii:((i:Int)<(l.length:Int))=True:=eq_true (by omega)
   by_cases hq:0<Ar (l.map w) 0
   ·have hq1:decide (0<Ar (l.map w) 0)=true:=by simpa using hq
    have hq2:(Ar (l.map w) 0=0)=False:=eq_false (by omega)
    (have hb:=trivial;with_reducible repeat' (first|simp only[hb,Va.down,seval,Ku.down,h0,h2,h7,h10,h30,h31,h32,h11,h12,hd,hx,hw,hpx,hset,hget,hmid,hq1,hq2,hii,iv]|refine Af ?_ ?_<;>intro hb|refine fd ?_|fail))
    all_goals (refine Ah (kJ _ _ (p++[Eb amount (Ar (l.map w) 0) (IntKind.i64.wrap (so+w x)) got],IntKind.i64.wrap (so+w x),IntKind.i64.wrap (got+Eb amount (Ar (l.map w) 0) (IntKind.i64.wrap (so+w x)) got)) ⟨?_,?_,?_,?_,?_,?_,?_,?_,?_,by simp[Eb,hq],by simp[hpl],.inl hq⟩ ?_);(simp[up,h0]);(simp[up,h2]);(simp[up,h7]);(simp[up,h10]);(simp[up,h30]);(simp[up,h31]);(simp[up]);(simp[up,h11,Eb,hq,Qq]);(simp[up,h12,Eb,hq,Qq]);(simp[Cm]))
   ·obtain rfl:got=0:=by rcases hgot with h|h;exact(hq h).elim;exact h
    have hq1:decide (0<Ar (l.map w) 0)=false:=by simpa using hq
    (have hb:=trivial;with_reducible repeat' (first|simp only[hb,Va.down,seval,Ku.down,h0,h2,h7,h10,h30,h31,h32,h11,h12,hd,hx,hw,hpx,hq1,hii,iv]|refine Af ?_ ?_<;>intro hb|refine fd ?_|fail))
    all_goals (refine Ah (kJ _ _ (p++[Eb amount (Ar (l.map w) 0) (IntKind.i64.wrap (so+w x)) 0],IntKind.i64.wrap (so+w x),IntKind.i64.wrap (0+Eb amount (Ar (l.map w) 0) (IntKind.i64.wrap (so+w x)) 0)) ⟨?_,?_,?_,?_,?_,?_,?_,?_,?_,by simp[Eb,hq,hcon],by simp[hpl],.inr (by simp[Eb,hq];rfl)⟩ ?_);(simp[up,h0]);(simp[up,h2]);(simp[up,h7]);(simp[up,h10]);(simp[up,h30]);(simp[up,h31]);(simp[up]);(simp[up,h11,Eb,hq,Qq]);(simp[up,h12,Eb,hq,Qq]);(simp[Cm]))
  ·exact⟨by simp[up,Bw,h0,h1,h2,h7],by simp[up,Bw,h0,h1,h2,h7],by simp[up,Bw,h0,h1,h2,h7],by simp[up,Bw,h0,h1,h2,h7],by simp[up,Bw,h0,h1,h2,h7],by simp[up,Bw,h0,h1,h2,h7],by simp[up],by simp[up,Bw,h0,h1,h2,h7],by simp[up,Bw,h0,h1,h2,h7],by simp[iv],rfl,.inr rfl⟩
  ·obtain⟨rfl,h10,rfl⟩:=hk
   have hw:(!l.isEmpty&&decide (0<Ar (l.map w) 0))=decide (0<Ar (l.map w) 0):=by cases l<;>simp[Ar]
   (have hb:=trivial;with_reducible repeat' (first|simp only[hb,Va.down,seval,Ku.down,h10,hw]|refine Af ?_ ?_<;>intro hb|refine fd ?_|fail))
def Ut(x y:Int):Int:=IntKind.i64.wrap (x+y)
def Gh(cs:List Ag)(l:List Int):List Int:=aa6 Jm cs l
def sH(cs:List Ag)(l:List Int):List Int:=aa6 amY cs l
def Zk(n:Nat):List Int:=(List.range n).map Int.ofNat
def Hg(cs:List Ag)(l:List Int)(most:Int):List Int:=
 if Ar l 0≤most then l else if most<Ar (Gh cs l) 0 then Cm most (Ar (Gh cs l) 0) (Gh cs l) 0 0
 else aa6 Ut (Cm (IntKind.i64.wrap (most-Ar (Gh cs l) 0)) (Ar (sH cs l) 0) (sH cs l) 0 0) (Gh cs l)
def rR(cs:List Ag)(l:List Int)(most:Int):Bool:=if Ar l 0≤most then false else if most<Ar (Gh cs l) 0 then decide (0<Ar (Gh cs l) 0)else true
theorem Io(n:Nat):(Zk n).length=n:=by simp[Zk]
theorem adZ(n:Nat):Zk (n+1)=Zk n++[(n:Int)]:=by simp[Zk,List.range_succ]
theorem Iz(a b:Int):∀(l:List Int) (so got:Int),(Cm a b l so got).length=l.length
 | [],_,_=>rfl
 |x::l,so,got=>by simp[Cm,Iz a b l]
theorem jY{f:Ag→Int→Int}{cs:List Ag}{l:List Int}{i:Nat}{x:Int}(h:(aa6 f cs l)[i]?=some x):∃c w,cs[i]?=some c∧l[i]?=some w∧x=f c w:=by
 rw[ae6]at h
 cases hc:cs[i]? with
 |none=>simp[hc]at h
 |some c=>
  cases hw:l[i]? with
  |none=>simp[hc,hw]at h
  |some w=>simp[hc,hw]at h;exact⟨c,w,rfl,rfl,h.symm⟩
theorem zZ(l:List Int):(Zk l.length).map (fun x=>(l[x.toNat]?).getD 0)=l:=by
 refine List.ext_getElem? fun i=>?_
 simp only[Zk,List.map_map,List.getElem?_map,Function.comp_def]
 by_cases hi:i<l.length
 ·rw[List.getElem?_range hi];simp[hi]
 ·rw[afM (by simpa using hi),afM (by simpa using hi)];rfl
theorem abP{n:Nat}{x:Int}(h:x∈Zk n):∃k:Nat,x=(k:Int)∧k<n:=by
 simp only[Zk,List.mem_map,List.mem_range]at h
 obtain⟨k,hk,rfl⟩:=h
 exact⟨k,rfl,hk⟩
theorem tP{p sh:List Int}{i:Nat}{y:Int}(hp:p.length=i)(hy:sh[i]?=some y)(v:Int):((p++sh.drop i).map iv).set i [.int .i64 v]=(p++(v::sh.drop (i+1))).map iv:=by
 have hlt:i<sh.length:=(abO.1 hy).1
 subst hp
 rw[aeW hlt,af4,List.map_cons,List.set_append_right _ _ (by simp)]
 simp only[abB,aeH,List.set_cons_zero,af4,List.map_cons]
 rfl
theorem sW{p sh:List Int}{i:Nat}{y:Int}(hp:p.length=i)(hy:sh[i]?=some y):(p++sh.drop i)[i]?=some y:=by
 rw[aeZ (by omega),hp,aeH,List.getElem?_drop];simpa using hy
theorem qD{x y:Int}{rest sh:List Int}{i:Nat}(hy:sh[i]?=some y)(p:List Int)(hp:p.length=i):(p++[Ut y x])++aa6 Ut (sh.drop (p++[Ut y x]).length) rest=p++aa6 Ut (sh.drop p.length) (x::rest):=by
 have hlt:i<sh.length:=(abO.1 hy).1
 have hd:sh.drop i=y::sh.drop (i+1):=by
  rw[aeW hlt]
  congr 1
  exact Option.some.inj ((abT hlt).symm.trans hy)
 rw[ae7,hp,hd]
 simp
theorem oY{s:Ac}{l:List Int}{nn:Bool}{most:Int}(hcl:l.length=s.cons.length)(hl:l.length≤1000)(hne:l≠[]):Bi.call (.fn 96) [.agg s.cells,Ao 1 true nn (l.map iv),.int .i64 most] []=some (.ret (.slr 1 0 0 l.length),[.live 1 true (rR s.cons l most) ((Hg s.cons l most).map iv)]):=by
 have hl':l.length≤maxLen:=by unfold maxLen;omega
 have hsum:=Zz (nn:=nn) hl'
 have hcln:=Uu hl hne
 rw[←lS (n:=1) (fl:=true) (nn:=nn) (rows:=l.map iv) (by simpa using hne)]at hcln
 (refine ce Tryz.func96 ?_;simp only[Tryz.f96];(have hb:=trivial;with_reducible repeat' (first|simp only[hb,Va.down,seval,jR.down,abB,hsum,hcln]|refine Af ?_ ?_<;>intro hb|refine fd ?_|fail)))
 ·have hb:Ar l 0≤most:=by simpa using hb
  simp[Hg,rR,hb]
 have hq:¬Ar l 0≤most:=by simpa using hb
 have hfl:(Gh s.cons l).length=l.length:=by simp[Gh,hcl]
 have hol:(sH s.cons l).length=l.length:=by simp[sH,hcl]
 have hfl':(Gh s.cons l).length≤maxLen:=by omega
 refine Cd (Np 73 l (fun i (zz:Unit) t h=>t 2=.int .i64 most∧t 3=.ptr 0 0 0∧t 4=.ptr 1 0 0∧t 22=.int .i64 l.length∧t 23=.int .i64 i∧h[0]?=some (.live 6 false false [s.cells])∧h[1]?=some (.live 1 false false [[Ao 1 true nn (l.map iv)]])∧((i=0∧t 7=.nils∧h.length=2)∨(0<i∧∃b,2≤b∧t 7=.slr 1 b 0 i∧h[b]?=some (.live 1 true false ((Zk i).map iv))))) (fun rest zz=>()) (fun r e t h=>e=.exit 0∧t 2=.int .i64 most∧t 3=.ptr 0 0 0∧t 4=.ptr 1 0 0∧h[0]?=some (.live 6 false false [s.cells])∧h[1]?=some (.live 1 false false [[Ao 1 true nn (l.map iv)]])∧(∃b,2≤b∧t 7=.slr 1 b 0 l.length∧h[b]?=some (.live 1 true false ((Zk l.length).map iv)))) ?_ ?_ () _ _ ?_) (fun e tA hA hk=>?_)
 ·rintro _ t h Q' kQ ⟨h2,h3,h4,h22,h23,hS,hW,hc⟩
  (have hb:=trivial;with_reducible repeat' (first|simp only[hb,Va.down,seval,jR.down,h2,h3,h4,h22,h23,aaS,decide_false]|refine Af ?_ ?_<;>intro hb|refine fd ?_|fail))
  rcases hc with⟨hz,_⟩|⟨_,b,hb2,h7,hb⟩
  ·exact(hne (aa0.1 hz)).elim
  ·exact kQ _ _ _ ⟨rfl,by simp[up,h2],by simp[up,h3],by simp[up,h4],hS,hW,b,hb2,by simp[up,h7],hb⟩
 ·rintro x rest i _ t h J Q' kJ kQ hx hi ⟨h2,h3,h4,h22,h23,hS,hW,hc⟩
  have hd:decide ((i:Int)<(l.length:Int))=true:=decide_eq_true (by omega)
  have hw:=Ai hi hl'
  rcases hc with⟨rfl,h7,hlen⟩|⟨h0,b,hb2,h7,hb⟩
  ·simp only[ab9]at hd
   (have hb:=trivial;with_reducible repeat' (first|simp only[hb,Va.down,seval,jR.down,h2,h3,h4,h22,h23,h7,hd,hx,hw,iv]|refine Af ?_ ?_<;>intro hb|refine fd ?_|fail))
   (refine Ah (kJ _ _ () ⟨?_,?_,?_,?_,?_,Av hS _,Av hW _,.inr ⟨by omega,h.length+1,by omega,by simp[up],by rw[Jf];simp[Zk,iv]⟩⟩ ?_);(simp[up,h2]);(simp[up,h3]);(simp[up,h4]);(simp[up,h22]);(simp[up]);exact rfl)
  ·have hbl:b<h.length:=(abO.1 hb).1
   have hA:=Av hb
   have hSt:=Fa hbl
   have hi39:(i+1≤549755813888)=True:=eq_true (by omega)
   have hlp:0+i=(Zk i).length:=by simp[Io]
   (have hb:=trivial;with_reducible repeat' (first|simp only[hb,Va.down,seval,jR.down,h2,h3,h4,h22,h23,h7,hd,hx,hw,iv,hA,hSt,Lr,Ge,abY,hi39,Io]|refine Af ?_ ?_<;>intro hb|refine fd ?_|fail))
   (refine Ah (kJ _ _ () ⟨?_,?_,?_,?_,?_,Nx _ (by omega) hS _,Nx _ (by omega) hW _,.inr ⟨by omega,h.length+1,by omega,by simp[up],by rw[Ge];simp[adZ,iv]⟩⟩ ?_);(simp[up,h2]);(simp[up,h3]);(simp[up,h4]);(simp[up,h22]);(simp[up]);exact rfl)
 ·exact⟨by simp[up,Bw],by simp[up,Bw],by simp[up,Bw],by simp[up,Bw],by simp[up],rfl,rfl,.inl ⟨rfl,by simp[up],rfl⟩⟩
 ·obtain⟨rfl,h2,h3,h4,hS,hW,b,hb2,h7,hbi⟩:=hk
  have hbl:b<hA.length:=(abO.1 hbi).1
  have hS1:=Av hS
  have hW1:=Av hW
  have hb1:=Av hbi
  have z1:(hA.length=0)=False:=eq_false (by omega)
  have z2:(1=hA.length)=False:=eq_false (by omega)
  have y1:(b==1)=false:=by simp;omega
  have y2:(b==hA.length)=false:=by simp;omega
  have y3:(b==0)=false:=by simp;omega
  have z3:(0=hA.length)=False:=eq_false (by omega)
  (have hb:=trivial;with_reducible repeat' (first|simp only[hb,Va.down,seval,jR.down,h2,h3,h4,h7,hS1,hW1]|refine Af ?_ ?_<;>intro hb|refine fd ?_|fail))
  refine Cd (Np 73 (Gh s.cons l) (fun i (zz:Int) t h=>t 2=.int .i64 most∧t 7=.slr 1 b 0 l.length∧t 9=.ptr hA.length 0 0∧t 10=.func (.func 126) [] [.ptr 1 0 0,.ptr hA.length 0 0]∧t 34=.int .i64 (Gh s.cons l).length∧t 35=.int .i64 i∧t 11=.int .i64 zz∧h=hA++[.live 1 false true [[.func (.func 125) [] [.ptr 0 0 0,.ptr 1 0 0]]]]) (fun rest zz=>Ar rest zz) (fun r e t h=>e=.exit 2∧t 2=.int .i64 most∧t 7=.slr 1 b 0 l.length∧t 9=.ptr hA.length 0 0∧t 10=.func (.func 126) [] [.ptr 1 0 0,.ptr hA.length 0 0]∧t 11=.int .i64 r∧h=hA++[.live 1 false true [[.func (.func 125) [] [.ptr 0 0 0,.ptr 1 0 0]]]]) ?_ ?_ (0) _ _ ?_) (fun e tB hB hk=>?_)
  ·rintro a' t h Q' kQ ⟨h2,h7,h9,h10,h34,h35,h11,rfl⟩
   (have hb:=trivial;with_reducible repeat' (first|simp only[hb,Va.down,seval,jR.down,h2,h7,h9,h10,h34,h35,h11,aaS,decide_false]|refine Af ?_ ?_<;>intro hb|refine fd ?_|fail))
   exact kQ _ _ _ ⟨rfl,by simp[up,h2],by simp[up,h7],by simp[up,h9],by simp[up,h10],by simp[up,h11,Ar],rfl⟩
  ·rintro x rest i a' t h J Q' kJ kQ hx hi ⟨h2,h7,h9,h10,h34,h35,h11,rfl⟩
   have hd:decide ((i:Int)<((Gh s.cons l).length:Int))=true:=decide_eq_true (by omega)
   have hw:=Ai hi hfl'
   obtain⟨c,w,hc,hw',rfl⟩:=jY hx
   have hg:=Yz (nn:=nn) hc hw'
   (have hb:=trivial;with_reducible repeat' (first|simp only[hb,Va.down,seval,jR.down,h2,h7,h9,h10,h34,h35,h11,hd,hx,hw,hS1,hW1,hg]|refine Af ?_ ?_<;>intro hb|refine fd ?_|fail))
   (refine Ah (kJ _ _ (IntKind.i64.wrap (a'+Jm c w)) ⟨?_,?_,?_,?_,?_,?_,?_,rfl⟩ ?_);(simp[up,h2]);(simp[up,h7]);(simp[up,h9]);(simp[up,h10]);(simp[up,h34]);(simp[up]);(simp[up,h11]);exact rfl)
  ·exact⟨by simp[up,Bw,h2,h3,h4,h7,hfl],by simp[up,Bw,h2,h3,h4,h7,hfl],by simp[up,Bw,h2,h3,h4,h7,hfl],by simp[up,Bw,h2,h3,h4,h7,hfl],by simp[up,Bw,h2,h3,h4,h7,hfl],by simp[up],by simp[up,Bw,h2,h3,h4,h7,hfl],rfl⟩
  ·obtain⟨rfl,h2,h7,h9,h10,h11,rfl⟩:=hk
   have htk:((Zk l.length).map iv).take l.length=(Zk l.length).map iv:=acZ (by simp[Io])
   have hshA:=aj2 (amount:=most) (nn:=true) (g:=125) (s:=s) (wl:=l) (wn:=nn) (l:=Zk l.length) (w:=fun x=>((Gh s.cons l)[x.toNat]?).getD 0) (fun x hx=>by
    obtain⟨k,rfl,hk⟩:=abP hx
    obtain⟨y,hy⟩:∃y,(Gh s.cons l)[k]?=some y:=⟨_,abT (by omega)⟩
    obtain⟨c,w,hc,hw',rfl⟩:=jY hy
    simp only[ai5,hy,akJ]
    exact Yz hc hw') (by rw[Io];exact hl)
   have hshB:=ak0 (amount:=IntKind.i64.wrap (most-Ar (Gh s.cons l) 0)) (nn:=true) (g:=126) (q:=125) (s:=s) (wl:=l) (wn:=nn) (l:=Zk l.length) (w:=fun x=>((sH s.cons l)[x.toNat]?).getD 0) (fun x hx=>by
    obtain⟨k,rfl,hk⟩:=abP hx
    obtain⟨y,hy⟩:∃y,(sH s.cons l)[k]?=some y:=⟨_,abT (by omega)⟩
    obtain⟨c,w,hc,hw',rfl⟩:=jY hy
    simp only[ai5,hy,akJ]
    exact xN hc hw') (by rw[Io];exact hl)
   have m1:=zZ (Gh s.cons l)
   have m2:=zZ (sH s.cons l)
   rw[hfl]at m1
   rw[hol]at m2
   rw[An,m1,Io]at hshA
   rw[An,m2,Io]at hshB
   simp only[List.cons_append,List.nil_append]at hshA hshB
   have hle:(0+l.length≤(Zk l.length).length)=True:=eq_true (by simp[Io])
   (have hb:=trivial;with_reducible repeat' (first|simp only[hb,Va.down,seval,jR.down,h2,h7,h9,h10,h11,hS1,hW1,hb1,hshA,hshB,y1,y2,y3,z1,z2,z3,htk,Io]|refine Af ?_ ?_<;>intro hb|refine fd ?_|fail))
   ·have hb:most<Ar (Gh s.cons l) 0:=by simpa using hb
    simp[Hg,rR,hq,hb]
   have hbm:¬most<Ar (Gh s.cons l) 0:=by simpa using hb
   have hshl:∀a b,(Cm a b (sH s.cons l) 0 0).length=l.length:=fun a b=>by rw[Iz,hol]
   refine Cd (Np 73 (Gh s.cons l) (fun i (zz:List Int × Bool) t h=>t 9=.ptr hA.length 0 0∧t 13=.slr 1 (hA.length+1) 0 l.length∧t 58=.int .i64 (Gh s.cons l).length∧t 59=.int .i64 i∧h=hA++[.live 1 false true [[.func (.func 125) [] [.ptr 0 0 0,.ptr 1 0 0]]],.live 1 true zz.2 ((zz.1++(Cm (IntKind.i64.wrap (most-Ar (Gh s.cons l) 0)) (Ar (sH s.cons l) 0) (sH s.cons l) 0 0).drop i).map iv)]∧zz.1.length=i∧(i=0∨zz.2=true)) (fun rest zz=>zz.1++aa6 Ut ((Cm (IntKind.i64.wrap (most-Ar (Gh s.cons l) 0)) (Ar (sH s.cons l) 0) (sH s.cons l) 0 0).drop zz.1.length) rest) (fun r e t h=>e=.exit 4∧t 13=.slr 1 (hA.length+1) 0 l.length∧h=hA++[.live 1 false true [[.func (.func 125) [] [.ptr 0 0 0,.ptr 1 0 0]]],.live 1 true true (r.map iv)]) ?_ ?_ ([],decide (0<Ar (sH s.cons l) 0)) _ _ ?_) (fun e tC hC hk=>?_)
   ·rintro⟨p,wf⟩ t h Q' kQ ⟨h9,h13,h58,h59,rfl,hp,hf⟩
    try dsimp only at *
    (have hb:=trivial;with_reducible repeat' (first|simp only[hb,Va.down,seval,jR.down,h9,h13,h58,h59,aaS,decide_false]|refine Af ?_ ?_<;>intro hb|refine fd ?_|fail))
    rcases hf with hz|rfl
    ·exact(hne (aa0.1 (by omega))).elim
    ·exact kQ _ _ _ ⟨rfl,by simp[up,h13],by rw[alC.2 (by rw[hshl];omega)];simp⟩
   ·rintro x rest i ⟨p,wf⟩ t h J Q' kJ kQ hx hi ⟨h9,h13,h58,h59,rfl,hp,hf⟩
    have hd:decide ((i:Int)<((Gh s.cons l).length:Int))=true:=decide_eq_true (by omega)
    have hw:=Ai hi hfl'
    try dsimp only at *
    obtain⟨c,w,hc,hw',rfl⟩:=jY hx
    have hg:=Yz (nn:=nn) hc hw'
    obtain⟨y,hy⟩:∃y,(Cm (IntKind.i64.wrap (most-Ar (Gh s.cons l) 0)) (Ar (sH s.cons l) 0) (sH s.cons l) 0 0)[i]?=some y:=⟨_,abT (by rw[hshl];omega)⟩
    have hset:=tP hp hy
    have hget:=sW hp hy
    have hii:((i:Int)<(l.length:Int))=True:=eq_true (by omega)
    (have hb:=trivial;with_reducible repeat' (first|simp only[hb,Va.down,seval,jR.down,h9,h13,h58,h59,hd,hx,hw,hS1,hW1,hg,hset,hget,hii,iv]|refine Af ?_ ?_<;>intro hb|refine fd ?_|fail))
    (refine Ah (kJ _ _ (p++[Ut y (Jm c w)],true) ⟨?_,?_,?_,?_,by simp[Ut],by simp[hp],.inr rfl⟩ ?_);(simp[up,h9]);(simp[up,h13]);(simp[up,h58]);(simp[up]);(exact qD hy p hp))
   ·exact⟨by simp[up,Bw,h2,h7,h9,h10,h11,hfl],by simp[up,Bw,h2,h7,h9,h10,h11,hfl],by simp[up,Bw,h2,h7,h9,h10,h11,hfl],by simp[up],by simp,rfl,.inl rfl⟩
   ·obtain⟨rfl,h13,rfl⟩:=hk
    (have hb:=trivial;with_reducible repeat' (first|simp only[hb,Va.down,seval,jR.down,h13]|refine Af ?_ ?_<;>intro hb|refine fd ?_|fail))
    simp[Hg,rR,hq,hbm]
def cM(c:Ag)(w:Int):Int:=if c.firm=true then 0 else w
def Kq(cs:List Ag)(l:List Int):List Int:=aa6 cM cs l
def Gk(cs:List Ag)(l:List Int)(most:Int):List Int:=
 if Ar l 0≤most then l else if most<Ar (Gh cs l) 0 then Cm most (Ar (Gh cs l) 0) (Gh cs l) 0 0
 else aa6 Ut (Cm (IntKind.i64.wrap (most-Ar (Gh cs l) 0)) (Ar (Kq cs l) 0) (Kq cs l) 0 0) (Gh cs l)
theorem Xa{cs:List Ag}{l:List Int}(h:l.length=cs.length)(most:Int):(Hg cs l most).length=l.length:=by
 unfold Hg
 split
 ·rfl
 ·split
  ·simp[Iz,Gh,h]
  ·simp[Iz,Gh,sH,h]
theorem Nu{cs:List Ag}{l:List Int}(h:l.length=cs.length)(most:Int):(Gk cs l most).length=l.length:=by
 unfold Gk
 split
 ·rfl
 ·split
  ·simp[Iz,Gh,h]
  ·simp[Iz,Gh,Kq,h]
theorem eX{s:Ac}{l:List Int}{nn:Bool}{most:Int}(hl:l.length≤maxLen)(hq:Ar l 0≤most):Bi.call (.fn 58) [.agg s.cells,Ao 1 true nn (l.map iv),.int .i64 most] []=some (.ret (Ao 1 true nn (l.map iv)),[]):=by
 have hsum:=pJ (nn:=nn) hl
 have hb:decide (Ar l 0≤most)=true:=by simpa using hq
 (refine ce Tryz.func58 ?_;simp only[Tryz.f58];(with_reducible repeat' (first|simp only[hb,Va.down,seval,uA.down,hsum,hb]|refine Af ?_ ?_<;>intro hb|refine fd ?_|fail)))
theorem vJ{fz:List Int}{n i:Nat}{y:Int}(hy:fz[i]?=some y)(hi:i<n):((fz.take i++aaW (n-i) 0).map iv).set i [.int .i64 y]=(fz.take (i+1)++aaW (n-(i+1)) 0).map iv:=by
 have hlt:i<fz.length:=(abO.1 hy).1
 rw[kD (by simp;omega) hi,adV,hy]
 simp
theorem take_zero{fz:List Int}{n i:Nat}(hy:fz[i]?=some 0)(hi:i<n):fz.take i++aaW (n-i) 0=fz.take (i+1)++aaW (n-(i+1)) 0:=by
 rw[adV,hy,show n-i=(n-(i+1))+1 by omega,acK]
 simp
theorem mV{s:Ac}{l:List Int}{nn:Bool}{most:Int}(hcl:l.length=s.cons.length)(hl:l.length≤1000)(hne:l≠[])(hq:¬Ar l 0≤most):∃w,Bi.call (.fn 58) [.agg s.cells,Ao 1 true nn (l.map iv),.int .i64 most] []=some (.ret (.slr 1 0 0 l.length),[.live 1 true w ((Gk s.cons l most).map iv)]):=by
 refine⟨if most<Ar (Gh s.cons l) 0 then false else true,?_⟩
 have hl':l.length≤maxLen:=by unfold maxLen;omega
 have hsum:=pJ (nn:=nn) hl'
 have hb:decide (Ar l 0≤most)=false:=by simpa using hq
 have h40:((l.length:Int)≤1099511627776)=True:=eq_true (by omega)
 have hfl:(Gh s.cons l).length=l.length:=by simp[Gh,hcl]
 have hol:(Kq s.cons l).length=l.length:=by simp[Kq,hcl]
 have hfne:Gh s.cons l≠[]:=fun e=>hne (aa0.1 (by rw[←hfl,e];rfl))
 have hone:Kq s.cons l≠[]:=fun e=>hne (aa0.1 (by rw[←hol,e];rfl))
 have hs1:=pJ (l:=Gh s.cons l) (nn:=true) (by omega)
 rw[An]at hs1
 have hsh1:=aR most (Gh s.cons l) true (by omega) _ _ (fun e=>(hfne e).elim) (fun _=>rfl)
 have hsh2:=aR (IntKind.i64.wrap (most-Ar (Gh s.cons l) 0)) (Kq s.cons l) true (by omega) _ _ (fun e=>(hone e).elim) (fun _=>rfl)
 rw[An,hfl]at hsh1
 rw[An,hol]at hsh2
 have htk1:((Gh s.cons l).map iv).take l.length=(Gh s.cons l).map iv:=acZ (by simp[hfl])
 have htk2:((Kq s.cons l).map iv).take l.length=(Kq s.cons l).map iv:=acZ (by simp[hol])
 (refine ce Tryz.func58 ?_;simp only[Tryz.f58];(with_reducible repeat' (first|simp only[hb,Va.down,seval,uA.down,hsum,hb,h40,aeM,aeP]|refine Af ?_ ?_<;>intro hb|refine fd ?_|fail)))
 refine Cd (Np 81 l (fun i (zz:Unit) t h=>t 1=Ao 1 true nn (l.map iv)∧t 2=.int .i64 most∧t 3=.ptr 0 0 0∧t 7=.slr 1 1 0 l.length∧t 8=.slr 1 2 0 l.length∧t 9=.int .i64 i∧∃w1 w2,h=[.live 6 false false [s.cells],.live 1 true w1 (((Gh s.cons l).take i++aaW (l.length-i) 0).map iv),.live 1 true w2 (((Kq s.cons l).take i++aaW (l.length-i) 0).map iv)]) (fun rest zz=>()) (fun r e t h=>e=.exit 0∧t 1=Ao 1 true nn (l.map iv)∧t 2=.int .i64 most∧t 7=.slr 1 1 0 l.length∧t 8=.slr 1 2 0 l.length∧∃w1 w2,h=[.live 6 false false [s.cells],.live 1 true w1 ((Gh s.cons l).map iv),.live 1 true w2 ((Kq s.cons l).map iv)]) ?_ ?_ () _ _ ?_) (fun e t h hk=>?_)
 ·rintro _ t h Q' kQ ⟨h1,h2,h3,h7,h8,h9,⟨w1,w2,rfl⟩⟩
  (have hb:=trivial;with_reducible repeat' (first|simp only[hb,Va.down,seval,uA.down,h1,h2,h3,h7,h8,h9,aaS,decide_false]|refine Af ?_ ?_<;>intro hb|refine fd ?_|fail))
  refine kQ _ _ _ ⟨rfl,by simp[up,h1],by simp[up,h2],by simp[up,h7],by simp[up,h8],w1,w2,?_⟩
  rw[acZ (by omega),acZ (by omega)]
  simp
 ·rintro x rest i _ t h J Q' kJ kQ hx hi ⟨h1,h2,h3,h7,h8,h9,⟨w1,w2,rfl⟩⟩
  have hd:decide ((i:Int)<(l.length:Int))=true:=decide_eq_true (by omega)
  have hw:=Ai hi hl'
  obtain⟨c,hc⟩:∃c,s.cons[i]?=some c:=⟨_,abT (by omega)⟩
  have hf:(Gh s.cons l)[i]?=some (Jm c x):=by simp[Gh,ae6,hc,hx]
  have ho:(Kq s.cons l)[i]?=some (cM c x):=by simp[Kq,ae6,hc,hx]
  have hii:((i:Int)<(l.length:Int))=True:=eq_true (by omega)
  have hg1:=eB (p:=(Gh s.cons l).take i) (n:=l.length) (i:=i) (by simp;omega) hi
  have hg2:=eB (p:=(Kq s.cons l).take i) (n:=l.length) (i:=i) (by simp;omega) hi
  (have hb:=trivial;with_reducible repeat' (first|simp only[hb,Va.down,seval,uA.down,h1,h2,h3,h7,h8,h9,hd,hx,hw,hc,hii,hg1,hg2,iv,Ag.cells]|refine Af ?_ ?_<;>intro hb|refine fd ?_|fail))
  ·have e1:=vJ (fz:=Gh s.cons l) (n:=l.length) hf hi
   have e2:=take_zero (fz:=Kq s.cons l) (n:=l.length) (by simpa [cM,hb]using ho) hi
   simp only[Jm,hb,if_true]at e1
   rw[e1,e2]
   (refine Ah (kJ _ _ () ⟨?_,?_,?_,?_,?_,?_,⟨_,_,rfl⟩⟩ ?_);(simp[up,h1]);(simp[up,h2]);(simp[up,h3]);(simp[up,h7]);(simp[up,h8]);(simp[up]);exact rfl)
  ·have e1:=vJ (fz:=Kq s.cons l) (n:=l.length) ho hi
   have e2:=take_zero (fz:=Gh s.cons l) (n:=l.length) (by simpa [Jm,hb]using hf) hi
   simp only[cM,hb,Bool.false_eq_true,if_false]at e1
   rw[e1,e2]
   (refine Ah (kJ _ _ () ⟨?_,?_,?_,?_,?_,?_,⟨_,_,rfl⟩⟩ ?_);(simp[up,h1]);(simp[up,h2]);(simp[up,h3]);(simp[up,h7]);(simp[up,h8]);(simp[up]);exact rfl)
 ·exact⟨by simp[up,Bw],by simp[up,Bw],by simp[up,Bw],by simp[up,Bw],by simp[up,Bw],by simp[up],⟨false,false,by simp[iv]⟩⟩
 ·obtain⟨rfl,h1,h2,h7,h8,w1,w2,rfl⟩:=hk
  (have hb:=trivial;with_reducible repeat' (first|simp only[hb,Va.down,seval,uA.down,h1,h2,h7,h8,hfl,hol,htk1,htk2,hs1,hsh1,hsh2]|refine Af ?_ ?_<;>intro hb|refine fd ?_|fail))
  ·have hb:most<Ar (Gh s.cons l) 0:=by simpa using hb
   simp[Gk,hq,hb]
  have hbm:¬most<Ar (Gh s.cons l) 0:=by simpa using hb
  have hshl:∀a b,(Cm a b (Kq s.cons l) 0 0).length=l.length:=fun a b=>by rw[Iz,hol]
  refine Cd (Np 81 (Gh s.cons l) (fun i (zz:List Int × Bool) t h=>t 1=Ao 1 true nn (l.map iv)∧t 7=.slr 1 1 0 l.length∧t 10=.slr 1 3 0 l.length∧t 11=.int .i64 i∧h=[.live 6 false false [s.cells],.live 1 true w1 ((Gh s.cons l).map iv),.live 1 true w2 ((Kq s.cons l).map iv),.live 1 true zz.2 ((zz.1++(Cm (IntKind.i64.wrap (most-Ar (Gh s.cons l) 0)) (Ar (Kq s.cons l) 0) (Kq s.cons l) 0 0).drop i).map iv)]∧zz.1.length=i∧(i=0∨zz.2=true)) (fun rest zz=>zz.1++aa6 Ut ((Cm (IntKind.i64.wrap (most-Ar (Gh s.cons l) 0)) (Ar (Kq s.cons l) 0) (Kq s.cons l) 0 0).drop zz.1.length) rest) (fun r e t h=>e=.exit 2∧t 10=.slr 1 3 0 l.length∧h=[.live 6 false false [s.cells],.live 1 true w1 ((Gh s.cons l).map iv),.live 1 true w2 ((Kq s.cons l).map iv),.live 1 true true (r.map iv)]) ?_ ?_ ([],false) _ _ ?_) (fun e t h hk=>?_)
  ·rintro⟨p,wf⟩ t h Q' kQ ⟨h1,h7,h10,h11,rfl,hp,hf⟩
   try dsimp only at *
   (have hb:=trivial;with_reducible repeat' (first|simp only[hb,Va.down,seval,uA.down,h1,h7,h10,h11,aaS,decide_false,hfl]|refine Af ?_ ?_<;>intro hb|refine fd ?_|fail))
   rcases hf with hz|rfl
   ·exact(hne (aa0.1 (by omega))).elim
   ·exact kQ _ _ _ ⟨rfl,by simp[up,h10],by rw[alC.2 (by rw[hshl];omega)];simp⟩
  ·rintro x rest i ⟨p,wf⟩ t h J Q' kJ kQ hx hi ⟨h1,h7,h10,h11,rfl,hp,hf⟩
   have hd:decide ((i:Int)<((Gh s.cons l).length:Int))=true:=decide_eq_true (by omega)
   have hw:=Ai hi (by omega:(Gh s.cons l).length≤maxLen)
   try dsimp only at *
   obtain⟨y,hy⟩:∃y,(Cm (IntKind.i64.wrap (most-Ar (Gh s.cons l) 0)) (Ar (Kq s.cons l) 0) (Kq s.cons l) 0 0)[i]?=some y:=⟨_,abT (by rw[hshl];omega)⟩
   have hset:=tP hp hy
   have hget:=sW hp hy
   have hii:((i:Int)<(l.length:Int))=True:=eq_true (by omega)
   rw[hfl]at hd
   (have hb:=trivial;with_reducible repeat' (first|simp only[hb,Va.down,seval,uA.down,h1,h7,h10,h11,hd,hx,hw,hset,hget,hii,iv]|refine Af ?_ ?_<;>intro hb|refine fd ?_|fail))
   (refine Ah (kJ _ _ (p++[Ut y x],true) ⟨?_,?_,?_,?_,by simp[Ut],by simp[hp],.inr rfl⟩ ?_);(simp[up,h1]);(simp[up,h7]);(simp[up,h10]);(simp[up]);(exact qD hy p hp))
  ·exact⟨by simp[up,Bw,h1,h2,h7],by simp[up,Bw,h1,h2,h7],by simp[up,Bw,h1,h2,h7],by simp[up],by simp,rfl,.inl rfl⟩
  ·obtain⟨rfl,h10,rfl⟩:=hk
   (have hb:=trivial;with_reducible repeat' (first|simp only[hb,Va.down,seval,uA.down,h10]|refine Af ?_ ?_<;>intro hb|refine fd ?_|fail))
   simp[Gk,hq,hbm]
end Go.Proofs.YtdbiogihimdpcaaGreatDoor
