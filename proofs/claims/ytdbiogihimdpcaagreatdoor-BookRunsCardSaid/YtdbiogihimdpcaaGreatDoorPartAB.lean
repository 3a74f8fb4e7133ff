/- The functions of the layer, walked. -/
import Derived.Test.YtdbiogihimdpcaaGreatDoorPartAA
open Bool renaming not_true→aaS,not_false→aaW,not_eq_eq_eq_not→aa6,and_eq_true→abB,or_eq_true→abO,not_eq_true'→abT,and_eq_false_iff→abY,or_eq_false_iff→ab9,true_and→acZ,not_not→aeH,and_false→aeP,false_and→aeW,and_true→aeZ,and_self→ae6,eq_false_iff→alE,not_eq_true→alF
open Int renaming lt_irrefl→aa0,le_refl→adV,natCast_zero→af4,toNat_zero→alD
open List renaming length_map→acF,getElem?_eq_getElem→acK,mem_of_getElem?→aeM,all_cons→ae7,all_nil→ae8,length_set→afM,length_pos_iff→ai5,all_eq_not_any_not→akJ,getElem?_eq_some_iff→alC,length_eq_zero_iff→alG,getElem?_append_left→anI,head?_eq_getElem?→apM
open Nat renaming add_sub_cancel→anY
set_option linter.unusedSimpArgs false
set_option linter.unusedVariables false
namespace Go.Proofs.YtdbiogihimdpcaaGreatDoor
open Go.Ev Go
set_option maxRecDepth 100000
set_option maxHeartbeats 16000000
def mO{α:Type}(p:α→Bool):List α→Int→Int
 | [],_=> -1
 |x::l,i=>if p x=true then i else mO p l (i+1)
theorem bT{α:Type}(p:α→Bool):∀(l:List α) (i:Int),0≤i→decide (0≤mO p l i)=l.any p
 | [],i,_=>rfl
 |x::l,i,h=>by
  unfold mO
  split
  ·rename_i hp;simp[h,hp]
  ·rename_i hp;rw[bT p l (i+1) (by omega)];simp[hp]
theorem agY{l:List Int}{nn:Bool}{g:Nat}{cap:List AV}{p:Int→Bool}(hc:cap.all (Bj 8)=true)(hc7:cap.all (Bj 7)=true)(hp:∀x∈l,Bi.call (.fn g) (.int .i64 x::cap) []=some (.ret (.bool (p x)),[]))(hl:l.length≤maxLen):
 Bi.call (.fn 92) [Ao 1 true nn (l.map iv),.func (.func g) [] cap] []=some (.ret (.int .i64 (mO p l 0)),[]):=by
 (refine ce Tryz.func92 ?_;simp only[Tryz.f92];(have hb:=trivial;with_reducible repeat' (first|simp only[hb,Va.down,seval,afH.down,acF]|refine Af ?_ ?_<;>intro hb|refine fd ?_|fail)))
 refine Cd (Np 19 l (fun i (s:Int) t h=>s=i∧h=[]∧t 0=Ao 1 true nn (l.map iv)∧t 1=.func (.func g) [] cap∧t 7=.int .i64 l.length∧t 8=.int .i64 i)
  (fun rest s=>mO p rest s) (fun r e t h=>h=[]∧((e=.exit 0∧r= -1)∨(e=.ret∧t 4=.int .i64 r))) ?_ ?_ 0 _ _ ?_) (fun e t h hk=>?_)
 ·rintro s t h Q' kQ ⟨rfl,rfl,h0,h1,h7,h8⟩
  (have hb:=trivial;with_reducible repeat' (first|simp only[hb,Va.down,seval,afH.down,h0,h1,h7,h8,aa0,decide_false]|refine Af ?_ ?_<;>intro hb|refine fd ?_|fail))
  exact kQ _ _ _ ⟨rfl,.inl ⟨rfl,rfl⟩⟩
 ·rintro x rest i s t h J Q' kJ kQ hx hi ⟨rfl,rfl,h0,h1,h7,h8⟩
  have hpx:=hp x (aeM hx)
  have hd:decide ((i:Int)<(l.length:Int))=true:=by simpa using hi
  (have hb:=trivial;with_reducible repeat' (first|simp only[hb,Va.down,seval,afH.down,h0,h1,h7,h8,hd,hx,iv,hc,hc7,hpx,Ai hi hl]|refine Af ?_ ?_<;>intro hb|refine fd ?_|fail))
  ·exact kQ _ _ _ ⟨rfl,.inr ⟨rfl,by simp[up,mO,hb]⟩⟩
  ·exact Ah (kJ _ _ (i+1) ⟨by simp,rfl,by simp[up,h0],by simp[up,h1],by simp[up,h7],by simp[up]⟩ (by simp[mO,hb]))
 ·exact⟨rfl,rfl,by simp[up,Bw],by simp[up,Bw],by simp[up],by simp[up]⟩
 ·obtain⟨rfl,⟨rfl,hi⟩|⟨rfl,hi⟩⟩:=hk
  ·(have hb:=trivial;with_reducible repeat' (first|simp only[hb,Va.down,seval,afH.down]|refine Af ?_ ?_<;>intro hb|refine fd ?_|fail))
   rw[hi]
  ·(have hb:=trivial;with_reducible repeat' (first|simp only[hb,Va.down,seval,afH.down,hi]|refine Af ?_ ?_<;>intro hb|refine fd ?_|fail))
theorem pK{l:List Int}{nn:Bool}{g:Nat}{cap:List AV}{p:Int→Bool}(hc:cap.all (Bj 8)=true)(hc7:cap.all (Bj 7)=true)(hp:∀x∈l,Bi.call (.fn g) (.int .i64 x::cap) []=some (.ret (.bool (p x)),[]))(hl:l.length≤maxLen):
 Bi.call (.fn 50) [Ao 1 true nn (l.map iv),.func (.func g) [] cap] []=some (.ret (.bool (l.any p)),[]):=by
 (refine ce Tryz.func50 ?_;simp only[Tryz.f50];(have hb:=trivial;with_reducible repeat' (first|simp only[hb,Va.down,seval,agY hc hc7 hp hl,hc,hc7,bT p l 0 (adV 0)]|refine Af ?_ ?_<;>intro hb|refine fd ?_|fail)))
theorem ajR{l:List Ag}{nn:Bool}{g:Nat}{cap:List AV}{p:Ag→Bool}(hc:cap.all (Bj 8)=true)(hc7:cap.all (Bj 7)=true)(hp:∀x∈l,Bi.call (.fn g) (.agg [.bool x.firm,.int .i64 x.space,.int .i64 x.lo,.int .i64 x.hi,Ao 3 true x.nn (x.rates.map Bh.cells),.int .i64 x.gas,.int .i64 x.fixed,.int .i64 x.inn,.int .i64 x.out,.int .i64 x.cut,.int .i64 x.lack]::cap) []=some (.ret (.bool (p x)),[]))(hl:l.length≤maxLen):
 Bi.call (.fn 117) [Ao 11 false nn (l.map Ag.cells),.func (.func g) [] cap] []=some (.ret (.int .i64 (mO p l 0)),[]):=by
 (refine ce Tryz.func117 ?_;simp only[Tryz.f117];(have hb:=trivial;with_reducible repeat' (first|simp only[hb,Va.down,seval,wX.down,acF]|refine Af ?_ ?_<;>intro hb|refine fd ?_|fail)))
 refine Cd (Np 19 l (fun i (s:Int) t h=>s=i∧h=[]∧t 0=Ao 11 false nn (l.map Ag.cells)∧t 1=.func (.func g) [] cap∧t 7=.int .i64 l.length∧t 8=.int .i64 i)
  (fun rest s=>mO p rest s) (fun r e t h=>h=[]∧((e=.exit 0∧r= -1)∨(e=.ret∧t 4=.int .i64 r))) ?_ ?_ 0 _ _ ?_) (fun e t h hk=>?_)
 ·rintro s t h Q' kQ ⟨rfl,rfl,h0,h1,h7,h8⟩
  (have hb:=trivial;with_reducible repeat' (first|simp only[hb,Va.down,seval,wX.down,h0,h1,h7,h8,aa0,decide_false]|refine Af ?_ ?_<;>intro hb|refine fd ?_|fail))
  exact kQ _ _ _ ⟨rfl,.inl ⟨rfl,rfl⟩⟩
 ·rintro x rest i s t h J Q' kJ kQ hx hi ⟨rfl,rfl,h0,h1,h7,h8⟩
  have hpx:=hp x (aeM hx)
  have hd:decide ((i:Int)<(l.length:Int))=true:=by simpa using hi
  (have hb:=trivial;with_reducible repeat' (first|simp only[hb,Va.down,seval,wX.down,h0,h1,h7,h8,hd,hx,Ag.cells,hc,hc7,hpx,Ai hi hl]|refine Af ?_ ?_<;>intro hb|refine fd ?_|fail))
  ·exact kQ _ _ _ ⟨rfl,.inr ⟨rfl,by simp[up,mO,hb]⟩⟩
  ·exact Ah (kJ _ _ (i+1) ⟨by simp,rfl,by simp[up,h0],by simp[up,h1],by simp[up,h7],by simp[up]⟩ (by simp[mO,hb]))
 ·exact⟨rfl,rfl,by simp[up,Bw],by simp[up,Bw],by simp[up],by simp[up]⟩
 ·obtain⟨rfl,⟨rfl,hi⟩|⟨rfl,hi⟩⟩:=hk
  ·(have hb:=trivial;with_reducible repeat' (first|simp only[hb,Va.down,seval,wX.down]|refine Af ?_ ?_<;>intro hb|refine fd ?_|fail))
   rw[hi]
  ·(have hb:=trivial;with_reducible repeat' (first|simp only[hb,Va.down,seval,wX.down,hi]|refine Af ?_ ?_<;>intro hb|refine fd ?_|fail))
theorem adU{l:List Ag}{nn:Bool}{g:Nat}{cap:List AV}{p:Ag→Bool}(hc:cap.all (Bj 8)=true)(hc7:cap.all (Bj 7)=true)(hp:∀x∈l,Bi.call (.fn g) (.agg [.bool x.firm,.int .i64 x.space,.int .i64 x.lo,.int .i64 x.hi,Ao 3 true x.nn (x.rates.map Bh.cells),.int .i64 x.gas,.int .i64 x.fixed,.int .i64 x.inn,.int .i64 x.out,.int .i64 x.cut,.int .i64 x.lack]::cap) []=some (.ret (.bool (p x)),[]))(hl:l.length≤maxLen):
 Bi.call (.fn 82) [Ao 11 false nn (l.map Ag.cells),.func (.func g) [] cap] []=some (.ret (.bool (l.any p)),[]):=by
 (refine ce Tryz.func82 ?_;simp only[Tryz.f82];(have hb:=trivial;with_reducible repeat' (first|simp only[hb,Va.down,seval,ajR hc hc7 hp hl,hc,hc7,bT p l 0 (adV 0)]|refine Af ?_ ?_<;>intro hb|refine fd ?_|fail)))
theorem ahU{l:List Int}{nn:Bool}(hl:l.length≤maxLen):Bi.call (.fn 118) [Ao 1 true nn (l.map iv)] []=some (.ret (.bool (l.all fun x=>Hw x 0 10000)),[]):=by
 have h:=pK (l:=l) (nn:=nn) (g:=136) (cap:=[]) (p:=fun x=> !Hw x 0 10000) rfl rfl (fun x _=>adY x) hl
 (refine ce Tryz.func118 ?_;simp only[Tryz.f118];(have hb:=trivial;with_reducible repeat' (first|simp only[hb,Va.down,seval,h]|refine Af ?_ ?_<;>intro hb|refine fd ?_|fail)))
 simp[akJ]
theorem abH{l:List Int}{nn:Bool}(hl:l.length≤maxLen):Bi.call (.fn 52) [Ao 1 true nn (l.map iv)] []=some (.ret (.bool (l.all fun x=>Hw x 0 800000000)),[]):=by
 have h:=pK (l:=l) (nn:=nn) (g:=93) (cap:=[]) (p:=fun x=> !Hw x 0 800000000) rfl rfl (fun x _=>af8 x) hl
 (refine ce Tryz.func52 ?_;simp only[Tryz.f52];(have hb:=trivial;with_reducible repeat' (first|simp only[hb,Va.down,seval,h]|refine Af ?_ ?_<;>intro hb|refine fd ?_|fail)))
 simp[akJ]
def Uk(p:Option Bh)(r:Bh):Bool:=Hw r.fill 0 1000&&Hw r.inn 0 100000000&&Hw r.out 0 100000000&&(match p with|none=>decide (r.fill=0)|some q=>decide (q.fill<r.fill)&&decide (r.inn≤q.inn)&&decide (q.out≤r.out))
def Jt:List Bh→Option Bh→Bool
 | [],_=>true
 |r::rest,p=>Uk p r&&Jt rest (some r)
def Jb(c:Ag):Bool:=Jt c.rates none&&Hw c.space 1 100000000&&gY c.lo c.hi&&Hw c.rates.length 1 6&&Hw c.gas 0 c.space&&[c.fixed,c.inn,c.out,c.cut,c.lack].all fun x=>Hw x 0 10000
theorem Av{h:Ab}{b:Nat}{c:CB}(h0:h[b]?=some c)(l:Ab):(h++l)[b]?=some c:=by
 rw[anI (alC.1 h0).1];exact h0
theorem yY(c:Ag)(hl:c.rates.length≤maxLen):Bi.call (.fn 84) [.agg [.bool c.firm,.int .i64 c.space,.int .i64 c.lo,.int .i64 c.hi,Ao 3 true c.nn (c.rates.map Bh.cells),.int .i64 c.gas,.int .i64 c.fixed,.int .i64 c.inn,.int .i64 c.out,.int .i64 c.cut,.int .i64 c.lack]] []=some (.ret (.bool (Jb c)),[]):=by
 have hpr:=ahU (l:=[c.fixed,c.inn,c.out,c.cut,c.lack]) (nn:=true) (by simp[maxLen])
 simp only[List.map_cons,List.map_nil,iv,mA]at hpr
 (refine ce Tryz.func84 ?_;simp only[Tryz.f84];(have hb:=trivial;with_reducible repeat' (first|simp only[hb,Va.down,seval,ad7.down,acF]|refine Af ?_ ?_<;>intro hb|refine fd ?_|fail)))
 refine Cd (Np 112 c.rates (fun i (s:Option Bh) t h=>(i=0∧s=none∨0<i∧s=c.rates[i-1]?)∧h[0]?=some (.live 11 false false [[.bool c.firm,.int .i64 c.space,.int .i64 c.lo,.int .i64 c.hi,Ao 3 true c.nn (c.rates.map Bh.cells),.int .i64 c.gas,.int .i64 c.fixed,.int .i64 c.inn,.int .i64 c.out,.int .i64 c.cut,.int .i64 c.lack]])∧t 1=.ptr 0 0 0∧t 6=Ao 3 true c.nn (c.rates.map Bh.cells)∧t 7=.int .i64 c.rates.length∧t 8=.int .i64 i)
  (fun rest s=>Jt rest s) (fun r e t h=>if r=true then e=.exit 0∧t 1=.ptr 0 0 0∧h[0]?=some (.live 11 false false [[.bool c.firm,.int .i64 c.space,.int .i64 c.lo,.int .i64 c.hi,Ao 3 true c.nn (c.rates.map Bh.cells),.int .i64 c.gas,.int .i64 c.fixed,.int .i64 c.inn,.int .i64 c.out,.int .i64 c.cut,.int .i64 c.lack]])else e=.ret∧t 2=.bool false) ?_ ?_ none _ _ ?_) (fun e t h hk=>?_)
 ·rintro s t h Q' kQ ⟨hs,hh,h1,h6,h7,h8⟩
  (have hb:=trivial;with_reducible repeat' (first|simp only[hb,Va.down,seval,ad7.down,h1,h6,h7,h8,aa0,decide_false]|refine Af ?_ ?_<;>intro hb|refine fd ?_|fail))
  exact kQ _ _ _ (by simp[Jt,h1,hh,up])
 ·rintro x rest i s t h J Q' kJ kQ hx hi ⟨hs,hh,h1,h6,h7,h8⟩
  have hd:decide ((i:Int)<(c.rates.length:Int))=true:=by simpa using hi
  have hA:=Av hh
  have kF:∀{p:Option Bh},Uk p x=false→Jt (x::rest) p=false:=fun h=>by simp[Jt,h]
  have kT:∀{p:Option Bh},Uk p x=true→Jt rest (some x)=Jt (x::rest) p:=fun h=>by simp[Jt,h]
  rcases hs with⟨rfl,rfl⟩|⟨hpos,rfl⟩
  ·have hw:=Ai hi hl
   simp only[af4,Int.zero_add]at hd h8 hw
   (have hb:=trivial;with_reducible repeat' (first|simp only[hb,Va.down,seval,ad7.down,hA,h1,h6,h7,h8,hd,hx,Bh.cells,oG,hw,alD,adV,beq_self_eq_true,aa0,decide_false]|refine Af ?_ ?_<;>intro hb|refine fd ?_|fail))
   all_goals first
    |exact kQ _ _ _ (by rw[if_neg (by rw[kF (by(rw[alE];intro hcon;simp only[Uk,Hw,abB,abO,abT,abY,ab9,decide_eq_true_eq,decide_eq_false_iff_not,beq_iff_eq,beq_eq_false_iff_ne,ne_eq,aa6,aaS,aaW]at *;omega))];simp)];exact⟨rfl,rfl⟩)
    |exact Ah (kJ _ _ (some x) ⟨.inr ⟨by omega,by simp[hx]⟩,hA _,by simp[up,h1],by simp[up,h6],by simp[up,h7],by simp[up]<;>omega⟩ (kT (by(simp only[Uk,Hw,abB,abO,abT,abY,ab9,decide_eq_true_eq,decide_eq_false_iff_not,beq_iff_eq,beq_eq_false_iff_ne,ne_eq,aa6,aaS,aaW]at *;omega))))
  ·obtain⟨j,rfl⟩:∃j,i=j+1:=⟨i-1,by omega⟩
   obtain⟨q,hq⟩:∃q,c.rates[j]?=some q:=⟨c.rates[j],acK (by omega)⟩
   have hj:IntKind.i64.wrap (((j+1:Nat):Int)-1)=(j:Int):=by unfold maxLen at hl;rw[Aj (by omega) (by omega)];omega
   have hz:(((j+1:Nat):Int)==0)=false:=by rw[beq_eq_false_iff_ne];omega
   have hg:decide (0<((j+1:Nat):Int))=true:=by rw[decide_eq_true_eq];omega
   simp only[anY,hq]at kJ kQ
   (have hb:=trivial;with_reducible repeat' (first|simp only[hb,Va.down,seval,ad7.down,hA,h1,h6,h7,h8,hd,hx,Bh.cells,oG,Ai hi hl,hj,hz,hg,hq]|refine Af ?_ ?_<;>intro hb|refine fd ?_|fail))
   all_goals first
    |exact kQ _ _ _ (by rw[if_neg (by rw[kF (by(rw[alE];intro hcon;simp only[Uk,Hw,abB,abO,abT,abY,ab9,decide_eq_true_eq,decide_eq_false_iff_not,beq_iff_eq,beq_eq_false_iff_ne,ne_eq,aa6,aaS,aaW]at *;omega))];simp)];exact⟨rfl,rfl⟩)
    |exact Ah (kJ _ _ (some x) ⟨.inr ⟨by omega,by simp[hx]⟩,hA _,by simp[up,h1],by simp[up,h6],by simp[up,h7],by simp[up]<;>omega⟩ (kT (by(simp only[Uk,Hw,abB,abO,abT,abY,ab9,decide_eq_true_eq,decide_eq_false_iff_not,beq_iff_eq,beq_eq_false_iff_ne,ne_eq,aa6,aaS,aaW]at *;omega))))
 ·exact⟨.inl ⟨rfl,rfl⟩,rfl,by simp[up],by simp[up],by simp[up],by simp[up]⟩
 ·split at hk
  ·obtain⟨rfl,h1,hh⟩:=hk
   have hA:=Av hh
   rename_i hr
   (have hb:=trivial;with_reducible repeat' (first|simp only[hb,Va.down,seval,ad7.down,hA,hh,h1,oG,al0,hpr]|refine Af ?_ ?_<;>intro hb|refine fd ?_|fail))
   all_goals simp[Jb, *]
  ·obtain⟨rfl,h2⟩:=hk
   rename_i hr
   (have hb:=trivial;with_reducible repeat' (first|simp only[hb,Va.down,seval,ad7.down,h2]|refine Af ?_ ?_<;>intro hb|refine fd ?_|fail))
   all_goals simp[Jb,hr]
theorem xY(c:Ag)(hl:c.rates.length≤maxLen):Bi.call (.fn 44) [.agg [.bool c.firm,.int .i64 c.space,.int .i64 c.lo,.int .i64 c.hi,Ao 3 true c.nn (c.rates.map Bh.cells),.int .i64 c.gas,.int .i64 c.fixed,.int .i64 c.inn,.int .i64 c.out,.int .i64 c.cut,.int .i64 c.lack]] []=some (.ret (.bool (Jb c)),[]):=by
 (refine ce Tryz.func44 ?_;simp only[Tryz.f44];(have hb:=trivial;with_reducible repeat' (first|simp only[hb,Va.down,seval,acE.down,jM,amM,anT]|refine Af ?_ ?_<;>intro hb|refine fd ?_|fail)))
 all_goals first|(refine congrArg (fun b=>(Eo.ret (AV.bool b),([]:Ab))) ?_;symm;((try simp only[aa6,aaS,aaW]at *);simp only[Jb, *,aeP,aeW,aeZ,acZ,ae6,aeH,aaS,aaW,ae7,ae8]))|skip
 refine Cd (Np 135 c.rates (fun i (s:Option Bh) t h=>(i=0∧s=none∨0<i∧s=c.rates[i-1]?)∧h[0]?=some (.live 11 false false [[.bool c.firm,.int .i64 c.space,.int .i64 c.lo,.int .i64 c.hi,Ao 3 true c.nn (c.rates.map Bh.cells),.int .i64 c.gas,.int .i64 c.fixed,.int .i64 c.inn,.int .i64 c.out,.int .i64 c.cut,.int .i64 c.lack]])∧t 1=.ptr 0 0 0∧t 3=.int .i64 i)
  (fun rest s=>Jt rest s) (fun r e t h=>if r=true then e=.exit 0 else e=.ret∧t 2=.bool false) ?_ ?_ none _ _ ?_) (fun e t h hk=>?_)
 ·rintro s t h Q' kQ ⟨hs,hh,h1,h3⟩
  (have hb:=trivial;with_reducible repeat' (first|simp only[hb,Va.down,seval,acE.down,hh,h1,h3,aa0,decide_false]|refine Af ?_ ?_<;>intro hb|refine fd ?_|fail))
  exact kQ _ _ _ (by simp[Jt])
 ·rintro x rest i s t h J Q' kJ kQ hx hi ⟨hs,hh,h1,h3⟩
  have hd:decide ((i:Int)<(c.rates.length:Int))=true:=by simpa using hi
  have hA:=Av hh
  have kF:∀{p:Option Bh},Uk p x=false→Jt (x::rest) p=false:=fun h=>by simp[Jt,h]
  have kT:∀{p:Option Bh},Uk p x=true→Jt rest (some x)=Jt (x::rest) p:=fun h=>by simp[Jt,h]
  have hw:=Ai hi hl
  rcases hs with⟨rfl,rfl⟩|⟨hpos,rfl⟩
  ·simp only[af4,Int.zero_add]at hd h3 hw
   (have hb:=trivial;with_reducible repeat' (first|simp only[hb,Va.down,seval,acE.down,hA,hh,h1,h3,hd,hx,Bh.cells,jM,abS,hw,alD,adV,beq_self_eq_true,aa0,decide_false]|refine Af ?_ ?_<;>intro hb|refine fd ?_|fail))
   all_goals first
    |exact kQ _ _ _ (by rw[if_neg (by rw[kF (by(rw[alE];intro hcon;simp only[Uk,Hw,abB,abO,abT,abY,ab9,decide_eq_true_eq,decide_eq_false_iff_not,beq_iff_eq,beq_eq_false_iff_ne,ne_eq,aa6,aaS,aaW]at *;omega))];simp)];exact⟨rfl,rfl⟩)
    |exact Ah (kJ _ _ (some x) ⟨.inr ⟨by omega,by simp[hx]⟩,hA _,by simp[up,h1],by simp[up]<;>omega⟩ (kT (by(simp only[Uk,Hw,abB,abO,abT,abY,ab9,decide_eq_true_eq,decide_eq_false_iff_not,beq_iff_eq,beq_eq_false_iff_ne,ne_eq,aa6,aaS,aaW]at *;omega))))
  ·obtain⟨j,rfl⟩:∃j,i=j+1:=⟨i-1,by omega⟩
   obtain⟨q,hq⟩:∃q,c.rates[j]?=some q:=⟨c.rates[j],acK (by omega)⟩
   have hj:IntKind.i64.wrap (((j+1:Nat):Int)-1)=(j:Int):=by unfold maxLen at hl;rw[Aj (by omega) (by omega)];omega
   have hz:(((j+1:Nat):Int)==0)=false:=by rw[beq_eq_false_iff_ne];omega
   have hg:decide (0<((j+1:Nat):Int))=true:=by rw[decide_eq_true_eq];omega
   simp only[anY,hq]at kJ kQ
   (have hb:=trivial;with_reducible repeat' (first|simp only[hb,Va.down,seval,acE.down,hA,hh,h1,h3,hd,hx,Bh.cells,jM,abS,hw,hj,hz,hg,hq]|refine Af ?_ ?_<;>intro hb|refine fd ?_|fail))
   all_goals first
    |exact kQ _ _ _ (by rw[if_neg (by rw[kF (by(rw[alE];intro hcon;simp only[Uk,Hw,abB,abO,abT,abY,ab9,decide_eq_true_eq,decide_eq_false_iff_not,beq_iff_eq,beq_eq_false_iff_ne,ne_eq,aa6,aaS,aaW]at *;omega))];simp)];exact⟨rfl,rfl⟩)
    |exact Ah (kJ _ _ (some x) ⟨.inr ⟨by omega,by simp[hx]⟩,hA _,by simp[up,h1],by simp[up]<;>omega⟩ (kT (by(simp only[Uk,Hw,abB,abO,abT,abY,ab9,decide_eq_true_eq,decide_eq_false_iff_not,beq_iff_eq,beq_eq_false_iff_ne,ne_eq,aa6,aaS,aaW]at *;omega))))
 ·exact⟨.inl ⟨rfl,rfl⟩,rfl,by simp[up],by simp[up]⟩
 ·split at hk
  ·subst hk
   rename_i hr
   (have hb:=trivial;with_reducible repeat' (first|simp only[hb,Va.down,seval,acE.down]|refine Af ?_ ?_<;>intro hb|refine fd ?_|fail))
   all_goals (refine congrArg (fun b=>(Eo.ret (AV.bool b),([]:Ab))) ?_;symm;((try simp only[aa6,aaS,aaW]at *);simp only[Jb, *,aeP,aeW,aeZ,acZ,ae6,aeH,aaS,aaW,ae7,ae8]))
  ·obtain⟨rfl,h2⟩:=hk
   rename_i hr
   (have hb:=trivial;with_reducible repeat' (first|simp only[hb,Va.down,seval,acE.down,h2]|refine Af ?_ ?_<;>intro hb|refine fd ?_|fail))
   all_goals simp[Jb,hr]
def oC(hour:Int)(c:Ag)(a:Int × Int):Int × Int:=if(c.firm&&Hw hour c.lo c.hi)=true then(IntKind.i64.wrap (a.1+(c.rates.head?.map Bh.inn).getD 0),IntKind.i64.wrap (a.2+(c.rates.getLast?.map Bh.out).getD 0))else a
def Rn(hour:Int):List Ag→Int × Int→Int × Int
 | [],a=>a
 |c::l,a=>Rn hour l (oC hour c a)
def Kt:List Ag→Int→Int
 | [],a=>a
 |c::l,a=>Kt l (IntKind.i64.wrap (a+c.space))
theorem abU{α:Type}{l:List α}(h:l≠[]):∃x,l[l.length-1]?=some x∧l.getLast?=some x:=by
 have hl:0<l.length:=ai5.2 h
 refine⟨l[l.length-1],acK (by omega),?_⟩
 rw[List.getLast?_eq_getElem?]
 exact acK (by omega)
theorem ai7{l:List Ag}{nn:Bool}(hl:l.length≤maxLen):Bi.call (.fn 67) [Ao 11 false nn (l.map Ag.cells)] []=some (.ret (.int .i64 (Kt l 0)),[]):=by
 (refine ce Tryz.func67 ?_;simp only[Tryz.f67];(have hb:=trivial;with_reducible repeat' (first|simp only[hb,Va.down,seval,apD.down,acF]|refine Af ?_ ?_<;>intro hb|refine fd ?_|fail)))
 refine Cd (Np 18 l (fun i (s:Int) t h=>t 6=Ao 11 false nn (l.map Ag.cells)∧t 7=.int .i64 l.length∧t 8=.int .i64 i∧t 3=.int .i64 s)
  (fun rest s=>Kt rest s) (fun r e t h=>e=.exit 0∧t 3=.int .i64 r) ?_ ?_ 0 _ _ ?_) (fun e t h hk=>?_)
 ·rintro s t h Q' kQ ⟨h6,h7,h8,h3⟩
  (have hb:=trivial;with_reducible repeat' (first|simp only[hb,Va.down,seval,apD.down,h6,h7,h8,h3,aa0,decide_false]|refine Af ?_ ?_<;>intro hb|refine fd ?_|fail))
  exact kQ _ _ _ ⟨rfl,by simp[up,h3,Kt]⟩
 ·rintro x rest i s t h J Q' kJ kQ hx hi ⟨h6,h7,h8,h3⟩
  have hd:decide ((i:Int)<(l.length:Int))=true:=by simpa using hi
  have hw:=Ai hi hl
  (have hb:=trivial;with_reducible repeat' (first|simp only[hb,Va.down,seval,apD.down,h6,h7,h8,h3,hd,hx,Ag.cells,hw]|refine Af ?_ ?_<;>intro hb|refine fd ?_|fail))
  exact Ah (kJ _ _ (IntKind.i64.wrap (s+x.space)) ⟨by simp[up,h6],by simp[up,h7],by simp[up],by simp[up]⟩ rfl)
 ·exact⟨by simp[up,Bw],by simp[up],by simp[up],by simp[up]⟩
 ·obtain⟨rfl,h3⟩:=hk
  (have hb:=trivial;with_reducible repeat' (first|simp only[hb,Va.down,seval,apD.down,h3]|refine Af ?_ ?_<;>intro hb|refine fd ?_|fail))
theorem afQ{l:List Ag}{nn:Bool}(hour:Int)(hl:l.length≤maxLen)(hr:∀c∈l,c.rates≠[]∧c.rates.length≤6):Bi.call (.fn 68) [Ao 11 false nn (l.map Ag.cells),.int .i64 hour] []=some (.ret (.tup [.int .i64 (Rn hour l (0,0)).1,.int .i64 (Rn hour l (0,0)).2]),[]):=by
 (refine ce Tryz.func68 ?_;simp only[Tryz.f68];(have hb:=trivial;with_reducible repeat' (first|simp only[hb,Va.down,seval,anR.down,acF]|refine Af ?_ ?_<;>intro hb|refine fd ?_|fail)))
 refine Cd (Np 44 l (fun i (s:Int × Int) t h=>t 1=.int .i64 hour∧t 10=Ao 11 false nn (l.map Ag.cells)∧t 11=.int .i64 l.length∧t 12=.int .i64 i∧t 6=.int .i64 s.1∧t 7=.int .i64 s.2)
  (fun rest s=>Rn hour rest s) (fun r e t h=>e=.exit 0∧t 6=.int .i64 r.1∧t 7=.int .i64 r.2) ?_ ?_ (0,0) _ _ ?_) (fun e t h hk=>?_)
 ·rintro s t h Q' kQ ⟨h1,h10,h11,h12,h6,h7⟩
  (have hb:=trivial;with_reducible repeat' (first|simp only[hb,Va.down,seval,anR.down,h10,h11,h12,aa0,decide_false]|refine Af ?_ ?_<;>intro hb|refine fd ?_|fail))
  exact kQ _ _ _ ⟨rfl,by simp[up,h6,Rn],by simp[up,h7,Rn]⟩
 ·rintro x rest i s t h J Q' kJ kQ hx hi ⟨h1,h10,h11,h12,h6,h7⟩
  have hd:decide ((i:Int)<(l.length:Int))=true:=by simpa using hi
  have hw:=Ai hi hl
  obtain⟨hne,h6r⟩:=hr x (aeM hx)
  obtain⟨q,hq1,hq2⟩:=abU hne
  obtain⟨r0,hr0⟩:∃r0,x.rates[0]?=some r0:=⟨x.rates[0]'(ai5.2 hne),acK _⟩
  have hlast:IntKind.i64.wrap ((x.rates.length:Int)-1)=((x.rates.length-1:Nat):Int):=by
   have:=ai5.2 hne
   rw[Aj (by omega) (by omega)];omega
  have hh0:x.rates.head?=some r0:=by rw[apM];exact hr0
  (have hb:=trivial;with_reducible repeat' (first|simp only[hb,Va.down,seval,anR.down,h1,h10,h11,h12,h6,h7,hd,hx,Ag.cells,Bh.cells,hw,vT,hlast,hq1,hr0,adV,alD]|refine Af ?_ ?_<;>intro hb|refine fd ?_|fail))
  all_goals exact Ah (kJ _ _ (oC hour x s) ⟨by simp[up,h1],by simp[up,h10],by simp[up,h11],by simp[up],by simp[up,oC, *],by simp[up,oC, *]⟩ rfl)
 ·exact⟨by simp[up,Bw],by simp[up,Bw],by simp[up],by simp[up],by simp[up],by simp[up]⟩
 ·obtain⟨rfl,h6,h7⟩:=hk
  (have hb:=trivial;with_reducible repeat' (first|simp only[hb,Va.down,seval,anR.down,h6,h7]|refine Af ?_ ?_<;>intro hb|refine fd ?_|fail))
def kB(l:List Ag):Prop:=∀c∈l,c.rates≠[]∧c.rates.length≤6
theorem arE{l:List Ag}{nn:Bool}(hour:Int)(hl:l.length≤maxLen)(hr:kB l):Bi.call (.fn 69) [Ao 11 false nn (l.map Ag.cells),.int .i64 hour] []=some (.ret (.agg [.int .i64 (Kt l 0),.int .i64 (Rn hour l (0,0)).1,.int .i64 (Rn hour l (0,0)).2]),[]):=by
 (refine ce Tryz.func69 ?_;simp only[Tryz.f69];(have hb:=trivial;with_reducible repeat' (first|simp only[hb,Va.down,seval,alT.down,acF]|refine Af ?_ ?_<;>intro hb|refine fd ?_|fail)))
 refine Cd (Np 67 l (fun i (s:Bool × Int × Int × Int) t h=>h=[.live 3 true false [[.int .i64 0,.int .i64 0,.int .i64 0]],.live 3 true s.1 [[.int .i64 s.2.1,.int .i64 s.2.2.1,.int .i64 s.2.2.2]]]∧t 0=Ao 11 false nn (l.map Ag.cells)∧t 1=.int .i64 hour∧t 4=.ptr 0 0 0∧t 5=.ptr 1 0 0∧t 6=.int .i64 i)
  (fun rest s=>(Kt rest s.2.1,Rn hour rest s.2.2)) (fun r e t h=>e=.exit 0∧(∃w,h=[.live 3 true false [[.int .i64 0,.int .i64 0,.int .i64 0]],.live 3 true w [[.int .i64 r.1,.int .i64 r.2.1,.int .i64 r.2.2]]])∧t 4=.ptr 0 0 0∧t 5=.ptr 1 0 0) ?_ ?_ (false,0,0,0) _ _ ?_) (fun e t h hk=>?_)
 ·rintro⟨w,a,b,c⟩ t h Q' kQ ⟨rfl,h0,h1,h4,h5,h6⟩
  (have hb:=trivial;with_reducible repeat' (first|simp only[hb,Va.down,seval,alT.down,h0,h6,aa0,decide_false]|refine Af ?_ ?_<;>intro hb|refine fd ?_|fail))
  exact kQ _ _ _ ⟨rfl,⟨w,by simp[Kt,Rn]⟩,by simp[up,h4],by simp[up,h5]⟩
 ·rintro x rest i ⟨w,a,b,c⟩ t h J Q' kJ kQ hx hi ⟨rfl,h0,h1,h4,h5,h6⟩
  have hd:decide ((i:Int)<(l.length:Int))=true:=by simpa using hi
  have hw:=Ai hi hl
  obtain⟨hne,h6r⟩:=hr x (aeM hx)
  obtain⟨q,hq1,hq2⟩:=abU hne
  obtain⟨r0,hr0⟩:∃r0,x.rates[0]?=some r0:=⟨x.rates[0]'(ai5.2 hne),acK _⟩
  have hlast:IntKind.i64.wrap ((x.rates.length:Int)-1)=((x.rates.length-1:Nat):Int):=by
   have:=ai5.2 hne
   rw[Aj (by omega) (by omega)];omega
  have hh0:x.rates.head?=some r0:=by rw[apM];exact hr0
  (have hb:=trivial;with_reducible repeat' (first|simp only[hb,Va.down,seval,alT.down,h0,h1,h4,h5,h6,hd,hx,Ag.cells,Bh.cells,hw,mI,hlast,hq1,hr0,adV,alD]|refine Af ?_ ?_<;>intro hb|refine fd ?_|fail))
  all_goals exact Ah (kJ _ _ (true,IntKind.i64.wrap (a+x.space),oC hour x (b,c)) ⟨by simp[oC, *],by simp[up,h0],by simp[up,h1],by simp[up,h4],by simp[up,h5],by simp[up]⟩ rfl)
 ·exact⟨rfl,by simp[up,Bw],by simp[up,Bw],by simp[up],by simp[up],by simp[up]⟩
 ·obtain⟨rfl,⟨w,rfl⟩,h4,h5⟩:=hk
  (have hb:=trivial;with_reducible repeat' (first|simp only[hb,Va.down,seval,alT.down,h4,h5]|refine Af ?_ ?_<;>intro hb|refine fd ?_|fail))
def Ks(p:Int→Bool):Nat→Bool
 |0=>true
 |n+1=>p (48-((n+1:Nat):Int))&&Ks p n
def okH(s:Ac)(l:List Ag)(h:Int):Bool:=decide ((Rn h l (0,0)).1≤s.inn)&&decide ((Rn h l (0,0)).2≤s.out)
def hY(s:Ac)(l:List Ag):Bool:=Ks (okH s l) 48&&decide (Kt l 0≤s.space)
theorem mH(a:Bool)(p:Int→Bool):∀n,Ks (fun h=>a&&p h) (n+1)=(Ks p (n+1)&&a)
 |0=>by simp[Ks,Bool.and_comm]
 |n+1=>by
  rw[Ks,mH a p n]
  conv=>rhs;rw[Ks]
  cases a<;>simp
theorem aqX(s:Ac)(hl:s.cons.length≤maxLen)(hr:kB s.cons):Bi.call (.fn 87) [.agg s.cells] []=some (.ret (.bool (hY s s.cons)),[]):=by
 have hs:=fun(h:Int)=>afQ (nn:=s.nn) h hl hr
 have hp:=ai7 (nn:=s.nn) hl
 (refine ce Tryz.func87 ?_;simp only[Tryz.f87];(have hb:=trivial;with_reducible repeat' (first|simp only[hb,Va.down,seval,ajL.down]|refine Af ?_ ?_<;>intro hb|refine fd ?_|fail)))
 refine Cd (cnt 33 (fun n (_:Unit) t h=>n≤48∧h[0]?=some (.live 6 false false [s.cells])∧t 1=.ptr 0 0 0∧t 6=.int .i64 (48-n))
  (fun n _=>Ks (okH s s.cons) n) (fun r e t h=>if r=true then e=.exit 0∧h[0]?=some (.live 6 false false [s.cells])∧t 1=.ptr 0 0 0 else e=.ret∧t 2=.bool false) ?_ ?_ 48 () _ _ ?_) (fun e t h hk=>?_)
 ·rintro _ t h Q' kQ ⟨_,hh,h1,h6⟩
  (have hb:=trivial;with_reducible repeat' (first|simp only[hb,Va.down,seval,ajL.down,h1,h6,af4,Int.sub_zero,aa0,decide_false]|refine Af ?_ ?_<;>intro hb|refine fd ?_|fail))
  exact kQ _ _ _ (by simp[Ks,hh,up,h1])
 ·rintro n _ t h J Q' kJ kQ ⟨hn,hh,h1,h6⟩
  have hd:decide ((48:Int)-((n+1:Nat):Int)<48)=true:=by rw[decide_eq_true_eq];omega
  have hw:IntKind.i64.wrap ((48:Int)-((n+1:Nat):Int)+1)=48-(n:Int):=by rw[Aj (by omega) (by omega)];omega
  (have hb:=trivial;with_reducible repeat' (first|simp only[hb,Va.down,seval,ajL.down,hh,h1,h6,hd,hw,hs]|refine Af ?_ ?_<;>intro hb|refine fd ?_|fail))
  all_goals first
   |exact kQ _ _ _ (by rw[if_neg (by intro hcon;(simp only[Ks,okH,abB,abO,abT,abY,ab9,decide_eq_true_eq,decide_eq_false_iff_not,beq_iff_eq,beq_eq_false_iff_ne,ne_eq,aa6,aaS,aaW]at *;omega))];exact⟨rfl,rfl⟩)
   |exact Ah (kJ _ _ () ⟨by omega,hh,by simp[up,h1],by simp[up]⟩ (by
     have:okH s s.cons (48-((n+1:Nat):Int))=true:=by(simp only[okH,abB,abO,abT,abY,ab9,decide_eq_true_eq,decide_eq_false_iff_not,beq_iff_eq,beq_eq_false_iff_ne,ne_eq,aa6,aaS,aaW]at *;omega)
     simp only[Ks,this,acZ]))
 ·exact⟨by omega,rfl,by simp[up],by simp[up]⟩
 ·split at hk
  ·obtain⟨rfl,hh,h1⟩:=hk
   rename_i hr'
   (have hb:=trivial;with_reducible repeat' (first|simp only[hb,Va.down,seval,ajL.down,hh,h1,hp]|refine Af ?_ ?_<;>intro hb|refine fd ?_|fail))
   all_goals simp[hY,hr']
  ·obtain⟨rfl,h2⟩:=hk
   rename_i hr'
   (have hb:=trivial;with_reducible repeat' (first|simp only[hb,Va.down,seval,ajL.down,h2]|refine Af ?_ ?_<;>intro hb|refine fd ?_|fail))
   all_goals simp[hY,hr']
theorem nJ{l:List Ag}(h:l.all Jb=true):kB l:=fun c hc=>by
 have:=List.all_eq_true.1 h c hc
 simp only[Jb,Hw,abB,decide_eq_true_eq]at this
 obtain⟨⟨⟨_,h1,h2⟩,_⟩,_⟩:=this
 refine⟨fun e=>?_,by omega⟩
 rw[e]at h1;simp at h1
theorem asL(s:Ac)(l:List Ag)(nn:Bool)(hl:l.length≤maxLen)(hr:kB l):Bi.call (.fn 56) [.agg s.cells,Ao 11 false nn (l.map Ag.cells)] []=some (.ret (.bool (hY s l)),[]):=by
 have hs:=fun(h:Int)=>arE (nn:=nn) h hl hr
 (refine ce Tryz.func56 ?_;simp only[Tryz.f56];(have hb:=trivial;with_reducible repeat' (first|simp only[hb,Va.down,seval,af5.down]|refine Af ?_ ?_<;>intro hb|refine fd ?_|fail)))
 refine Cd (cnt 33 (fun n (_:Unit) t h=>n≤48∧h[0]?=some (.live 6 false false [s.cells])∧t 1=Ao 11 false nn (l.map Ag.cells)∧t 2=.ptr 0 0 0∧t 5=.int .i64 (48-n))
  (fun n _=>Ks (fun h=>decide (Kt l 0≤s.space)&&okH s l h) n) (fun r e t h=>if r=true then e=.exit 0 else e=.ret∧t 4=.bool false) ?_ ?_ 48 () _ _ ?_) (fun e t h hk=>?_)
 ·rintro _ t h Q' kQ ⟨_,hh,h1,h2,h5⟩
  (have hb:=trivial;with_reducible repeat' (first|simp only[hb,Va.down,seval,af5.down,h5,af4,Int.sub_zero,aa0,decide_false]|refine Af ?_ ?_<;>intro hb|refine fd ?_|fail))
  exact kQ _ _ _ (by simp[Ks])
 ·rintro n _ t h J Q' kJ kQ ⟨hn,hh,h1,h2,h5⟩
  have hd:decide ((48:Int)-((n+1:Nat):Int)<48)=true:=by rw[decide_eq_true_eq];omega
  have hw:IntKind.i64.wrap ((48:Int)-((n+1:Nat):Int)+1)=48-(n:Int):=by rw[Aj (by omega) (by omega)];omega
  have hA:=Av hh
  (have hb:=trivial;with_reducible repeat' (first|simp only[hb,Va.down,seval,af5.down,hA,hh,h1,h2,h5,hd,hw,hs]|refine Af ?_ ?_<;>intro hb|refine fd ?_|fail))
  all_goals first
   |exact kQ _ _ _ (by rw[if_neg (by intro hcon;(simp only[Ks,okH,abB,abO,abT,abY,ab9,decide_eq_true_eq,decide_eq_false_iff_not,beq_iff_eq,beq_eq_false_iff_ne,ne_eq,aa6,aaS,aaW]at *;omega))];exact⟨rfl,rfl⟩)
   |exact Ah (kJ _ _ () ⟨by omega,hA _,by simp[up,h1],by simp[up,h2],by simp[up]⟩ (by
     have:(decide (Kt l 0≤s.space)&&okH s l (48-((n+1:Nat):Int)))=true:=by(simp only[okH,abB,abO,abT,abY,ab9,decide_eq_true_eq,decide_eq_false_iff_not,beq_iff_eq,beq_eq_false_iff_ne,ne_eq,aa6,aaS,aaW]at *;omega)
     simp only[Ks,this,acZ]))
 ·exact⟨by omega,rfl,by simp[up,Bw],by simp[up],by simp[up]⟩
 ·have he:hY s l=Ks (fun h=>decide (Kt l 0≤s.space)&&okH s l h) 48:=by rw[mH];rfl
  split at hk
  ·subst hk
   rename_i hr'
   (have hb:=trivial;with_reducible repeat' (first|simp only[hb,Va.down,seval,af5.down]|refine Af ?_ ?_<;>intro hb|refine fd ?_|fail))
   all_goals simp[he,hr']
  ·obtain⟨rfl,h2⟩:=hk
   rename_i hr'
   (have hb:=trivial;with_reducible repeat' (first|simp only[hb,Va.down,seval,af5.down,h2]|refine Af ?_ ?_<;>intro hb|refine fd ?_|fail))
   all_goals simp[he,hr']
theorem ajI{l:List Ag}{nn:Bool}(hl:l.length≤maxLen)(hr:∀c∈l,c.rates.length≤maxLen):Bi.call (.fn 55) [Ao 11 false nn (l.map Ag.cells)] []=some (.ret (.bool (l.all Jb)),[]):=by
 (refine ce Tryz.func55 ?_;simp only[Tryz.f55];(have hb:=trivial;with_reducible repeat' (first|simp only[hb,Va.down,seval,akG.down,acF]|refine Af ?_ ?_<;>intro hb|refine fd ?_|fail)))
 refine Cd (Np 16 l (fun i (_:Unit) t h=>t 0=Ao 11 false nn (l.map Ag.cells)∧t 3=.int .i64 i)
  (fun rest _=>rest.all Jb) (fun r e t h=>if r=true then e=.exit 0 else e=.ret∧t 2=.bool false) ?_ ?_ () _ _ ?_) (fun e t h hk=>?_)
 ·rintro _ t h Q' kQ ⟨h0,h3⟩
  (have hb:=trivial;with_reducible repeat' (first|simp only[hb,Va.down,seval,akG.down,h0,h3,aa0,decide_false]|refine Af ?_ ?_<;>intro hb|refine fd ?_|fail))
  exact kQ _ _ _ (by simp)
 ·rintro x rest i _ t h J Q' kJ kQ hx hi ⟨h0,h3⟩
  have hd:decide ((i:Int)<(l.length:Int))=true:=by simpa using hi
  have hw:=Ai hi hl
  have hc:=xY x (hr x (aeM hx))
  (have hb:=trivial;with_reducible repeat' (first|simp only[hb,Va.down,seval,akG.down,h0,h3,hd,hx,Ag.cells,hw,hc]|refine Af ?_ ?_<;>intro hb|refine fd ?_|fail))
  ·exact kQ _ _ _ (by rw[if_neg (by simp at hb;simp[hb])];exact⟨rfl,rfl⟩)
  ·exact Ah (kJ _ _ () ⟨by simp[up,h0],by simp[up]⟩ (by simp at hb;simp[hb]))
 ·exact⟨by simp[up,Bw],by simp[up]⟩
 ·split at hk
  ·subst hk
   rename_i hr'
   (have hb:=trivial;with_reducible repeat' (first|simp only[hb,Va.down,seval,akG.down]|refine Af ?_ ?_<;>intro hb|refine fd ?_|fail))
   all_goals simp[hr']
  ·obtain⟨rfl,h2⟩:=hk
   rename_i hr'
   (have hb:=trivial;with_reducible repeat' (first|simp only[hb,Va.down,seval,akG.down,h2]|refine Af ?_ ?_<;>intro hb|refine fd ?_|fail))
   all_goals (rw[alF]at hr';rw[hr'])
structure Ac.small(s:Ac):Prop where
 cons:s.cons.length≤maxLen
 rates:∀c∈s.cons,c.rates.length≤maxLen
def Es(s:Ac):Bool:=([s.space,s.inn,s.out].all fun x=>Hw x 0 800000000)&&Hw s.lead 0 48&&Hw s.fuel 0 1000&&decide (s.cons.length≤8)&&s.cons.all Jb&&hY s s.cons
theorem afB(c:Ag)(hl:c.rates.length≤maxLen):Bi.call (.fn 91) [.agg [.bool c.firm,.int .i64 c.space,.int .i64 c.lo,.int .i64 c.hi,Ao 3 true c.nn (c.rates.map Bh.cells),.int .i64 c.gas,.int .i64 c.fixed,.int .i64 c.inn,.int .i64 c.out,.int .i64 c.cut,.int .i64 c.lack]] []=some (.ret (.bool (!Jb c)),[]):=by
 (refine ce Tryz.func91 ?_;simp only[Tryz.f91];(have hb:=trivial;with_reducible repeat' (first|simp only[hb,Va.down,seval,azL.down,yY c hl]|refine Af ?_ ?_<;>intro hb|refine fd ?_|fail)))
theorem eU(s:Ac)(hs:s.small):Bi.call (.fn 49) [.agg s.cells] []=some (.ret (.bool (Es s)),[]):=by
 have hg:=abH (l:=[s.space,s.inn,s.out]) (nn:=true) (by simp[maxLen])
 simp only[List.map_cons,List.map_nil,iv,mA]at hg
 have hc:=adU (l:=s.cons) (nn:=s.nn) (g:=91) (cap:=[]) (p:=fun c=> !Jb c) rfl rfl (fun x hx=>afB x (hs.rates x hx)) hs.cons
 have ha:s.cons.any (fun c=> !Jb c)= !(s.cons.all Jb):=by rw[akJ,aeH]
 have hlen:decide ((s.cons.length:Int)≤8)=decide (s.cons.length≤8):=by rw[decide_eq_decide];omega
 cases hv:s.cons.all Jb with
 |false=>
  rw[ha,hv]at hc
  (refine ce Tryz.func49 ?_;simp only[Tryz.f49];(have hb:=trivial;with_reducible repeat' (first|simp only[hb,Va.down,seval,ayP.down,hg,oG,hc,hlen]|refine Af ?_ ?_<;>intro hb|refine fd ?_|fail)))
  all_goals simp[Es, *]
 |true=>
  rw[ha,hv]at hc
  have ho:=aqX s hs.cons (nJ hv)
  (refine ce Tryz.func49 ?_;simp only[Tryz.f49];(have hb:=trivial;with_reducible repeat' (first|simp only[hb,Va.down,seval,ayP.down,hg,oG,hc,ho,hlen]|refine Af ?_ ?_<;>intro hb|refine fd ?_|fail)))
  all_goals simp[Es, *]
theorem rU(s:Ac)(hs:s.small):Bi.call (.fn 17) [.agg s.cells] []=some (.ret (.bool (Es s)),[]):=by
 have hc:=ajI (nn:=s.nn) hs.cons hs.rates
 have hlen:decide (8<(s.cons.length:Int))= !decide (s.cons.length≤8):=by rw[←decide_not,decide_eq_decide];omega
 cases hv:s.cons.all Jb with
 |false=>
  rw[hv]at hc
  (refine ce Tryz.func17 ?_;simp only[Tryz.f17];(have hb:=trivial;with_reducible repeat' (first|simp only[hb,Va.down,seval,ayG.down,rL,jM,hc,hlen]|refine Af ?_ ?_<;>intro hb|refine fd ?_|fail)))
  all_goals (refine congrArg (fun b=>(Eo.ret (AV.bool b),([]:Ab))) ?_;symm;((try simp only[aa6,aaS,aaW]at *);simp only[Es, *,aeP,aeW,aeZ,acZ,ae6,aeH,aaS,aaW,ae7,ae8]))
 |true=>
  rw[hv]at hc
  have ho:=asL s s.cons s.nn hs.cons (nJ hv)
  (refine ce Tryz.func17 ?_;simp only[Tryz.f17];(have hb:=trivial;with_reducible repeat' (first|simp only[hb,Va.down,seval,ayG.down,rL,jM,hc,ho,hlen]|refine Af ?_ ?_<;>intro hb|refine fd ?_|fail)))
  all_goals (refine congrArg (fun b=>(Eo.ret (AV.bool b),([]:Ab))) ?_;symm;((try simp only[aa6,aaS,aaW]at *);simp only[Es, *,aeP,aeW,aeZ,acZ,ae6,aeH,aaS,aaW,ae7,ae8]))
def gG(l:List Ag):Bool:=(l.all fun c=>decide (c.rates.length≤10))&&decide (l.length≤12)
theorem kL{l:List Ag}{nn:Bool}(hl:l.length≤maxLen):Bi.call (.fn 14) [Ao 11 false nn (l.map Ag.cells)] []=some (.ret (.bool (gG l)),[]):=by
 (refine ce Tryz.func14 ?_;simp only[Tryz.f14];(have hb:=trivial;with_reducible repeat' (first|simp only[hb,Va.down,seval,aiJ.down,acF]|refine Af ?_ ?_<;>intro hb|refine fd ?_|fail)))
 refine Cd (Np 20 l (fun i (_:Unit) t h=>t 0=Ao 11 false nn (l.map Ag.cells)∧t 3=.int .i64 i)
  (fun rest _=>rest.all fun c=>decide (c.rates.length≤10)) (fun r e t h=>if r=true then e=.exit 0∧t 0=Ao 11 false nn (l.map Ag.cells)else e=.ret∧t 2=.bool false) ?_ ?_ () _ _ ?_) (fun e t h hk=>?_)
 ·rintro _ t h Q' kQ ⟨h0,h3⟩
  (have hb:=trivial;with_reducible repeat' (first|simp only[hb,Va.down,seval,aiJ.down,h0,h3,aa0,decide_false]|refine Af ?_ ?_<;>intro hb|refine fd ?_|fail))
  exact kQ _ _ _ (by simp[up,h0])
 ·rintro x rest i _ t h J Q' kJ kQ hx hi ⟨h0,h3⟩
  have hd:decide ((i:Int)<(l.length:Int))=true:=by simpa using hi
  have hw:=Ai hi hl
  (have hb:=trivial;with_reducible repeat' (first|simp only[hb,Va.down,seval,aiJ.down,h0,h3,hd,hx,Ag.cells,hw]|refine Af ?_ ?_<;>intro hb|refine fd ?_|fail))
  ·exact kQ _ _ _ (by rw[if_neg (by simp only[decide_eq_true_eq]at hb;simp;omega)];exact⟨rfl,rfl⟩)
  ·exact Ah (kJ _ _ () ⟨by simp[up,h0],by simp[up]⟩ (by simp only[decide_eq_false_iff_not]at hb;simp;omega))
 ·exact⟨by simp[up,Bw],by simp[up]⟩
 ·have hlen:decide ((l.length:Int)≤12)=decide (l.length≤12):=by rw[decide_eq_decide];omega
  split at hk
  ·obtain⟨rfl,h0⟩:=hk
   rename_i hr'
   (have hb:=trivial;with_reducible repeat' (first|simp only[hb,Va.down,seval,aiJ.down,h0,hlen]|refine Af ?_ ?_<;>intro hb|refine fd ?_|fail))
   all_goals simp[gG,hr']
  ·obtain⟨rfl,h2⟩:=hk
   rename_i hr'
   (have hb:=trivial;with_reducible repeat' (first|simp only[hb,Va.down,seval,aiJ.down,h2]|refine Af ?_ ?_<;>intro hb|refine fd ?_|fail))
   all_goals (rw[alF]at hr';simp[gG,hr'])
def min2(x y:Int):Int:=if y<x then y else x
theorem Qz{s:Ac}(h:Es s=true):s.cons.all Jb=true:=by
 simp only[Es,abB]at h;exact h.1.2
theorem Nw(a:Int):(a==a)=true:=by simp
theorem bU{α:Type}{f:α→List AV}{p:List AV→Prop}{q:α→Prop}(hf:∀r,p r→∃x,r=f x∧q x):∀{rows:List (List AV)},(∀r∈rows,p r)→∃l:List α,rows=l.map f∧∀x∈l,q x
 | [],_=>⟨[],rfl,fun x hx=>by simp at hx⟩
 |r::rows,h=>by
  obtain⟨x,rfl,hx⟩:=hf r (h r (List.mem_cons_self ..))
  obtain⟨l,rfl,hl⟩:=bU hf (fun r hr=>h r (List.mem_cons_of_mem _ hr))
  exact⟨x::l,rfl,fun y hy=>by
   rcases List.mem_cons.1 hy with rfl|hy
   ·exact hx
   ·exact hl y hy⟩
def i64(n:Int):Prop:= -9223372036854775808≤n∧n≤9223372036854775807
theorem Ft{n:Nat}{r:List AV}(h:Ty Tryz.prog (n+1) 3 r):∃x,r=[.int .i64 x]∧i64 x:=by
 simp only[Ty,Tryz.underlying3]at h
 obtain⟨x,rfl,h1,h2⟩:=h
 exact⟨x,rfl,h1,h2⟩
theorem ao0{n:Nat}{r:List AV}(h:Ty Tryz.prog (n+1) 4 r):∃x,r=[.bool x]:=by
 simp only[Ty,Tryz.underlying4]at h
 exact h
theorem am4{n:Nat}{r:List AV}(h:Ty Tryz.prog (n+2) 39 r):∃x y,r=[.int .i64 x,.int .i64 y]∧i64 x∧i64 y:=by
 unfold Ty at h
 simp only[Tryz.underlying39,kY]at h
 obtain⟨a,b,rfl,h1,c,d,rfl,h2,rfl⟩:=h
 obtain⟨x,rfl,hx⟩:=Ft h1
 obtain⟨y,rfl,hy⟩:=Ft h2
 exact⟨x,y,rfl,hx,hy⟩
theorem an7{n:Nat}{r:List AV}(h:Ty Tryz.prog (n+2) 94 r):∃x:Bh,r=x.cells∧True:=by
 unfold Ty at h
 simp only[Tryz.underlying94,kY]at h
 obtain⟨a,b,rfl,h1,c,d,rfl,h2,e,f,rfl,h3,rfl⟩:=h
 obtain⟨x,rfl,_⟩:=Ft h1
 obtain⟨y,rfl,_⟩:=Ft h2
 obtain⟨z,rfl,_⟩:=Ft h3
 exact⟨⟨x,y,z⟩,rfl,trivial⟩
theorem ar7{n:Nat}{r:List AV}(h:Ty Tryz.prog (n+4) 42 r):∃x:Ag,r=x.cells∧x.rates.length≤maxLen:=by
 unfold Ty at h
 simp only[Tryz.underlying42,kY]at h
 obtain⟨a0,b0,rfl,h0,a1,b1,rfl,h1,a2,b2,rfl,h2,a3,b3,rfl,h3,a4,b4,rfl,h4,a5,b5,rfl,h5,a6,b6,rfl,h6,a7,b7,rfl,h7,a8,b8,rfl,h8,a9,b9,rfl,h9,rfl⟩:=h
 obtain⟨x0,rfl⟩:=ao0 h0
 obtain⟨x1,rfl,_⟩:=Ft h1
 obtain⟨x2,y2,rfl,_⟩:=am4 h2
 obtain⟨x4,rfl,_⟩:=Ft h4
 obtain⟨x5,rfl,_⟩:=Ft h5
 obtain⟨x6,rfl,_⟩:=Ft h6
 obtain⟨x7,rfl,_⟩:=Ft h7
 obtain⟨x8,rfl,_⟩:=Ft h8
 obtain⟨x9,rfl,_⟩:=Ft h9
 unfold Ty at h3
 simp only[Tryz.underlying40]at h3
 obtain⟨nn,rows,rfl,hl,hrows⟩:=h3
 obtain⟨l,rfl,_⟩:=bU (fun r hr=>an7 hr) hrows
 have e1:Tryz.prog.cellsOf 94=3:=by kernel_rfl
 have e2:jU Tryz.prog (n+2) 94=true:=by
  simp only[jU,Tryz.underlying94,Tryz.underlying3];rfl
 rw[e1,e2]
 exact⟨⟨x0,x1,x2,y2,nn,l,x4,x5,x6,x7,x8,x9⟩,rfl,by simpa using hl⟩
theorem an3{n:Nat}{r:List AV}(h:Ty Tryz.prog (n+5) 22 r):∃(nn:Bool) (l:List Ag),r=[Ao 11 false nn (l.map Ag.cells)]∧l.length≤maxLen∧∀c∈l,c.rates.length≤maxLen:=by
 unfold Ty at h
 simp only[Tryz.underlying22]at h
 obtain⟨nn,rows,rfl,hl,hrows⟩:=h
 obtain⟨l,rfl,hc⟩:=bU (fun r hr=>ar7 hr) hrows
 have e1:Tryz.prog.cellsOf 42=11:=by kernel_rfl
 have e2:jU Tryz.prog (n+4) 42=false:=by
  simp only[jU,Tryz.underlying42,Tryz.underlying40];simp
 rw[e1,e2]
 exact⟨nn,l,rfl,by simpa using hl,hc⟩
theorem aj9{n:Nat}{r:List AV}(h:Ty Tryz.prog (n+6) 24 r):∃s:Ac,r=s.cells∧s.small:=by
 unfold Ty at h
 simp only[Tryz.underlying24,kY]at h
 obtain⟨a0,b0,rfl,h0,a1,b1,rfl,h1,a2,b2,rfl,h2,a3,b3,rfl,h3,a4,b4,rfl,h4,a5,b5,rfl,h5,rfl⟩:=h
 obtain⟨x0,rfl,_⟩:=Ft h0
 obtain⟨x1,rfl,_⟩:=Ft h1
 obtain⟨x2,rfl,_⟩:=Ft h2
 obtain⟨x3,rfl,_⟩:=Ft h3
 obtain⟨x4,rfl,_⟩:=Ft h4
 obtain⟨nn,l,rfl,hl,hc⟩:=an3 h5
 exact⟨⟨x0,x1,x2,x3,x4,nn,l⟩,rfl,hl,hc⟩
theorem agF{av:AV}(h:TyV Tryz.prog 7 24 av):∃s:Ac,av=.agg s.cells∧s.small:=by
 unfold TyV at h
 simp only[Tryz.underlying24]at h
 obtain⟨cs,rfl,h⟩:=h
 obtain⟨s,rfl,hs⟩:=aj9 h
 exact⟨s,rfl,hs⟩
structure Gj where
 con:Int
 hour:Int
 sent:Int
 amount:Int
def Gj.cells(n:Gj):List AV:=[.int .i64 n.con,.int .i64 n.hour,.int .i64 n.sent,.int .i64 n.amount]
def dP(k:Int)(n:Gj):Bool:=Hw n.con 0 (IntKind.i64.wrap (k-1))&&Hw n.hour 0 47&&Hw n.sent 0 47&&Hw n.amount (-100000000) 100000000
theorem auN(n:Gj)(k:Int):Bi.call (.fn 113) [.agg [.int .i64 n.con,.int .i64 n.hour,.int .i64 n.sent,.int .i64 n.amount],.ptr 0 0 0] [.live 1 true false [[.int .i64 k]]]=some (.ret (.bool (!dP k n)),[.live 1 true false [[.int .i64 k]]]):=by
 (refine ce Tryz.func113 ?_;simp only[Tryz.f113];(have hb:=trivial;with_reducible repeat' (first|simp only[hb,Va.down,seval,av6.down,oG]|refine Af ?_ ?_<;>intro hb|refine fd ?_|fail)))
 all_goals (refine congrArg (fun b=>(Eo.ret (AV.bool b),[CB.live 1 true false [[AV.int IntKind.i64 k]]])) ?_;((try simp only[aa6,aaS,aaW]at *);simp only[dP, *,aeP,aeW,aeZ,acZ,ae6,aeH,aaS,aaW,ae7,ae8]))
theorem ab8{l:List Gj}{nn:Bool}{g bs:Nat}{brows:List (List AV)}{p:Gj→Bool}(hp:∀x∈l,Bi.call (.fn g) (.agg [.int .i64 x.con,.int .i64 x.hour,.int .i64 x.sent,.int .i64 x.amount]::[.ptr 0 0 0]) [.live bs true false brows]=some (.ret (.bool (p x)),[.live bs true false brows]))(hl:l.length≤maxLen):
 Bi.call (.fn 135) [Ao 4 true nn (l.map Gj.cells),.func (.func g) [] [.ptr 0 0 0]] [.live bs true false brows]=some (.ret (.int .i64 (mO p l 0)),[.live bs true false brows]):=by
 (refine ce Tryz.func135 ?_;simp only[Tryz.f135];(have hb:=trivial;with_reducible repeat' (first|simp only[hb,Va.down,seval,wV.down,acF]|refine Af ?_ ?_<;>intro hb|refine fd ?_|fail)))
 refine Cd (Np 19 l (fun i (s:Int) t h=>s=i∧h=[.live bs true false brows]∧t 0=Ao 4 true nn (l.map Gj.cells)∧t 1=.func (.func g) [] [.ptr 0 0 0]∧t 7=.int .i64 l.length∧t 8=.int .i64 i)
  (fun rest s=>mO p rest s) (fun r e t h=>h=[.live bs true false brows]∧((e=.exit 0∧r= -1)∨(e=.ret∧t 4=.int .i64 r))) ?_ ?_ 0 _ _ ?_) (fun e t h hk=>?_)
 ·rintro s t h Q' kQ ⟨rfl,rfl,h0,h1,h7,h8⟩
  (have hb:=trivial;with_reducible repeat' (first|simp only[hb,Va.down,seval,wV.down,h0,h1,h7,h8,aa0,decide_false]|refine Af ?_ ?_<;>intro hb|refine fd ?_|fail))
  exact kQ _ _ _ ⟨rfl,.inl ⟨rfl,rfl⟩⟩
 ·rintro x rest i s t h J Q' kJ kQ hx hi ⟨rfl,rfl,h0,h1,h7,h8⟩
  have hpx:=hp x (aeM hx)
  have hd:decide ((i:Int)<(l.length:Int))=true:=by simpa using hi
  (have hb:=trivial;with_reducible repeat' (first|simp only[hb,Va.down,seval,wV.down,h0,h1,h7,h8,hd,hx,Gj.cells,hpx,Ai hi hl]|refine Af ?_ ?_<;>intro hb|refine fd ?_|fail))
  ·exact kQ _ _ _ ⟨rfl,.inr ⟨rfl,by simp[up,mO,hb]⟩⟩
  ·exact Ah (kJ _ _ (i+1) ⟨by simp,rfl,by simp[up,h0],by simp[up,h1],by simp[up,h7],by simp[up]⟩ (by simp[mO,hb]))
 ·exact⟨rfl,rfl,by simp[up,Bw],by simp[up,Bw],by simp[up],by simp[up]⟩
 ·obtain⟨rfl,⟨rfl,hi⟩|⟨rfl,hi⟩⟩:=hk
  ·(have hb:=trivial;with_reducible repeat' (first|simp only[hb,Va.down,seval,wV.down]|refine Af ?_ ?_<;>intro hb|refine fd ?_|fail))
   rw[hi]
  ·(have hb:=trivial;with_reducible repeat' (first|simp only[hb,Va.down,seval,wV.down,hi]|refine Af ?_ ?_<;>intro hb|refine fd ?_|fail))
theorem yN{l:List Gj}{nn:Bool}{g bs:Nat}{brows:List (List AV)}{p:Gj→Bool}(hp:∀x∈l,Bi.call (.fn g) (.agg [.int .i64 x.con,.int .i64 x.hour,.int .i64 x.sent,.int .i64 x.amount]::[.ptr 0 0 0]) [.live bs true false brows]=some (.ret (.bool (p x)),[.live bs true false brows]))(hl:l.length≤maxLen):
 Bi.call (.fn 112) [Ao 4 true nn (l.map Gj.cells),.func (.func g) [] [.ptr 0 0 0]] [.live bs true false brows]=some (.ret (.bool (l.any p)),[.live bs true false brows]):=by
 (refine ce Tryz.func112 ?_;simp only[Tryz.f112];(have hb:=trivial;with_reducible repeat' (first|simp only[hb,Va.down,seval,ab8 hp hl,bT p l 0 (adV 0)]|refine Af ?_ ?_<;>intro hb|refine fd ?_|fail)))
theorem vC{l:List Gj}{nn:Bool}(k:Int)(hl:l.length≤maxLen):Bi.call (.fn 70) [Ao 4 true nn (l.map Gj.cells),.int .i64 k] []=some (.ret (.bool (l.all (dP k))),[]):=by
 have h:=yN (l:=l) (nn:=nn) (g:=113) (bs:=1) (brows:=[[.int .i64 k]]) (p:=fun n=> !dP k n) (fun x _=>auN x k) hl
 (refine ce Tryz.func70 ?_;simp only[Tryz.f70];(have hb:=trivial;with_reducible repeat' (first|simp only[hb,Va.down,seval,h]|refine Af ?_ ?_<;>intro hb|refine fd ?_|fail)))
 simp[akJ]
def lJ(l:List Gj)(o:Int):Int:=(l[o.toNat]?.map Gj.sent).getD 0
def Zv(lead:Int)(l:List Gj)(c h:Int)(n:Gj)(i:Nat)(o:Int):Int:=
 if(n.con==c&&n.hour==h&&decide (IntKind.i64.wrap (n.sent+lead)≤h)&&(decide (o<0)||decide (lJ l o≤n.sent)))=true then i else o
def Kz(lead:Int)(l:List Gj)(c h:Int):List Gj→Nat × Int→Int
 | [],a=>a.2
 |n::rest,a=>Kz lead l c h rest (a.1+1,Zv lead l c h n a.1 a.2)
theorem fB(s:Ac)(l:List Gj)(nn:Bool)(c h:Int)(hl:l.length≤maxLen):Bi.call (.fn 72) [.agg s.cells,Ao 4 true nn (l.map Gj.cells),.int .i64 c,.int .i64 h] []=some (.ret (.int .i64 (Kz s.lead l c h l (0,-1))),[]):=by
 (refine ce Tryz.func72 ?_;simp only[Tryz.f72];(have hb:=trivial;with_reducible repeat' (first|simp only[hb,Va.down,seval,agO.down]|refine Af ?_ ?_<;>intro hb|refine fd ?_|fail)))
 refine Cd (Np 55 l (fun i (a:Nat × Int) t hp=>a.1=i∧(a.2= -1∨0≤a.2∧a.2<i)∧hp[0]?=some (.live 6 false false [s.cells])∧t 1=Ao 4 true nn (l.map Gj.cells)∧t 2=.int .i64 c∧t 3=.int .i64 h∧t 4=.ptr 0 0 0∧t 12=Ao 4 true nn (l.map Gj.cells)∧t 13=.int .i64 l.length∧t 9=.int .i64 a.2∧t 14=.int .i64 i)
  (fun rest a=>Kz s.lead l c h rest a) (fun r e t hp=>e=.exit 0∧t 9=.int .i64 r) ?_ ?_ (0,-1) _ _ ?_) (fun e t hp hk=>?_)
 ·rintro⟨i',o⟩ t hp Q' kQ ⟨rfl,ho,hh,h1,h2,h3,h4,h12,h13,h9,h14⟩
  (have hb:=trivial;with_reducible repeat' (first|simp only[hb,Va.down,seval,agO.down,h13,h14,aa0,decide_false]|refine Af ?_ ?_<;>intro hb|refine fd ?_|fail))
  exact kQ _ _ _ ⟨rfl,by simp[up,h9,Kz]⟩
 ·rintro x rest i ⟨i',o⟩ t hp J Q' kJ kQ hx hi ⟨rfl,ho,hh,h1,h2,h3,h4,h12,h13,h9,h14⟩
  simp only at ho h9 h14 hx hi
  have hd:decide ((i':Int)<(l.length:Int))=true:=by simpa using hi
  have hw:=Ai hi hl
  have hA:=Av hh
  rcases ho with rfl|⟨ho1,ho2⟩
  ·have hn:decide ((-1:Int)<0)=true:=by decide
   (have hb:=trivial;with_reducible repeat' (first|simp only[hb,Va.down,seval,agO.down,hA,h1,h2,h3,h4,h12,h13,h9,h14,hd,hw,hx,Gj.cells,hn]|refine Af ?_ ?_<;>intro hb|refine fd ?_|fail))
   all_goals exact Ah (kJ _ _ (i'+1,Zv s.lead l c h x i' (-1)) ⟨rfl,by unfold Zv;split<;>simp<;>omega,hA _,by simp[up,h1],by simp[up,h2],by simp[up,h3],by simp[up,h4],by simp[up,h12],by simp[up,h13],by simp[up,h9,Zv, *],by simp[up]⟩ rfl)
  ·have hn:decide (o<0)=false:=by rw[decide_eq_false_iff_not];omega
   obtain⟨q,hq⟩:∃q,l[o.toNat]?=some q:=⟨l[o.toNat]'(by omega),acK (by omega)⟩
   have hs:lJ l o=q.sent:=by simp[lJ,hq]
   have h0:(0≤o)=True:=eq_true ho1
   (have hb:=trivial;with_reducible repeat' (first|simp only[hb,Va.down,seval,agO.down,hA,h1,h2,h3,h4,h12,h13,h9,h14,hd,hw,hx,Gj.cells,hn,hq,h0]|refine Af ?_ ?_<;>intro hb|refine fd ?_|fail))
   all_goals exact Ah (kJ _ _ (i'+1,Zv s.lead l c h x i' o) ⟨rfl,by unfold Zv;split<;>simp<;>omega,hA _,by simp[up,h1],by simp[up,h2],by simp[up,h3],by simp[up,h4],by simp[up,h12],by simp[up,h13],by simp[up,h9,Zv,hs, *],by simp[up]⟩ rfl)
 ·exact⟨rfl,.inl rfl,rfl,by simp[up,Bw],by simp[up,Bw],by simp[up,Bw],by simp[up],by simp[up,Bw],by simp[up],by simp[up],by simp[up]⟩
 ·obtain⟨rfl,h9⟩:=hk
  (have hb:=trivial;with_reducible repeat' (first|simp only[hb,Va.down,seval,agO.down,h9]|refine Af ?_ ?_<;>intro hb|refine fd ?_|fail))
theorem ayJ(n:Gj)(k:Int):Bi.call (.fn 26) [.agg [.int .i64 n.con,.int .i64 n.hour,.int .i64 n.sent,.int .i64 n.amount],.int .i64 k] []=some (.ret (.bool (dP k n)),[]):=by
 (refine ce Tryz.func26 ?_;simp only[Tryz.f26];(have hb:=trivial;with_reducible repeat' (first|simp only[hb,Va.down,seval,azR.down,jM,xO]|refine Af ?_ ?_<;>intro hb|refine fd ?_|fail)))
 all_goals (refine congrArg (fun b=>(Eo.ret (AV.bool b),([]:Ab))) ?_;symm;((try simp only[aa6,aaS,aaW]at *);simp only[dP, *,aeP,aeW,aeZ,acZ,ae6,aeH,aaS,aaW,ae7,ae8]))
theorem auJ{l:List Gj}{nn:Bool}(k:Int)(hl:l.length≤maxLen):Bi.call (.fn 37) [Ao 4 true nn (l.map Gj.cells),.int .i64 k] []=some (.ret (.bool (l.all (dP k))),[]):=by
 (refine ce Tryz.func37 ?_;simp only[Tryz.f37];(have hb:=trivial;with_reducible repeat' (first|simp only[hb,Va.down,seval,agH.down,acF]|refine Af ?_ ?_<;>intro hb|refine fd ?_|fail)))
 refine Cd (Np 19 l (fun i (_:Unit) t h=>t 0=Ao 4 true nn (l.map Gj.cells)∧t 1=.int .i64 k∧t 5=.int .i64 i)
  (fun rest _=>rest.all (dP k)) (fun r e t h=>if r=true then e=.exit 0 else e=.ret∧t 4=.bool false) ?_ ?_ () _ _ ?_) (fun e t h hk=>?_)
 ·rintro _ t h Q' kQ ⟨h0,h1,h5⟩
  (have hb:=trivial;with_reducible repeat' (first|simp only[hb,Va.down,seval,agH.down,h0,h5,aa0,decide_false]|refine Af ?_ ?_<;>intro hb|refine fd ?_|fail))
  exact kQ _ _ _ (by simp)
 ·rintro x rest i _ t h J Q' kJ kQ hx hi ⟨h0,h1,h5⟩
  have hd:decide ((i:Int)<(l.length:Int))=true:=by simpa using hi
  have hw:=Ai hi hl
  (have hb:=trivial;with_reducible repeat' (first|simp only[hb,Va.down,seval,agH.down,h0,h1,h5,hd,hx,Gj.cells,hw,ayJ]|refine Af ?_ ?_<;>intro hb|refine fd ?_|fail))
  ·exact kQ _ _ _ (by rw[if_neg (by simp at hb;simp[hb])];exact⟨rfl,rfl⟩)
  ·exact Ah (kJ _ _ () ⟨by simp[up,h0],by simp[up,h1],by simp[up]⟩ (by simp at hb;simp[hb]))
 ·exact⟨by simp[up,Bw],by simp[up,Bw],by simp[up]⟩
 ·split at hk
  ·subst hk
   rename_i hr'
   (have hb:=trivial;with_reducible repeat' (first|simp only[hb,Va.down,seval,agH.down]|refine Af ?_ ?_<;>intro hb|refine fd ?_|fail))
   all_goals simp[hr']
  ·obtain⟨rfl,h2⟩:=hk
   rename_i hr'
   (have hb:=trivial;with_reducible repeat' (first|simp only[hb,Va.down,seval,agH.down,h2]|refine Af ?_ ?_<;>intro hb|refine fd ?_|fail))
   all_goals (rw[alF]at hr';rw[hr'])
theorem ahM(s:Ac)(l:List Gj)(nn:Bool)(c h:Int)(hl:l.length≤maxLen):Bi.call (.fn 39) [.agg s.cells,Ao 4 true nn (l.map Gj.cells),.int .i64 c,.int .i64 h] []=some (.ret (.int .i64 (Kz s.lead l c h l (0,-1))),[]):=by
 (refine ce Tryz.func39 ?_;simp only[Tryz.f39];(have hb:=trivial;with_reducible repeat' (first|simp only[hb,Va.down,seval,ajJ.down]|refine Af ?_ ?_<;>intro hb|refine fd ?_|fail)))
 refine Cd (Np 57 l (fun i (a:Nat × Int) t hp=>a.1=i∧(a.2= -1∨0≤a.2∧a.2<i)∧hp[0]?=some (.live 6 false false [s.cells])∧t 1=Ao 4 true nn (l.map Gj.cells)∧t 2=.int .i64 c∧t 3=.int .i64 h∧t 4=.ptr 0 0 0∧t 9=.int .i64 a.2∧t 10=.int .i64 i)
  (fun rest a=>Kz s.lead l c h rest a) (fun r e t hp=>e=.exit 0∧t 9=.int .i64 r) ?_ ?_ (0,-1) _ _ ?_) (fun e t hp hk=>?_)
 ·rintro⟨i',o⟩ t hp Q' kQ ⟨rfl,ho,hh,h1,h2,h3,h4,h9,h10⟩
  (have hb:=trivial;with_reducible repeat' (first|simp only[hb,Va.down,seval,ajJ.down,h1,h10,aa0,decide_false]|refine Af ?_ ?_<;>intro hb|refine fd ?_|fail))
  exact kQ _ _ _ ⟨rfl,by simp[up,h9,Kz]⟩
 ·rintro x rest i ⟨i',o⟩ t hp J Q' kJ kQ hx hi ⟨rfl,ho,hh,h1,h2,h3,h4,h9,h10⟩
  simp only at ho h9 h10 hx hi
  have hd:decide ((i':Int)<(l.length:Int))=true:=by simpa using hi
  have hw:=Ai hi hl
  have hA:=Av hh
  rcases ho with rfl|⟨ho1,ho2⟩
  ·have hn:decide ((-1:Int)<0)=true:=by decide
   (have hb:=trivial;with_reducible repeat' (first|simp only[hb,Va.down,seval,ajJ.down,hA,h1,h2,h3,h4,h9,h10,hd,hw,hx,Gj.cells,hn]|refine Af ?_ ?_<;>intro hb|refine fd ?_|fail))
   all_goals exact Ah (kJ _ _ (i'+1,Zv s.lead l c h x i' (-1)) ⟨rfl,by unfold Zv;split<;>simp<;>omega,hA _,by simp[up,h1],by simp[up,h2],by simp[up,h3],by simp[up,h4],by simp[up,h9,Zv, *],by simp[up]⟩ rfl)
  ·have hn:decide (o<0)=false:=by rw[decide_eq_false_iff_not];omega
   obtain⟨q,hq⟩:∃q,l[o.toNat]?=some q:=⟨l[o.toNat]'(by omega),acK (by omega)⟩
   have hs:lJ l o=q.sent:=by simp[lJ,hq]
   have h0:(0≤o)=True:=eq_true ho1
   (have hb:=trivial;with_reducible repeat' (first|simp only[hb,Va.down,seval,ajJ.down,hA,h1,h2,h3,h4,h9,h10,hd,hw,hx,Gj.cells,hn,hq,h0]|refine Af ?_ ?_<;>intro hb|refine fd ?_|fail))
   all_goals exact Ah (kJ _ _ (i'+1,Zv s.lead l c h x i' o) ⟨rfl,by unfold Zv;split<;>simp<;>omega,hA _,by simp[up,h1],by simp[up,h2],by simp[up,h3],by simp[up,h4],by simp[up,h9,Zv,hs, *],by simp[up]⟩ rfl)
 ·exact⟨rfl,.inl rfl,rfl,by simp[up,Bw],by simp[up,Bw],by simp[up,Bw],by simp[up],by simp[up],by simp[up]⟩
 ·obtain⟨rfl,h9⟩:=hk
  (have hb:=trivial;with_reducible repeat' (first|simp only[hb,Va.down,seval,ajJ.down,h9]|refine Af ?_ ?_<;>intro hb|refine fd ?_|fail))
theorem arP{n:Nat}{r:List AV}(h:Ty Tryz.prog (n+2) 62 r):∃x:Gj,r=x.cells∧True:=by
 unfold Ty at h
 simp only[Tryz.underlying62,kY]at h
 obtain⟨a,b,rfl,h1,c,d,rfl,h2,e,f,rfl,h3,g,k,rfl,h4,rfl⟩:=h
 obtain⟨x,rfl,_⟩:=Ft h1
 obtain⟨y,rfl,_⟩:=Ft h2
 obtain⟨z,rfl,_⟩:=Ft h3
 obtain⟨u,rfl,_⟩:=Ft h4
 exact⟨⟨x,y,z,u⟩,rfl,trivial⟩
theorem an4{n:Nat}{r:List AV}(h:Ty Tryz.prog (n+3) 45 r):∃(nn:Bool) (l:List Gj),r=[Ao 4 true nn (l.map Gj.cells)]∧l.length≤maxLen:=by
 unfold Ty at h
 simp only[Tryz.underlying45]at h
 obtain⟨nn,rows,rfl,hl,hrows⟩:=h
 obtain⟨l,rfl,_⟩:=bU (fun r hr=>arP hr) hrows
 have e1:Tryz.prog.cellsOf 62=4:=by kernel_rfl
 have e2:jU Tryz.prog (n+2) 62=true:=by
  simp only[jU,Tryz.underlying62,Tryz.underlying3];rfl
 rw[e1,e2]
 exact⟨nn,l,rfl,by simpa using hl⟩
def Bm(x:Int):Int:=if x>0 then x else 0
def Bz(x:Int):Int:=Bm (IntKind.i64.wrap (0-x))
theorem Fa{h:Ab}{b:Nat}(hb:b<h.length)(l:Ab)(c:CB):(h++l).set b c=h.set b c++l:=List.set_append_left _ _ hb
theorem Lr{h:Ab}{b:Nat}(c:CB)(l:Ab):(h.set b c++l)[h.length]?=l[0]?:=by
 have:=aaR (h.set b c) l
 rwa[afM]at this
theorem Ge{h:Ab}{b:Nat}(c:CB)(l:Ab)(k:Nat):(h.set b c++l)[h.length+k]?=l[k]?:=by
 have:=Jf (h.set b c) l k
 rwa[afM]at this
theorem Nx{h:Ab}{b b':Nat}{x:CB}(c:CB)(hne:b≠b')(hb:h[b']?=some x)(l:Ab):(h.set b c++l)[b']?=some x:=by
 rw[anI (by rw[afM];exact(alC.1 hb).1),List.getElem?_set_ne hne];exact hb
theorem vO(l:List Int)(nn:Bool)(hl:l.length≤1000)(o:Eo)(h':Ab)(c0:l=[]→(o,h')=(.ret (.tup [.nils,.nils]),[]))
 (c1:l≠[]→(o,h')=(.ret (.tup [.slr 1 0 0 l.length,.slr 1 1 0 l.length]),[.live 1 true false ((l.map Bm).map iv),.live 1 true false ((l.map Bz).map iv)])):
 Bi.call (.fn 94) [Ao 1 true nn (l.map iv)] []=some (o,h'):=by
 have hl':l.length≤maxLen:=by unfold maxLen;omega
 (refine ce Tryz.func94 ?_;simp only[Tryz.f94];(have hb:=trivial;with_reducible repeat' (first|simp only[hb,Va.down,seval,ac9.down,acF]|refine Af ?_ ?_<;>intro hb|refine fd ?_|fail)))
 refine Cd (Np 28 l (fun i (a:List Int × List Int) t h=>t 8=Ao 1 true nn (l.map iv)∧t 9=.int .i64 l.length∧t 10=.int .i64 i∧a.1.length=i∧a.2.length=i∧
  ((i=0∧t 4=.nils∧t 5=.nils)∨(0<i∧∃b b',b≠b'∧t 4=.slr 1 b 0 i∧t 5=.slr 1 b' 0 i∧h[b]?=some (.live 1 true false (a.1.map iv))∧h[b']?=some (.live 1 true false (a.2.map iv)))))
  (fun rest a=>(a.1++rest.map Bm,a.2++rest.map Bz)) (fun r e t h=>e=.exit 0∧((l=[]∧t 4=.nils∧t 5=.nils)∨(l≠[]∧∃b b',b≠b'∧t 4=.slr 1 b 0 l.length∧t 5=.slr 1 b' 0 l.length∧h[b]?=some (.live 1 true false (r.1.map iv))∧h[b']?=some (.live 1 true false (r.2.map iv))))) ?_ ?_ ([],[]) _ _ ?_) (fun e t h hk=>?_)
 ·rintro⟨p,q⟩ t h Q' kQ ⟨h8,h9,h10,hp,hq,hc⟩
  (have hb:=trivial;with_reducible repeat' (first|simp only[hb,Va.down,seval,ac9.down,h8,h9,h10,aa0,decide_false]|refine Af ?_ ?_<;>intro hb|refine fd ?_|fail))
  refine kQ _ _ _ ⟨rfl,?_⟩
  rcases hc with⟨h0,h4,h5⟩|⟨h0,b,b',hne,h4,h5,hb,hb'⟩
  ·exact .inl ⟨alG.1 h0,by simp[up,h4],by simp[up,h5]⟩
  ·exact .inr ⟨fun e=>by rw[e]at h0;simp at h0,b,b',hne,by simp[up,h4],by simp[up,h5],by simpa using hb,by simpa using hb'⟩
 ·rintro x rest i ⟨p,q⟩ t h J Q' kJ kQ hx hi ⟨h8,h9,h10,hp,hq,hc⟩
  simp only at hp hq
  have hd:decide ((i:Int)<(l.length:Int))=true:=by simpa using hi
  have hw:=Ai hi hl'
  rcases hc with⟨rfl,h4,h5⟩|⟨h0,b,b',hne,h4,h5,hb,hb'⟩
  ·simp only[af4]at hd
   (have hb:=trivial;with_reducible repeat' (first|simp only[hb,Va.down,seval,ac9.down,h8,h9,h10,h4,h5,hd,hw,hx,iv]|refine Af ?_ ?_<;>intro hb|refine fd ?_|fail))
   obtain rfl:p=[]:=alG.1 hp
   obtain rfl:q=[]:=alG.1 hq
   exact Ah (kJ _ _ ([Bm x],[Bz x]) ⟨by simp[up,h8],by simp[up,h9],by simp[up],rfl,rfl,.inr ⟨by omega,h.length+1,h.length+3,by omega,by simp[up],by simp[up],by rw[Jf];rfl,by rw[Jf];rfl⟩⟩ (by simp))
  ·have hbl:b<h.length:=(alC.1 hb).1
   have hbl':b'<h.length:=(alC.1 hb').1
   have hA:=Av hb
   have hS:=Fa hbl
   have hB':=Nx (b:=b) .dead hne hb'
   have hS':=Fa (h:=h.set b .dead) (b:=b') (by rw[afM];exact hbl')
   have hlp:0+i=p.length:=by omega
   have hlq:0+i=q.length:=by omega
   have hi39:(i+1≤549755813888)=True:=eq_true (by omega)
   have g1:=fun(l:Ab)=>Lr (h:=h.set b .dead) (b:=b') .dead l
   have g2:=fun(l:Ab) (k:Nat)=>Ge (h:=h.set b .dead) (b:=b') .dead l k
   simp only[afM]at g1 g2
   (have hb:=trivial;with_reducible repeat' (first|simp only[hb,Va.down,seval,ac9.down,h8,h9,h10,h4,h5,hd,hw,hx,iv,hA,hS,hB',hS',Lr,Ge,g1,g2,afM,hp,hq,hi39]|refine Af ?_ ?_<;>intro hb|refine fd ?_|fail))
   exact Ah (kJ _ _ (p++[Bm x],q++[Bz x]) ⟨by simp[up,h8],by simp[up,h9],by simp[up],by simp[hp],by simp[hq],.inr ⟨by omega,h.length+1,h.length+3,by omega,by simp[up],by simp[up],by rw[g2];simp[iv,Bm],by rw[g2];simp[iv,Bm,Bz]⟩⟩ (by simp))
 ·exact⟨by simp[up,Bw],by simp[up],by simp[up],rfl,rfl,.inl ⟨rfl,by simp[up],by simp[up]⟩⟩
 ·obtain⟨rfl,⟨rfl,h4,h5⟩|⟨hne,b,b',hbb,h4,h5,hb,hb'⟩⟩:=hk
  ·rw[c0 rfl]
   (have hb:=trivial;with_reducible repeat' (first|simp only[hb,Va.down,seval,ac9.down,h4,h5]|refine Af ?_ ?_<;>intro hb|refine fd ?_|fail))
  ·rw[c1 hne]
   have hz:(b=b')=False:=eq_false hbb
   (with_reducible repeat' (first|simp only[hb,Va.down,seval,ac9.down,h4,h5,hb,hb',hz]|refine Af ?_ ?_<;>intro hb|refine fd ?_|fail))
theorem dU{l:List Int}{nn:Bool}(hl:l.length≤1000)(hne:l≠[]):Bi.call (.fn 94) [Ao 1 true nn (l.map iv)] []=
 some (.ret (.tup [.slr 1 0 0 l.length,.slr 1 1 0 l.length]),[.live 1 true false ((l.map Bm).map iv),.live 1 true false ((l.map Bz).map iv)]):=
 vO l nn hl _ _ (fun e=>(hne e).elim) (fun _=>rfl)
theorem iE{nn:Bool}:Bi.call (.fn 94) [Ao 1 true nn []] []=some (.ret (.tup [.nils,.nils]),[]):=
 vO [] nn (by simp) _ _ (fun _=>rfl) (fun e=>(e rfl).elim)
end Go.Proofs.YtdbiogihimdpcaaGreatDoor
