/- The functions of the layer, walked. -/
import Derived.Test.YtdbiogihimdpcaaGreatDoorPartAA
open Bool renaming not_true→aaF,not_false→aaR,not_eq_eq_eq_not→abL,and_eq_true→abT,true_and→acY,or_eq_true→acZ,not_eq_true'→ac2,and_eq_false_iff→ac3,or_eq_false_iff→ac4,not_not→adA,and_false→aeO,false_and→aiT,and_true→ai5,and_self→ai6,not_eq_true→am6,eq_false_iff→am8
open Int renaming lt_irrefl→aaV,natCast_zero→ai9,le_refl→am2,toNat_zero→am5
open List renaming length_map→acK,getElem?_eq_getElem→ac5,length_set→aeG,all_cons→ai7,all_nil→ai8,length_pos_iff→ajA,getElem?_eq_some_iff→ajB,length_eq_zero_iff→ajY,mem_of_getElem?→am3,zipWith→am4,head?_eq_getElem?→anC,all_eq_not_any_not→anG
set_option linter.unusedSimpArgs false
set_option linter.unusedVariables false
namespace Go.Proofs.YtdbiogihimdpcaaGreatDoor
open Go.Ev Go
set_option maxRecDepth 100000
set_option maxHeartbeats 16000000
theorem uV(c:Ae)(hl:c.rates.length≤maxLen):Bn.call (.fn 44) [.agg [.bool c.firm,.int .i64 c.space,.int .i64 c.lo,.int .i64 c.hi,Bj 3 true c.nn (c.rates.map Bc.cells),.int .i64 c.gas,.int .i64 c.fixed,.int .i64 c.inn,.int .i64 c.out,.int .i64 c.cut,.int .i64 c.lack]] []=some (.ret (.bool (Gz c)),[]):=by
 (refine ce Tryz.func44 ?_;simp only[Tryz.f44];(have hb:=trivial;with_reducible repeat' (first|simp only[hb,Va.down,seval,aaO.down,gA,aj9,ajC]|refine Aj ?_ ?_<;>intro hb|refine fd ?_|fail)))
 all_goals first|(refine congrArg (fun b=>(Dx.ret (AV.bool b),([]:Aa))) ?_;symm;((try simp only[abL,aaF,aaR]at *);simp only[Gz, *,aeO,aiT,ai5,acY,ai6,adA,aaF,aaR,ai7,ai8]))|skip
 refine Di (Rm 135 c.rates (fun i (s:Option Bc) t h=>(i=0∧s=none∨0<i∧s=c.rates[i-1]?)∧h[0]?=some (.live 11 false false [[.bool c.firm,.int .i64 c.space,.int .i64 c.lo,.int .i64 c.hi,Bj 3 true c.nn (c.rates.map Bc.cells),.int .i64 c.gas,.int .i64 c.fixed,.int .i64 c.inn,.int .i64 c.out,.int .i64 c.cut,.int .i64 c.lack]])∧t 1=.ptr 0 0 0∧t 3=.int .i64 i)
  (fun rest s=>Fq rest s) (fun r e t h=>if r=true then e=.exit 0 else e=.ret∧t 2=.bool false) ?_ ?_ none _ _ ?_) (fun e t h hk=>?_)
 ·rintro s t h Q' kQ ⟨hs,hh,h1,h3⟩
  (have hb:=trivial;with_reducible repeat' (first|simp only[hb,Va.down,seval,aaO.down,hh,h1,h3,aaV,decide_false]|refine Aj ?_ ?_<;>intro hb|refine fd ?_|fail))
  exact kQ _ _ _ (by simp[Fq])
 ·rintro x rest i s t h J Q' kJ kQ hx hi ⟨hs,hh,h1,h3⟩
  have hd:decide ((i:Int)<(c.rates.length:Int))=true:=by simpa using hi
  have hA:=Ci hh
  have kF:∀{p:Option Bc},Pz p x=false→Fq (x::rest) p=false:=fun h=>by simp[Fq,h]
  have kT:∀{p:Option Bc},Pz p x=true→Fq rest (some x)=Fq (x::rest) p:=fun h=>by simp[Fq,h]
  have hw:=Ak hi hl
  rcases hs with⟨rfl,rfl⟩|⟨hpos,rfl⟩
  ·simp only[ai9,Int.zero_add]at hd h3 hw
   (have hb:=trivial;with_reducible repeat' (first|simp only[hb,Va.down,seval,aaO.down,hA,hh,h1,h3,hd,hx,Bc.cells,gA,xU,hw,am5,am2,beq_self_eq_true,aaV,decide_false]|refine Aj ?_ ?_<;>intro hb|refine fd ?_|fail))
   all_goals first
    |exact kQ _ _ _ (by rw[if_neg (by rw[kF (by(rw[am8];intro hcon;simp only[Pz,Gm,abT,acZ,ac2,ac3,ac4,decide_eq_true_eq,decide_eq_false_iff_not,beq_iff_eq,beq_eq_false_iff_ne,ne_eq,abL,aaF,aaR]at *;omega))];simp)];exact⟨rfl,rfl⟩)
    |exact Ao (kJ _ _ (some x) ⟨.inr ⟨by omega,by simp[hx]⟩,hA _,by simp[up,h1],by simp[up]<;>omega⟩ (kT (by(simp only[Pz,Gm,abT,acZ,ac2,ac3,ac4,decide_eq_true_eq,decide_eq_false_iff_not,beq_iff_eq,beq_eq_false_iff_ne,ne_eq,abL,aaF,aaR]at *;omega))))
  ·obtain⟨j,rfl⟩:∃j,i=j+1:=⟨i-1,by omega⟩
   obtain⟨q,hq⟩:∃q,c.rates[j]?=some q:=⟨c.rates[j],ac5 (by omega)⟩
   have hj:IntKind.i64.wrap (((j+1:Nat):Int)-1)=(j:Int):=by unfold maxLen at hl;rw[Af (by omega) (by omega)];omega
   have hz:(((j+1:Nat):Int)==0)=false:=by rw[beq_eq_false_iff_ne];omega
   have hg:decide (0<((j+1:Nat):Int))=true:=by rw[decide_eq_true_eq];omega
   simp only[Nat.add_sub_cancel,hq]at kJ kQ
   (have hb:=trivial;with_reducible repeat' (first|simp only[hb,Va.down,seval,aaO.down,hA,hh,h1,h3,hd,hx,Bc.cells,gA,xU,hw,hj,hz,hg,hq]|refine Aj ?_ ?_<;>intro hb|refine fd ?_|fail))
   all_goals first
    |exact kQ _ _ _ (by rw[if_neg (by rw[kF (by(rw[am8];intro hcon;simp only[Pz,Gm,abT,acZ,ac2,ac3,ac4,decide_eq_true_eq,decide_eq_false_iff_not,beq_iff_eq,beq_eq_false_iff_ne,ne_eq,abL,aaF,aaR]at *;omega))];simp)];exact⟨rfl,rfl⟩)
    |exact Ao (kJ _ _ (some x) ⟨.inr ⟨by omega,by simp[hx]⟩,hA _,by simp[up,h1],by simp[up]<;>omega⟩ (kT (by(simp only[Pz,Gm,abT,acZ,ac2,ac3,ac4,decide_eq_true_eq,decide_eq_false_iff_not,beq_iff_eq,beq_eq_false_iff_ne,ne_eq,abL,aaF,aaR]at *;omega))))
 ·exact⟨.inl ⟨rfl,rfl⟩,rfl,by simp[up],by simp[up]⟩
 ·split at hk
  ·subst hk
   rename_i hr
   (have hb:=trivial;with_reducible repeat' (first|simp only[hb,Va.down,seval,aaO.down]|refine Aj ?_ ?_<;>intro hb|refine fd ?_|fail))
   all_goals (refine congrArg (fun b=>(Dx.ret (AV.bool b),([]:Aa))) ?_;symm;((try simp only[abL,aaF,aaR]at *);simp only[Gz, *,aeO,aiT,ai5,acY,ai6,adA,aaF,aaR,ai7,ai8]))
  ·obtain⟨rfl,h2⟩:=hk
   rename_i hr
   (have hb:=trivial;with_reducible repeat' (first|simp only[hb,Va.down,seval,aaO.down,h2]|refine Aj ?_ ?_<;>intro hb|refine fd ?_|fail))
   all_goals simp[Gz,hr]
def kL(hour:Int)(c:Ae)(a:Int × Int):Int × Int:=if(c.firm&&Gm hour c.lo c.hi)=true then(IntKind.i64.wrap (a.1+(c.rates.head?.map Bc.inn).getD 0),IntKind.i64.wrap (a.2+(c.rates.getLast?.map Bc.out).getD 0))else a
def Pg(hour:Int):List Ae→Int × Int→Int × Int
 | [],a=>a
 |c::l,a=>Pg hour l (kL hour c a)
def Jc:List Ae→Int→Int
 | [],a=>a
 |c::l,a=>Jc l (IntKind.i64.wrap (a+c.space))
theorem yB{α:Type}{l:List α}(h:l≠[]):∃x,l[l.length-1]?=some x∧l.getLast?=some x:=by
 have hl:0<l.length:=ajA.2 h
 refine⟨l[l.length-1],ac5 (by omega),?_⟩
 rw[List.getLast?_eq_getElem?]
 exact ac5 (by omega)
theorem ag2{l:List Ae}{nn:Bool}(hl:l.length≤maxLen):Bn.call (.fn 67) [Bj 11 false nn (l.map Ae.cells)] []=some (.ret (.int .i64 (Jc l 0)),[]):=by
 (refine ce Tryz.func67 ?_;simp only[Tryz.f67];(have hb:=trivial;with_reducible repeat' (first|simp only[hb,Va.down,seval,akA.down,acK]|refine Aj ?_ ?_<;>intro hb|refine fd ?_|fail)))
 refine Di (Rm 18 l (fun i (s:Int) t h=>t 6=Bj 11 false nn (l.map Ae.cells)∧t 7=.int .i64 l.length∧t 8=.int .i64 i∧t 3=.int .i64 s)
  (fun rest s=>Jc rest s) (fun r e t h=>e=.exit 0∧t 3=.int .i64 r) ?_ ?_ 0 _ _ ?_) (fun e t h hk=>?_)
 ·rintro s t h Q' kQ ⟨h6,h7,h8,h3⟩
  (have hb:=trivial;with_reducible repeat' (first|simp only[hb,Va.down,seval,akA.down,h6,h7,h8,h3,aaV,decide_false]|refine Aj ?_ ?_<;>intro hb|refine fd ?_|fail))
  exact kQ _ _ _ ⟨rfl,by simp[up,h3,Jc]⟩
 ·rintro x rest i s t h J Q' kJ kQ hx hi ⟨h6,h7,h8,h3⟩
  have hd:decide ((i:Int)<(l.length:Int))=true:=by simpa using hi
  have hw:=Ak hi hl
  (have hb:=trivial;with_reducible repeat' (first|simp only[hb,Va.down,seval,akA.down,h6,h7,h8,h3,hd,hx,Ae.cells,hw]|refine Aj ?_ ?_<;>intro hb|refine fd ?_|fail))
  exact Ao (kJ _ _ (IntKind.i64.wrap (s+x.space)) ⟨by simp[up,h6],by simp[up,h7],by simp[up],by simp[up]⟩ rfl)
 ·exact⟨by simp[up,Dh],by simp[up],by simp[up],by simp[up]⟩
 ·obtain⟨rfl,h3⟩:=hk
  (have hb:=trivial;with_reducible repeat' (first|simp only[hb,Va.down,seval,akA.down,h3]|refine Aj ?_ ?_<;>intro hb|refine fd ?_|fail))
theorem aeT{l:List Ae}{nn:Bool}(hour:Int)(hl:l.length≤maxLen)(hr:∀c∈l,c.rates≠[]∧c.rates.length≤6):Bn.call (.fn 68) [Bj 11 false nn (l.map Ae.cells),.int .i64 hour] []=some (.ret (.tup [.int .i64 (Pg hour l (0,0)).1,.int .i64 (Pg hour l (0,0)).2]),[]):=by
 (refine ce Tryz.func68 ?_;simp only[Tryz.f68];(have hb:=trivial;with_reducible repeat' (first|simp only[hb,Va.down,seval,al0.down,acK]|refine Aj ?_ ?_<;>intro hb|refine fd ?_|fail)))
 refine Di (Rm 44 l (fun i (s:Int × Int) t h=>t 1=.int .i64 hour∧t 10=Bj 11 false nn (l.map Ae.cells)∧t 11=.int .i64 l.length∧t 12=.int .i64 i∧t 6=.int .i64 s.1∧t 7=.int .i64 s.2)
  (fun rest s=>Pg hour rest s) (fun r e t h=>e=.exit 0∧t 6=.int .i64 r.1∧t 7=.int .i64 r.2) ?_ ?_ (0,0) _ _ ?_) (fun e t h hk=>?_)
 ·rintro s t h Q' kQ ⟨h1,h10,h11,h12,h6,h7⟩
  (have hb:=trivial;with_reducible repeat' (first|simp only[hb,Va.down,seval,al0.down,h10,h11,h12,aaV,decide_false]|refine Aj ?_ ?_<;>intro hb|refine fd ?_|fail))
  exact kQ _ _ _ ⟨rfl,by simp[up,h6,Pg],by simp[up,h7,Pg]⟩
 ·rintro x rest i s t h J Q' kJ kQ hx hi ⟨h1,h10,h11,h12,h6,h7⟩
  have hd:decide ((i:Int)<(l.length:Int))=true:=by simpa using hi
  have hw:=Ak hi hl
  obtain⟨hne,h6r⟩:=hr x (am3 hx)
  obtain⟨q,hq1,hq2⟩:=yB hne
  obtain⟨r0,hr0⟩:∃r0,x.rates[0]?=some r0:=⟨x.rates[0]'(ajA.2 hne),ac5 _⟩
  have hlast:IntKind.i64.wrap ((x.rates.length:Int)-1)=((x.rates.length-1:Nat):Int):=by
   have:=ajA.2 hne
   rw[Af (by omega) (by omega)];omega
  have hh0:x.rates.head?=some r0:=by rw[anC];exact hr0
  (have hb:=trivial;with_reducible repeat' (first|simp only[hb,Va.down,seval,al0.down,h1,h10,h11,h12,h6,h7,hd,hx,Ae.cells,Bc.cells,hw,uE,hlast,hq1,hr0,am2,am5]|refine Aj ?_ ?_<;>intro hb|refine fd ?_|fail))
  all_goals exact Ao (kJ _ _ (kL hour x s) ⟨by simp[up,h1],by simp[up,h10],by simp[up,h11],by simp[up],by simp[up,kL, *],by simp[up,kL, *]⟩ rfl)
 ·exact⟨by simp[up,Dh],by simp[up,Dh],by simp[up],by simp[up],by simp[up],by simp[up]⟩
 ·obtain⟨rfl,h6,h7⟩:=hk
  (have hb:=trivial;with_reducible repeat' (first|simp only[hb,Va.down,seval,al0.down,h6,h7]|refine Aj ?_ ?_<;>intro hb|refine fd ?_|fail))
def iH(l:List Ae):Prop:=∀c∈l,c.rates≠[]∧c.rates.length≤6
theorem aqG{l:List Ae}{nn:Bool}(hour:Int)(hl:l.length≤maxLen)(hr:iH l):Bn.call (.fn 69) [Bj 11 false nn (l.map Ae.cells),.int .i64 hour] []=some (.ret (.agg [.int .i64 (Jc l 0),.int .i64 (Pg hour l (0,0)).1,.int .i64 (Pg hour l (0,0)).2]),[]):=by
 (refine ce Tryz.func69 ?_;simp only[Tryz.f69];(have hb:=trivial;with_reducible repeat' (first|simp only[hb,Va.down,seval,amN.down,acK]|refine Aj ?_ ?_<;>intro hb|refine fd ?_|fail)))
 refine Di (Rm 67 l (fun i (s:Bool × Int × Int × Int) t h=>h=[.live 3 true false [[.int .i64 0,.int .i64 0,.int .i64 0]],.live 3 true s.1 [[.int .i64 s.2.1,.int .i64 s.2.2.1,.int .i64 s.2.2.2]]]∧t 0=Bj 11 false nn (l.map Ae.cells)∧t 1=.int .i64 hour∧t 4=.ptr 0 0 0∧t 5=.ptr 1 0 0∧t 6=.int .i64 i)
  (fun rest s=>(Jc rest s.2.1,Pg hour rest s.2.2)) (fun r e t h=>e=.exit 0∧(∃w,h=[.live 3 true false [[.int .i64 0,.int .i64 0,.int .i64 0]],.live 3 true w [[.int .i64 r.1,.int .i64 r.2.1,.int .i64 r.2.2]]])∧t 4=.ptr 0 0 0∧t 5=.ptr 1 0 0) ?_ ?_ (false,0,0,0) _ _ ?_) (fun e t h hk=>?_)
 ·rintro⟨w,a,b,c⟩ t h Q' kQ ⟨rfl,h0,h1,h4,h5,h6⟩
  (have hb:=trivial;with_reducible repeat' (first|simp only[hb,Va.down,seval,amN.down,h0,h6,aaV,decide_false]|refine Aj ?_ ?_<;>intro hb|refine fd ?_|fail))
  exact kQ _ _ _ ⟨rfl,⟨w,by simp[Jc,Pg]⟩,by simp[up,h4],by simp[up,h5]⟩
 ·rintro x rest i ⟨w,a,b,c⟩ t h J Q' kJ kQ hx hi ⟨rfl,h0,h1,h4,h5,h6⟩
  have hd:decide ((i:Int)<(l.length:Int))=true:=by simpa using hi
  have hw:=Ak hi hl
  obtain⟨hne,h6r⟩:=hr x (am3 hx)
  obtain⟨q,hq1,hq2⟩:=yB hne
  obtain⟨r0,hr0⟩:∃r0,x.rates[0]?=some r0:=⟨x.rates[0]'(ajA.2 hne),ac5 _⟩
  have hlast:IntKind.i64.wrap ((x.rates.length:Int)-1)=((x.rates.length-1:Nat):Int):=by
   have:=ajA.2 hne
   rw[Af (by omega) (by omega)];omega
  have hh0:x.rates.head?=some r0:=by rw[anC];exact hr0
  (have hb:=trivial;with_reducible repeat' (first|simp only[hb,Va.down,seval,amN.down,h0,h1,h4,h5,h6,hd,hx,Ae.cells,Bc.cells,hw,afW,hlast,hq1,hr0,am2,am5]|refine Aj ?_ ?_<;>intro hb|refine fd ?_|fail))
  all_goals exact Ao (kJ _ _ (true,IntKind.i64.wrap (a+x.space),kL hour x (b,c)) ⟨by simp[kL, *],by simp[up,h0],by simp[up,h1],by simp[up,h4],by simp[up,h5],by simp[up]⟩ rfl)
 ·exact⟨rfl,by simp[up,Dh],by simp[up,Dh],by simp[up],by simp[up],by simp[up]⟩
 ·obtain⟨rfl,⟨w,rfl⟩,h4,h5⟩:=hk
  (have hb:=trivial;with_reducible repeat' (first|simp only[hb,Va.down,seval,amN.down,h4,h5]|refine Aj ?_ ?_<;>intro hb|refine fd ?_|fail))
def Ja(p:Int→Bool):Nat→Bool
 |0=>true
 |n+1=>p (48-((n+1:Nat):Int))&&Ja p n
def okH(s:Ac)(l:List Ae)(h:Int):Bool:=decide ((Pg h l (0,0)).1≤s.inn)&&decide ((Pg h l (0,0)).2≤s.out)
def eL(s:Ac)(l:List Ae):Bool:=Ja (okH s l) 48&&decide (Jc l 0≤s.space)
theorem kG(a:Bool)(p:Int→Bool):∀n,Ja (fun h=>a&&p h) (n+1)=(Ja p (n+1)&&a)
 |0=>by simp[Ja,Bool.and_comm]
 |n+1=>by
  rw[Ja,kG a p n]
  conv=>rhs;rw[Ja]
  cases a<;>simp
theorem ao6(s:Ac)(hl:s.cons.length≤maxLen)(hr:iH s.cons):Bn.call (.fn 87) [.agg s.cells] []=some (.ret (.bool (eL s s.cons)),[]):=by
 have hs:=fun(h:Int)=>aeT (nn:=s.nn) h hl hr
 have hp:=ag2 (nn:=s.nn) hl
 (refine ce Tryz.func87 ?_;simp only[Tryz.f87];(have hb:=trivial;with_reducible repeat' (first|simp only[hb,Va.down,seval,afN.down]|refine Aj ?_ ?_<;>intro hb|refine fd ?_|fail)))
 refine Di (cnt 33 (fun n (_:Unit) t h=>n≤48∧h[0]?=some (.live 6 false false [s.cells])∧t 1=.ptr 0 0 0∧t 6=.int .i64 (48-n))
  (fun n _=>Ja (okH s s.cons) n) (fun r e t h=>if r=true then e=.exit 0∧h[0]?=some (.live 6 false false [s.cells])∧t 1=.ptr 0 0 0 else e=.ret∧t 2=.bool false) ?_ ?_ 48 () _ _ ?_) (fun e t h hk=>?_)
 ·rintro _ t h Q' kQ ⟨_,hh,h1,h6⟩
  (have hb:=trivial;with_reducible repeat' (first|simp only[hb,Va.down,seval,afN.down,h1,h6,ai9,Int.sub_zero,aaV,decide_false]|refine Aj ?_ ?_<;>intro hb|refine fd ?_|fail))
  exact kQ _ _ _ (by simp[Ja,hh,up,h1])
 ·rintro n _ t h J Q' kJ kQ ⟨hn,hh,h1,h6⟩
  have hd:decide ((48:Int)-((n+1:Nat):Int)<48)=true:=by rw[decide_eq_true_eq];omega
  have hw:IntKind.i64.wrap ((48:Int)-((n+1:Nat):Int)+1)=48-(n:Int):=by rw[Af (by omega) (by omega)];omega
  (have hb:=trivial;with_reducible repeat' (first|simp only[hb,Va.down,seval,afN.down,hh,h1,h6,hd,hw,hs]|refine Aj ?_ ?_<;>intro hb|refine fd ?_|fail))
  all_goals first
   |exact kQ _ _ _ (by rw[if_neg (by intro hcon;(simp only[Ja,okH,abT,acZ,ac2,ac3,ac4,decide_eq_true_eq,decide_eq_false_iff_not,beq_iff_eq,beq_eq_false_iff_ne,ne_eq,abL,aaF,aaR]at *;omega))];exact⟨rfl,rfl⟩)
   |exact Ao (kJ _ _ () ⟨by omega,hh,by simp[up,h1],by simp[up]⟩ (by
     have:okH s s.cons (48-((n+1:Nat):Int))=true:=by(simp only[okH,abT,acZ,ac2,ac3,ac4,decide_eq_true_eq,decide_eq_false_iff_not,beq_iff_eq,beq_eq_false_iff_ne,ne_eq,abL,aaF,aaR]at *;omega)
     simp only[Ja,this,acY]))
 ·exact⟨by omega,rfl,by simp[up],by simp[up]⟩
 ·split at hk
  ·obtain⟨rfl,hh,h1⟩:=hk
   rename_i hr'
   (have hb:=trivial;with_reducible repeat' (first|simp only[hb,Va.down,seval,afN.down,hh,h1,hp]|refine Aj ?_ ?_<;>intro hb|refine fd ?_|fail))
   all_goals simp[eL,hr']
  ·obtain⟨rfl,h2⟩:=hk
   rename_i hr'
   (have hb:=trivial;with_reducible repeat' (first|simp only[hb,Va.down,seval,afN.down,h2]|refine Aj ?_ ?_<;>intro hb|refine fd ?_|fail))
   all_goals simp[eL,hr']
theorem iQ{l:List Ae}(h:l.all Gz=true):iH l:=fun c hc=>by
 have:=List.all_eq_true.1 h c hc
 simp only[Gz,Gm,abT,decide_eq_true_eq]at this
 obtain⟨⟨⟨_,h1,h2⟩,_⟩,_⟩:=this
 refine⟨fun e=>?_,by omega⟩
 rw[e]at h1;simp at h1
theorem apA(s:Ac)(l:List Ae)(nn:Bool)(hl:l.length≤maxLen)(hr:iH l):Bn.call (.fn 56) [.agg s.cells,Bj 11 false nn (l.map Ae.cells)] []=some (.ret (.bool (eL s l)),[]):=by
 have hs:=fun(h:Int)=>aqG (nn:=nn) h hl hr
 (refine ce Tryz.func56 ?_;simp only[Tryz.f56];(have hb:=trivial;with_reducible repeat' (first|simp only[hb,Va.down,seval,aiM.down]|refine Aj ?_ ?_<;>intro hb|refine fd ?_|fail)))
 refine Di (cnt 33 (fun n (_:Unit) t h=>n≤48∧h[0]?=some (.live 6 false false [s.cells])∧t 1=Bj 11 false nn (l.map Ae.cells)∧t 2=.ptr 0 0 0∧t 5=.int .i64 (48-n))
  (fun n _=>Ja (fun h=>decide (Jc l 0≤s.space)&&okH s l h) n) (fun r e t h=>if r=true then e=.exit 0 else e=.ret∧t 4=.bool false) ?_ ?_ 48 () _ _ ?_) (fun e t h hk=>?_)
 ·rintro _ t h Q' kQ ⟨_,hh,h1,h2,h5⟩
  (have hb:=trivial;with_reducible repeat' (first|simp only[hb,Va.down,seval,aiM.down,h5,ai9,Int.sub_zero,aaV,decide_false]|refine Aj ?_ ?_<;>intro hb|refine fd ?_|fail))
  exact kQ _ _ _ (by simp[Ja])
 ·rintro n _ t h J Q' kJ kQ ⟨hn,hh,h1,h2,h5⟩
  have hd:decide ((48:Int)-((n+1:Nat):Int)<48)=true:=by rw[decide_eq_true_eq];omega
  have hw:IntKind.i64.wrap ((48:Int)-((n+1:Nat):Int)+1)=48-(n:Int):=by rw[Af (by omega) (by omega)];omega
  have hA:=Ci hh
  (have hb:=trivial;with_reducible repeat' (first|simp only[hb,Va.down,seval,aiM.down,hA,hh,h1,h2,h5,hd,hw,hs]|refine Aj ?_ ?_<;>intro hb|refine fd ?_|fail))
  all_goals first
   |exact kQ _ _ _ (by rw[if_neg (by intro hcon;(simp only[Ja,okH,abT,acZ,ac2,ac3,ac4,decide_eq_true_eq,decide_eq_false_iff_not,beq_iff_eq,beq_eq_false_iff_ne,ne_eq,abL,aaF,aaR]at *;omega))];exact⟨rfl,rfl⟩)
   |exact Ao (kJ _ _ () ⟨by omega,hA _,by simp[up,h1],by simp[up,h2],by simp[up]⟩ (by
     have:(decide (Jc l 0≤s.space)&&okH s l (48-((n+1:Nat):Int)))=true:=by(simp only[okH,abT,acZ,ac2,ac3,ac4,decide_eq_true_eq,decide_eq_false_iff_not,beq_iff_eq,beq_eq_false_iff_ne,ne_eq,abL,aaF,aaR]at *;omega)
     simp only[Ja,this,acY]))
 ·exact⟨by omega,rfl,by simp[up,Dh],by simp[up],by simp[up]⟩
 ·have he:eL s l=Ja (fun h=>decide (Jc l 0≤s.space)&&okH s l h) 48:=by rw[kG];rfl
  split at hk
  ·subst hk
   rename_i hr'
   (have hb:=trivial;with_reducible repeat' (first|simp only[hb,Va.down,seval,aiM.down]|refine Aj ?_ ?_<;>intro hb|refine fd ?_|fail))
   all_goals simp[he,hr']
  ·obtain⟨rfl,h2⟩:=hk
   rename_i hr'
   (have hb:=trivial;with_reducible repeat' (first|simp only[hb,Va.down,seval,aiM.down,h2]|refine Aj ?_ ?_<;>intro hb|refine fd ?_|fail))
   all_goals simp[he,hr']
theorem ad4{l:List Ae}{nn:Bool}(hl:l.length≤maxLen)(hr:∀c∈l,c.rates.length≤maxLen):Bn.call (.fn 55) [Bj 11 false nn (l.map Ae.cells)] []=some (.ret (.bool (l.all Gz)),[]):=by
 (refine ce Tryz.func55 ?_;simp only[Tryz.f55];(have hb:=trivial;with_reducible repeat' (first|simp only[hb,Va.down,seval,aiJ.down,acK]|refine Aj ?_ ?_<;>intro hb|refine fd ?_|fail)))
 refine Di (Rm 16 l (fun i (_:Unit) t h=>t 0=Bj 11 false nn (l.map Ae.cells)∧t 3=.int .i64 i)
  (fun rest _=>rest.all Gz) (fun r e t h=>if r=true then e=.exit 0 else e=.ret∧t 2=.bool false) ?_ ?_ () _ _ ?_) (fun e t h hk=>?_)
 ·rintro _ t h Q' kQ ⟨h0,h3⟩
  (have hb:=trivial;with_reducible repeat' (first|simp only[hb,Va.down,seval,aiJ.down,h0,h3,aaV,decide_false]|refine Aj ?_ ?_<;>intro hb|refine fd ?_|fail))
  exact kQ _ _ _ (by simp)
 ·rintro x rest i _ t h J Q' kJ kQ hx hi ⟨h0,h3⟩
  have hd:decide ((i:Int)<(l.length:Int))=true:=by simpa using hi
  have hw:=Ak hi hl
  have hc:=uV x (hr x (am3 hx))
  (have hb:=trivial;with_reducible repeat' (first|simp only[hb,Va.down,seval,aiJ.down,h0,h3,hd,hx,Ae.cells,hw,hc]|refine Aj ?_ ?_<;>intro hb|refine fd ?_|fail))
  ·exact kQ _ _ _ (by rw[if_neg (by simp at hb;simp[hb])];exact⟨rfl,rfl⟩)
  ·exact Ao (kJ _ _ () ⟨by simp[up,h0],by simp[up]⟩ (by simp at hb;simp[hb]))
 ·exact⟨by simp[up,Dh],by simp[up]⟩
 ·split at hk
  ·subst hk
   rename_i hr'
   (have hb:=trivial;with_reducible repeat' (first|simp only[hb,Va.down,seval,aiJ.down]|refine Aj ?_ ?_<;>intro hb|refine fd ?_|fail))
   all_goals simp[hr']
  ·obtain⟨rfl,h2⟩:=hk
   rename_i hr'
   (have hb:=trivial;with_reducible repeat' (first|simp only[hb,Va.down,seval,aiJ.down,h2]|refine Aj ?_ ?_<;>intro hb|refine fd ?_|fail))
   all_goals (rw[am6]at hr';rw[hr'])
structure Ac.small(s:Ac):Prop where
 cons:s.cons.length≤maxLen
 rates:∀c∈s.cons,c.rates.length≤maxLen
def Ft(s:Ac):Bool:=([s.space,s.inn,s.out].all fun x=>Gm x 0 800000000)&&Gm s.lead 0 48&&Gm s.fuel 0 1000&&decide (s.cons.length≤8)&&s.cons.all Gz&&eL s s.cons
theorem agV(c:Ae)(hl:c.rates.length≤maxLen):Bn.call (.fn 91) [.agg [.bool c.firm,.int .i64 c.space,.int .i64 c.lo,.int .i64 c.hi,Bj 3 true c.nn (c.rates.map Bc.cells),.int .i64 c.gas,.int .i64 c.fixed,.int .i64 c.inn,.int .i64 c.out,.int .i64 c.cut,.int .i64 c.lack]] []=some (.ret (.bool (!Gz c)),[]):=by
 (refine ce Tryz.func91 ?_;simp only[Tryz.f91];(have hb:=trivial;with_reducible repeat' (first|simp only[hb,Va.down,seval,axM.down,vD c hl]|refine Aj ?_ ?_<;>intro hb|refine fd ?_|fail)))
theorem yA(s:Ac)(hs:s.small):Bn.call (.fn 49) [.agg s.cells] []=some (.ret (.bool (Ft s)),[]):=by
 have hg:=xI (l:=[s.space,s.inn,s.out]) (nn:=true) (by simp[maxLen])
 simp only[List.map_cons,List.map_nil,iv,kW]at hg
 have hc:=aa2 (l:=s.cons) (nn:=s.nn) (g:=91) (cap:=[]) (p:=fun c=> !Gz c) rfl rfl (fun x hx=>agV x (hs.rates x hx)) hs.cons
 have ha:s.cons.any (fun c=> !Gz c)= !(s.cons.all Gz):=by rw[anG,adA]
 have hlen:decide ((s.cons.length:Int)≤8)=decide (s.cons.length≤8):=by rw[decide_eq_decide];omega
 cases hv:s.cons.all Gz with
 |false=>
  rw[ha,hv]at hc
  (refine ce Tryz.func49 ?_;simp only[Tryz.f49];(have hb:=trivial;with_reducible repeat' (first|simp only[hb,Va.down,seval,auR.down,hg,lV,hc,hlen]|refine Aj ?_ ?_<;>intro hb|refine fd ?_|fail)))
  all_goals simp[Ft, *]
 |true=>
  rw[ha,hv]at hc
  have ho:=ao6 s hs.cons (iQ hv)
  (refine ce Tryz.func49 ?_;simp only[Tryz.f49];(have hb:=trivial;with_reducible repeat' (first|simp only[hb,Va.down,seval,auR.down,hg,lV,hc,ho,hlen]|refine Aj ?_ ?_<;>intro hb|refine fd ?_|fail)))
  all_goals simp[Ft, *]
theorem zJ(s:Ac)(hs:s.small):Bn.call (.fn 17) [.agg s.cells] []=some (.ret (.bool (Ft s)),[]):=by
 have hc:=ad4 (nn:=s.nn) hs.cons hs.rates
 have hlen:decide (8<(s.cons.length:Int))= !decide (s.cons.length≤8):=by rw[←decide_not,decide_eq_decide];omega
 cases hv:s.cons.all Gz with
 |false=>
  rw[hv]at hc
  (refine ce Tryz.func17 ?_;simp only[Tryz.f17];(have hb:=trivial;with_reducible repeat' (first|simp only[hb,Va.down,seval,atC.down,pH,gA,hc,hlen]|refine Aj ?_ ?_<;>intro hb|refine fd ?_|fail)))
  all_goals (refine congrArg (fun b=>(Dx.ret (AV.bool b),([]:Aa))) ?_;symm;((try simp only[abL,aaF,aaR]at *);simp only[Ft, *,aeO,aiT,ai5,acY,ai6,adA,aaF,aaR,ai7,ai8]))
 |true=>
  rw[hv]at hc
  have ho:=apA s s.cons s.nn hs.cons (iQ hv)
  (refine ce Tryz.func17 ?_;simp only[Tryz.f17];(have hb:=trivial;with_reducible repeat' (first|simp only[hb,Va.down,seval,atC.down,pH,gA,hc,ho,hlen]|refine Aj ?_ ?_<;>intro hb|refine fd ?_|fail)))
  all_goals (refine congrArg (fun b=>(Dx.ret (AV.bool b),([]:Aa))) ?_;symm;((try simp only[abL,aaF,aaR]at *);simp only[Ft, *,aeO,aiT,ai5,acY,ai6,adA,aaF,aaR,ai7,ai8]))
def eB(l:List Ae):Bool:=(l.all fun c=>decide (c.rates.length≤10))&&decide (l.length≤12)
theorem yO{l:List Ae}{nn:Bool}(hl:l.length≤maxLen):Bn.call (.fn 14) [Bj 11 false nn (l.map Ae.cells)] []=some (.ret (.bool (eB l)),[]):=by
 (refine ce Tryz.func14 ?_;simp only[Tryz.f14];(have hb:=trivial;with_reducible repeat' (first|simp only[hb,Va.down,seval,ae7.down,acK]|refine Aj ?_ ?_<;>intro hb|refine fd ?_|fail)))
 refine Di (Rm 20 l (fun i (_:Unit) t h=>t 0=Bj 11 false nn (l.map Ae.cells)∧t 3=.int .i64 i)
  (fun rest _=>rest.all fun c=>decide (c.rates.length≤10)) (fun r e t h=>if r=true then e=.exit 0∧t 0=Bj 11 false nn (l.map Ae.cells)else e=.ret∧t 2=.bool false) ?_ ?_ () _ _ ?_) (fun e t h hk=>?_)
 ·rintro _ t h Q' kQ ⟨h0,h3⟩
  (have hb:=trivial;with_reducible repeat' (first|simp only[hb,Va.down,seval,ae7.down,h0,h3,aaV,decide_false]|refine Aj ?_ ?_<;>intro hb|refine fd ?_|fail))
  exact kQ _ _ _ (by simp[up,h0])
 ·rintro x rest i _ t h J Q' kJ kQ hx hi ⟨h0,h3⟩
  have hd:decide ((i:Int)<(l.length:Int))=true:=by simpa using hi
  have hw:=Ak hi hl
  (have hb:=trivial;with_reducible repeat' (first|simp only[hb,Va.down,seval,ae7.down,h0,h3,hd,hx,Ae.cells,hw]|refine Aj ?_ ?_<;>intro hb|refine fd ?_|fail))
  ·exact kQ _ _ _ (by rw[if_neg (by simp only[decide_eq_true_eq]at hb;simp;omega)];exact⟨rfl,rfl⟩)
  ·exact Ao (kJ _ _ () ⟨by simp[up,h0],by simp[up]⟩ (by simp only[decide_eq_false_iff_not]at hb;simp;omega))
 ·exact⟨by simp[up,Dh],by simp[up]⟩
 ·have hlen:decide ((l.length:Int)≤12)=decide (l.length≤12):=by rw[decide_eq_decide];omega
  split at hk
  ·obtain⟨rfl,h0⟩:=hk
   rename_i hr'
   (have hb:=trivial;with_reducible repeat' (first|simp only[hb,Va.down,seval,ae7.down,h0,hlen]|refine Aj ?_ ?_<;>intro hb|refine fd ?_|fail))
   all_goals simp[eB,hr']
  ·obtain⟨rfl,h2⟩:=hk
   rename_i hr'
   (have hb:=trivial;with_reducible repeat' (first|simp only[hb,Va.down,seval,ae7.down,h2]|refine Aj ?_ ?_<;>intro hb|refine fd ?_|fail))
   all_goals (rw[am6]at hr';simp[eB,hr'])
def min2(x y:Int):Int:=if y<x then y else x
theorem Oq{s:Ac}(h:Ft s=true):s.cons.all Gz=true:=by
 simp only[Ft,abT]at h;exact h.1.2
theorem rO(a:Int):(a==a)=true:=by simp
theorem Zj{α:Type}{f:α→List AV}{p:List AV→Prop}{q:α→Prop}(hf:∀r,p r→∃x,r=f x∧q x):∀{rows:List (List AV)},(∀r∈rows,p r)→∃l:List α,rows=l.map f∧∀x∈l,q x
 | [],_=>⟨[],rfl,fun x hx=>by simp at hx⟩
 |r::rows,h=>by
  obtain⟨x,rfl,hx⟩:=hf r (h r (List.mem_cons_self ..))
  obtain⟨l,rfl,hl⟩:=Zj hf (fun r hr=>h r (List.mem_cons_of_mem _ hr))
  exact⟨x::l,rfl,fun y hy=>by
   rcases List.mem_cons.1 hy with rfl|hy
   ·exact hx
   ·exact hl y hy⟩
def i64(n:Int):Prop:= -9223372036854775808≤n∧n≤9223372036854775807
theorem Ef{n:Nat}{r:List AV}(h:Ty Tryz.prog (n+1) 3 r):∃x,r=[.int .i64 x]∧i64 x:=by
 simp only[Ty,Tryz.underlying3]at h
 obtain⟨x,rfl,h1,h2⟩:=h
 exact⟨x,rfl,h1,h2⟩
theorem alD{n:Nat}{r:List AV}(h:Ty Tryz.prog (n+1) 4 r):∃x,r=[.bool x]:=by
 simp only[Ty,Tryz.underlying4]at h
 exact h
theorem amT{n:Nat}{r:List AV}(h:Ty Tryz.prog (n+2) 39 r):∃x y,r=[.int .i64 x,.int .i64 y]∧i64 x∧i64 y:=by
 unfold Ty at h
 simp only[Tryz.underlying39,iU]at h
 obtain⟨a,b,rfl,h1,c,d,rfl,h2,rfl⟩:=h
 obtain⟨x,rfl,hx⟩:=Ef h1
 obtain⟨y,rfl,hy⟩:=Ef h2
 exact⟨x,y,rfl,hx,hy⟩
theorem amC{n:Nat}{r:List AV}(h:Ty Tryz.prog (n+2) 94 r):∃x:Bc,r=x.cells∧True:=by
 unfold Ty at h
 simp only[Tryz.underlying94,iU]at h
 obtain⟨a,b,rfl,h1,c,d,rfl,h2,e,f,rfl,h3,rfl⟩:=h
 obtain⟨x,rfl,_⟩:=Ef h1
 obtain⟨y,rfl,_⟩:=Ef h2
 obtain⟨z,rfl,_⟩:=Ef h3
 exact⟨⟨x,y,z⟩,rfl,trivial⟩
theorem aqP{n:Nat}{r:List AV}(h:Ty Tryz.prog (n+4) 42 r):∃x:Ae,r=x.cells∧x.rates.length≤maxLen:=by
 unfold Ty at h
 simp only[Tryz.underlying42,iU]at h
 obtain⟨a0,b0,rfl,h0,a1,b1,rfl,h1,a2,b2,rfl,h2,a3,b3,rfl,h3,a4,b4,rfl,h4,a5,b5,rfl,h5,a6,b6,rfl,h6,a7,b7,rfl,h7,a8,b8,rfl,h8,a9,b9,rfl,h9,rfl⟩:=h
 obtain⟨x0,rfl⟩:=alD h0
 obtain⟨x1,rfl,_⟩:=Ef h1
 obtain⟨x2,y2,rfl,_⟩:=amT h2
 obtain⟨x4,rfl,_⟩:=Ef h4
 obtain⟨x5,rfl,_⟩:=Ef h5
 obtain⟨x6,rfl,_⟩:=Ef h6
 obtain⟨x7,rfl,_⟩:=Ef h7
 obtain⟨x8,rfl,_⟩:=Ef h8
 obtain⟨x9,rfl,_⟩:=Ef h9
 unfold Ty at h3
 simp only[Tryz.underlying40]at h3
 obtain⟨nn,rows,rfl,hl,hrows⟩:=h3
 obtain⟨l,rfl,_⟩:=Zj (fun r hr=>amC hr) hrows
 have e1:Tryz.prog.cellsOf 94=3:=by kernel_rfl
 have e2:iC Tryz.prog (n+2) 94=true:=by
  simp only[iC,Tryz.underlying94,Tryz.underlying3];rfl
 rw[e1,e2]
 exact⟨⟨x0,x1,x2,y2,nn,l,x4,x5,x6,x7,x8,x9⟩,rfl,by simpa using hl⟩
theorem akU{n:Nat}{r:List AV}(h:Ty Tryz.prog (n+5) 22 r):∃(nn:Bool) (l:List Ae),r=[Bj 11 false nn (l.map Ae.cells)]∧l.length≤maxLen∧∀c∈l,c.rates.length≤maxLen:=by
 unfold Ty at h
 simp only[Tryz.underlying22]at h
 obtain⟨nn,rows,rfl,hl,hrows⟩:=h
 obtain⟨l,rfl,hc⟩:=Zj (fun r hr=>aqP hr) hrows
 have e1:Tryz.prog.cellsOf 42=11:=by kernel_rfl
 have e2:iC Tryz.prog (n+4) 42=false:=by
  simp only[iC,Tryz.underlying42,Tryz.underlying40];simp
 rw[e1,e2]
 exact⟨nn,l,rfl,by simpa using hl,hc⟩
theorem adN{n:Nat}{r:List AV}(h:Ty Tryz.prog (n+6) 24 r):∃s:Ac,r=s.cells∧s.small:=by
 unfold Ty at h
 simp only[Tryz.underlying24,iU]at h
 obtain⟨a0,b0,rfl,h0,a1,b1,rfl,h1,a2,b2,rfl,h2,a3,b3,rfl,h3,a4,b4,rfl,h4,a5,b5,rfl,h5,rfl⟩:=h
 obtain⟨x0,rfl,_⟩:=Ef h0
 obtain⟨x1,rfl,_⟩:=Ef h1
 obtain⟨x2,rfl,_⟩:=Ef h2
 obtain⟨x3,rfl,_⟩:=Ef h3
 obtain⟨x4,rfl,_⟩:=Ef h4
 obtain⟨nn,l,rfl,hl,hc⟩:=akU h5
 exact⟨⟨x0,x1,x2,x3,x4,nn,l⟩,rfl,hl,hc⟩
theorem adW{av:AV}(h:yP Tryz.prog 7 24 av):∃s:Ac,av=.agg s.cells∧s.small:=by
 unfold yP at h
 simp only[Tryz.underlying24]at h
 obtain⟨cs,rfl,h⟩:=h
 obtain⟨s,rfl,hs⟩:=adN h
 exact⟨s,rfl,hs⟩
structure Gl where
 con:Int
 hour:Int
 sent:Int
 amount:Int
def Gl.cells(n:Gl):List AV:=[.int .i64 n.con,.int .i64 n.hour,.int .i64 n.sent,.int .i64 n.amount]
def bE(k:Int)(n:Gl):Bool:=Gm n.con 0 (IntKind.i64.wrap (k-1))&&Gm n.hour 0 47&&Gm n.sent 0 47&&Gm n.amount (-100000000) 100000000
theorem aqV(n:Gl)(k:Int):Bn.call (.fn 113) [.agg [.int .i64 n.con,.int .i64 n.hour,.int .i64 n.sent,.int .i64 n.amount],.ptr 0 0 0] [.live 1 true false [[.int .i64 k]]]=some (.ret (.bool (!bE k n)),[.live 1 true false [[.int .i64 k]]]):=by
 (refine ce Tryz.func113 ?_;simp only[Tryz.f113];(have hb:=trivial;with_reducible repeat' (first|simp only[hb,Va.down,seval,avL.down,lV]|refine Aj ?_ ?_<;>intro hb|refine fd ?_|fail)))
 all_goals (refine congrArg (fun b=>(Dx.ret (AV.bool b),[CB.live 1 true false [[AV.int IntKind.i64 k]]])) ?_;((try simp only[abL,aaF,aaR]at *);simp only[bE, *,aeO,aiT,ai5,acY,ai6,adA,aaF,aaR,ai7,ai8]))
theorem acQ{l:List Gl}{nn:Bool}{g bs:Nat}{brows:List (List AV)}{p:Gl→Bool}(hp:∀x∈l,Bn.call (.fn g) (.agg [.int .i64 x.con,.int .i64 x.hour,.int .i64 x.sent,.int .i64 x.amount]::[.ptr 0 0 0]) [.live bs true false brows]=some (.ret (.bool (p x)),[.live bs true false brows]))(hl:l.length≤maxLen):
 Bn.call (.fn 135) [Bj 4 true nn (l.map Gl.cells),.func (.func g) [] [.ptr 0 0 0]] [.live bs true false brows]=some (.ret (.int .i64 (lC p l 0)),[.live bs true false brows]):=by
 (refine ce Tryz.func135 ?_;simp only[Tryz.f135];(have hb:=trivial;with_reducible repeat' (first|simp only[hb,Va.down,seval,rM.down,acK]|refine Aj ?_ ?_<;>intro hb|refine fd ?_|fail)))
 refine Di (Rm 19 l (fun i (s:Int) t h=>s=i∧h=[.live bs true false brows]∧t 0=Bj 4 true nn (l.map Gl.cells)∧t 1=.func (.func g) [] [.ptr 0 0 0]∧t 7=.int .i64 l.length∧t 8=.int .i64 i)
  (fun rest s=>lC p rest s) (fun r e t h=>h=[.live bs true false brows]∧((e=.exit 0∧r= -1)∨(e=.ret∧t 4=.int .i64 r))) ?_ ?_ 0 _ _ ?_) (fun e t h hk=>?_)
 ·rintro s t h Q' kQ ⟨rfl,rfl,h0,h1,h7,h8⟩
  (have hb:=trivial;with_reducible repeat' (first|simp only[hb,Va.down,seval,rM.down,h0,h1,h7,h8,aaV,decide_false]|refine Aj ?_ ?_<;>intro hb|refine fd ?_|fail))
  exact kQ _ _ _ ⟨rfl,.inl ⟨rfl,rfl⟩⟩
 ·rintro x rest i s t h J Q' kJ kQ hx hi ⟨rfl,rfl,h0,h1,h7,h8⟩
  have hpx:=hp x (am3 hx)
  have hd:decide ((i:Int)<(l.length:Int))=true:=by simpa using hi
  (have hb:=trivial;with_reducible repeat' (first|simp only[hb,Va.down,seval,rM.down,h0,h1,h7,h8,hd,hx,Gl.cells,hpx,Ak hi hl]|refine Aj ?_ ?_<;>intro hb|refine fd ?_|fail))
  ·exact kQ _ _ _ ⟨rfl,.inr ⟨rfl,by simp[up,lC,hb]⟩⟩
  ·exact Ao (kJ _ _ (i+1) ⟨by simp,rfl,by simp[up,h0],by simp[up,h1],by simp[up,h7],by simp[up]⟩ (by simp[lC,hb]))
 ·exact⟨rfl,rfl,by simp[up,Dh],by simp[up,Dh],by simp[up],by simp[up]⟩
 ·obtain⟨rfl,⟨rfl,hi⟩|⟨rfl,hi⟩⟩:=hk
  ·(have hb:=trivial;with_reducible repeat' (first|simp only[hb,Va.down,seval,rM.down]|refine Aj ?_ ?_<;>intro hb|refine fd ?_|fail))
   rw[hi]
  ·(have hb:=trivial;with_reducible repeat' (first|simp only[hb,Va.down,seval,rM.down,hi]|refine Aj ?_ ?_<;>intro hb|refine fd ?_|fail))
theorem wF{l:List Gl}{nn:Bool}{g bs:Nat}{brows:List (List AV)}{p:Gl→Bool}(hp:∀x∈l,Bn.call (.fn g) (.agg [.int .i64 x.con,.int .i64 x.hour,.int .i64 x.sent,.int .i64 x.amount]::[.ptr 0 0 0]) [.live bs true false brows]=some (.ret (.bool (p x)),[.live bs true false brows]))(hl:l.length≤maxLen):
 Bn.call (.fn 112) [Bj 4 true nn (l.map Gl.cells),.func (.func g) [] [.ptr 0 0 0]] [.live bs true false brows]=some (.ret (.bool (l.any p)),[.live bs true false brows]):=by
 (refine ce Tryz.func112 ?_;simp only[Tryz.f112];(have hb:=trivial;with_reducible repeat' (first|simp only[hb,Va.down,seval,acQ hp hl,Zb p l 0 (am2 0)]|refine Aj ?_ ?_<;>intro hb|refine fd ?_|fail)))
theorem rV{l:List Gl}{nn:Bool}(k:Int)(hl:l.length≤maxLen):Bn.call (.fn 70) [Bj 4 true nn (l.map Gl.cells),.int .i64 k] []=some (.ret (.bool (l.all (bE k))),[]):=by
 have h:=wF (l:=l) (nn:=nn) (g:=113) (bs:=1) (brows:=[[.int .i64 k]]) (p:=fun n=> !bE k n) (fun x _=>aqV x k) hl
 (refine ce Tryz.func70 ?_;simp only[Tryz.f70];(have hb:=trivial;with_reducible repeat' (first|simp only[hb,Va.down,seval,h]|refine Aj ?_ ?_<;>intro hb|refine fd ?_|fail)))
 simp[anG]
def vI(l:List Gl)(o:Int):Int:=(l[o.toNat]?.map Gl.sent).getD 0
def kX(lead:Int)(l:List Gl)(c h:Int)(n:Gl)(i:Nat)(o:Int):Int:=
 if(n.con==c&&n.hour==h&&decide (IntKind.i64.wrap (n.sent+lead)≤h)&&(decide (o<0)||decide (vI l o≤n.sent)))=true then i else o
def Kz(lead:Int)(l:List Gl)(c h:Int):List Gl→Nat × Int→Int
 | [],a=>a.2
 |n::rest,a=>Kz lead l c h rest (a.1+1,kX lead l c h n a.1 a.2)
theorem bW(s:Ac)(l:List Gl)(nn:Bool)(c h:Int)(hl:l.length≤maxLen):Bn.call (.fn 72) [.agg s.cells,Bj 4 true nn (l.map Gl.cells),.int .i64 c,.int .i64 h] []=some (.ret (.int .i64 (Kz s.lead l c h l (0,-1))),[]):=by
 (refine ce Tryz.func72 ?_;simp only[Tryz.f72];(have hb:=trivial;with_reducible repeat' (first|simp only[hb,Va.down,seval,adJ.down]|refine Aj ?_ ?_<;>intro hb|refine fd ?_|fail)))
 refine Di (Rm 55 l (fun i (a:Nat × Int) t hp=>a.1=i∧(a.2= -1∨0≤a.2∧a.2<i)∧hp[0]?=some (.live 6 false false [s.cells])∧t 1=Bj 4 true nn (l.map Gl.cells)∧t 2=.int .i64 c∧t 3=.int .i64 h∧t 4=.ptr 0 0 0∧t 12=Bj 4 true nn (l.map Gl.cells)∧t 13=.int .i64 l.length∧t 9=.int .i64 a.2∧t 14=.int .i64 i)
  (fun rest a=>Kz s.lead l c h rest a) (fun r e t hp=>e=.exit 0∧t 9=.int .i64 r) ?_ ?_ (0,-1) _ _ ?_) (fun e t hp hk=>?_)
 ·rintro⟨i',o⟩ t hp Q' kQ ⟨rfl,ho,hh,h1,h2,h3,h4,h12,h13,h9,h14⟩
  (have hb:=trivial;with_reducible repeat' (first|simp only[hb,Va.down,seval,adJ.down,h13,h14,aaV,decide_false]|refine Aj ?_ ?_<;>intro hb|refine fd ?_|fail))
  exact kQ _ _ _ ⟨rfl,by simp[up,h9,Kz]⟩
 ·rintro x rest i ⟨i',o⟩ t hp J Q' kJ kQ hx hi ⟨rfl,ho,hh,h1,h2,h3,h4,h12,h13,h9,h14⟩
  simp only at ho h9 h14 hx hi
  have hd:decide ((i':Int)<(l.length:Int))=true:=by simpa using hi
  have hw:=Ak hi hl
  have hA:=Ci hh
  rcases ho with rfl|⟨ho1,ho2⟩
  ·have hn:decide ((-1:Int)<0)=true:=by decide
   (have hb:=trivial;with_reducible repeat' (first|simp only[hb,Va.down,seval,adJ.down,hA,h1,h2,h3,h4,h12,h13,h9,h14,hd,hw,hx,Gl.cells,hn]|refine Aj ?_ ?_<;>intro hb|refine fd ?_|fail))
   all_goals exact Ao (kJ _ _ (i'+1,kX s.lead l c h x i' (-1)) ⟨rfl,by unfold kX;split<;>simp<;>omega,hA _,by simp[up,h1],by simp[up,h2],by simp[up,h3],by simp[up,h4],by simp[up,h12],by simp[up,h13],by simp[up,h9,kX, *],by simp[up]⟩ rfl)
  ·have hn:decide (o<0)=false:=by rw[decide_eq_false_iff_not];omega
   obtain⟨q,hq⟩:∃q,l[o.toNat]?=some q:=⟨l[o.toNat]'(by omega),ac5 (by omega)⟩
   have hs:vI l o=q.sent:=by simp[vI,hq]
   have h0:(0≤o)=True:=eq_true ho1
   (have hb:=trivial;with_reducible repeat' (first|simp only[hb,Va.down,seval,adJ.down,hA,h1,h2,h3,h4,h12,h13,h9,h14,hd,hw,hx,Gl.cells,hn,hq,h0]|refine Aj ?_ ?_<;>intro hb|refine fd ?_|fail))
   all_goals exact Ao (kJ _ _ (i'+1,kX s.lead l c h x i' o) ⟨rfl,by unfold kX;split<;>simp<;>omega,hA _,by simp[up,h1],by simp[up,h2],by simp[up,h3],by simp[up,h4],by simp[up,h12],by simp[up,h13],by simp[up,h9,kX,hs, *],by simp[up]⟩ rfl)
 ·exact⟨rfl,.inl rfl,rfl,by simp[up,Dh],by simp[up,Dh],by simp[up,Dh],by simp[up],by simp[up,Dh],by simp[up],by simp[up],by simp[up]⟩
 ·obtain⟨rfl,h9⟩:=hk
  (have hb:=trivial;with_reducible repeat' (first|simp only[hb,Va.down,seval,adJ.down,h9]|refine Aj ?_ ?_<;>intro hb|refine fd ?_|fail))
theorem avA(n:Gl)(k:Int):Bn.call (.fn 26) [.agg [.int .i64 n.con,.int .i64 n.hour,.int .i64 n.sent,.int .i64 n.amount],.int .i64 k] []=some (.ret (.bool (bE k n)),[]):=by
 (refine ce Tryz.func26 ?_;simp only[Tryz.f26];(have hb:=trivial;with_reducible repeat' (first|simp only[hb,Va.down,seval,awK.down,gA,vR]|refine Aj ?_ ?_<;>intro hb|refine fd ?_|fail)))
 all_goals (refine congrArg (fun b=>(Dx.ret (AV.bool b),([]:Aa))) ?_;symm;((try simp only[abL,aaF,aaR]at *);simp only[bE, *,aeO,aiT,ai5,acY,ai6,adA,aaF,aaR,ai7,ai8]))
theorem aq3{l:List Gl}{nn:Bool}(k:Int)(hl:l.length≤maxLen):Bn.call (.fn 37) [Bj 4 true nn (l.map Gl.cells),.int .i64 k] []=some (.ret (.bool (l.all (bE k))),[]):=by
 (refine ce Tryz.func37 ?_;simp only[Tryz.f37];(have hb:=trivial;with_reducible repeat' (first|simp only[hb,Va.down,seval,aeN.down,acK]|refine Aj ?_ ?_<;>intro hb|refine fd ?_|fail)))
 refine Di (Rm 19 l (fun i (_:Unit) t h=>t 0=Bj 4 true nn (l.map Gl.cells)∧t 1=.int .i64 k∧t 5=.int .i64 i)
  (fun rest _=>rest.all (bE k)) (fun r e t h=>if r=true then e=.exit 0 else e=.ret∧t 4=.bool false) ?_ ?_ () _ _ ?_) (fun e t h hk=>?_)
 ·rintro _ t h Q' kQ ⟨h0,h1,h5⟩
  (have hb:=trivial;with_reducible repeat' (first|simp only[hb,Va.down,seval,aeN.down,h0,h5,aaV,decide_false]|refine Aj ?_ ?_<;>intro hb|refine fd ?_|fail))
  exact kQ _ _ _ (by simp)
 ·rintro x rest i _ t h J Q' kJ kQ hx hi ⟨h0,h1,h5⟩
  have hd:decide ((i:Int)<(l.length:Int))=true:=by simpa using hi
  have hw:=Ak hi hl
  (have hb:=trivial;with_reducible repeat' (first|simp only[hb,Va.down,seval,aeN.down,h0,h1,h5,hd,hx,Gl.cells,hw,avA]|refine Aj ?_ ?_<;>intro hb|refine fd ?_|fail))
  ·exact kQ _ _ _ (by rw[if_neg (by simp at hb;simp[hb])];exact⟨rfl,rfl⟩)
  ·exact Ao (kJ _ _ () ⟨by simp[up,h0],by simp[up,h1],by simp[up]⟩ (by simp at hb;simp[hb]))
 ·exact⟨by simp[up,Dh],by simp[up,Dh],by simp[up]⟩
 ·split at hk
  ·subst hk
   rename_i hr'
   (have hb:=trivial;with_reducible repeat' (first|simp only[hb,Va.down,seval,aeN.down]|refine Aj ?_ ?_<;>intro hb|refine fd ?_|fail))
   all_goals simp[hr']
  ·obtain⟨rfl,h2⟩:=hk
   rename_i hr'
   (have hb:=trivial;with_reducible repeat' (first|simp only[hb,Va.down,seval,aeN.down,h2]|refine Aj ?_ ?_<;>intro hb|refine fd ?_|fail))
   all_goals (rw[am6]at hr';rw[hr'])
theorem aqZ{n:Nat}{r:List AV}(h:Ty Tryz.prog (n+2) 62 r):∃x:Gl,r=x.cells∧True:=by
 unfold Ty at h
 simp only[Tryz.underlying62,iU]at h
 obtain⟨a,b,rfl,h1,c,d,rfl,h2,e,f,rfl,h3,g,k,rfl,h4,rfl⟩:=h
 obtain⟨x,rfl,_⟩:=Ef h1
 obtain⟨y,rfl,_⟩:=Ef h2
 obtain⟨z,rfl,_⟩:=Ef h3
 obtain⟨u,rfl,_⟩:=Ef h4
 exact⟨⟨x,y,z,u⟩,rfl,trivial⟩
theorem ak6{n:Nat}{r:List AV}(h:Ty Tryz.prog (n+3) 45 r):∃(nn:Bool) (l:List Gl),r=[Bj 4 true nn (l.map Gl.cells)]∧l.length≤maxLen:=by
 unfold Ty at h
 simp only[Tryz.underlying45]at h
 obtain⟨nn,rows,rfl,hl,hrows⟩:=h
 obtain⟨l,rfl,_⟩:=Zj (fun r hr=>aqZ hr) hrows
 have e1:Tryz.prog.cellsOf 62=4:=by kernel_rfl
 have e2:iC Tryz.prog (n+2) 62=true:=by
  simp only[iC,Tryz.underlying62,Tryz.underlying3];rfl
 rw[e1,e2]
 exact⟨nn,l,rfl,by simpa using hl⟩
def Cc(x:Int):Int:=if x>0 then x else 0
def Df(x:Int):Int:=Cc (IntKind.i64.wrap (0-x))
theorem Nl{h:Aa}{b:Nat}(hb:b<h.length)(l:Aa)(c:CB):(h++l).set b c=h.set b c++l:=List.set_append_left _ _ hb
theorem bY{h:Aa}{b:Nat}(c:CB)(l:Aa):(h.set b c++l)[h.length]?=l[0]?:=by
 have:=zB (h.set b c) l
 rwa[aeG]at this
theorem Ua{h:Aa}{b:Nat}(c:CB)(l:Aa)(k:Nat):(h.set b c++l)[h.length+k]?=l[k]?:=by
 have:=Tz (h.set b c) l k
 rwa[aeG]at this
theorem pS{h:Aa}{b b':Nat}{x:CB}(c:CB)(hne:b≠b')(hb:h[b']?=some x)(l:Aa):(h.set b c++l)[b']?=some x:=by
 rw[List.getElem?_append_left (by rw[aeG];exact(ajB.1 hb).1),List.getElem?_set_ne hne];exact hb
theorem rC(l:List Int)(nn:Bool)(hl:l.length≤1000)(o:Dx)(h':Aa)(c0:l=[]→(o,h')=(.ret (.tup [.nils,.nils]),[]))
 (c1:l≠[]→(o,h')=(.ret (.tup [.slr 1 0 0 l.length,.slr 1 1 0 l.length]),[.live 1 true false ((l.map Cc).map iv),.live 1 true false ((l.map Df).map iv)])):
 Bn.call (.fn 94) [Bj 1 true nn (l.map iv)] []=some (o,h'):=by
 have hl':l.length≤maxLen:=by unfold maxLen;omega
 (refine ce Tryz.func94 ?_;simp only[Tryz.f94];(have hb:=trivial;with_reducible repeat' (first|simp only[hb,Va.down,seval,zP.down,acK]|refine Aj ?_ ?_<;>intro hb|refine fd ?_|fail)))
 refine Di (Rm 28 l (fun i (a:List Int × List Int) t h=>t 8=Bj 1 true nn (l.map iv)∧t 9=.int .i64 l.length∧t 10=.int .i64 i∧a.1.length=i∧a.2.length=i∧
  ((i=0∧t 4=.nils∧t 5=.nils)∨(0<i∧∃b b',b≠b'∧t 4=.slr 1 b 0 i∧t 5=.slr 1 b' 0 i∧h[b]?=some (.live 1 true false (a.1.map iv))∧h[b']?=some (.live 1 true false (a.2.map iv)))))
  (fun rest a=>(a.1++rest.map Cc,a.2++rest.map Df)) (fun r e t h=>e=.exit 0∧((l=[]∧t 4=.nils∧t 5=.nils)∨(l≠[]∧∃b b',b≠b'∧t 4=.slr 1 b 0 l.length∧t 5=.slr 1 b' 0 l.length∧h[b]?=some (.live 1 true false (r.1.map iv))∧h[b']?=some (.live 1 true false (r.2.map iv))))) ?_ ?_ ([],[]) _ _ ?_) (fun e t h hk=>?_)
 ·rintro⟨p,q⟩ t h Q' kQ ⟨h8,h9,h10,hp,hq,hc⟩
  (have hb:=trivial;with_reducible repeat' (first|simp only[hb,Va.down,seval,zP.down,h8,h9,h10,aaV,decide_false]|refine Aj ?_ ?_<;>intro hb|refine fd ?_|fail))
  refine kQ _ _ _ ⟨rfl,?_⟩
  rcases hc with⟨h0,h4,h5⟩|⟨h0,b,b',hne,h4,h5,hb,hb'⟩
  ·exact .inl ⟨ajY.1 h0,by simp[up,h4],by simp[up,h5]⟩
  ·exact .inr ⟨fun e=>by rw[e]at h0;simp at h0,b,b',hne,by simp[up,h4],by simp[up,h5],by simpa using hb,by simpa using hb'⟩
 ·rintro x rest i ⟨p,q⟩ t h J Q' kJ kQ hx hi ⟨h8,h9,h10,hp,hq,hc⟩
  simp only at hp hq
  have hd:decide ((i:Int)<(l.length:Int))=true:=by simpa using hi
  have hw:=Ak hi hl'
  rcases hc with⟨rfl,h4,h5⟩|⟨h0,b,b',hne,h4,h5,hb,hb'⟩
  ·simp only[ai9]at hd
   (have hb:=trivial;with_reducible repeat' (first|simp only[hb,Va.down,seval,zP.down,h8,h9,h10,h4,h5,hd,hw,hx,iv]|refine Aj ?_ ?_<;>intro hb|refine fd ?_|fail))
   obtain rfl:p=[]:=ajY.1 hp
   obtain rfl:q=[]:=ajY.1 hq
   exact Ao (kJ _ _ ([Cc x],[Df x]) ⟨by simp[up,h8],by simp[up,h9],by simp[up],rfl,rfl,.inr ⟨by omega,h.length+1,h.length+3,by omega,by simp[up],by simp[up],by rw[Tz];rfl,by rw[Tz];rfl⟩⟩ (by simp))
  ·have hbl:b<h.length:=(ajB.1 hb).1
   have hbl':b'<h.length:=(ajB.1 hb').1
   have hA:=Ci hb
   have hS:=Nl hbl
   have hB':=pS (b:=b) .dead hne hb'
   have hS':=Nl (h:=h.set b .dead) (b:=b') (by rw[aeG];exact hbl')
   have hlp:0+i=p.length:=by omega
   have hlq:0+i=q.length:=by omega
   have hi39:(i+1≤549755813888)=True:=eq_true (by omega)
   have g1:=fun(l:Aa)=>bY (h:=h.set b .dead) (b:=b') .dead l
   have g2:=fun(l:Aa) (k:Nat)=>Ua (h:=h.set b .dead) (b:=b') .dead l k
   simp only[aeG]at g1 g2
   (have hb:=trivial;with_reducible repeat' (first|simp only[hb,Va.down,seval,zP.down,h8,h9,h10,h4,h5,hd,hw,hx,iv,hA,hS,hB',hS',bY,Ua,g1,g2,aeG,hp,hq,hi39]|refine Aj ?_ ?_<;>intro hb|refine fd ?_|fail))
   exact Ao (kJ _ _ (p++[Cc x],q++[Df x]) ⟨by simp[up,h8],by simp[up,h9],by simp[up],by simp[hp],by simp[hq],.inr ⟨by omega,h.length+1,h.length+3,by omega,by simp[up],by simp[up],by rw[g2];simp[iv,Cc],by rw[g2];simp[iv,Cc,Df]⟩⟩ (by simp))
 ·exact⟨by simp[up,Dh],by simp[up],by simp[up],rfl,rfl,.inl ⟨rfl,by simp[up],by simp[up]⟩⟩
 ·obtain⟨rfl,⟨rfl,h4,h5⟩|⟨hne,b,b',hbb,h4,h5,hb,hb'⟩⟩:=hk
  ·rw[c0 rfl]
   (have hb:=trivial;with_reducible repeat' (first|simp only[hb,Va.down,seval,zP.down,h4,h5]|refine Aj ?_ ?_<;>intro hb|refine fd ?_|fail))
  ·rw[c1 hne]
   have hz:(b=b')=False:=eq_false hbb
   (with_reducible repeat' (first|simp only[hb,Va.down,seval,zP.down,h4,h5,hb,hb',hz]|refine Aj ?_ ?_<;>intro hb|refine fd ?_|fail))
theorem bS{l:List Int}{nn:Bool}(hl:l.length≤1000)(hne:l≠[]):Bn.call (.fn 94) [Bj 1 true nn (l.map iv)] []=
 some (.ret (.tup [.slr 1 0 0 l.length,.slr 1 1 0 l.length]),[.live 1 true false ((l.map Cc).map iv),.live 1 true false ((l.map Df).map iv)]):=
 rC l nn hl _ _ (fun e=>(hne e).elim) (fun _=>rfl)
theorem fB{nn:Bool}:Bn.call (.fn 94) [Bj 1 true nn []] []=some (.ret (.tup [.nils,.nils]),[]):=
 rC [] nn (by simp) _ _ (fun _=>rfl) (fun e=>(e rfl).elim)
def Ui(x y:Int):Int:=IntKind.i64.wrap (x-y)
theorem agK{x y:Int}{rest l':List Int}{i:Nat}(hy:l'[i]?=some y)(p:List Int)(hp:p.length=i):(p++[Ui x y])++am4 Ui rest (l'.drop (p++[Ui x y]).length)=p++am4 Ui (x::rest) (l'.drop p.length):=by
 have hlt:i<l'.length:=(ajB.1 hy).1
 have hd:l'.drop i=y::l'.drop (i+1):=by
  rw[List.drop_eq_getElem_cons hlt]
  congr 1
  exact Option.some.inj ((ac5 hlt).symm.trans hy)
 rw[List.length_append,hp,hd]
 simp
theorem Oo(l l':List Int)(nn':Bool)(nn:Bool)(hl:l.length≤1000)(hll:l.length≤l'.length)(o:Dx)(h':Aa)(c0:l=[]→(o,h')=(.ret .nils,[]))(c1:l≠[]→(o,h')=(.ret (.slr 1 0 0 l.length),[.live 1 true false ((am4 Ui l l').map iv)])):
 Bn.call (.fn 95) [Bj 1 true nn (l.map iv),Bj 1 true nn' (l'.map iv)] []=some (o,h'):=by
 have hl':l.length≤maxLen:=by unfold maxLen;omega
 (refine ce Tryz.func95 ?_;simp only[Tryz.f95];(have hb:=trivial;with_reducible repeat' (first|simp only[hb,Va.down,seval,acS.down,acK]|refine Aj ?_ ?_<;>intro hb|refine fd ?_|fail)))
 refine Di (Rm 26 l (fun i (a:List Int) t h=>t 0=Bj 1 true nn (l.map iv)∧t 1=Bj 1 true nn' (l'.map iv)∧t 8=.int .i64 l.length∧t 9=.int .i64 i∧a.length=i∧((i=0∧t 5=.nils)∨(0<i∧∃b,t 5=.slr 1 b 0 i∧h[b]?=some (.live 1 true false (a.map iv)))))
  (fun rest a=>a++am4 Ui rest (l'.drop a.length)) (fun r e t h=>e=.exit 0∧((l=[]∧t 5=.nils)∨(l≠[]∧∃b,t 5=.slr 1 b 0 l.length∧h[b]?=some (.live 1 true false (r.map iv))))) ?_ ?_ [] _ _ ?_) (fun e t h hk=>?_)
 ·rintro p t h Q' kQ ⟨h0',h1',h8',hi',hp,hc⟩
  (have hb:=trivial;with_reducible repeat' (first|simp only[hb,Va.down,seval,acS.down,h0',h1',h8',hi',aaV,decide_false]|refine Aj ?_ ?_<;>intro hb|refine fd ?_|fail))
  refine kQ _ _ _ ⟨rfl,?_⟩
  rcases hc with⟨h0,ho⟩|⟨h0,b,ho,hb⟩
  ·exact .inl ⟨ajY.1 h0,by simp[up,ho]⟩
  ·exact .inr ⟨fun e=>by rw[e]at h0;simp at h0,b,by simp[up,ho],by simpa using hb⟩
 ·rintro x rest i p t h J Q' kJ kQ hx hi ⟨h0',h1',h8',hi',hp,hc⟩
  have hd:decide ((i:Int)<(l.length:Int))=true:=by simpa using hi
  have hw:=Ak hi hl'
  obtain⟨y,hy⟩:∃y,l'[i]?=some y:=⟨l'[i]'(by omega),ac5 _⟩
  have hF:=agK (x:=x) (rest:=rest) hy
  rcases hc with⟨rfl,ho⟩|⟨h0,b,ho,hb⟩
  ·simp only[ai9]at hd
   (have hb:=trivial;with_reducible repeat' (first|simp only[hb,Va.down,seval,acS.down,h0',h1',h8',hi',ho,hd,hw,hx,iv,hy]|refine Aj ?_ ?_<;>intro hb|refine fd ?_|fail))
   obtain rfl:p=[]:=ajY.1 hp
   exact Ao (kJ _ _ [Ui x y] ⟨by simp[up,h0'],by simp[up,h1'],by simp[up,h8'],by simp[up],rfl,.inr ⟨by omega,h.length+1,by simp[up],by rw[Tz];simp[iv,Ui]⟩⟩ (by exact hF _ hp))
  ·have hbl:b<h.length:=(ajB.1 hb).1
   have hA:=Ci hb
   have hS:=Nl hbl
   have hlp:0+i=p.length:=by omega
   have hi39:(i+1≤549755813888)=True:=eq_true (by omega)
   (have hb:=trivial;with_reducible repeat' (first|simp only[hb,Va.down,seval,acS.down,h0',h1',h8',hi',ho,hd,hw,hx,iv,hA,hS,bY,Ua,aeG,hp,hi39,hy]|refine Aj ?_ ?_<;>intro hb|refine fd ?_|fail))
   exact Ao (kJ _ _ (p++[Ui x y]) ⟨by simp[up,h0'],by simp[up,h1'],by simp[up,h8'],by simp[up],by simp[hp],.inr ⟨by omega,h.length+1,by simp[up],by rw[Ua];simp[iv,Ui]⟩⟩ (by exact hF _ hp))
 ·exact⟨by simp[up,Dh],by simp[up,Dh],by simp[up],by simp[up],rfl,.inl ⟨rfl,by simp[up]⟩⟩
 ·obtain⟨rfl,⟨hnil,ho⟩|⟨hne,b,ho,hb⟩⟩:=hk
  ·rw[c0 hnil]
   (have hb:=trivial;with_reducible repeat' (first|simp only[hb,Va.down,seval,acS.down,ho]|refine Aj ?_ ?_<;>intro hb|refine fd ?_|fail))
  ·rw[c1 hne]
   (with_reducible repeat' (first|simp only[hb,Va.down,seval,acS.down,ho,hb]|refine Aj ?_ ?_<;>intro hb|refine fd ?_|fail))
def Ax:List Int→Int→Int
 | [],a=>a
 |x::l,a=>Ax l (IntKind.i64.wrap (a+x))
theorem Ym{l:List Int}{nn:Bool}(hl:l.length≤maxLen):Bn.call (.fn 124) [Bj 1 true nn (l.map iv)] []=some (.ret (.int .i64 (Ax l 0)),[]):=by
 (refine ce Tryz.func124 ?_;simp only[Tryz.f124];(have hb:=trivial;with_reducible repeat' (first|simp only[hb,Va.down,seval,xN.down,acK]|refine Aj ?_ ?_<;>intro hb|refine fd ?_|fail)))
 refine Di (Rm 17 l (fun i (s:Int) t h=>t 6=Bj 1 true nn (l.map iv)∧t 7=.int .i64 l.length∧t 8=.int .i64 i∧t 3=.int .i64 s)
  (fun rest s=>Ax rest s) (fun r e t h=>e=.exit 0∧t 3=.int .i64 r) ?_ ?_ 0 _ _ ?_) (fun e t h hk=>?_)
 ·rintro s t h Q' kQ ⟨h6,h7,h8,h3⟩
  (have hb:=trivial;with_reducible repeat' (first|simp only[hb,Va.down,seval,xN.down,h6,h7,h8,h3,aaV,decide_false]|refine Aj ?_ ?_<;>intro hb|refine fd ?_|fail))
  exact kQ _ _ _ ⟨rfl,by simp[up,h3,Ax]⟩
 ·rintro x rest i s t h J Q' kJ kQ hx hi ⟨h6,h7,h8,h3⟩
  have hd:decide ((i:Int)<(l.length:Int))=true:=by simpa using hi
  have hw:=Ak hi hl
  (have hb:=trivial;with_reducible repeat' (first|simp only[hb,Va.down,seval,xN.down,h6,h7,h8,h3,hd,hx,iv,hw]|refine Aj ?_ ?_<;>intro hb|refine fd ?_|fail))
  exact Ao (kJ _ _ (IntKind.i64.wrap (s+x)) ⟨by simp[up,h6],by simp[up,h7],by simp[up],by simp[up]⟩ rfl)
 ·exact⟨by simp[up,Dh],by simp[up],by simp[up],by simp[up]⟩
 ·obtain⟨rfl,h3⟩:=hk
  (have hb:=trivial;with_reducible repeat' (first|simp only[hb,Va.down,seval,xN.down,h3]|refine Aj ?_ ?_<;>intro hb|refine fd ?_|fail))
def Eu(amount whole so got:Int):Int:=if 0<whole then IntKind.i64.wrap (IntKind.i64.wrap ((IntKind.i64.wrap (amount*so)).tdiv whole)-got)else 0
def Dj(amount whole:Int):List Int→Int→Int→List Int
 | [],_,_=>[]
 |w::rest,so,got=>Eu amount whole (IntKind.i64.wrap (so+w)) got::Dj amount whole rest (IntKind.i64.wrap (so+w)) (IntKind.i64.wrap (got+Eu amount whole (IntKind.i64.wrap (so+w)) got))
end Go.Proofs.YtdbiogihimdpcaaGreatDoor
