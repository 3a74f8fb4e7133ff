/- The functions of the layer, walked. -/
import Derived.Test.YtdbiogihimdpcaaGreatDoorPartAA
open Bool renaming not_true→aaE,not_false→abH,not_eq_eq_eq_not→ab1,and_eq_true→acM,true_and→acZ,or_eq_true→adA,not_eq_true'→adF,and_eq_false_iff→adI,or_eq_false_iff→adJ,not_not→adL,and_false→adN,false_and→adO,and_true→adP,and_self→aiK,not_eq_true→anP,eq_false_iff→anS
open Int renaming lt_irrefl→abI,natCast_zero→ajR,le_refl→ajV,toNat_zero→anO
open List renaming length_map→acT,getElem?_eq_getElem→adK,length_set→adM,all_cons→ai4,all_nil→ajQ,length_pos_iff→ajS,getElem?_eq_some_iff→ajT,length_eq_zero_iff→ajU,mem_of_getElem?→alB,zipWith→anN,head?_eq_getElem?→anV,all_eq_not_any_not→anY
set_option linter.unusedSimpArgs false
set_option linter.unusedVariables false
namespace Go.Proofs.YtdbiogihimdpcaaGreatDoor
open Go.Ev Go
set_option maxRecDepth 100000
set_option maxHeartbeats 16000000
theorem vQ(c:Ag)(hl:c.rates.length≤maxLen):Bo.call (.fn 44) [.agg [.bool c.firm,.int .i64 c.space,.int .i64 c.lo,.int .i64 c.hi,Bj 3 true c.nn (c.rates.map Bh.cells),.int .i64 c.gas,.int .i64 c.fixed,.int .i64 c.inn,.int .i64 c.out,.int .i64 c.cut,.int .i64 c.lack]] []=some (.ret (.bool (Hj c)),[]):=by
 (refine ce Tryz.func44 ?_;simp only[Tryz.f44];(have hb:=trivial;with_reducible repeat' (first|simp only[hb,Va.down,seval,abK.down,hQ,amK,amC]|refine Aj ?_ ?_<;>intro hb|refine fd ?_|fail)))
 all_goals first|(refine congrArg (fun b=>(Ec.ret (AV.bool b),([]:Aa))) ?_;symm;((try simp only[ab1,aaE,abH]at *);simp only[Hj, *,adN,adO,adP,acZ,aiK,adL,aaE,abH,ai4,ajQ]))|skip
 refine Dk (Sr 135 c.rates (fun i (s:Option Bh) t h=>(i=0∧s=none∨0<i∧s=c.rates[i-1]?)∧h[0]?=some (.live 11 false false [[.bool c.firm,.int .i64 c.space,.int .i64 c.lo,.int .i64 c.hi,Bj 3 true c.nn (c.rates.map Bh.cells),.int .i64 c.gas,.int .i64 c.fixed,.int .i64 c.inn,.int .i64 c.out,.int .i64 c.cut,.int .i64 c.lack]])∧t 1=.ptr 0 0 0∧t 3=.int .i64 i)
  (fun rest s=>It rest s) (fun r e t h=>if r=true then e=.exit 0 else e=.ret∧t 2=.bool false) ?_ ?_ none _ _ ?_) (fun e t h hk=>?_)
 ·rintro s t h Q' kQ ⟨hs,hh,h1,h3⟩
  (have hb:=trivial;with_reducible repeat' (first|simp only[hb,Va.down,seval,abK.down,hh,h1,h3,abI,decide_false]|refine Aj ?_ ?_<;>intro hb|refine fd ?_|fail))
  exact kQ _ _ _ (by simp[It])
 ·rintro x rest i s t h J Q' kJ kQ hx hi ⟨hs,hh,h1,h3⟩
  have hd:decide ((i:Int)<(c.rates.length:Int))=true:=by simpa using hi
  have hA:=Bv hh
  have kF:∀{p:Option Bh},Rm p x=false→It (x::rest) p=false:=fun h=>by simp[It,h]
  have kT:∀{p:Option Bh},Rm p x=true→It rest (some x)=It (x::rest) p:=fun h=>by simp[It,h]
  have hw:=Ak hi hl
  rcases hs with⟨rfl,rfl⟩|⟨hpos,rfl⟩
  ·simp only[ajR,Int.zero_add]at hd h3 hw
   (have hb:=trivial;with_reducible repeat' (first|simp only[hb,Va.down,seval,abK.down,hA,hh,h1,h3,hd,hx,Bh.cells,hQ,yX,hw,anO,ajV,beq_self_eq_true,abI,decide_false]|refine Aj ?_ ?_<;>intro hb|refine fd ?_|fail))
   all_goals first
    |exact kQ _ _ _ (by rw[if_neg (by rw[kF (by(rw[anS];intro hcon;simp only[Rm,Gg,acM,adA,adF,adI,adJ,decide_eq_true_eq,decide_eq_false_iff_not,beq_iff_eq,beq_eq_false_iff_ne,ne_eq,ab1,aaE,abH]at *;omega))];simp)];exact⟨rfl,rfl⟩)
    |exact Aq (kJ _ _ (some x) ⟨.inr ⟨by omega,by simp[hx]⟩,hA _,by simp[up,h1],by simp[up]<;>omega⟩ (kT (by(simp only[Rm,Gg,acM,adA,adF,adI,adJ,decide_eq_true_eq,decide_eq_false_iff_not,beq_iff_eq,beq_eq_false_iff_ne,ne_eq,ab1,aaE,abH]at *;omega))))
  ·obtain⟨j,rfl⟩:∃j,i=j+1:=⟨i-1,by omega⟩
   obtain⟨q,hq⟩:∃q,c.rates[j]?=some q:=⟨c.rates[j],adK (by omega)⟩
   have hj:IntKind.i64.wrap (((j+1:Nat):Int)-1)=(j:Int):=by unfold maxLen at hl;rw[Ae (by omega) (by omega)];omega
   have hz:(((j+1:Nat):Int)==0)=false:=by rw[beq_eq_false_iff_ne];omega
   have hg:decide (0<((j+1:Nat):Int))=true:=by rw[decide_eq_true_eq];omega
   simp only[Nat.add_sub_cancel,hq]at kJ kQ
   (have hb:=trivial;with_reducible repeat' (first|simp only[hb,Va.down,seval,abK.down,hA,hh,h1,h3,hd,hx,Bh.cells,hQ,yX,hw,hj,hz,hg,hq]|refine Aj ?_ ?_<;>intro hb|refine fd ?_|fail))
   all_goals first
    |exact kQ _ _ _ (by rw[if_neg (by rw[kF (by(rw[anS];intro hcon;simp only[Rm,Gg,acM,adA,adF,adI,adJ,decide_eq_true_eq,decide_eq_false_iff_not,beq_iff_eq,beq_eq_false_iff_ne,ne_eq,ab1,aaE,abH]at *;omega))];simp)];exact⟨rfl,rfl⟩)
    |exact Aq (kJ _ _ (some x) ⟨.inr ⟨by omega,by simp[hx]⟩,hA _,by simp[up,h1],by simp[up]<;>omega⟩ (kT (by(simp only[Rm,Gg,acM,adA,adF,adI,adJ,decide_eq_true_eq,decide_eq_false_iff_not,beq_iff_eq,beq_eq_false_iff_ne,ne_eq,ab1,aaE,abH]at *;omega))))
 ·exact⟨.inl ⟨rfl,rfl⟩,rfl,by simp[up],by simp[up]⟩
 ·split at hk
  ·subst hk
   rename_i hr
   (have hb:=trivial;with_reducible repeat' (first|simp only[hb,Va.down,seval,abK.down]|refine Aj ?_ ?_<;>intro hb|refine fd ?_|fail))
   all_goals (refine congrArg (fun b=>(Ec.ret (AV.bool b),([]:Aa))) ?_;symm;((try simp only[ab1,aaE,abH]at *);simp only[Hj, *,adN,adO,adP,acZ,aiK,adL,aaE,abH,ai4,ajQ]))
  ·obtain⟨rfl,h2⟩:=hk
   rename_i hr
   (have hb:=trivial;with_reducible repeat' (first|simp only[hb,Va.down,seval,abK.down,h2]|refine Aj ?_ ?_<;>intro hb|refine fd ?_|fail))
   all_goals simp[Hj,hr]
def lD(hour:Int)(c:Ag)(a:Int × Int):Int × Int:=if(c.firm&&Gg hour c.lo c.hi)=true then(IntKind.i64.wrap (a.1+(c.rates.head?.map Bh.inn).getD 0),IntKind.i64.wrap (a.2+(c.rates.getLast?.map Bh.out).getD 0))else a
def Pn(hour:Int):List Ag→Int × Int→Int × Int
 | [],a=>a
 |c::l,a=>Pn hour l (lD hour c a)
def Ji:List Ag→Int→Int
 | [],a=>a
 |c::l,a=>Ji l (IntKind.i64.wrap (a+c.space))
theorem xY{α:Type}{l:List α}(h:l≠[]):∃x,l[l.length-1]?=some x∧l.getLast?=some x:=by
 have hl:0<l.length:=ajS.2 h
 refine⟨l[l.length-1],adK (by omega),?_⟩
 rw[List.getLast?_eq_getElem?]
 exact adK (by omega)
theorem ae5{l:List Ag}{nn:Bool}(hl:l.length≤maxLen):Bo.call (.fn 67) [Bj 11 false nn (l.map Ag.cells)] []=some (.ret (.int .i64 (Ji l 0)),[]):=by
 (refine ce Tryz.func67 ?_;simp only[Tryz.f67];(have hb:=trivial;with_reducible repeat' (first|simp only[hb,Va.down,seval,akG.down,acT]|refine Aj ?_ ?_<;>intro hb|refine fd ?_|fail)))
 refine Dk (Sr 18 l (fun i (s:Int) t h=>t 6=Bj 11 false nn (l.map Ag.cells)∧t 7=.int .i64 l.length∧t 8=.int .i64 i∧t 3=.int .i64 s)
  (fun rest s=>Ji rest s) (fun r e t h=>e=.exit 0∧t 3=.int .i64 r) ?_ ?_ 0 _ _ ?_) (fun e t h hk=>?_)
 ·rintro s t h Q' kQ ⟨h6,h7,h8,h3⟩
  (have hb:=trivial;with_reducible repeat' (first|simp only[hb,Va.down,seval,akG.down,h6,h7,h8,h3,abI,decide_false]|refine Aj ?_ ?_<;>intro hb|refine fd ?_|fail))
  exact kQ _ _ _ ⟨rfl,by simp[up,h3,Ji]⟩
 ·rintro x rest i s t h J Q' kJ kQ hx hi ⟨h6,h7,h8,h3⟩
  have hd:decide ((i:Int)<(l.length:Int))=true:=by simpa using hi
  have hw:=Ak hi hl
  (have hb:=trivial;with_reducible repeat' (first|simp only[hb,Va.down,seval,akG.down,h6,h7,h8,h3,hd,hx,Ag.cells,hw]|refine Aj ?_ ?_<;>intro hb|refine fd ?_|fail))
  exact Aq (kJ _ _ (IntKind.i64.wrap (s+x.space)) ⟨by simp[up,h6],by simp[up,h7],by simp[up],by simp[up]⟩ rfl)
 ·exact⟨by simp[up,Dn],by simp[up],by simp[up],by simp[up]⟩
 ·obtain⟨rfl,h3⟩:=hk
  (have hb:=trivial;with_reducible repeat' (first|simp only[hb,Va.down,seval,akG.down,h3]|refine Aj ?_ ?_<;>intro hb|refine fd ?_|fail))
theorem afL{l:List Ag}{nn:Bool}(hour:Int)(hl:l.length≤maxLen)(hr:∀c∈l,c.rates≠[]∧c.rates.length≤6):Bo.call (.fn 68) [Bj 11 false nn (l.map Ag.cells),.int .i64 hour] []=some (.ret (.tup [.int .i64 (Pn hour l (0,0)).1,.int .i64 (Pn hour l (0,0)).2]),[]):=by
 (refine ce Tryz.func68 ?_;simp only[Tryz.f68];(have hb:=trivial;with_reducible repeat' (first|simp only[hb,Va.down,seval,al9.down,acT]|refine Aj ?_ ?_<;>intro hb|refine fd ?_|fail)))
 refine Dk (Sr 44 l (fun i (s:Int × Int) t h=>t 1=.int .i64 hour∧t 10=Bj 11 false nn (l.map Ag.cells)∧t 11=.int .i64 l.length∧t 12=.int .i64 i∧t 6=.int .i64 s.1∧t 7=.int .i64 s.2)
  (fun rest s=>Pn hour rest s) (fun r e t h=>e=.exit 0∧t 6=.int .i64 r.1∧t 7=.int .i64 r.2) ?_ ?_ (0,0) _ _ ?_) (fun e t h hk=>?_)
 ·rintro s t h Q' kQ ⟨h1,h10,h11,h12,h6,h7⟩
  (have hb:=trivial;with_reducible repeat' (first|simp only[hb,Va.down,seval,al9.down,h10,h11,h12,abI,decide_false]|refine Aj ?_ ?_<;>intro hb|refine fd ?_|fail))
  exact kQ _ _ _ ⟨rfl,by simp[up,h6,Pn],by simp[up,h7,Pn]⟩
 ·rintro x rest i s t h J Q' kJ kQ hx hi ⟨h1,h10,h11,h12,h6,h7⟩
  have hd:decide ((i:Int)<(l.length:Int))=true:=by simpa using hi
  have hw:=Ak hi hl
  obtain⟨hne,h6r⟩:=hr x (alB hx)
  obtain⟨q,hq1,hq2⟩:=xY hne
  obtain⟨r0,hr0⟩:∃r0,x.rates[0]?=some r0:=⟨x.rates[0]'(ajS.2 hne),adK _⟩
  have hlast:IntKind.i64.wrap ((x.rates.length:Int)-1)=((x.rates.length-1:Nat):Int):=by
   have:=ajS.2 hne
   rw[Ae (by omega) (by omega)];omega
  have hh0:x.rates.head?=some r0:=by rw[anV];exact hr0
  (have hb:=trivial;with_reducible repeat' (first|simp only[hb,Va.down,seval,al9.down,h1,h10,h11,h12,h6,h7,hd,hx,Ag.cells,Bh.cells,hw,sL,hlast,hq1,hr0,ajV,anO]|refine Aj ?_ ?_<;>intro hb|refine fd ?_|fail))
  all_goals exact Aq (kJ _ _ (lD hour x s) ⟨by simp[up,h1],by simp[up,h10],by simp[up,h11],by simp[up],by simp[up,lD, *],by simp[up,lD, *]⟩ rfl)
 ·exact⟨by simp[up,Dn],by simp[up,Dn],by simp[up],by simp[up],by simp[up],by simp[up]⟩
 ·obtain⟨rfl,h6,h7⟩:=hk
  (have hb:=trivial;with_reducible repeat' (first|simp only[hb,Va.down,seval,al9.down,h6,h7]|refine Aj ?_ ?_<;>intro hb|refine fd ?_|fail))
def iY(l:List Ag):Prop:=∀c∈l,c.rates≠[]∧c.rates.length≤6
theorem apC{l:List Ag}{nn:Bool}(hour:Int)(hl:l.length≤maxLen)(hr:iY l):Bo.call (.fn 69) [Bj 11 false nn (l.map Ag.cells),.int .i64 hour] []=some (.ret (.agg [.int .i64 (Ji l 0),.int .i64 (Pn hour l (0,0)).1,.int .i64 (Pn hour l (0,0)).2]),[]):=by
 (refine ce Tryz.func69 ?_;simp only[Tryz.f69];(have hb:=trivial;with_reducible repeat' (first|simp only[hb,Va.down,seval,amU.down,acT]|refine Aj ?_ ?_<;>intro hb|refine fd ?_|fail)))
 refine Dk (Sr 67 l (fun i (s:Bool × Int × Int × Int) t h=>h=[.live 3 true false [[.int .i64 0,.int .i64 0,.int .i64 0]],.live 3 true s.1 [[.int .i64 s.2.1,.int .i64 s.2.2.1,.int .i64 s.2.2.2]]]∧t 0=Bj 11 false nn (l.map Ag.cells)∧t 1=.int .i64 hour∧t 4=.ptr 0 0 0∧t 5=.ptr 1 0 0∧t 6=.int .i64 i)
  (fun rest s=>(Ji rest s.2.1,Pn hour rest s.2.2)) (fun r e t h=>e=.exit 0∧(∃w,h=[.live 3 true false [[.int .i64 0,.int .i64 0,.int .i64 0]],.live 3 true w [[.int .i64 r.1,.int .i64 r.2.1,.int .i64 r.2.2]]])∧t 4=.ptr 0 0 0∧t 5=.ptr 1 0 0) ?_ ?_ (false,0,0,0) _ _ ?_) (fun e t h hk=>?_)
 ·rintro⟨w,a,b,c⟩ t h Q' kQ ⟨rfl,h0,h1,h4,h5,h6⟩
  (have hb:=trivial;with_reducible repeat' (first|simp only[hb,Va.down,seval,amU.down,h0,h6,abI,decide_false]|refine Aj ?_ ?_<;>intro hb|refine fd ?_|fail))
  exact kQ _ _ _ ⟨rfl,⟨w,by simp[Ji,Pn]⟩,by simp[up,h4],by simp[up,h5]⟩
 ·rintro x rest i ⟨w,a,b,c⟩ t h J Q' kJ kQ hx hi ⟨rfl,h0,h1,h4,h5,h6⟩
  have hd:decide ((i:Int)<(l.length:Int))=true:=by simpa using hi
  have hw:=Ak hi hl
  obtain⟨hne,h6r⟩:=hr x (alB hx)
  obtain⟨q,hq1,hq2⟩:=xY hne
  obtain⟨r0,hr0⟩:∃r0,x.rates[0]?=some r0:=⟨x.rates[0]'(ajS.2 hne),adK _⟩
  have hlast:IntKind.i64.wrap ((x.rates.length:Int)-1)=((x.rates.length-1:Nat):Int):=by
   have:=ajS.2 hne
   rw[Ae (by omega) (by omega)];omega
  have hh0:x.rates.head?=some r0:=by rw[anV];exact hr0
  (have hb:=trivial;with_reducible repeat' (first|simp only[hb,Va.down,seval,amU.down,h0,h1,h4,h5,h6,hd,hx,Ag.cells,Bh.cells,hw,aiN,hlast,hq1,hr0,ajV,anO]|refine Aj ?_ ?_<;>intro hb|refine fd ?_|fail))
  all_goals exact Aq (kJ _ _ (true,IntKind.i64.wrap (a+x.space),lD hour x (b,c)) ⟨by simp[lD, *],by simp[up,h0],by simp[up,h1],by simp[up,h4],by simp[up,h5],by simp[up]⟩ rfl)
 ·exact⟨rfl,by simp[up,Dn],by simp[up,Dn],by simp[up],by simp[up],by simp[up]⟩
 ·obtain⟨rfl,⟨w,rfl⟩,h4,h5⟩:=hk
  (have hb:=trivial;with_reducible repeat' (first|simp only[hb,Va.down,seval,amU.down,h4,h5]|refine Aj ?_ ?_<;>intro hb|refine fd ?_|fail))
def Jd(p:Int→Bool):Nat→Bool
 |0=>true
 |n+1=>p (48-((n+1:Nat):Int))&&Jd p n
def okH(s:Ac)(l:List Ag)(h:Int):Bool:=decide ((Pn h l (0,0)).1≤s.inn)&&decide ((Pn h l (0,0)).2≤s.out)
def fO(s:Ac)(l:List Ag):Bool:=Jd (okH s l) 48&&decide (Ji l 0≤s.space)
theorem jO(a:Bool)(p:Int→Bool):∀n,Jd (fun h=>a&&p h) (n+1)=(Jd p (n+1)&&a)
 |0=>by simp[Jd,Bool.and_comm]
 |n+1=>by
  rw[Jd,jO a p n]
  conv=>rhs;rw[Jd]
  cases a<;>simp
theorem ar1(s:Ac)(hl:s.cons.length≤maxLen)(hr:iY s.cons):Bo.call (.fn 87) [.agg s.cells] []=some (.ret (.bool (fO s s.cons)),[]):=by
 have hs:=fun(h:Int)=>afL (nn:=s.nn) h hl hr
 have hp:=ae5 (nn:=s.nn) hl
 (refine ce Tryz.func87 ?_;simp only[Tryz.f87];(have hb:=trivial;with_reducible repeat' (first|simp only[hb,Va.down,seval,ai2.down]|refine Aj ?_ ?_<;>intro hb|refine fd ?_|fail)))
 refine Dk (cnt 33 (fun n (_:Unit) t h=>n≤48∧h[0]?=some (.live 6 false false [s.cells])∧t 1=.ptr 0 0 0∧t 6=.int .i64 (48-n))
  (fun n _=>Jd (okH s s.cons) n) (fun r e t h=>if r=true then e=.exit 0∧h[0]?=some (.live 6 false false [s.cells])∧t 1=.ptr 0 0 0 else e=.ret∧t 2=.bool false) ?_ ?_ 48 () _ _ ?_) (fun e t h hk=>?_)
 ·rintro _ t h Q' kQ ⟨_,hh,h1,h6⟩
  (have hb:=trivial;with_reducible repeat' (first|simp only[hb,Va.down,seval,ai2.down,h1,h6,ajR,Int.sub_zero,abI,decide_false]|refine Aj ?_ ?_<;>intro hb|refine fd ?_|fail))
  exact kQ _ _ _ (by simp[Jd,hh,up,h1])
 ·rintro n _ t h J Q' kJ kQ ⟨hn,hh,h1,h6⟩
  have hd:decide ((48:Int)-((n+1:Nat):Int)<48)=true:=by rw[decide_eq_true_eq];omega
  have hw:IntKind.i64.wrap ((48:Int)-((n+1:Nat):Int)+1)=48-(n:Int):=by rw[Ae (by omega) (by omega)];omega
  (have hb:=trivial;with_reducible repeat' (first|simp only[hb,Va.down,seval,ai2.down,hh,h1,h6,hd,hw,hs]|refine Aj ?_ ?_<;>intro hb|refine fd ?_|fail))
  all_goals first
   |exact kQ _ _ _ (by rw[if_neg (by intro hcon;(simp only[Jd,okH,acM,adA,adF,adI,adJ,decide_eq_true_eq,decide_eq_false_iff_not,beq_iff_eq,beq_eq_false_iff_ne,ne_eq,ab1,aaE,abH]at *;omega))];exact⟨rfl,rfl⟩)
   |exact Aq (kJ _ _ () ⟨by omega,hh,by simp[up,h1],by simp[up]⟩ (by
     have:okH s s.cons (48-((n+1:Nat):Int))=true:=by(simp only[okH,acM,adA,adF,adI,adJ,decide_eq_true_eq,decide_eq_false_iff_not,beq_iff_eq,beq_eq_false_iff_ne,ne_eq,ab1,aaE,abH]at *;omega)
     simp only[Jd,this,acZ]))
 ·exact⟨by omega,rfl,by simp[up],by simp[up]⟩
 ·split at hk
  ·obtain⟨rfl,hh,h1⟩:=hk
   rename_i hr'
   (have hb:=trivial;with_reducible repeat' (first|simp only[hb,Va.down,seval,ai2.down,hh,h1,hp]|refine Aj ?_ ?_<;>intro hb|refine fd ?_|fail))
   all_goals simp[fO,hr']
  ·obtain⟨rfl,h2⟩:=hk
   rename_i hr'
   (have hb:=trivial;with_reducible repeat' (first|simp only[hb,Va.down,seval,ai2.down,h2]|refine Aj ?_ ?_<;>intro hb|refine fd ?_|fail))
   all_goals simp[fO,hr']
theorem jW{l:List Ag}(h:l.all Hj=true):iY l:=fun c hc=>by
 have:=List.all_eq_true.1 h c hc
 simp only[Hj,Gg,acM,decide_eq_true_eq]at this
 obtain⟨⟨⟨_,h1,h2⟩,_⟩,_⟩:=this
 refine⟨fun e=>?_,by omega⟩
 rw[e]at h1;simp at h1
theorem ao8(s:Ac)(l:List Ag)(nn:Bool)(hl:l.length≤maxLen)(hr:iY l):Bo.call (.fn 56) [.agg s.cells,Bj 11 false nn (l.map Ag.cells)] []=some (.ret (.bool (fO s l)),[]):=by
 have hs:=fun(h:Int)=>apC (nn:=nn) h hl hr
 (refine ce Tryz.func56 ?_;simp only[Tryz.f56];(have hb:=trivial;with_reducible repeat' (first|simp only[hb,Va.down,seval,ahW.down]|refine Aj ?_ ?_<;>intro hb|refine fd ?_|fail)))
 refine Dk (cnt 33 (fun n (_:Unit) t h=>n≤48∧h[0]?=some (.live 6 false false [s.cells])∧t 1=Bj 11 false nn (l.map Ag.cells)∧t 2=.ptr 0 0 0∧t 5=.int .i64 (48-n))
  (fun n _=>Jd (fun h=>decide (Ji l 0≤s.space)&&okH s l h) n) (fun r e t h=>if r=true then e=.exit 0 else e=.ret∧t 4=.bool false) ?_ ?_ 48 () _ _ ?_) (fun e t h hk=>?_)
 ·rintro _ t h Q' kQ ⟨_,hh,h1,h2,h5⟩
  (have hb:=trivial;with_reducible repeat' (first|simp only[hb,Va.down,seval,ahW.down,h5,ajR,Int.sub_zero,abI,decide_false]|refine Aj ?_ ?_<;>intro hb|refine fd ?_|fail))
  exact kQ _ _ _ (by simp[Jd])
 ·rintro n _ t h J Q' kJ kQ ⟨hn,hh,h1,h2,h5⟩
  have hd:decide ((48:Int)-((n+1:Nat):Int)<48)=true:=by rw[decide_eq_true_eq];omega
  have hw:IntKind.i64.wrap ((48:Int)-((n+1:Nat):Int)+1)=48-(n:Int):=by rw[Ae (by omega) (by omega)];omega
  have hA:=Bv hh
  (have hb:=trivial;with_reducible repeat' (first|simp only[hb,Va.down,seval,ahW.down,hA,hh,h1,h2,h5,hd,hw,hs]|refine Aj ?_ ?_<;>intro hb|refine fd ?_|fail))
  all_goals first
   |exact kQ _ _ _ (by rw[if_neg (by intro hcon;(simp only[Jd,okH,acM,adA,adF,adI,adJ,decide_eq_true_eq,decide_eq_false_iff_not,beq_iff_eq,beq_eq_false_iff_ne,ne_eq,ab1,aaE,abH]at *;omega))];exact⟨rfl,rfl⟩)
   |exact Aq (kJ _ _ () ⟨by omega,hA _,by simp[up,h1],by simp[up,h2],by simp[up]⟩ (by
     have:(decide (Ji l 0≤s.space)&&okH s l (48-((n+1:Nat):Int)))=true:=by(simp only[okH,acM,adA,adF,adI,adJ,decide_eq_true_eq,decide_eq_false_iff_not,beq_iff_eq,beq_eq_false_iff_ne,ne_eq,ab1,aaE,abH]at *;omega)
     simp only[Jd,this,acZ]))
 ·exact⟨by omega,rfl,by simp[up,Dn],by simp[up],by simp[up]⟩
 ·have he:fO s l=Jd (fun h=>decide (Ji l 0≤s.space)&&okH s l h) 48:=by rw[jO];rfl
  split at hk
  ·subst hk
   rename_i hr'
   (have hb:=trivial;with_reducible repeat' (first|simp only[hb,Va.down,seval,ahW.down]|refine Aj ?_ ?_<;>intro hb|refine fd ?_|fail))
   all_goals simp[he,hr']
  ·obtain⟨rfl,h2⟩:=hk
   rename_i hr'
   (have hb:=trivial;with_reducible repeat' (first|simp only[hb,Va.down,seval,ahW.down,h2]|refine Aj ?_ ?_<;>intro hb|refine fd ?_|fail))
   all_goals simp[he,hr']
theorem aiA{l:List Ag}{nn:Bool}(hl:l.length≤maxLen)(hr:∀c∈l,c.rates.length≤maxLen):Bo.call (.fn 55) [Bj 11 false nn (l.map Ag.cells)] []=some (.ret (.bool (l.all Hj)),[]):=by
 (refine ce Tryz.func55 ?_;simp only[Tryz.f55];(have hb:=trivial;with_reducible repeat' (first|simp only[hb,Va.down,seval,aeB.down,acT]|refine Aj ?_ ?_<;>intro hb|refine fd ?_|fail)))
 refine Dk (Sr 16 l (fun i (_:Unit) t h=>t 0=Bj 11 false nn (l.map Ag.cells)∧t 3=.int .i64 i)
  (fun rest _=>rest.all Hj) (fun r e t h=>if r=true then e=.exit 0 else e=.ret∧t 2=.bool false) ?_ ?_ () _ _ ?_) (fun e t h hk=>?_)
 ·rintro _ t h Q' kQ ⟨h0,h3⟩
  (have hb:=trivial;with_reducible repeat' (first|simp only[hb,Va.down,seval,aeB.down,h0,h3,abI,decide_false]|refine Aj ?_ ?_<;>intro hb|refine fd ?_|fail))
  exact kQ _ _ _ (by simp)
 ·rintro x rest i _ t h J Q' kJ kQ hx hi ⟨h0,h3⟩
  have hd:decide ((i:Int)<(l.length:Int))=true:=by simpa using hi
  have hw:=Ak hi hl
  have hc:=vQ x (hr x (alB hx))
  (have hb:=trivial;with_reducible repeat' (first|simp only[hb,Va.down,seval,aeB.down,h0,h3,hd,hx,Ag.cells,hw,hc]|refine Aj ?_ ?_<;>intro hb|refine fd ?_|fail))
  ·exact kQ _ _ _ (by rw[if_neg (by simp at hb;simp[hb])];exact⟨rfl,rfl⟩)
  ·exact Aq (kJ _ _ () ⟨by simp[up,h0],by simp[up]⟩ (by simp at hb;simp[hb]))
 ·exact⟨by simp[up,Dn],by simp[up]⟩
 ·split at hk
  ·subst hk
   rename_i hr'
   (have hb:=trivial;with_reducible repeat' (first|simp only[hb,Va.down,seval,aeB.down]|refine Aj ?_ ?_<;>intro hb|refine fd ?_|fail))
   all_goals simp[hr']
  ·obtain⟨rfl,h2⟩:=hk
   rename_i hr'
   (have hb:=trivial;with_reducible repeat' (first|simp only[hb,Va.down,seval,aeB.down,h2]|refine Aj ?_ ?_<;>intro hb|refine fd ?_|fail))
   all_goals (rw[anP]at hr';rw[hr'])
structure Ac.small(s:Ac):Prop where
 cons:s.cons.length≤maxLen
 rates:∀c∈s.cons,c.rates.length≤maxLen
def Ek(s:Ac):Bool:=([s.space,s.inn,s.out].all fun x=>Gg x 0 800000000)&&Gg s.lead 0 48&&Gg s.fuel 0 1000&&decide (s.cons.length≤8)&&s.cons.all Hj&&fO s s.cons
theorem adQ(c:Ag)(hl:c.rates.length≤maxLen):Bo.call (.fn 91) [.agg [.bool c.firm,.int .i64 c.space,.int .i64 c.lo,.int .i64 c.hi,Bj 3 true c.nn (c.rates.map Bh.cells),.int .i64 c.gas,.int .i64 c.fixed,.int .i64 c.inn,.int .i64 c.out,.int .i64 c.cut,.int .i64 c.lack]] []=some (.ret (.bool (!Hj c)),[]):=by
 (refine ce Tryz.func91 ?_;simp only[Tryz.f91];(have hb:=trivial;with_reducible repeat' (first|simp only[hb,Va.down,seval,ax0.down,xF c hl]|refine Aj ?_ ?_<;>intro hb|refine fd ?_|fail)))
theorem zN(s:Ac)(hs:s.small):Bo.call (.fn 49) [.agg s.cells] []=some (.ret (.bool (Ek s)),[]):=by
 have hg:=xX (l:=[s.space,s.inn,s.out]) (nn:=true) (by simp[maxLen])
 simp only[List.map_cons,List.map_nil,iv,mC]at hg
 have hc:=aaY (l:=s.cons) (nn:=s.nn) (g:=91) (cap:=[]) (p:=fun c=> !Hj c) rfl rfl (fun x hx=>adQ x (hs.rates x hx)) hs.cons
 have ha:s.cons.any (fun c=> !Hj c)= !(s.cons.all Hj):=by rw[anY,adL]
 have hlen:decide ((s.cons.length:Int)≤8)=decide (s.cons.length≤8):=by rw[decide_eq_decide];omega
 cases hv:s.cons.all Hj with
 |false=>
  rw[ha,hv]at hc
  (refine ce Tryz.func49 ?_;simp only[Tryz.f49];(have hb:=trivial;with_reducible repeat' (first|simp only[hb,Va.down,seval,awG.down,hg,mP,hc,hlen]|refine Aj ?_ ?_<;>intro hb|refine fd ?_|fail)))
  all_goals simp[Ek, *]
 |true=>
  rw[ha,hv]at hc
  have ho:=ar1 s hs.cons (jW hv)
  (refine ce Tryz.func49 ?_;simp only[Tryz.f49];(have hb:=trivial;with_reducible repeat' (first|simp only[hb,Va.down,seval,awG.down,hg,mP,hc,ho,hlen]|refine Aj ?_ ?_<;>intro hb|refine fd ?_|fail)))
  all_goals simp[Ek, *]
theorem yK(s:Ac)(hs:s.small):Bo.call (.fn 17) [.agg s.cells] []=some (.ret (.bool (Ek s)),[]):=by
 have hc:=aiA (nn:=s.nn) hs.cons hs.rates
 have hlen:decide (8<(s.cons.length:Int))= !decide (s.cons.length≤8):=by rw[←decide_not,decide_eq_decide];omega
 cases hv:s.cons.all Hj with
 |false=>
  rw[hv]at hc
  (refine ce Tryz.func17 ?_;simp only[Tryz.f17];(have hb:=trivial;with_reducible repeat' (first|simp only[hb,Va.down,seval,auC.down,pT,hQ,hc,hlen]|refine Aj ?_ ?_<;>intro hb|refine fd ?_|fail)))
  all_goals (refine congrArg (fun b=>(Ec.ret (AV.bool b),([]:Aa))) ?_;symm;((try simp only[ab1,aaE,abH]at *);simp only[Ek, *,adN,adO,adP,acZ,aiK,adL,aaE,abH,ai4,ajQ]))
 |true=>
  rw[hv]at hc
  have ho:=ao8 s s.cons s.nn hs.cons (jW hv)
  (refine ce Tryz.func17 ?_;simp only[Tryz.f17];(have hb:=trivial;with_reducible repeat' (first|simp only[hb,Va.down,seval,auC.down,pT,hQ,hc,ho,hlen]|refine Aj ?_ ?_<;>intro hb|refine fd ?_|fail)))
  all_goals (refine congrArg (fun b=>(Ec.ret (AV.bool b),([]:Aa))) ?_;symm;((try simp only[ab1,aaE,abH]at *);simp only[Ek, *,adN,adO,adP,acZ,aiK,adL,aaE,abH,ai4,ajQ]))
def dQ(l:List Ag):Bool:=(l.all fun c=>decide (c.rates.length≤10))&&decide (l.length≤12)
theorem zV{l:List Ag}{nn:Bool}(hl:l.length≤maxLen):Bo.call (.fn 14) [Bj 11 false nn (l.map Ag.cells)] []=some (.ret (.bool (dQ l)),[]):=by
 (refine ce Tryz.func14 ?_;simp only[Tryz.f14];(have hb:=trivial;with_reducible repeat' (first|simp only[hb,Va.down,seval,aeQ.down,acT]|refine Aj ?_ ?_<;>intro hb|refine fd ?_|fail)))
 refine Dk (Sr 20 l (fun i (_:Unit) t h=>t 0=Bj 11 false nn (l.map Ag.cells)∧t 3=.int .i64 i)
  (fun rest _=>rest.all fun c=>decide (c.rates.length≤10)) (fun r e t h=>if r=true then e=.exit 0∧t 0=Bj 11 false nn (l.map Ag.cells)else e=.ret∧t 2=.bool false) ?_ ?_ () _ _ ?_) (fun e t h hk=>?_)
 ·rintro _ t h Q' kQ ⟨h0,h3⟩
  (have hb:=trivial;with_reducible repeat' (first|simp only[hb,Va.down,seval,aeQ.down,h0,h3,abI,decide_false]|refine Aj ?_ ?_<;>intro hb|refine fd ?_|fail))
  exact kQ _ _ _ (by simp[up,h0])
 ·rintro x rest i _ t h J Q' kJ kQ hx hi ⟨h0,h3⟩
  have hd:decide ((i:Int)<(l.length:Int))=true:=by simpa using hi
  have hw:=Ak hi hl
  (have hb:=trivial;with_reducible repeat' (first|simp only[hb,Va.down,seval,aeQ.down,h0,h3,hd,hx,Ag.cells,hw]|refine Aj ?_ ?_<;>intro hb|refine fd ?_|fail))
  ·exact kQ _ _ _ (by rw[if_neg (by simp only[decide_eq_true_eq]at hb;simp;omega)];exact⟨rfl,rfl⟩)
  ·exact Aq (kJ _ _ () ⟨by simp[up,h0],by simp[up]⟩ (by simp only[decide_eq_false_iff_not]at hb;simp;omega))
 ·exact⟨by simp[up,Dn],by simp[up]⟩
 ·have hlen:decide ((l.length:Int)≤12)=decide (l.length≤12):=by rw[decide_eq_decide];omega
  split at hk
  ·obtain⟨rfl,h0⟩:=hk
   rename_i hr'
   (have hb:=trivial;with_reducible repeat' (first|simp only[hb,Va.down,seval,aeQ.down,h0,hlen]|refine Aj ?_ ?_<;>intro hb|refine fd ?_|fail))
   all_goals simp[dQ,hr']
  ·obtain⟨rfl,h2⟩:=hk
   rename_i hr'
   (have hb:=trivial;with_reducible repeat' (first|simp only[hb,Va.down,seval,aeQ.down,h2]|refine Aj ?_ ?_<;>intro hb|refine fd ?_|fail))
   all_goals (rw[anP]at hr';simp[dQ,hr'])
def min2(x y:Int):Int:=if y<x then y else x
theorem Lq{s:Ac}(h:Ek s=true):s.cons.all Hj=true:=by
 simp only[Ek,acM]at h;exact h.1.2
theorem qZ(a:Int):(a==a)=true:=by simp
theorem Zt{α:Type}{f:α→List AV}{p:List AV→Prop}{q:α→Prop}(hf:∀r,p r→∃x,r=f x∧q x):∀{rows:List (List AV)},(∀r∈rows,p r)→∃l:List α,rows=l.map f∧∀x∈l,q x
 | [],_=>⟨[],rfl,fun x hx=>by simp at hx⟩
 |r::rows,h=>by
  obtain⟨x,rfl,hx⟩:=hf r (h r (List.mem_cons_self ..))
  obtain⟨l,rfl,hl⟩:=Zt hf (fun r hr=>h r (List.mem_cons_of_mem _ hr))
  exact⟨x::l,rfl,fun y hy=>by
   rcases List.mem_cons.1 hy with rfl|hy
   ·exact hx
   ·exact hl y hy⟩
def i64(n:Int):Prop:= -9223372036854775808≤n∧n≤9223372036854775807
theorem Ej{n:Nat}{r:List AV}(h:Ty Tryz.prog (n+1) 3 r):∃x,r=[.int .i64 x]∧i64 x:=by
 simp only[Ty,Tryz.underlying3]at h
 obtain⟨x,rfl,h1,h2⟩:=h
 exact⟨x,rfl,h1,h2⟩
theorem ak7{n:Nat}{r:List AV}(h:Ty Tryz.prog (n+1) 4 r):∃x,r=[.bool x]:=by
 simp only[Ty,Tryz.underlying4]at h
 exact h
theorem aj6{n:Nat}{r:List AV}(h:Ty Tryz.prog (n+2) 39 r):∃x y,r=[.int .i64 x,.int .i64 y]∧i64 x∧i64 y:=by
 unfold Ty at h
 simp only[Tryz.underlying39,jI]at h
 obtain⟨a,b,rfl,h1,c,d,rfl,h2,rfl⟩:=h
 obtain⟨x,rfl,hx⟩:=Ej h1
 obtain⟨y,rfl,hy⟩:=Ej h2
 exact⟨x,y,rfl,hx,hy⟩
theorem akX{n:Nat}{r:List AV}(h:Ty Tryz.prog (n+2) 94 r):∃x:Bh,r=x.cells∧True:=by
 unfold Ty at h
 simp only[Tryz.underlying94,jI]at h
 obtain⟨a,b,rfl,h1,c,d,rfl,h2,e,f,rfl,h3,rfl⟩:=h
 obtain⟨x,rfl,_⟩:=Ej h1
 obtain⟨y,rfl,_⟩:=Ej h2
 obtain⟨z,rfl,_⟩:=Ej h3
 exact⟨⟨x,y,z⟩,rfl,trivial⟩
theorem ao9{n:Nat}{r:List AV}(h:Ty Tryz.prog (n+4) 42 r):∃x:Ag,r=x.cells∧x.rates.length≤maxLen:=by
 unfold Ty at h
 simp only[Tryz.underlying42,jI]at h
 obtain⟨a0,b0,rfl,h0,a1,b1,rfl,h1,a2,b2,rfl,h2,a3,b3,rfl,h3,a4,b4,rfl,h4,a5,b5,rfl,h5,a6,b6,rfl,h6,a7,b7,rfl,h7,a8,b8,rfl,h8,a9,b9,rfl,h9,rfl⟩:=h
 obtain⟨x0,rfl⟩:=ak7 h0
 obtain⟨x1,rfl,_⟩:=Ej h1
 obtain⟨x2,y2,rfl,_⟩:=aj6 h2
 obtain⟨x4,rfl,_⟩:=Ej h4
 obtain⟨x5,rfl,_⟩:=Ej h5
 obtain⟨x6,rfl,_⟩:=Ej h6
 obtain⟨x7,rfl,_⟩:=Ej h7
 obtain⟨x8,rfl,_⟩:=Ej h8
 obtain⟨x9,rfl,_⟩:=Ej h9
 unfold Ty at h3
 simp only[Tryz.underlying40]at h3
 obtain⟨nn,rows,rfl,hl,hrows⟩:=h3
 obtain⟨l,rfl,_⟩:=Zt (fun r hr=>akX hr) hrows
 have e1:Tryz.prog.cellsOf 94=3:=by kernel_rfl
 have e2:iW Tryz.prog (n+2) 94=true:=by
  simp only[iW,Tryz.underlying94,Tryz.underlying3];rfl
 rw[e1,e2]
 exact⟨⟨x0,x1,x2,y2,nn,l,x4,x5,x6,x7,x8,x9⟩,rfl,by simpa using hl⟩
theorem alE{n:Nat}{r:List AV}(h:Ty Tryz.prog (n+5) 22 r):∃(nn:Bool) (l:List Ag),r=[Bj 11 false nn (l.map Ag.cells)]∧l.length≤maxLen∧∀c∈l,c.rates.length≤maxLen:=by
 unfold Ty at h
 simp only[Tryz.underlying22]at h
 obtain⟨nn,rows,rfl,hl,hrows⟩:=h
 obtain⟨l,rfl,hc⟩:=Zt (fun r hr=>ao9 hr) hrows
 have e1:Tryz.prog.cellsOf 42=11:=by kernel_rfl
 have e2:iW Tryz.prog (n+4) 42=false:=by
  simp only[iW,Tryz.underlying42,Tryz.underlying40];simp
 rw[e1,e2]
 exact⟨nn,l,rfl,by simpa using hl,hc⟩
theorem agI{n:Nat}{r:List AV}(h:Ty Tryz.prog (n+6) 24 r):∃s:Ac,r=s.cells∧s.small:=by
 unfold Ty at h
 simp only[Tryz.underlying24,jI]at h
 obtain⟨a0,b0,rfl,h0,a1,b1,rfl,h1,a2,b2,rfl,h2,a3,b3,rfl,h3,a4,b4,rfl,h4,a5,b5,rfl,h5,rfl⟩:=h
 obtain⟨x0,rfl,_⟩:=Ej h0
 obtain⟨x1,rfl,_⟩:=Ej h1
 obtain⟨x2,rfl,_⟩:=Ej h2
 obtain⟨x3,rfl,_⟩:=Ej h3
 obtain⟨x4,rfl,_⟩:=Ej h4
 obtain⟨nn,l,rfl,hl,hc⟩:=alE h5
 exact⟨⟨x0,x1,x2,x3,x4,nn,l⟩,rfl,hl,hc⟩
theorem ai9{av:AV}(h:xP Tryz.prog 7 24 av):∃s:Ac,av=.agg s.cells∧s.small:=by
 unfold xP at h
 simp only[Tryz.underlying24]at h
 obtain⟨cs,rfl,h⟩:=h
 obtain⟨s,rfl,hs⟩:=agI h
 exact⟨s,rfl,hs⟩
structure Gl where
 con:Int
 hour:Int
 sent:Int
 amount:Int
def Gl.cells(n:Gl):List AV:=[.int .i64 n.con,.int .i64 n.hour,.int .i64 n.sent,.int .i64 n.amount]
def dF(k:Int)(n:Gl):Bool:=Gg n.con 0 (IntKind.i64.wrap (k-1))&&Gg n.hour 0 47&&Gg n.sent 0 47&&Gg n.amount (-100000000) 100000000
theorem aqW(n:Gl)(k:Int):Bo.call (.fn 113) [.agg [.int .i64 n.con,.int .i64 n.hour,.int .i64 n.sent,.int .i64 n.amount],.ptr 0 0 0] [.live 1 true false [[.int .i64 k]]]=some (.ret (.bool (!dF k n)),[.live 1 true false [[.int .i64 k]]]):=by
 (refine ce Tryz.func113 ?_;simp only[Tryz.f113];(have hb:=trivial;with_reducible repeat' (first|simp only[hb,Va.down,seval,awH.down,mP]|refine Aj ?_ ?_<;>intro hb|refine fd ?_|fail)))
 all_goals (refine congrArg (fun b=>(Ec.ret (AV.bool b),[CB.live 1 true false [[AV.int IntKind.i64 k]]])) ?_;((try simp only[ab1,aaE,abH]at *);simp only[dF, *,adN,adO,adP,acZ,aiK,adL,aaE,abH,ai4,ajQ]))
theorem aaI{l:List Gl}{nn:Bool}{g bs:Nat}{brows:List (List AV)}{p:Gl→Bool}(hp:∀x∈l,Bo.call (.fn g) (.agg [.int .i64 x.con,.int .i64 x.hour,.int .i64 x.sent,.int .i64 x.amount]::[.ptr 0 0 0]) [.live bs true false brows]=some (.ret (.bool (p x)),[.live bs true false brows]))(hl:l.length≤maxLen):
 Bo.call (.fn 135) [Bj 4 true nn (l.map Gl.cells),.func (.func g) [] [.ptr 0 0 0]] [.live bs true false brows]=some (.ret (.int .i64 (jV p l 0)),[.live bs true false brows]):=by
 (refine ce Tryz.func135 ?_;simp only[Tryz.f135];(have hb:=trivial;with_reducible repeat' (first|simp only[hb,Va.down,seval,rZ.down,acT]|refine Aj ?_ ?_<;>intro hb|refine fd ?_|fail)))
 refine Dk (Sr 19 l (fun i (s:Int) t h=>s=i∧h=[.live bs true false brows]∧t 0=Bj 4 true nn (l.map Gl.cells)∧t 1=.func (.func g) [] [.ptr 0 0 0]∧t 7=.int .i64 l.length∧t 8=.int .i64 i)
  (fun rest s=>jV p rest s) (fun r e t h=>h=[.live bs true false brows]∧((e=.exit 0∧r= -1)∨(e=.ret∧t 4=.int .i64 r))) ?_ ?_ 0 _ _ ?_) (fun e t h hk=>?_)
 ·rintro s t h Q' kQ ⟨rfl,rfl,h0,h1,h7,h8⟩
  (have hb:=trivial;with_reducible repeat' (first|simp only[hb,Va.down,seval,rZ.down,h0,h1,h7,h8,abI,decide_false]|refine Aj ?_ ?_<;>intro hb|refine fd ?_|fail))
  exact kQ _ _ _ ⟨rfl,.inl ⟨rfl,rfl⟩⟩
 ·rintro x rest i s t h J Q' kJ kQ hx hi ⟨rfl,rfl,h0,h1,h7,h8⟩
  have hpx:=hp x (alB hx)
  have hd:decide ((i:Int)<(l.length:Int))=true:=by simpa using hi
  (have hb:=trivial;with_reducible repeat' (first|simp only[hb,Va.down,seval,rZ.down,h0,h1,h7,h8,hd,hx,Gl.cells,hpx,Ak hi hl]|refine Aj ?_ ?_<;>intro hb|refine fd ?_|fail))
  ·exact kQ _ _ _ ⟨rfl,.inr ⟨rfl,by simp[up,jV,hb]⟩⟩
  ·exact Aq (kJ _ _ (i+1) ⟨by simp,rfl,by simp[up,h0],by simp[up,h1],by simp[up,h7],by simp[up]⟩ (by simp[jV,hb]))
 ·exact⟨rfl,rfl,by simp[up,Dn],by simp[up,Dn],by simp[up],by simp[up]⟩
 ·obtain⟨rfl,⟨rfl,hi⟩|⟨rfl,hi⟩⟩:=hk
  ·(have hb:=trivial;with_reducible repeat' (first|simp only[hb,Va.down,seval,rZ.down]|refine Aj ?_ ?_<;>intro hb|refine fd ?_|fail))
   rw[hi]
  ·(have hb:=trivial;with_reducible repeat' (first|simp only[hb,Va.down,seval,rZ.down,hi]|refine Aj ?_ ?_<;>intro hb|refine fd ?_|fail))
theorem xB{l:List Gl}{nn:Bool}{g bs:Nat}{brows:List (List AV)}{p:Gl→Bool}(hp:∀x∈l,Bo.call (.fn g) (.agg [.int .i64 x.con,.int .i64 x.hour,.int .i64 x.sent,.int .i64 x.amount]::[.ptr 0 0 0]) [.live bs true false brows]=some (.ret (.bool (p x)),[.live bs true false brows]))(hl:l.length≤maxLen):
 Bo.call (.fn 112) [Bj 4 true nn (l.map Gl.cells),.func (.func g) [] [.ptr 0 0 0]] [.live bs true false brows]=some (.ret (.bool (l.any p)),[.live bs true false brows]):=by
 (refine ce Tryz.func112 ?_;simp only[Tryz.f112];(have hb:=trivial;with_reducible repeat' (first|simp only[hb,Va.down,seval,aaI hp hl,Zu p l 0 (ajV 0)]|refine Aj ?_ ?_<;>intro hb|refine fd ?_|fail)))
theorem uN{l:List Gl}{nn:Bool}(k:Int)(hl:l.length≤maxLen):Bo.call (.fn 70) [Bj 4 true nn (l.map Gl.cells),.int .i64 k] []=some (.ret (.bool (l.all (dF k))),[]):=by
 have h:=xB (l:=l) (nn:=nn) (g:=113) (bs:=1) (brows:=[[.int .i64 k]]) (p:=fun n=> !dF k n) (fun x _=>aqW x k) hl
 (refine ce Tryz.func70 ?_;simp only[Tryz.f70];(have hb:=trivial;with_reducible repeat' (first|simp only[hb,Va.down,seval,h]|refine Aj ?_ ?_<;>intro hb|refine fd ?_|fail)))
 simp[anY]
def xO(l:List Gl)(o:Int):Int:=(l[o.toNat]?.map Gl.sent).getD 0
def kK(lead:Int)(l:List Gl)(c h:Int)(n:Gl)(i:Nat)(o:Int):Int:=
 if(n.con==c&&n.hour==h&&decide (IntKind.i64.wrap (n.sent+lead)≤h)&&(decide (o<0)||decide (xO l o≤n.sent)))=true then i else o
def Lm(lead:Int)(l:List Gl)(c h:Int):List Gl→Nat × Int→Int
 | [],a=>a.2
 |n::rest,a=>Lm lead l c h rest (a.1+1,kK lead l c h n a.1 a.2)
theorem cK(s:Ac)(l:List Gl)(nn:Bool)(c h:Int)(hl:l.length≤maxLen):Bo.call (.fn 72) [.agg s.cells,Bj 4 true nn (l.map Gl.cells),.int .i64 c,.int .i64 h] []=some (.ret (.int .i64 (Lm s.lead l c h l (0,-1))),[]):=by
 (refine ce Tryz.func72 ?_;simp only[Tryz.f72];(have hb:=trivial;with_reducible repeat' (first|simp only[hb,Va.down,seval,afC.down]|refine Aj ?_ ?_<;>intro hb|refine fd ?_|fail)))
 refine Dk (Sr 55 l (fun i (a:Nat × Int) t hp=>a.1=i∧(a.2= -1∨0≤a.2∧a.2<i)∧hp[0]?=some (.live 6 false false [s.cells])∧t 1=Bj 4 true nn (l.map Gl.cells)∧t 2=.int .i64 c∧t 3=.int .i64 h∧t 4=.ptr 0 0 0∧t 12=Bj 4 true nn (l.map Gl.cells)∧t 13=.int .i64 l.length∧t 9=.int .i64 a.2∧t 14=.int .i64 i)
  (fun rest a=>Lm s.lead l c h rest a) (fun r e t hp=>e=.exit 0∧t 9=.int .i64 r) ?_ ?_ (0,-1) _ _ ?_) (fun e t hp hk=>?_)
 ·rintro⟨i',o⟩ t hp Q' kQ ⟨rfl,ho,hh,h1,h2,h3,h4,h12,h13,h9,h14⟩
  (have hb:=trivial;with_reducible repeat' (first|simp only[hb,Va.down,seval,afC.down,h13,h14,abI,decide_false]|refine Aj ?_ ?_<;>intro hb|refine fd ?_|fail))
  exact kQ _ _ _ ⟨rfl,by simp[up,h9,Lm]⟩
 ·rintro x rest i ⟨i',o⟩ t hp J Q' kJ kQ hx hi ⟨rfl,ho,hh,h1,h2,h3,h4,h12,h13,h9,h14⟩
  simp only at ho h9 h14 hx hi
  have hd:decide ((i':Int)<(l.length:Int))=true:=by simpa using hi
  have hw:=Ak hi hl
  have hA:=Bv hh
  rcases ho with rfl|⟨ho1,ho2⟩
  ·have hn:decide ((-1:Int)<0)=true:=by decide
   (have hb:=trivial;with_reducible repeat' (first|simp only[hb,Va.down,seval,afC.down,hA,h1,h2,h3,h4,h12,h13,h9,h14,hd,hw,hx,Gl.cells,hn]|refine Aj ?_ ?_<;>intro hb|refine fd ?_|fail))
   all_goals exact Aq (kJ _ _ (i'+1,kK s.lead l c h x i' (-1)) ⟨rfl,by unfold kK;split<;>simp<;>omega,hA _,by simp[up,h1],by simp[up,h2],by simp[up,h3],by simp[up,h4],by simp[up,h12],by simp[up,h13],by simp[up,h9,kK, *],by simp[up]⟩ rfl)
  ·have hn:decide (o<0)=false:=by rw[decide_eq_false_iff_not];omega
   obtain⟨q,hq⟩:∃q,l[o.toNat]?=some q:=⟨l[o.toNat]'(by omega),adK (by omega)⟩
   have hs:xO l o=q.sent:=by simp[xO,hq]
   have h0:(0≤o)=True:=eq_true ho1
   (have hb:=trivial;with_reducible repeat' (first|simp only[hb,Va.down,seval,afC.down,hA,h1,h2,h3,h4,h12,h13,h9,h14,hd,hw,hx,Gl.cells,hn,hq,h0]|refine Aj ?_ ?_<;>intro hb|refine fd ?_|fail))
   all_goals exact Aq (kJ _ _ (i'+1,kK s.lead l c h x i' o) ⟨rfl,by unfold kK;split<;>simp<;>omega,hA _,by simp[up,h1],by simp[up,h2],by simp[up,h3],by simp[up,h4],by simp[up,h12],by simp[up,h13],by simp[up,h9,kK,hs, *],by simp[up]⟩ rfl)
 ·exact⟨rfl,.inl rfl,rfl,by simp[up,Dn],by simp[up,Dn],by simp[up,Dn],by simp[up],by simp[up,Dn],by simp[up],by simp[up],by simp[up]⟩
 ·obtain⟨rfl,h9⟩:=hk
  (have hb:=trivial;with_reducible repeat' (first|simp only[hb,Va.down,seval,afC.down,h9]|refine Aj ?_ ?_<;>intro hb|refine fd ?_|fail))
theorem as6(n:Gl)(k:Int):Bo.call (.fn 26) [.agg [.int .i64 n.con,.int .i64 n.hour,.int .i64 n.sent,.int .i64 n.amount],.int .i64 k] []=some (.ret (.bool (dF k n)),[]):=by
 (refine ce Tryz.func26 ?_;simp only[Tryz.f26];(have hb:=trivial;with_reducible repeat' (first|simp only[hb,Va.down,seval,axF.down,hQ,wI]|refine Aj ?_ ?_<;>intro hb|refine fd ?_|fail)))
 all_goals (refine congrArg (fun b=>(Ec.ret (AV.bool b),([]:Aa))) ?_;symm;((try simp only[ab1,aaE,abH]at *);simp only[dF, *,adN,adO,adP,acZ,aiK,adL,aaE,abH,ai4,ajQ]))
theorem apX{l:List Gl}{nn:Bool}(k:Int)(hl:l.length≤maxLen):Bo.call (.fn 37) [Bj 4 true nn (l.map Gl.cells),.int .i64 k] []=some (.ret (.bool (l.all (dF k))),[]):=by
 (refine ce Tryz.func37 ?_;simp only[Tryz.f37];(have hb:=trivial;with_reducible repeat' (first|simp only[hb,Va.down,seval,afV.down,acT]|refine Aj ?_ ?_<;>intro hb|refine fd ?_|fail)))
 refine Dk (Sr 19 l (fun i (_:Unit) t h=>t 0=Bj 4 true nn (l.map Gl.cells)∧t 1=.int .i64 k∧t 5=.int .i64 i)
  (fun rest _=>rest.all (dF k)) (fun r e t h=>if r=true then e=.exit 0 else e=.ret∧t 4=.bool false) ?_ ?_ () _ _ ?_) (fun e t h hk=>?_)
 ·rintro _ t h Q' kQ ⟨h0,h1,h5⟩
  (have hb:=trivial;with_reducible repeat' (first|simp only[hb,Va.down,seval,afV.down,h0,h5,abI,decide_false]|refine Aj ?_ ?_<;>intro hb|refine fd ?_|fail))
  exact kQ _ _ _ (by simp)
 ·rintro x rest i _ t h J Q' kJ kQ hx hi ⟨h0,h1,h5⟩
  have hd:decide ((i:Int)<(l.length:Int))=true:=by simpa using hi
  have hw:=Ak hi hl
  (have hb:=trivial;with_reducible repeat' (first|simp only[hb,Va.down,seval,afV.down,h0,h1,h5,hd,hx,Gl.cells,hw,as6]|refine Aj ?_ ?_<;>intro hb|refine fd ?_|fail))
  ·exact kQ _ _ _ (by rw[if_neg (by simp at hb;simp[hb])];exact⟨rfl,rfl⟩)
  ·exact Aq (kJ _ _ () ⟨by simp[up,h0],by simp[up,h1],by simp[up]⟩ (by simp at hb;simp[hb]))
 ·exact⟨by simp[up,Dn],by simp[up,Dn],by simp[up]⟩
 ·split at hk
  ·subst hk
   rename_i hr'
   (have hb:=trivial;with_reducible repeat' (first|simp only[hb,Va.down,seval,afV.down]|refine Aj ?_ ?_<;>intro hb|refine fd ?_|fail))
   all_goals simp[hr']
  ·obtain⟨rfl,h2⟩:=hk
   rename_i hr'
   (have hb:=trivial;with_reducible repeat' (first|simp only[hb,Va.down,seval,afV.down,h2]|refine Aj ?_ ?_<;>intro hb|refine fd ?_|fail))
   all_goals (rw[anP]at hr';rw[hr'])
theorem aqL{n:Nat}{r:List AV}(h:Ty Tryz.prog (n+2) 62 r):∃x:Gl,r=x.cells∧True:=by
 unfold Ty at h
 simp only[Tryz.underlying62,jI]at h
 obtain⟨a,b,rfl,h1,c,d,rfl,h2,e,f,rfl,h3,g,k,rfl,h4,rfl⟩:=h
 obtain⟨x,rfl,_⟩:=Ej h1
 obtain⟨y,rfl,_⟩:=Ej h2
 obtain⟨z,rfl,_⟩:=Ej h3
 obtain⟨u,rfl,_⟩:=Ej h4
 exact⟨⟨x,y,z,u⟩,rfl,trivial⟩
theorem akY{n:Nat}{r:List AV}(h:Ty Tryz.prog (n+3) 45 r):∃(nn:Bool) (l:List Gl),r=[Bj 4 true nn (l.map Gl.cells)]∧l.length≤maxLen:=by
 unfold Ty at h
 simp only[Tryz.underlying45]at h
 obtain⟨nn,rows,rfl,hl,hrows⟩:=h
 obtain⟨l,rfl,_⟩:=Zt (fun r hr=>aqL hr) hrows
 have e1:Tryz.prog.cellsOf 62=4:=by kernel_rfl
 have e2:iW Tryz.prog (n+2) 62=true:=by
  simp only[iW,Tryz.underlying62,Tryz.underlying3];rfl
 rw[e1,e2]
 exact⟨nn,l,rfl,by simpa using hl⟩
def Cm(x:Int):Int:=if x>0 then x else 0
def Dt(x:Int):Int:=Cm (IntKind.i64.wrap (0-x))
theorem Nw{h:Aa}{b:Nat}(hb:b<h.length)(l:Aa)(c:CB):(h++l).set b c=h.set b c++l:=List.set_append_left _ _ hb
theorem dD{h:Aa}{b:Nat}(c:CB)(l:Aa):(h.set b c++l)[h.length]?=l[0]?:=by
 have:=yO (h.set b c) l
 rwa[adM]at this
theorem Ud{h:Aa}{b:Nat}(c:CB)(l:Aa)(k:Nat):(h.set b c++l)[h.length+k]?=l[k]?:=by
 have:=Td (h.set b c) l k
 rwa[adM]at this
theorem pP{h:Aa}{b b':Nat}{x:CB}(c:CB)(hne:b≠b')(hb:h[b']?=some x)(l:Aa):(h.set b c++l)[b']?=some x:=by
 rw[List.getElem?_append_left (by rw[adM];exact(ajT.1 hb).1),List.getElem?_set_ne hne];exact hb
theorem uC(l:List Int)(nn:Bool)(hl:l.length≤1000)(o:Ec)(h':Aa)(c0:l=[]→(o,h')=(.ret (.tup [.nils,.nils]),[]))
 (c1:l≠[]→(o,h')=(.ret (.tup [.slr 1 0 0 l.length,.slr 1 1 0 l.length]),[.live 1 true false ((l.map Cm).map iv),.live 1 true false ((l.map Dt).map iv)])):
 Bo.call (.fn 94) [Bj 1 true nn (l.map iv)] []=some (o,h'):=by
 have hl':l.length≤maxLen:=by unfold maxLen;omega
 (refine ce Tryz.func94 ?_;simp only[Tryz.f94];(have hb:=trivial;with_reducible repeat' (first|simp only[hb,Va.down,seval,abT.down,acT]|refine Aj ?_ ?_<;>intro hb|refine fd ?_|fail)))
 refine Dk (Sr 28 l (fun i (a:List Int × List Int) t h=>t 8=Bj 1 true nn (l.map iv)∧t 9=.int .i64 l.length∧t 10=.int .i64 i∧a.1.length=i∧a.2.length=i∧
  ((i=0∧t 4=.nils∧t 5=.nils)∨(0<i∧∃b b',b≠b'∧t 4=.slr 1 b 0 i∧t 5=.slr 1 b' 0 i∧h[b]?=some (.live 1 true false (a.1.map iv))∧h[b']?=some (.live 1 true false (a.2.map iv)))))
  (fun rest a=>(a.1++rest.map Cm,a.2++rest.map Dt)) (fun r e t h=>e=.exit 0∧((l=[]∧t 4=.nils∧t 5=.nils)∨(l≠[]∧∃b b',b≠b'∧t 4=.slr 1 b 0 l.length∧t 5=.slr 1 b' 0 l.length∧h[b]?=some (.live 1 true false (r.1.map iv))∧h[b']?=some (.live 1 true false (r.2.map iv))))) ?_ ?_ ([],[]) _ _ ?_) (fun e t h hk=>?_)
 ·rintro⟨p,q⟩ t h Q' kQ ⟨h8,h9,h10,hp,hq,hc⟩
  (have hb:=trivial;with_reducible repeat' (first|simp only[hb,Va.down,seval,abT.down,h8,h9,h10,abI,decide_false]|refine Aj ?_ ?_<;>intro hb|refine fd ?_|fail))
  refine kQ _ _ _ ⟨rfl,?_⟩
  rcases hc with⟨h0,h4,h5⟩|⟨h0,b,b',hne,h4,h5,hb,hb'⟩
  ·exact .inl ⟨ajU.1 h0,by simp[up,h4],by simp[up,h5]⟩
  ·exact .inr ⟨fun e=>by rw[e]at h0;simp at h0,b,b',hne,by simp[up,h4],by simp[up,h5],by simpa using hb,by simpa using hb'⟩
 ·rintro x rest i ⟨p,q⟩ t h J Q' kJ kQ hx hi ⟨h8,h9,h10,hp,hq,hc⟩
  simp only at hp hq
  have hd:decide ((i:Int)<(l.length:Int))=true:=by simpa using hi
  have hw:=Ak hi hl'
  rcases hc with⟨rfl,h4,h5⟩|⟨h0,b,b',hne,h4,h5,hb,hb'⟩
  ·simp only[ajR]at hd
   (have hb:=trivial;with_reducible repeat' (first|simp only[hb,Va.down,seval,abT.down,h8,h9,h10,h4,h5,hd,hw,hx,iv]|refine Aj ?_ ?_<;>intro hb|refine fd ?_|fail))
   obtain rfl:p=[]:=ajU.1 hp
   obtain rfl:q=[]:=ajU.1 hq
   exact Aq (kJ _ _ ([Cm x],[Dt x]) ⟨by simp[up,h8],by simp[up,h9],by simp[up],rfl,rfl,.inr ⟨by omega,h.length+1,h.length+3,by omega,by simp[up],by simp[up],by rw[Td];rfl,by rw[Td];rfl⟩⟩ (by simp))
  ·have hbl:b<h.length:=(ajT.1 hb).1
   have hbl':b'<h.length:=(ajT.1 hb').1
   have hA:=Bv hb
   have hS:=Nw hbl
   have hB':=pP (b:=b) .dead hne hb'
   have hS':=Nw (h:=h.set b .dead) (b:=b') (by rw[adM];exact hbl')
   have hlp:0+i=p.length:=by omega
   have hlq:0+i=q.length:=by omega
   have hi39:(i+1≤549755813888)=True:=eq_true (by omega)
   have g1:=fun(l:Aa)=>dD (h:=h.set b .dead) (b:=b') .dead l
   have g2:=fun(l:Aa) (k:Nat)=>Ud (h:=h.set b .dead) (b:=b') .dead l k
   simp only[adM]at g1 g2
   (have hb:=trivial;with_reducible repeat' (first|simp only[hb,Va.down,seval,abT.down,h8,h9,h10,h4,h5,hd,hw,hx,iv,hA,hS,hB',hS',dD,Ud,g1,g2,adM,hp,hq,hi39]|refine Aj ?_ ?_<;>intro hb|refine fd ?_|fail))
   exact Aq (kJ _ _ (p++[Cm x],q++[Dt x]) ⟨by simp[up,h8],by simp[up,h9],by simp[up],by simp[hp],by simp[hq],.inr ⟨by omega,h.length+1,h.length+3,by omega,by simp[up],by simp[up],by rw[g2];simp[iv,Cm],by rw[g2];simp[iv,Cm,Dt]⟩⟩ (by simp))
 ·exact⟨by simp[up,Dn],by simp[up],by simp[up],rfl,rfl,.inl ⟨rfl,by simp[up],by simp[up]⟩⟩
 ·obtain⟨rfl,⟨rfl,h4,h5⟩|⟨hne,b,b',hbb,h4,h5,hb,hb'⟩⟩:=hk
  ·rw[c0 rfl]
   (have hb:=trivial;with_reducible repeat' (first|simp only[hb,Va.down,seval,abT.down,h4,h5]|refine Aj ?_ ?_<;>intro hb|refine fd ?_|fail))
  ·rw[c1 hne]
   have hz:(b=b')=False:=eq_false hbb
   (with_reducible repeat' (first|simp only[hb,Va.down,seval,abT.down,h4,h5,hb,hb',hz]|refine Aj ?_ ?_<;>intro hb|refine fd ?_|fail))
theorem cY{l:List Int}{nn:Bool}(hl:l.length≤1000)(hne:l≠[]):Bo.call (.fn 94) [Bj 1 true nn (l.map iv)] []=
 some (.ret (.tup [.slr 1 0 0 l.length,.slr 1 1 0 l.length]),[.live 1 true false ((l.map Cm).map iv),.live 1 true false ((l.map Dt).map iv)]):=
 uC l nn hl _ _ (fun e=>(hne e).elim) (fun _=>rfl)
theorem gR{nn:Bool}:Bo.call (.fn 94) [Bj 1 true nn []] []=some (.ret (.tup [.nils,.nils]),[]):=
 uC [] nn (by simp) _ _ (fun _=>rfl) (fun e=>(e rfl).elim)
def Xv(x y:Int):Int:=IntKind.i64.wrap (x-y)
theorem ajG{x y:Int}{rest l':List Int}{i:Nat}(hy:l'[i]?=some y)(p:List Int)(hp:p.length=i):(p++[Xv x y])++anN Xv rest (l'.drop (p++[Xv x y]).length)=p++anN Xv (x::rest) (l'.drop p.length):=by
 have hlt:i<l'.length:=(ajT.1 hy).1
 have hd:l'.drop i=y::l'.drop (i+1):=by
  rw[List.drop_eq_getElem_cons hlt]
  congr 1
  exact Option.some.inj ((adK hlt).symm.trans hy)
 rw[List.length_append,hp,hd]
 simp
theorem Oj(l l':List Int)(nn':Bool)(nn:Bool)(hl:l.length≤1000)(hll:l.length≤l'.length)(o:Ec)(h':Aa)(c0:l=[]→(o,h')=(.ret .nils,[]))(c1:l≠[]→(o,h')=(.ret (.slr 1 0 0 l.length),[.live 1 true false ((anN Xv l l').map iv)])):
 Bo.call (.fn 95) [Bj 1 true nn (l.map iv),Bj 1 true nn' (l'.map iv)] []=some (o,h'):=by
 have hl':l.length≤maxLen:=by unfold maxLen;omega
 (refine ce Tryz.func95 ?_;simp only[Tryz.f95];(have hb:=trivial;with_reducible repeat' (first|simp only[hb,Va.down,seval,aa5.down,acT]|refine Aj ?_ ?_<;>intro hb|refine fd ?_|fail)))
 refine Dk (Sr 26 l (fun i (a:List Int) t h=>t 0=Bj 1 true nn (l.map iv)∧t 1=Bj 1 true nn' (l'.map iv)∧t 8=.int .i64 l.length∧t 9=.int .i64 i∧a.length=i∧((i=0∧t 5=.nils)∨(0<i∧∃b,t 5=.slr 1 b 0 i∧h[b]?=some (.live 1 true false (a.map iv)))))
  (fun rest a=>a++anN Xv rest (l'.drop a.length)) (fun r e t h=>e=.exit 0∧((l=[]∧t 5=.nils)∨(l≠[]∧∃b,t 5=.slr 1 b 0 l.length∧h[b]?=some (.live 1 true false (r.map iv))))) ?_ ?_ [] _ _ ?_) (fun e t h hk=>?_)
 ·rintro p t h Q' kQ ⟨h0',h1',h8',hi',hp,hc⟩
  (have hb:=trivial;with_reducible repeat' (first|simp only[hb,Va.down,seval,aa5.down,h0',h1',h8',hi',abI,decide_false]|refine Aj ?_ ?_<;>intro hb|refine fd ?_|fail))
  refine kQ _ _ _ ⟨rfl,?_⟩
  rcases hc with⟨h0,ho⟩|⟨h0,b,ho,hb⟩
  ·exact .inl ⟨ajU.1 h0,by simp[up,ho]⟩
  ·exact .inr ⟨fun e=>by rw[e]at h0;simp at h0,b,by simp[up,ho],by simpa using hb⟩
 ·rintro x rest i p t h J Q' kJ kQ hx hi ⟨h0',h1',h8',hi',hp,hc⟩
  have hd:decide ((i:Int)<(l.length:Int))=true:=by simpa using hi
  have hw:=Ak hi hl'
  obtain⟨y,hy⟩:∃y,l'[i]?=some y:=⟨l'[i]'(by omega),adK _⟩
  have hF:=ajG (x:=x) (rest:=rest) hy
  rcases hc with⟨rfl,ho⟩|⟨h0,b,ho,hb⟩
  ·simp only[ajR]at hd
   (have hb:=trivial;with_reducible repeat' (first|simp only[hb,Va.down,seval,aa5.down,h0',h1',h8',hi',ho,hd,hw,hx,iv,hy]|refine Aj ?_ ?_<;>intro hb|refine fd ?_|fail))
   obtain rfl:p=[]:=ajU.1 hp
   exact Aq (kJ _ _ [Xv x y] ⟨by simp[up,h0'],by simp[up,h1'],by simp[up,h8'],by simp[up],rfl,.inr ⟨by omega,h.length+1,by simp[up],by rw[Td];simp[iv,Xv]⟩⟩ (by exact hF _ hp))
  ·have hbl:b<h.length:=(ajT.1 hb).1
   have hA:=Bv hb
   have hS:=Nw hbl
   have hlp:0+i=p.length:=by omega
   have hi39:(i+1≤549755813888)=True:=eq_true (by omega)
   (have hb:=trivial;with_reducible repeat' (first|simp only[hb,Va.down,seval,aa5.down,h0',h1',h8',hi',ho,hd,hw,hx,iv,hA,hS,dD,Ud,adM,hp,hi39,hy]|refine Aj ?_ ?_<;>intro hb|refine fd ?_|fail))
   exact Aq (kJ _ _ (p++[Xv x y]) ⟨by simp[up,h0'],by simp[up,h1'],by simp[up,h8'],by simp[up],by simp[hp],.inr ⟨by omega,h.length+1,by simp[up],by rw[Ud];simp[iv,Xv]⟩⟩ (by exact hF _ hp))
 ·exact⟨by simp[up,Dn],by simp[up,Dn],by simp[up],by simp[up],rfl,.inl ⟨rfl,by simp[up]⟩⟩
 ·obtain⟨rfl,⟨hnil,ho⟩|⟨hne,b,ho,hb⟩⟩:=hk
  ·rw[c0 hnil]
   (have hb:=trivial;with_reducible repeat' (first|simp only[hb,Va.down,seval,aa5.down,ho]|refine Aj ?_ ?_<;>intro hb|refine fd ?_|fail))
  ·rw[c1 hne]
   (with_reducible repeat' (first|simp only[hb,Va.down,seval,aa5.down,ho,hb]|refine Aj ?_ ?_<;>intro hb|refine fd ?_|fail))
def Ax:List Int→Int→Int
 | [],a=>a
 |x::l,a=>Ax l (IntKind.i64.wrap (a+x))
theorem Yl{l:List Int}{nn:Bool}(hl:l.length≤maxLen):Bo.call (.fn 124) [Bj 1 true nn (l.map iv)] []=some (.ret (.int .i64 (Ax l 0)),[]):=by
 (refine ce Tryz.func124 ?_;simp only[Tryz.f124];(have hb:=trivial;with_reducible repeat' (first|simp only[hb,Va.down,seval,yH.down,acT]|refine Aj ?_ ?_<;>intro hb|refine fd ?_|fail)))
 refine Dk (Sr 17 l (fun i (s:Int) t h=>t 6=Bj 1 true nn (l.map iv)∧t 7=.int .i64 l.length∧t 8=.int .i64 i∧t 3=.int .i64 s)
  (fun rest s=>Ax rest s) (fun r e t h=>e=.exit 0∧t 3=.int .i64 r) ?_ ?_ 0 _ _ ?_) (fun e t h hk=>?_)
 ·rintro s t h Q' kQ ⟨h6,h7,h8,h3⟩
  (have hb:=trivial;with_reducible repeat' (first|simp only[hb,Va.down,seval,yH.down,h6,h7,h8,h3,abI,decide_false]|refine Aj ?_ ?_<;>intro hb|refine fd ?_|fail))
  exact kQ _ _ _ ⟨rfl,by simp[up,h3,Ax]⟩
 ·rintro x rest i s t h J Q' kJ kQ hx hi ⟨h6,h7,h8,h3⟩
  have hd:decide ((i:Int)<(l.length:Int))=true:=by simpa using hi
  have hw:=Ak hi hl
  (have hb:=trivial;with_reducible repeat' (first|simp only[hb,Va.down,seval,yH.down,h6,h7,h8,h3,hd,hx,iv,hw]|refine Aj ?_ ?_<;>intro hb|refine fd ?_|fail))
  exact Aq (kJ _ _ (IntKind.i64.wrap (s+x)) ⟨by simp[up,h6],by simp[up,h7],by simp[up],by simp[up]⟩ rfl)
 ·exact⟨by simp[up,Dn],by simp[up],by simp[up],by simp[up]⟩
 ·obtain⟨rfl,h3⟩:=hk
  (have hb:=trivial;with_reducible repeat' (first|simp only[hb,Va.down,seval,yH.down,h3]|refine Aj ?_ ?_<;>intro hb|refine fd ?_|fail))
def Fa(amount whole so got:Int):Int:=if 0<whole then IntKind.i64.wrap (IntKind.i64.wrap ((IntKind.i64.wrap (amount*so)).tdiv whole)-got)else 0
def Dl(amount whole:Int):List Int→Int→Int→List Int
 | [],_,_=>[]
 |w::rest,so,got=>Fa amount whole (IntKind.i64.wrap (so+w)) got::Dl amount whole rest (IntKind.i64.wrap (so+w)) (IntKind.i64.wrap (got+Fa amount whole (IntKind.i64.wrap (so+w)) got))
end Go.Proofs.YtdbiogihimdpcaaGreatDoor
