/- The functions of the layer, walked. -/
import Derived.Test.YtdbiogihimdpcaaGreatDoorPartAA
open Bool renaming not_true→aa9,not_false→abQ,not_eq_eq_eq_not→acL,and_eq_true→acR,true_and→adG,or_eq_true→adJ,not_eq_true'→adK,and_eq_false_iff→adL,or_eq_false_iff→adM,not_not→adN,and_false→adP,false_and→adQ,and_true→aeY,and_self→ae4,not_eq_true→aoF,eq_false_iff→aoH
open Int renaming lt_irrefl→acI,natCast_zero→ajZ,le_refl→alO,toNat_zero→aoC
open List renaming length_map→acQ,getElem?_eq_getElem→acV,length_set→adO,all_cons→ajX,all_nil→ajY,length_pos_iff→aj0,getElem?_eq_some_iff→aj1,length_eq_zero_iff→ak9,mem_of_getElem?→an1,zipWith→aoB,head?_eq_getElem?→aoK,all_eq_not_any_not→aoL,take_length→aoN,take_add_one→aoO
set_option linter.unusedSimpArgs false
set_option linter.unusedVariables false
namespace Go.Proofs.YtdbiogihimdpcaaGreatDoor
open Go.Ev Go
set_option maxRecDepth 100000
set_option maxHeartbeats 16000000
theorem vH(c:Ah)(hl:c.rates.length≤maxLen):Bl.call (.fn 44) [.agg [.bool c.firm,.int .i64 c.space,.int .i64 c.lo,.int .i64 c.hi,Az 3 true c.nn (c.rates.map Bi.cells),.int .i64 c.gas,.int .i64 c.fixed,.int .i64 c.inn,.int .i64 c.out,.int .i64 c.cut,.int .i64 c.lack]] []=some (.ret (.bool (Ig c)),[]):=by
 (refine ce Tryz.func44 ?_;simp only[Tryz.f44];(have hb:=trivial;with_reducible repeat' (first|simp only[hb,Va.down,seval,aa4.down,gX,amN,amT]|refine Ai ?_ ?_<;>intro hb|refine fd ?_|fail)))
 all_goals first|(refine congrArg (fun b=>(Ea.ret (AV.bool b),([]:Aa))) ?_;symm;((try simp only[acL,aa9,abQ]at *);simp only[Ig, *,adP,adQ,aeY,adG,ae4,adN,aa9,abQ,ajX,ajY]))|skip
 refine Dm (Sj 135 c.rates (fun i (s:Option Bi) t h=>(i=0∧s=none∨0<i∧s=c.rates[i-1]?)∧h[0]?=some (.live 11 false false [[.bool c.firm,.int .i64 c.space,.int .i64 c.lo,.int .i64 c.hi,Az 3 true c.nn (c.rates.map Bi.cells),.int .i64 c.gas,.int .i64 c.fixed,.int .i64 c.inn,.int .i64 c.out,.int .i64 c.cut,.int .i64 c.lack]])∧t 1=.ptr 0 0 0∧t 3=.int .i64 i)
  (fun rest s=>Is rest s) (fun r e t h=>if r=true then e=.exit 0 else e=.ret∧t 2=.bool false) ?_ ?_ none _ _ ?_) (fun e t h hk=>?_)
 ·rintro s t h Q' kQ ⟨hs,hh,h1,h3⟩
  (have hb:=trivial;with_reducible repeat' (first|simp only[hb,Va.down,seval,aa4.down,hh,h1,h3,acI,decide_false]|refine Ai ?_ ?_<;>intro hb|refine fd ?_|fail))
  exact kQ _ _ _ (by simp[Is])
 ·rintro x rest i s t h J Q' kJ kQ hx hi ⟨hs,hh,h1,h3⟩
  have hd:decide ((i:Int)<(c.rates.length:Int))=true:=by simpa using hi
  have hA:=Bv hh
  have kF:∀{p:Option Bi},Rk p x=false→Is (x::rest) p=false:=fun h=>by simp[Is,h]
  have kT:∀{p:Option Bi},Rk p x=true→Is rest (some x)=Is (x::rest) p:=fun h=>by simp[Is,h]
  have hw:=Ak hi hl
  rcases hs with⟨rfl,rfl⟩|⟨hpos,rfl⟩
  ·simp only[ajZ,Int.zero_add]at hd h3 hw
   (have hb:=trivial;with_reducible repeat' (first|simp only[hb,Va.down,seval,aa4.down,hA,hh,h1,h3,hd,hx,Bi.cells,gX,zX,hw,aoC,alO,beq_self_eq_true,acI,decide_false]|refine Ai ?_ ?_<;>intro hb|refine fd ?_|fail))
   all_goals first
    |exact kQ _ _ _ (by rw[if_neg (by rw[kF (by(rw[aoH];intro hcon;simp only[Rk,Gp,acR,adJ,adK,adL,adM,decide_eq_true_eq,decide_eq_false_iff_not,beq_iff_eq,beq_eq_false_iff_ne,ne_eq,acL,aa9,abQ]at *;omega))];simp)];exact⟨rfl,rfl⟩)
    |exact Aq (kJ _ _ (some x) ⟨.inr ⟨by omega,by simp[hx]⟩,hA _,by simp[up,h1],by simp[up]<;>omega⟩ (kT (by(simp only[Rk,Gp,acR,adJ,adK,adL,adM,decide_eq_true_eq,decide_eq_false_iff_not,beq_iff_eq,beq_eq_false_iff_ne,ne_eq,acL,aa9,abQ]at *;omega))))
  ·obtain⟨j,rfl⟩:∃j,i=j+1:=⟨i-1,by omega⟩
   obtain⟨q,hq⟩:∃q,c.rates[j]?=some q:=⟨c.rates[j],acV (by omega)⟩
   have hj:IntKind.i64.wrap (((j+1:Nat):Int)-1)=(j:Int):=by unfold maxLen at hl;rw[Ag (by omega) (by omega)];omega
   have hz:(((j+1:Nat):Int)==0)=false:=by rw[beq_eq_false_iff_ne];omega
   have hg:decide (0<((j+1:Nat):Int))=true:=by rw[decide_eq_true_eq];omega
   simp only[Nat.add_sub_cancel,hq]at kJ kQ
   (have hb:=trivial;with_reducible repeat' (first|simp only[hb,Va.down,seval,aa4.down,hA,hh,h1,h3,hd,hx,Bi.cells,gX,zX,hw,hj,hz,hg,hq]|refine Ai ?_ ?_<;>intro hb|refine fd ?_|fail))
   all_goals first
    |exact kQ _ _ _ (by rw[if_neg (by rw[kF (by(rw[aoH];intro hcon;simp only[Rk,Gp,acR,adJ,adK,adL,adM,decide_eq_true_eq,decide_eq_false_iff_not,beq_iff_eq,beq_eq_false_iff_ne,ne_eq,acL,aa9,abQ]at *;omega))];simp)];exact⟨rfl,rfl⟩)
    |exact Aq (kJ _ _ (some x) ⟨.inr ⟨by omega,by simp[hx]⟩,hA _,by simp[up,h1],by simp[up]<;>omega⟩ (kT (by(simp only[Rk,Gp,acR,adJ,adK,adL,adM,decide_eq_true_eq,decide_eq_false_iff_not,beq_iff_eq,beq_eq_false_iff_ne,ne_eq,acL,aa9,abQ]at *;omega))))
 ·exact⟨.inl ⟨rfl,rfl⟩,rfl,by simp[up],by simp[up]⟩
 ·split at hk
  ·subst hk
   rename_i hr
   (have hb:=trivial;with_reducible repeat' (first|simp only[hb,Va.down,seval,aa4.down]|refine Ai ?_ ?_<;>intro hb|refine fd ?_|fail))
   all_goals (refine congrArg (fun b=>(Ea.ret (AV.bool b),([]:Aa))) ?_;symm;((try simp only[acL,aa9,abQ]at *);simp only[Ig, *,adP,adQ,aeY,adG,ae4,adN,aa9,abQ,ajX,ajY]))
  ·obtain⟨rfl,h2⟩:=hk
   rename_i hr
   (have hb:=trivial;with_reducible repeat' (first|simp only[hb,Va.down,seval,aa4.down,h2]|refine Ai ?_ ?_<;>intro hb|refine fd ?_|fail))
   all_goals simp[Ig,hr]
def lM(hour:Int)(c:Ah)(a:Int × Int):Int × Int:=if(c.firm&&Gp hour c.lo c.hi)=true then(IntKind.i64.wrap (a.1+(c.rates.head?.map Bi.inn).getD 0),IntKind.i64.wrap (a.2+(c.rates.getLast?.map Bi.out).getD 0))else a
def Pz(hour:Int):List Ah→Int × Int→Int × Int
 | [],a=>a
 |c::l,a=>Pz hour l (lM hour c a)
def Jd:List Ah→Int→Int
 | [],a=>a
 |c::l,a=>Jd l (IntKind.i64.wrap (a+c.space))
theorem zG{α:Type}{l:List α}(h:l≠[]):∃x,l[l.length-1]?=some x∧l.getLast?=some x:=by
 have hl:0<l.length:=aj0.2 h
 refine⟨l[l.length-1],acV (by omega),?_⟩
 rw[List.getLast?_eq_getElem?]
 exact acV (by omega)
theorem ahH{l:List Ah}{nn:Bool}(hl:l.length≤maxLen):Bl.call (.fn 67) [Az 11 false nn (l.map Ah.cells)] []=some (.ret (.int .i64 (Jd l 0)),[]):=by
 (refine ce Tryz.func67 ?_;simp only[Tryz.f67];(have hb:=trivial;with_reducible repeat' (first|simp only[hb,Va.down,seval,alN.down,acQ]|refine Ai ?_ ?_<;>intro hb|refine fd ?_|fail)))
 refine Dm (Sj 18 l (fun i (s:Int) t h=>t 6=Az 11 false nn (l.map Ah.cells)∧t 7=.int .i64 l.length∧t 8=.int .i64 i∧t 3=.int .i64 s)
  (fun rest s=>Jd rest s) (fun r e t h=>e=.exit 0∧t 3=.int .i64 r) ?_ ?_ 0 _ _ ?_) (fun e t h hk=>?_)
 ·rintro s t h Q' kQ ⟨h6,h7,h8,h3⟩
  (have hb:=trivial;with_reducible repeat' (first|simp only[hb,Va.down,seval,alN.down,h6,h7,h8,h3,acI,decide_false]|refine Ai ?_ ?_<;>intro hb|refine fd ?_|fail))
  exact kQ _ _ _ ⟨rfl,by simp[up,h3,Jd]⟩
 ·rintro x rest i s t h J Q' kJ kQ hx hi ⟨h6,h7,h8,h3⟩
  have hd:decide ((i:Int)<(l.length:Int))=true:=by simpa using hi
  have hw:=Ak hi hl
  (have hb:=trivial;with_reducible repeat' (first|simp only[hb,Va.down,seval,alN.down,h6,h7,h8,h3,hd,hx,Ah.cells,hw]|refine Ai ?_ ?_<;>intro hb|refine fd ?_|fail))
  exact Aq (kJ _ _ (IntKind.i64.wrap (s+x.space)) ⟨by simp[up,h6],by simp[up,h7],by simp[up],by simp[up]⟩ rfl)
 ·exact⟨by simp[up,Dj],by simp[up],by simp[up],by simp[up]⟩
 ·obtain⟨rfl,h3⟩:=hk
  (have hb:=trivial;with_reducible repeat' (first|simp only[hb,Va.down,seval,alN.down,h3]|refine Ai ?_ ?_<;>intro hb|refine fd ?_|fail))
theorem ahD{l:List Ah}{nn:Bool}(hour:Int)(hl:l.length≤maxLen)(hr:∀c∈l,c.rates≠[]∧c.rates.length≤6):Bl.call (.fn 68) [Az 11 false nn (l.map Ah.cells),.int .i64 hour] []=some (.ret (.tup [.int .i64 (Pz hour l (0,0)).1,.int .i64 (Pz hour l (0,0)).2]),[]):=by
 (refine ce Tryz.func68 ?_;simp only[Tryz.f68];(have hb:=trivial;with_reducible repeat' (first|simp only[hb,Va.down,seval,al4.down,acQ]|refine Ai ?_ ?_<;>intro hb|refine fd ?_|fail)))
 refine Dm (Sj 44 l (fun i (s:Int × Int) t h=>t 1=.int .i64 hour∧t 10=Az 11 false nn (l.map Ah.cells)∧t 11=.int .i64 l.length∧t 12=.int .i64 i∧t 6=.int .i64 s.1∧t 7=.int .i64 s.2)
  (fun rest s=>Pz hour rest s) (fun r e t h=>e=.exit 0∧t 6=.int .i64 r.1∧t 7=.int .i64 r.2) ?_ ?_ (0,0) _ _ ?_) (fun e t h hk=>?_)
 ·rintro s t h Q' kQ ⟨h1,h10,h11,h12,h6,h7⟩
  (have hb:=trivial;with_reducible repeat' (first|simp only[hb,Va.down,seval,al4.down,h10,h11,h12,acI,decide_false]|refine Ai ?_ ?_<;>intro hb|refine fd ?_|fail))
  exact kQ _ _ _ ⟨rfl,by simp[up,h6,Pz],by simp[up,h7,Pz]⟩
 ·rintro x rest i s t h J Q' kJ kQ hx hi ⟨h1,h10,h11,h12,h6,h7⟩
  have hd:decide ((i:Int)<(l.length:Int))=true:=by simpa using hi
  have hw:=Ak hi hl
  obtain⟨hne,h6r⟩:=hr x (an1 hx)
  obtain⟨q,hq1,hq2⟩:=zG hne
  obtain⟨r0,hr0⟩:∃r0,x.rates[0]?=some r0:=⟨x.rates[0]'(aj0.2 hne),acV _⟩
  have hlast:IntKind.i64.wrap ((x.rates.length:Int)-1)=((x.rates.length-1:Nat):Int):=by
   have:=aj0.2 hne
   rw[Ag (by omega) (by omega)];omega
  have hh0:x.rates.head?=some r0:=by rw[aoK];exact hr0
  (have hb:=trivial;with_reducible repeat' (first|simp only[hb,Va.down,seval,al4.down,h1,h10,h11,h12,h6,h7,hd,hx,Ah.cells,Bi.cells,hw,tK,hlast,hq1,hr0,alO,aoC]|refine Ai ?_ ?_<;>intro hb|refine fd ?_|fail))
  all_goals exact Aq (kJ _ _ (lM hour x s) ⟨by simp[up,h1],by simp[up,h10],by simp[up,h11],by simp[up],by simp[up,lM, *],by simp[up,lM, *]⟩ rfl)
 ·exact⟨by simp[up,Dj],by simp[up,Dj],by simp[up],by simp[up],by simp[up],by simp[up]⟩
 ·obtain⟨rfl,h6,h7⟩:=hk
  (have hb:=trivial;with_reducible repeat' (first|simp only[hb,Va.down,seval,al4.down,h6,h7]|refine Ai ?_ ?_<;>intro hb|refine fd ?_|fail))
def iG(l:List Ah):Prop:=∀c∈l,c.rates≠[]∧c.rates.length≤6
theorem aq6{l:List Ah}{nn:Bool}(hour:Int)(hl:l.length≤maxLen)(hr:iG l):Bl.call (.fn 69) [Az 11 false nn (l.map Ah.cells),.int .i64 hour] []=some (.ret (.agg [.int .i64 (Jd l 0),.int .i64 (Pz hour l (0,0)).1,.int .i64 (Pz hour l (0,0)).2]),[]):=by
 (refine ce Tryz.func69 ?_;simp only[Tryz.f69];(have hb:=trivial;with_reducible repeat' (first|simp only[hb,Va.down,seval,anR.down,acQ]|refine Ai ?_ ?_<;>intro hb|refine fd ?_|fail)))
 refine Dm (Sj 67 l (fun i (s:Bool × Int × Int × Int) t h=>h=[.live 3 true false [[.int .i64 0,.int .i64 0,.int .i64 0]],.live 3 true s.1 [[.int .i64 s.2.1,.int .i64 s.2.2.1,.int .i64 s.2.2.2]]]∧t 0=Az 11 false nn (l.map Ah.cells)∧t 1=.int .i64 hour∧t 4=.ptr 0 0 0∧t 5=.ptr 1 0 0∧t 6=.int .i64 i)
  (fun rest s=>(Jd rest s.2.1,Pz hour rest s.2.2)) (fun r e t h=>e=.exit 0∧(∃w,h=[.live 3 true false [[.int .i64 0,.int .i64 0,.int .i64 0]],.live 3 true w [[.int .i64 r.1,.int .i64 r.2.1,.int .i64 r.2.2]]])∧t 4=.ptr 0 0 0∧t 5=.ptr 1 0 0) ?_ ?_ (false,0,0,0) _ _ ?_) (fun e t h hk=>?_)
 ·rintro⟨w,a,b,c⟩ t h Q' kQ ⟨rfl,h0,h1,h4,h5,h6⟩
  (have hb:=trivial;with_reducible repeat' (first|simp only[hb,Va.down,seval,anR.down,h0,h6,acI,decide_false]|refine Ai ?_ ?_<;>intro hb|refine fd ?_|fail))
  exact kQ _ _ _ ⟨rfl,⟨w,by simp[Jd,Pz]⟩,by simp[up,h4],by simp[up,h5]⟩
 ·rintro x rest i ⟨w,a,b,c⟩ t h J Q' kJ kQ hx hi ⟨rfl,h0,h1,h4,h5,h6⟩
  have hd:decide ((i:Int)<(l.length:Int))=true:=by simpa using hi
  have hw:=Ak hi hl
  obtain⟨hne,h6r⟩:=hr x (an1 hx)
  obtain⟨q,hq1,hq2⟩:=zG hne
  obtain⟨r0,hr0⟩:∃r0,x.rates[0]?=some r0:=⟨x.rates[0]'(aj0.2 hne),acV _⟩
  have hlast:IntKind.i64.wrap ((x.rates.length:Int)-1)=((x.rates.length-1:Nat):Int):=by
   have:=aj0.2 hne
   rw[Ag (by omega) (by omega)];omega
  have hh0:x.rates.head?=some r0:=by rw[aoK];exact hr0
  (have hb:=trivial;with_reducible repeat' (first|simp only[hb,Va.down,seval,anR.down,h0,h1,h4,h5,h6,hd,hx,Ah.cells,Bi.cells,hw,ahW,hlast,hq1,hr0,alO,aoC]|refine Ai ?_ ?_<;>intro hb|refine fd ?_|fail))
  all_goals exact Aq (kJ _ _ (true,IntKind.i64.wrap (a+x.space),lM hour x (b,c)) ⟨by simp[lM, *],by simp[up,h0],by simp[up,h1],by simp[up,h4],by simp[up,h5],by simp[up]⟩ rfl)
 ·exact⟨rfl,by simp[up,Dj],by simp[up,Dj],by simp[up],by simp[up],by simp[up]⟩
 ·obtain⟨rfl,⟨w,rfl⟩,h4,h5⟩:=hk
  (have hb:=trivial;with_reducible repeat' (first|simp only[hb,Va.down,seval,anR.down,h4,h5]|refine Ai ?_ ?_<;>intro hb|refine fd ?_|fail))
def Jb(p:Int→Bool):Nat→Bool
 |0=>true
 |n+1=>p (48-((n+1:Nat):Int))&&Jb p n
def okH(s:Ac)(l:List Ah)(h:Int):Bool:=decide ((Pz h l (0,0)).1≤s.inn)&&decide ((Pz h l (0,0)).2≤s.out)
def fQ(s:Ac)(l:List Ah):Bool:=Jb (okH s l) 48&&decide (Jd l 0≤s.space)
theorem jA(a:Bool)(p:Int→Bool):∀n,Jb (fun h=>a&&p h) (n+1)=(Jb p (n+1)&&a)
 |0=>by simp[Jb,Bool.and_comm]
 |n+1=>by
  rw[Jb,jA a p n]
  conv=>rhs;rw[Jb]
  cases a<;>simp
theorem apC(s:Ac)(hl:s.cons.length≤maxLen)(hr:iG s.cons):Bl.call (.fn 87) [.agg s.cells] []=some (.ret (.bool (fQ s s.cons)),[]):=by
 have hs:=fun(h:Int)=>ahD (nn:=s.nn) h hl hr
 have hp:=ahH (nn:=s.nn) hl
 (refine ce Tryz.func87 ?_;simp only[Tryz.f87];(have hb:=trivial;with_reducible repeat' (first|simp only[hb,Va.down,seval,ah5.down]|refine Ai ?_ ?_<;>intro hb|refine fd ?_|fail)))
 refine Dm (cnt 33 (fun n (_:Unit) t h=>n≤48∧h[0]?=some (.live 6 false false [s.cells])∧t 1=.ptr 0 0 0∧t 6=.int .i64 (48-n))
  (fun n _=>Jb (okH s s.cons) n) (fun r e t h=>if r=true then e=.exit 0∧h[0]?=some (.live 6 false false [s.cells])∧t 1=.ptr 0 0 0 else e=.ret∧t 2=.bool false) ?_ ?_ 48 () _ _ ?_) (fun e t h hk=>?_)
 ·rintro _ t h Q' kQ ⟨_,hh,h1,h6⟩
  (have hb:=trivial;with_reducible repeat' (first|simp only[hb,Va.down,seval,ah5.down,h1,h6,ajZ,Int.sub_zero,acI,decide_false]|refine Ai ?_ ?_<;>intro hb|refine fd ?_|fail))
  exact kQ _ _ _ (by simp[Jb,hh,up,h1])
 ·rintro n _ t h J Q' kJ kQ ⟨hn,hh,h1,h6⟩
  have hd:decide ((48:Int)-((n+1:Nat):Int)<48)=true:=by rw[decide_eq_true_eq];omega
  have hw:IntKind.i64.wrap ((48:Int)-((n+1:Nat):Int)+1)=48-(n:Int):=by rw[Ag (by omega) (by omega)];omega
  (have hb:=trivial;with_reducible repeat' (first|simp only[hb,Va.down,seval,ah5.down,hh,h1,h6,hd,hw,hs]|refine Ai ?_ ?_<;>intro hb|refine fd ?_|fail))
  all_goals first
   |exact kQ _ _ _ (by rw[if_neg (by intro hcon;(simp only[Jb,okH,acR,adJ,adK,adL,adM,decide_eq_true_eq,decide_eq_false_iff_not,beq_iff_eq,beq_eq_false_iff_ne,ne_eq,acL,aa9,abQ]at *;omega))];exact⟨rfl,rfl⟩)
   |exact Aq (kJ _ _ () ⟨by omega,hh,by simp[up,h1],by simp[up]⟩ (by
     have:okH s s.cons (48-((n+1:Nat):Int))=true:=by(simp only[okH,acR,adJ,adK,adL,adM,decide_eq_true_eq,decide_eq_false_iff_not,beq_iff_eq,beq_eq_false_iff_ne,ne_eq,acL,aa9,abQ]at *;omega)
     simp only[Jb,this,adG]))
 ·exact⟨by omega,rfl,by simp[up],by simp[up]⟩
 ·split at hk
  ·obtain⟨rfl,hh,h1⟩:=hk
   rename_i hr'
   (have hb:=trivial;with_reducible repeat' (first|simp only[hb,Va.down,seval,ah5.down,hh,h1,hp]|refine Ai ?_ ?_<;>intro hb|refine fd ?_|fail))
   all_goals simp[fQ,hr']
  ·obtain⟨rfl,h2⟩:=hk
   rename_i hr'
   (have hb:=trivial;with_reducible repeat' (first|simp only[hb,Va.down,seval,ah5.down,h2]|refine Ai ?_ ?_<;>intro hb|refine fd ?_|fail))
   all_goals simp[fQ,hr']
theorem kY{l:List Ah}(h:l.all Ig=true):iG l:=fun c hc=>by
 have:=List.all_eq_true.1 h c hc
 simp only[Ig,Gp,acR,decide_eq_true_eq]at this
 obtain⟨⟨⟨_,h1,h2⟩,_⟩,_⟩:=this
 refine⟨fun e=>?_,by omega⟩
 rw[e]at h1;simp at h1
theorem as2(s:Ac)(l:List Ah)(nn:Bool)(hl:l.length≤maxLen)(hr:iG l):Bl.call (.fn 56) [.agg s.cells,Az 11 false nn (l.map Ah.cells)] []=some (.ret (.bool (fQ s l)),[]):=by
 have hs:=fun(h:Int)=>aq6 (nn:=nn) h hl hr
 (refine ce Tryz.func56 ?_;simp only[Tryz.f56];(have hb:=trivial;with_reducible repeat' (first|simp only[hb,Va.down,seval,ahF.down]|refine Ai ?_ ?_<;>intro hb|refine fd ?_|fail)))
 refine Dm (cnt 33 (fun n (_:Unit) t h=>n≤48∧h[0]?=some (.live 6 false false [s.cells])∧t 1=Az 11 false nn (l.map Ah.cells)∧t 2=.ptr 0 0 0∧t 5=.int .i64 (48-n))
  (fun n _=>Jb (fun h=>decide (Jd l 0≤s.space)&&okH s l h) n) (fun r e t h=>if r=true then e=.exit 0 else e=.ret∧t 4=.bool false) ?_ ?_ 48 () _ _ ?_) (fun e t h hk=>?_)
 ·rintro _ t h Q' kQ ⟨_,hh,h1,h2,h5⟩
  (have hb:=trivial;with_reducible repeat' (first|simp only[hb,Va.down,seval,ahF.down,h5,ajZ,Int.sub_zero,acI,decide_false]|refine Ai ?_ ?_<;>intro hb|refine fd ?_|fail))
  exact kQ _ _ _ (by simp[Jb])
 ·rintro n _ t h J Q' kJ kQ ⟨hn,hh,h1,h2,h5⟩
  have hd:decide ((48:Int)-((n+1:Nat):Int)<48)=true:=by rw[decide_eq_true_eq];omega
  have hw:IntKind.i64.wrap ((48:Int)-((n+1:Nat):Int)+1)=48-(n:Int):=by rw[Ag (by omega) (by omega)];omega
  have hA:=Bv hh
  (have hb:=trivial;with_reducible repeat' (first|simp only[hb,Va.down,seval,ahF.down,hA,hh,h1,h2,h5,hd,hw,hs]|refine Ai ?_ ?_<;>intro hb|refine fd ?_|fail))
  all_goals first
   |exact kQ _ _ _ (by rw[if_neg (by intro hcon;(simp only[Jb,okH,acR,adJ,adK,adL,adM,decide_eq_true_eq,decide_eq_false_iff_not,beq_iff_eq,beq_eq_false_iff_ne,ne_eq,acL,aa9,abQ]at *;omega))];exact⟨rfl,rfl⟩)
   |exact Aq (kJ _ _ () ⟨by omega,hA _,by simp[up,h1],by simp[up,h2],by simp[up]⟩ (by
     have:(decide (Jd l 0≤s.space)&&okH s l (48-((n+1:Nat):Int)))=true:=by(simp only[okH,acR,adJ,adK,adL,adM,decide_eq_true_eq,decide_eq_false_iff_not,beq_iff_eq,beq_eq_false_iff_ne,ne_eq,acL,aa9,abQ]at *;omega)
     simp only[Jb,this,adG]))
 ·exact⟨by omega,rfl,by simp[up,Dj],by simp[up],by simp[up]⟩
 ·have he:fQ s l=Jb (fun h=>decide (Jd l 0≤s.space)&&okH s l h) 48:=by rw[jA];rfl
  split at hk
  ·subst hk
   rename_i hr'
   (have hb:=trivial;with_reducible repeat' (first|simp only[hb,Va.down,seval,ahF.down]|refine Ai ?_ ?_<;>intro hb|refine fd ?_|fail))
   all_goals simp[he,hr']
  ·obtain⟨rfl,h2⟩:=hk
   rename_i hr'
   (have hb:=trivial;with_reducible repeat' (first|simp only[hb,Va.down,seval,ahF.down,h2]|refine Ai ?_ ?_<;>intro hb|refine fd ?_|fail))
   all_goals simp[he,hr']
theorem aiD{l:List Ah}{nn:Bool}(hl:l.length≤maxLen)(hr:∀c∈l,c.rates.length≤maxLen):Bl.call (.fn 55) [Az 11 false nn (l.map Ah.cells)] []=some (.ret (.bool (l.all Ig)),[]):=by
 (refine ce Tryz.func55 ?_;simp only[Tryz.f55];(have hb:=trivial;with_reducible repeat' (first|simp only[hb,Va.down,seval,agW.down,acQ]|refine Ai ?_ ?_<;>intro hb|refine fd ?_|fail)))
 refine Dm (Sj 16 l (fun i (_:Unit) t h=>t 0=Az 11 false nn (l.map Ah.cells)∧t 3=.int .i64 i)
  (fun rest _=>rest.all Ig) (fun r e t h=>if r=true then e=.exit 0 else e=.ret∧t 2=.bool false) ?_ ?_ () _ _ ?_) (fun e t h hk=>?_)
 ·rintro _ t h Q' kQ ⟨h0,h3⟩
  (have hb:=trivial;with_reducible repeat' (first|simp only[hb,Va.down,seval,agW.down,h0,h3,acI,decide_false]|refine Ai ?_ ?_<;>intro hb|refine fd ?_|fail))
  exact kQ _ _ _ (by simp)
 ·rintro x rest i _ t h J Q' kJ kQ hx hi ⟨h0,h3⟩
  have hd:decide ((i:Int)<(l.length:Int))=true:=by simpa using hi
  have hw:=Ak hi hl
  have hc:=vH x (hr x (an1 hx))
  (have hb:=trivial;with_reducible repeat' (first|simp only[hb,Va.down,seval,agW.down,h0,h3,hd,hx,Ah.cells,hw,hc]|refine Ai ?_ ?_<;>intro hb|refine fd ?_|fail))
  ·exact kQ _ _ _ (by rw[if_neg (by simp at hb;simp[hb])];exact⟨rfl,rfl⟩)
  ·exact Aq (kJ _ _ () ⟨by simp[up,h0],by simp[up]⟩ (by simp at hb;simp[hb]))
 ·exact⟨by simp[up,Dj],by simp[up]⟩
 ·split at hk
  ·subst hk
   rename_i hr'
   (have hb:=trivial;with_reducible repeat' (first|simp only[hb,Va.down,seval,agW.down]|refine Ai ?_ ?_<;>intro hb|refine fd ?_|fail))
   all_goals simp[hr']
  ·obtain⟨rfl,h2⟩:=hk
   rename_i hr'
   (have hb:=trivial;with_reducible repeat' (first|simp only[hb,Va.down,seval,agW.down,h2]|refine Ai ?_ ?_<;>intro hb|refine fd ?_|fail))
   all_goals (rw[aoF]at hr';rw[hr'])
structure Ac.small(s:Ac):Prop where
 cons:s.cons.length≤maxLen
 rates:∀c∈s.cons,c.rates.length≤maxLen
def Fj(s:Ac):Bool:=([s.space,s.inn,s.out].all fun x=>Gp x 0 800000000)&&Gp s.lead 0 48&&Gp s.fuel 0 1000&&decide (s.cons.length≤8)&&s.cons.all Ig&&fQ s s.cons
theorem adY(c:Ah)(hl:c.rates.length≤maxLen):Bl.call (.fn 91) [.agg [.bool c.firm,.int .i64 c.space,.int .i64 c.lo,.int .i64 c.hi,Az 3 true c.nn (c.rates.map Bi.cells),.int .i64 c.gas,.int .i64 c.fixed,.int .i64 c.inn,.int .i64 c.out,.int .i64 c.cut,.int .i64 c.lack]] []=some (.ret (.bool (!Ig c)),[]):=by
 (refine ce Tryz.func91 ?_;simp only[Tryz.f91];(have hb:=trivial;with_reducible repeat' (first|simp only[hb,Va.down,seval,axP.down,vZ c hl]|refine Ai ?_ ?_<;>intro hb|refine fd ?_|fail)))
theorem zS(s:Ac)(hs:s.small):Bl.call (.fn 49) [.agg s.cells] []=some (.ret (.bool (Fj s)),[]):=by
 have hg:=xO (l:=[s.space,s.inn,s.out]) (nn:=true) (by simp[maxLen])
 simp only[List.map_cons,List.map_nil,iv,kX]at hg
 have hc:=acC (l:=s.cons) (nn:=s.nn) (g:=91) (cap:=[]) (p:=fun c=> !Ig c) rfl rfl (fun x hx=>adY x (hs.rates x hx)) hs.cons
 have ha:s.cons.any (fun c=> !Ig c)= !(s.cons.all Ig):=by rw[aoL,adN]
 have hlen:decide ((s.cons.length:Int)≤8)=decide (s.cons.length≤8):=by rw[decide_eq_decide];omega
 cases hv:s.cons.all Ig with
 |false=>
  rw[ha,hv]at hc
  (refine ce Tryz.func49 ?_;simp only[Tryz.f49];(have hb:=trivial;with_reducible repeat' (first|simp only[hb,Va.down,seval,awO.down,hg,lY,hc,hlen]|refine Ai ?_ ?_<;>intro hb|refine fd ?_|fail)))
  all_goals simp[Fj, *]
 |true=>
  rw[ha,hv]at hc
  have ho:=apC s hs.cons (kY hv)
  (refine ce Tryz.func49 ?_;simp only[Tryz.f49];(have hb:=trivial;with_reducible repeat' (first|simp only[hb,Va.down,seval,awO.down,hg,lY,hc,ho,hlen]|refine Ai ?_ ?_<;>intro hb|refine fd ?_|fail)))
  all_goals simp[Fj, *]
theorem xU(s:Ac)(hs:s.small):Bl.call (.fn 17) [.agg s.cells] []=some (.ret (.bool (Fj s)),[]):=by
 have hc:=aiD (nn:=s.nn) hs.cons hs.rates
 have hlen:decide (8<(s.cons.length:Int))= !decide (s.cons.length≤8):=by rw[←decide_not,decide_eq_decide];omega
 cases hv:s.cons.all Ig with
 |false=>
  rw[hv]at hc
  (refine ce Tryz.func17 ?_;simp only[Tryz.f17];(have hb:=trivial;with_reducible repeat' (first|simp only[hb,Va.down,seval,awM.down,pJ,gX,hc,hlen]|refine Ai ?_ ?_<;>intro hb|refine fd ?_|fail)))
  all_goals (refine congrArg (fun b=>(Ea.ret (AV.bool b),([]:Aa))) ?_;symm;((try simp only[acL,aa9,abQ]at *);simp only[Fj, *,adP,adQ,aeY,adG,ae4,adN,aa9,abQ,ajX,ajY]))
 |true=>
  rw[hv]at hc
  have ho:=as2 s s.cons s.nn hs.cons (kY hv)
  (refine ce Tryz.func17 ?_;simp only[Tryz.f17];(have hb:=trivial;with_reducible repeat' (first|simp only[hb,Va.down,seval,awM.down,pJ,gX,hc,ho,hlen]|refine Ai ?_ ?_<;>intro hb|refine fd ?_|fail)))
  all_goals (refine congrArg (fun b=>(Ea.ret (AV.bool b),([]:Aa))) ?_;symm;((try simp only[acL,aa9,abQ]at *);simp only[Fj, *,adP,adQ,aeY,adG,ae4,adN,aa9,abQ,ajX,ajY]))
def eB(l:List Ah):Bool:=(l.all fun c=>decide (c.rates.length≤10))&&decide (l.length≤12)
theorem zF{l:List Ah}{nn:Bool}(hl:l.length≤maxLen):Bl.call (.fn 14) [Az 11 false nn (l.map Ah.cells)] []=some (.ret (.bool (eB l)),[]):=by
 (refine ce Tryz.func14 ?_;simp only[Tryz.f14];(have hb:=trivial;with_reducible repeat' (first|simp only[hb,Va.down,seval,agZ.down,acQ]|refine Ai ?_ ?_<;>intro hb|refine fd ?_|fail)))
 refine Dm (Sj 20 l (fun i (_:Unit) t h=>t 0=Az 11 false nn (l.map Ah.cells)∧t 3=.int .i64 i)
  (fun rest _=>rest.all fun c=>decide (c.rates.length≤10)) (fun r e t h=>if r=true then e=.exit 0∧t 0=Az 11 false nn (l.map Ah.cells)else e=.ret∧t 2=.bool false) ?_ ?_ () _ _ ?_) (fun e t h hk=>?_)
 ·rintro _ t h Q' kQ ⟨h0,h3⟩
  (have hb:=trivial;with_reducible repeat' (first|simp only[hb,Va.down,seval,agZ.down,h0,h3,acI,decide_false]|refine Ai ?_ ?_<;>intro hb|refine fd ?_|fail))
  exact kQ _ _ _ (by simp[up,h0])
 ·rintro x rest i _ t h J Q' kJ kQ hx hi ⟨h0,h3⟩
  have hd:decide ((i:Int)<(l.length:Int))=true:=by simpa using hi
  have hw:=Ak hi hl
  (have hb:=trivial;with_reducible repeat' (first|simp only[hb,Va.down,seval,agZ.down,h0,h3,hd,hx,Ah.cells,hw]|refine Ai ?_ ?_<;>intro hb|refine fd ?_|fail))
  ·exact kQ _ _ _ (by rw[if_neg (by simp only[decide_eq_true_eq]at hb;simp;omega)];exact⟨rfl,rfl⟩)
  ·exact Aq (kJ _ _ () ⟨by simp[up,h0],by simp[up]⟩ (by simp only[decide_eq_false_iff_not]at hb;simp;omega))
 ·exact⟨by simp[up,Dj],by simp[up]⟩
 ·have hlen:decide ((l.length:Int)≤12)=decide (l.length≤12):=by rw[decide_eq_decide];omega
  split at hk
  ·obtain⟨rfl,h0⟩:=hk
   rename_i hr'
   (have hb:=trivial;with_reducible repeat' (first|simp only[hb,Va.down,seval,agZ.down,h0,hlen]|refine Ai ?_ ?_<;>intro hb|refine fd ?_|fail))
   all_goals simp[eB,hr']
  ·obtain⟨rfl,h2⟩:=hk
   rename_i hr'
   (have hb:=trivial;with_reducible repeat' (first|simp only[hb,Va.down,seval,agZ.down,h2]|refine Ai ?_ ?_<;>intro hb|refine fd ?_|fail))
   all_goals (rw[aoF]at hr';simp[eB,hr'])
def min2(x y:Int):Int:=if y<x then y else x
theorem Rj{s:Ac}(h:Fj s=true):s.cons.all Ig=true:=by
 simp only[Fj,acR]at h;exact h.1.2
theorem cT(a:Int):(a==a)=true:=by simp
theorem Zq{α:Type}{f:α→List AV}{p:List AV→Prop}{q:α→Prop}(hf:∀r,p r→∃x,r=f x∧q x):∀{rows:List (List AV)},(∀r∈rows,p r)→∃l:List α,rows=l.map f∧∀x∈l,q x
 | [],_=>⟨[],rfl,fun x hx=>by simp at hx⟩
 |r::rows,h=>by
  obtain⟨x,rfl,hx⟩:=hf r (h r (List.mem_cons_self ..))
  obtain⟨l,rfl,hl⟩:=Zq hf (fun r hr=>h r (List.mem_cons_of_mem _ hr))
  exact⟨x::l,rfl,fun y hy=>by
   rcases List.mem_cons.1 hy with rfl|hy
   ·exact hx
   ·exact hl y hy⟩
def i64(n:Int):Prop:= -9223372036854775808≤n∧n≤9223372036854775807
theorem Dl{n:Nat}{r:List AV}(h:Ty Tryz.prog (n+1) 3 r):∃x,r=[.int .i64 x]∧i64 x:=by
 simp only[Ty,Tryz.underlying3]at h
 obtain⟨x,rfl,h1,h2⟩:=h
 exact⟨x,rfl,h1,h2⟩
theorem al5{n:Nat}{r:List AV}(h:Ty Tryz.prog (n+1) 4 r):∃x,r=[.bool x]:=by
 simp only[Ty,Tryz.underlying4]at h
 exact h
theorem amF{n:Nat}{r:List AV}(h:Ty Tryz.prog (n+2) 39 r):∃x y,r=[.int .i64 x,.int .i64 y]∧i64 x∧i64 y:=by
 unfold Ty at h
 simp only[Tryz.underlying39,hZ]at h
 obtain⟨a,b,rfl,h1,c,d,rfl,h2,rfl⟩:=h
 obtain⟨x,rfl,hx⟩:=Dl h1
 obtain⟨y,rfl,hy⟩:=Dl h2
 exact⟨x,y,rfl,hx,hy⟩
theorem am9{n:Nat}{r:List AV}(h:Ty Tryz.prog (n+2) 94 r):∃x:Bi,r=x.cells∧True:=by
 unfold Ty at h
 simp only[Tryz.underlying94,hZ]at h
 obtain⟨a,b,rfl,h1,c,d,rfl,h2,e,f,rfl,h3,rfl⟩:=h
 obtain⟨x,rfl,_⟩:=Dl h1
 obtain⟨y,rfl,_⟩:=Dl h2
 obtain⟨z,rfl,_⟩:=Dl h3
 exact⟨⟨x,y,z⟩,rfl,trivial⟩
theorem asP{n:Nat}{r:List AV}(h:Ty Tryz.prog (n+4) 42 r):∃x:Ah,r=x.cells∧x.rates.length≤maxLen:=by
 unfold Ty at h
 simp only[Tryz.underlying42,hZ]at h
 obtain⟨a0,b0,rfl,h0,a1,b1,rfl,h1,a2,b2,rfl,h2,a3,b3,rfl,h3,a4,b4,rfl,h4,a5,b5,rfl,h5,a6,b6,rfl,h6,a7,b7,rfl,h7,a8,b8,rfl,h8,a9,b9,rfl,h9,rfl⟩:=h
 obtain⟨x0,rfl⟩:=al5 h0
 obtain⟨x1,rfl,_⟩:=Dl h1
 obtain⟨x2,y2,rfl,_⟩:=amF h2
 obtain⟨x4,rfl,_⟩:=Dl h4
 obtain⟨x5,rfl,_⟩:=Dl h5
 obtain⟨x6,rfl,_⟩:=Dl h6
 obtain⟨x7,rfl,_⟩:=Dl h7
 obtain⟨x8,rfl,_⟩:=Dl h8
 obtain⟨x9,rfl,_⟩:=Dl h9
 unfold Ty at h3
 simp only[Tryz.underlying40]at h3
 obtain⟨nn,rows,rfl,hl,hrows⟩:=h3
 obtain⟨l,rfl,_⟩:=Zq (fun r hr=>am9 hr) hrows
 have e1:Tryz.prog.cellsOf 94=3:=by kernel_rfl
 have e2:iE Tryz.prog (n+2) 94=true:=by
  simp only[iE,Tryz.underlying94,Tryz.underlying3];rfl
 rw[e1,e2]
 exact⟨⟨x0,x1,x2,y2,nn,l,x4,x5,x6,x7,x8,x9⟩,rfl,by simpa using hl⟩
theorem anC{n:Nat}{r:List AV}(h:Ty Tryz.prog (n+5) 22 r):∃(nn:Bool) (l:List Ah),r=[Az 11 false nn (l.map Ah.cells)]∧l.length≤maxLen∧∀c∈l,c.rates.length≤maxLen:=by
 unfold Ty at h
 simp only[Tryz.underlying22]at h
 obtain⟨nn,rows,rfl,hl,hrows⟩:=h
 obtain⟨l,rfl,hc⟩:=Zq (fun r hr=>asP hr) hrows
 have e1:Tryz.prog.cellsOf 42=11:=by kernel_rfl
 have e2:iE Tryz.prog (n+4) 42=false:=by
  simp only[iE,Tryz.underlying42,Tryz.underlying40];simp
 rw[e1,e2]
 exact⟨nn,l,rfl,by simpa using hl,hc⟩
theorem ah6{n:Nat}{r:List AV}(h:Ty Tryz.prog (n+6) 24 r):∃s:Ac,r=s.cells∧s.small:=by
 unfold Ty at h
 simp only[Tryz.underlying24,hZ]at h
 obtain⟨a0,b0,rfl,h0,a1,b1,rfl,h1,a2,b2,rfl,h2,a3,b3,rfl,h3,a4,b4,rfl,h4,a5,b5,rfl,h5,rfl⟩:=h
 obtain⟨x0,rfl,_⟩:=Dl h0
 obtain⟨x1,rfl,_⟩:=Dl h1
 obtain⟨x2,rfl,_⟩:=Dl h2
 obtain⟨x3,rfl,_⟩:=Dl h3
 obtain⟨x4,rfl,_⟩:=Dl h4
 obtain⟨nn,l,rfl,hl,hc⟩:=anC h5
 exact⟨⟨x0,x1,x2,x3,x4,nn,l⟩,rfl,hl,hc⟩
theorem ad2{av:AV}(h:qN Tryz.prog 7 24 av):∃s:Ac,av=.agg s.cells∧s.small:=by
 unfold qN at h
 simp only[Tryz.underlying24]at h
 obtain⟨cs,rfl,h⟩:=h
 obtain⟨s,rfl,hs⟩:=ah6 h
 exact⟨s,rfl,hs⟩
theorem asO{av:AV}(h:qN Tryz.prog 7 3 av):∃x,av=.int .i64 x∧i64 x:=by
 unfold qN at h
 simp only[Tryz.underlying3]at h
 obtain⟨x,hx,hi⟩:=Dl h
 simp only[List.cons.injEq,and_true]at hx
 exact⟨x,hx,hi⟩
structure Bq where
 con:Int
 hour:Int
 sent:Int
 amount:Int
def Bq.cells(n:Bq):List AV:=[.int .i64 n.con,.int .i64 n.hour,.int .i64 n.sent,.int .i64 n.amount]
def Yt(k:Int)(n:Bq):Bool:=Gp n.con 0 (IntKind.i64.wrap (k-1))&&Gp n.hour 0 47&&Gp n.sent 0 47&&Gp n.amount (-100000000) 100000000
theorem ao0(n:Bq)(k:Int):Bl.call (.fn 113) [.agg [.int .i64 n.con,.int .i64 n.hour,.int .i64 n.sent,.int .i64 n.amount],.ptr 0 0 0] [.live 1 true false [[.int .i64 k]]]=some (.ret (.bool (!Yt k n)),[.live 1 true false [[.int .i64 k]]]):=by
 (refine ce Tryz.func113 ?_;simp only[Tryz.f113];(have hb:=trivial;with_reducible repeat' (first|simp only[hb,Va.down,seval,auS.down,lY]|refine Ai ?_ ?_<;>intro hb|refine fd ?_|fail)))
 all_goals (refine congrArg (fun b=>(Ea.ret (AV.bool b),[CB.live 1 true false [[AV.int IntKind.i64 k]]])) ?_;((try simp only[acL,aa9,abQ]at *);simp only[Yt, *,adP,adQ,aeY,adG,ae4,adN,aa9,abQ,ajX,ajY]))
theorem acE{l:List Bq}{nn:Bool}{g bs:Nat}{brows:List (List AV)}{p:Bq→Bool}(hp:∀x∈l,Bl.call (.fn g) (.agg [.int .i64 x.con,.int .i64 x.hour,.int .i64 x.sent,.int .i64 x.amount]::[.ptr 0 0 0]) [.live bs true false brows]=some (.ret (.bool (p x)),[.live bs true false brows]))(hl:l.length≤maxLen):
 Bl.call (.fn 135) [Az 4 true nn (l.map Bq.cells),.func (.func g) [] [.ptr 0 0 0]] [.live bs true false brows]=some (.ret (.int .i64 (kG p l 0)),[.live bs true false brows]):=by
 (refine ce Tryz.func135 ?_;simp only[Tryz.f135];(have hb:=trivial;with_reducible repeat' (first|simp only[hb,Va.down,seval,uM.down,acQ]|refine Ai ?_ ?_<;>intro hb|refine fd ?_|fail)))
 refine Dm (Sj 19 l (fun i (s:Int) t h=>s=i∧h=[.live bs true false brows]∧t 0=Az 4 true nn (l.map Bq.cells)∧t 1=.func (.func g) [] [.ptr 0 0 0]∧t 7=.int .i64 l.length∧t 8=.int .i64 i)
  (fun rest s=>kG p rest s) (fun r e t h=>h=[.live bs true false brows]∧((e=.exit 0∧r= -1)∨(e=.ret∧t 4=.int .i64 r))) ?_ ?_ 0 _ _ ?_) (fun e t h hk=>?_)
 ·rintro s t h Q' kQ ⟨rfl,rfl,h0,h1,h7,h8⟩
  (have hb:=trivial;with_reducible repeat' (first|simp only[hb,Va.down,seval,uM.down,h0,h1,h7,h8,acI,decide_false]|refine Ai ?_ ?_<;>intro hb|refine fd ?_|fail))
  exact kQ _ _ _ ⟨rfl,.inl ⟨rfl,rfl⟩⟩
 ·rintro x rest i s t h J Q' kJ kQ hx hi ⟨rfl,rfl,h0,h1,h7,h8⟩
  have hpx:=hp x (an1 hx)
  have hd:decide ((i:Int)<(l.length:Int))=true:=by simpa using hi
  (have hb:=trivial;with_reducible repeat' (first|simp only[hb,Va.down,seval,uM.down,h0,h1,h7,h8,hd,hx,Bq.cells,hpx,Ak hi hl]|refine Ai ?_ ?_<;>intro hb|refine fd ?_|fail))
  ·exact kQ _ _ _ ⟨rfl,.inr ⟨rfl,by simp[up,kG,hb]⟩⟩
  ·exact Aq (kJ _ _ (i+1) ⟨by simp,rfl,by simp[up,h0],by simp[up,h1],by simp[up,h7],by simp[up]⟩ (by simp[kG,hb]))
 ·exact⟨rfl,rfl,by simp[up,Dj],by simp[up,Dj],by simp[up],by simp[up]⟩
 ·obtain⟨rfl,⟨rfl,hi⟩|⟨rfl,hi⟩⟩:=hk
  ·(have hb:=trivial;with_reducible repeat' (first|simp only[hb,Va.down,seval,uM.down]|refine Ai ?_ ?_<;>intro hb|refine fd ?_|fail))
   rw[hi]
  ·(have hb:=trivial;with_reducible repeat' (first|simp only[hb,Va.down,seval,uM.down,hi]|refine Ai ?_ ?_<;>intro hb|refine fd ?_|fail))
theorem wV{l:List Bq}{nn:Bool}{g bs:Nat}{brows:List (List AV)}{p:Bq→Bool}(hp:∀x∈l,Bl.call (.fn g) (.agg [.int .i64 x.con,.int .i64 x.hour,.int .i64 x.sent,.int .i64 x.amount]::[.ptr 0 0 0]) [.live bs true false brows]=some (.ret (.bool (p x)),[.live bs true false brows]))(hl:l.length≤maxLen):
 Bl.call (.fn 112) [Az 4 true nn (l.map Bq.cells),.func (.func g) [] [.ptr 0 0 0]] [.live bs true false brows]=some (.ret (.bool (l.any p)),[.live bs true false brows]):=by
 (refine ce Tryz.func112 ?_;simp only[Tryz.f112];(have hb:=trivial;with_reducible repeat' (first|simp only[hb,Va.down,seval,acE hp hl,Zr p l 0 (alO 0)]|refine Ai ?_ ?_<;>intro hb|refine fd ?_|fail)))
theorem qQ{l:List Bq}{nn:Bool}(k:Int)(hl:l.length≤maxLen):Bl.call (.fn 70) [Az 4 true nn (l.map Bq.cells),.int .i64 k] []=some (.ret (.bool (l.all (Yt k))),[]):=by
 have h:=wV (l:=l) (nn:=nn) (g:=113) (bs:=1) (brows:=[[.int .i64 k]]) (p:=fun n=> !Yt k n) (fun x _=>ao0 x k) hl
 (refine ce Tryz.func70 ?_;simp only[Tryz.f70];(have hb:=trivial;with_reducible repeat' (first|simp only[hb,Va.down,seval,h]|refine Ai ?_ ?_<;>intro hb|refine fd ?_|fail)))
 simp[aoL]
def eA(l:List Bq)(o:Int):Int:=(l[o.toNat]?.map Bq.sent).getD 0
def Ks(lead:Int)(l:List Bq)(c h:Int)(n:Bq)(i:Nat)(o:Int):Int:=
 if(n.con==c&&n.hour==h&&decide (IntKind.i64.wrap (n.sent+lead)≤h)&&(decide (o<0)||decide (eA l o≤n.sent)))=true then i else o
def Ed(lead:Int)(l:List Bq)(c h:Int):List Bq→Nat × Int→Int
 | [],a=>a.2
 |n::rest,a=>Ed lead l c h rest (a.1+1,Ks lead l c h n a.1 a.2)
theorem cP(s:Ac)(l:List Bq)(nn:Bool)(c h:Int)(hl:l.length≤maxLen):Bl.call (.fn 72) [.agg s.cells,Az 4 true nn (l.map Bq.cells),.int .i64 c,.int .i64 h] []=some (.ret (.int .i64 (Ed s.lead l c h l (0,-1))),[]):=by
 (refine ce Tryz.func72 ?_;simp only[Tryz.f72];(have hb:=trivial;with_reducible repeat' (first|simp only[hb,Va.down,seval,ai3.down]|refine Ai ?_ ?_<;>intro hb|refine fd ?_|fail)))
 refine Dm (Sj 55 l (fun i (a:Nat × Int) t hp=>a.1=i∧(a.2= -1∨0≤a.2∧a.2<i)∧hp[0]?=some (.live 6 false false [s.cells])∧t 1=Az 4 true nn (l.map Bq.cells)∧t 2=.int .i64 c∧t 3=.int .i64 h∧t 4=.ptr 0 0 0∧t 12=Az 4 true nn (l.map Bq.cells)∧t 13=.int .i64 l.length∧t 9=.int .i64 a.2∧t 14=.int .i64 i)
  (fun rest a=>Ed s.lead l c h rest a) (fun r e t hp=>e=.exit 0∧t 9=.int .i64 r) ?_ ?_ (0,-1) _ _ ?_) (fun e t hp hk=>?_)
 ·rintro⟨i',o⟩ t hp Q' kQ ⟨rfl,ho,hh,h1,h2,h3,h4,h12,h13,h9,h14⟩
  (have hb:=trivial;with_reducible repeat' (first|simp only[hb,Va.down,seval,ai3.down,h13,h14,acI,decide_false]|refine Ai ?_ ?_<;>intro hb|refine fd ?_|fail))
  exact kQ _ _ _ ⟨rfl,by simp[up,h9,Ed]⟩
 ·rintro x rest i ⟨i',o⟩ t hp J Q' kJ kQ hx hi ⟨rfl,ho,hh,h1,h2,h3,h4,h12,h13,h9,h14⟩
  simp only at ho h9 h14 hx hi
  have hd:decide ((i':Int)<(l.length:Int))=true:=by simpa using hi
  have hw:=Ak hi hl
  have hA:=Bv hh
  rcases ho with rfl|⟨ho1,ho2⟩
  ·have hn:decide ((-1:Int)<0)=true:=by decide
   (have hb:=trivial;with_reducible repeat' (first|simp only[hb,Va.down,seval,ai3.down,hA,h1,h2,h3,h4,h12,h13,h9,h14,hd,hw,hx,Bq.cells,hn]|refine Ai ?_ ?_<;>intro hb|refine fd ?_|fail))
   all_goals exact Aq (kJ _ _ (i'+1,Ks s.lead l c h x i' (-1)) ⟨rfl,by unfold Ks;split<;>simp<;>omega,hA _,by simp[up,h1],by simp[up,h2],by simp[up,h3],by simp[up,h4],by simp[up,h12],by simp[up,h13],by simp[up,h9,Ks, *],by simp[up]⟩ rfl)
  ·have hn:decide (o<0)=false:=by rw[decide_eq_false_iff_not];omega
   obtain⟨q,hq⟩:∃q,l[o.toNat]?=some q:=⟨l[o.toNat]'(by omega),acV (by omega)⟩
   have hs:eA l o=q.sent:=by simp[eA,hq]
   have h0:(0≤o)=True:=eq_true ho1
   (have hb:=trivial;with_reducible repeat' (first|simp only[hb,Va.down,seval,ai3.down,hA,h1,h2,h3,h4,h12,h13,h9,h14,hd,hw,hx,Bq.cells,hn,hq,h0]|refine Ai ?_ ?_<;>intro hb|refine fd ?_|fail))
   all_goals exact Aq (kJ _ _ (i'+1,Ks s.lead l c h x i' o) ⟨rfl,by unfold Ks;split<;>simp<;>omega,hA _,by simp[up,h1],by simp[up,h2],by simp[up,h3],by simp[up,h4],by simp[up,h12],by simp[up,h13],by simp[up,h9,Ks,hs, *],by simp[up]⟩ rfl)
 ·exact⟨rfl,.inl rfl,rfl,by simp[up,Dj],by simp[up,Dj],by simp[up,Dj],by simp[up],by simp[up,Dj],by simp[up],by simp[up],by simp[up]⟩
 ·obtain⟨rfl,h9⟩:=hk
  (have hb:=trivial;with_reducible repeat' (first|simp only[hb,Va.down,seval,ai3.down,h9]|refine Ai ?_ ?_<;>intro hb|refine fd ?_|fail))
theorem ahC(n:Bq)(k:Int):Bl.call (.fn 26) [.agg [.int .i64 n.con,.int .i64 n.hour,.int .i64 n.sent,.int .i64 n.amount],.int .i64 k] []=some (.ret (.bool (Yt k n)),[]):=by
 (refine ce Tryz.func26 ?_;simp only[Tryz.f26];(have hb:=trivial;with_reducible repeat' (first|simp only[hb,Va.down,seval,ayQ.down,gX,wI]|refine Ai ?_ ?_<;>intro hb|refine fd ?_|fail)))
 all_goals (refine congrArg (fun b=>(Ea.ret (AV.bool b),([]:Aa))) ?_;symm;((try simp only[acL,aa9,abQ]at *);simp only[Yt, *,adP,adQ,aeY,adG,ae4,adN,aa9,abQ,ajX,ajY]))
theorem aqS{l:List Bq}{nn:Bool}(k:Int)(hl:l.length≤maxLen):Bl.call (.fn 37) [Az 4 true nn (l.map Bq.cells),.int .i64 k] []=some (.ret (.bool (l.all (Yt k))),[]):=by
 (refine ce Tryz.func37 ?_;simp only[Tryz.f37];(have hb:=trivial;with_reducible repeat' (first|simp only[hb,Va.down,seval,ad0.down,acQ]|refine Ai ?_ ?_<;>intro hb|refine fd ?_|fail)))
 refine Dm (Sj 19 l (fun i (_:Unit) t h=>t 0=Az 4 true nn (l.map Bq.cells)∧t 1=.int .i64 k∧t 5=.int .i64 i)
  (fun rest _=>rest.all (Yt k)) (fun r e t h=>if r=true then e=.exit 0 else e=.ret∧t 4=.bool false) ?_ ?_ () _ _ ?_) (fun e t h hk=>?_)
 ·rintro _ t h Q' kQ ⟨h0,h1,h5⟩
  (have hb:=trivial;with_reducible repeat' (first|simp only[hb,Va.down,seval,ad0.down,h0,h5,acI,decide_false]|refine Ai ?_ ?_<;>intro hb|refine fd ?_|fail))
  exact kQ _ _ _ (by simp)
 ·rintro x rest i _ t h J Q' kJ kQ hx hi ⟨h0,h1,h5⟩
  have hd:decide ((i:Int)<(l.length:Int))=true:=by simpa using hi
  have hw:=Ak hi hl
  (have hb:=trivial;with_reducible repeat' (first|simp only[hb,Va.down,seval,ad0.down,h0,h1,h5,hd,hx,Bq.cells,hw,ahC]|refine Ai ?_ ?_<;>intro hb|refine fd ?_|fail))
  ·exact kQ _ _ _ (by rw[if_neg (by simp at hb;simp[hb])];exact⟨rfl,rfl⟩)
  ·exact Aq (kJ _ _ () ⟨by simp[up,h0],by simp[up,h1],by simp[up]⟩ (by simp at hb;simp[hb]))
 ·exact⟨by simp[up,Dj],by simp[up,Dj],by simp[up]⟩
 ·split at hk
  ·subst hk
   rename_i hr'
   (have hb:=trivial;with_reducible repeat' (first|simp only[hb,Va.down,seval,ad0.down]|refine Ai ?_ ?_<;>intro hb|refine fd ?_|fail))
   all_goals simp[hr']
  ·obtain⟨rfl,h2⟩:=hk
   rename_i hr'
   (have hb:=trivial;with_reducible repeat' (first|simp only[hb,Va.down,seval,ad0.down,h2]|refine Ai ?_ ?_<;>intro hb|refine fd ?_|fail))
   all_goals (rw[aoF]at hr';rw[hr'])
theorem asJ{n:Nat}{r:List AV}(h:Ty Tryz.prog (n+2) 62 r):∃x:Bq,r=x.cells∧True:=by
 unfold Ty at h
 simp only[Tryz.underlying62,hZ]at h
 obtain⟨a,b,rfl,h1,c,d,rfl,h2,e,f,rfl,h3,g,k,rfl,h4,rfl⟩:=h
 obtain⟨x,rfl,_⟩:=Dl h1
 obtain⟨y,rfl,_⟩:=Dl h2
 obtain⟨z,rfl,_⟩:=Dl h3
 obtain⟨u,rfl,_⟩:=Dl h4
 exact⟨⟨x,y,z,u⟩,rfl,trivial⟩
theorem anJ{n:Nat}{r:List AV}(h:Ty Tryz.prog (n+3) 45 r):∃(nn:Bool) (l:List Bq),r=[Az 4 true nn (l.map Bq.cells)]∧l.length≤maxLen:=by
 unfold Ty at h
 simp only[Tryz.underlying45]at h
 obtain⟨nn,rows,rfl,hl,hrows⟩:=h
 obtain⟨l,rfl,_⟩:=Zq (fun r hr=>asJ hr) hrows
 have e1:Tryz.prog.cellsOf 62=4:=by kernel_rfl
 have e2:iE Tryz.prog (n+2) 62=true:=by
  simp only[iE,Tryz.underlying62,Tryz.underlying3];rfl
 rw[e1,e2]
 exact⟨nn,l,rfl,by simpa using hl⟩
def Db(x:Int):Int:=if x>0 then x else 0
def Do(x:Int):Int:=Db (IntKind.i64.wrap (0-x))
theorem Nu{h:Aa}{b:Nat}(hb:b<h.length)(l:Aa)(c:CB):(h++l).set b c=h.set b c++l:=List.set_append_left _ _ hb
theorem cM{h:Aa}{b:Nat}(c:CB)(l:Aa):(h.set b c++l)[h.length]?=l[0]?:=by
 have:=yD (h.set b c) l
 rwa[adO]at this
theorem Sz{h:Aa}{b:Nat}(c:CB)(l:Aa)(k:Nat):(h.set b c++l)[h.length+k]?=l[k]?:=by
 have:=Ur (h.set b c) l k
 rwa[adO]at this
theorem pZ{h:Aa}{b b':Nat}{x:CB}(c:CB)(hne:b≠b')(hb:h[b']?=some x)(l:Aa):(h.set b c++l)[b']?=some x:=by
 rw[List.getElem?_append_left (by rw[adO];exact(aj1.1 hb).1),List.getElem?_set_ne hne];exact hb
theorem sW(l:List Int)(nn:Bool)(hl:l.length≤1000)(o:Ea)(h':Aa)(c0:l=[]→(o,h')=(.ret (.tup [.nils,.nils]),[]))
 (c1:l≠[]→(o,h')=(.ret (.tup [.slr 1 0 0 l.length,.slr 1 1 0 l.length]),[.live 1 true false ((l.map Db).map iv),.live 1 true false ((l.map Do).map iv)])):
 Bl.call (.fn 94) [Az 1 true nn (l.map iv)] []=some (o,h'):=by
 have hl':l.length≤maxLen:=by unfold maxLen;omega
 (refine ce Tryz.func94 ?_;simp only[Tryz.f94];(have hb:=trivial;with_reducible repeat' (first|simp only[hb,Va.down,seval,aaX.down,acQ]|refine Ai ?_ ?_<;>intro hb|refine fd ?_|fail)))
 refine Dm (Sj 28 l (fun i (a:List Int × List Int) t h=>t 8=Az 1 true nn (l.map iv)∧t 9=.int .i64 l.length∧t 10=.int .i64 i∧a.1.length=i∧a.2.length=i∧
  ((i=0∧t 4=.nils∧t 5=.nils)∨(0<i∧∃b b',b≠b'∧t 4=.slr 1 b 0 i∧t 5=.slr 1 b' 0 i∧h[b]?=some (.live 1 true false (a.1.map iv))∧h[b']?=some (.live 1 true false (a.2.map iv)))))
  (fun rest a=>(a.1++rest.map Db,a.2++rest.map Do)) (fun r e t h=>e=.exit 0∧((l=[]∧t 4=.nils∧t 5=.nils)∨(l≠[]∧∃b b',b≠b'∧t 4=.slr 1 b 0 l.length∧t 5=.slr 1 b' 0 l.length∧h[b]?=some (.live 1 true false (r.1.map iv))∧h[b']?=some (.live 1 true false (r.2.map iv))))) ?_ ?_ ([],[]) _ _ ?_) (fun e t h hk=>?_)
 ·rintro⟨p,q⟩ t h Q' kQ ⟨h8,h9,h10,hp,hq,hc⟩
  (have hb:=trivial;with_reducible repeat' (first|simp only[hb,Va.down,seval,aaX.down,h8,h9,h10,acI,decide_false]|refine Ai ?_ ?_<;>intro hb|refine fd ?_|fail))
  refine kQ _ _ _ ⟨rfl,?_⟩
  rcases hc with⟨h0,h4,h5⟩|⟨h0,b,b',hne,h4,h5,hb,hb'⟩
  ·exact .inl ⟨ak9.1 h0,by simp[up,h4],by simp[up,h5]⟩
  ·exact .inr ⟨fun e=>by rw[e]at h0;simp at h0,b,b',hne,by simp[up,h4],by simp[up,h5],by simpa using hb,by simpa using hb'⟩
 ·rintro x rest i ⟨p,q⟩ t h J Q' kJ kQ hx hi ⟨h8,h9,h10,hp,hq,hc⟩
  simp only at hp hq
  have hd:decide ((i:Int)<(l.length:Int))=true:=by simpa using hi
  have hw:=Ak hi hl'
  rcases hc with⟨rfl,h4,h5⟩|⟨h0,b,b',hne,h4,h5,hb,hb'⟩
  ·simp only[ajZ]at hd
   (have hb:=trivial;with_reducible repeat' (first|simp only[hb,Va.down,seval,aaX.down,h8,h9,h10,h4,h5,hd,hw,hx,iv]|refine Ai ?_ ?_<;>intro hb|refine fd ?_|fail))
   obtain rfl:p=[]:=ak9.1 hp
   obtain rfl:q=[]:=ak9.1 hq
   exact Aq (kJ _ _ ([Db x],[Do x]) ⟨by simp[up,h8],by simp[up,h9],by simp[up],rfl,rfl,.inr ⟨by omega,h.length+1,h.length+3,by omega,by simp[up],by simp[up],by rw[Ur];rfl,by rw[Ur];rfl⟩⟩ (by simp))
  ·have hbl:b<h.length:=(aj1.1 hb).1
   have hbl':b'<h.length:=(aj1.1 hb').1
   have hA:=Bv hb
   have hS:=Nu hbl
   have hB':=pZ (b:=b) .dead hne hb'
   have hS':=Nu (h:=h.set b .dead) (b:=b') (by rw[adO];exact hbl')
   have hlp:0+i=p.length:=by omega
   have hlq:0+i=q.length:=by omega
   have hi39:(i+1≤549755813888)=True:=eq_true (by omega)
   have g1:=fun(l:Aa)=>cM (h:=h.set b .dead) (b:=b') .dead l
   have g2:=fun(l:Aa) (k:Nat)=>Sz (h:=h.set b .dead) (b:=b') .dead l k
   simp only[adO]at g1 g2
   (have hb:=trivial;with_reducible repeat' (first|simp only[hb,Va.down,seval,aaX.down,h8,h9,h10,h4,h5,hd,hw,hx,iv,hA,hS,hB',hS',cM,Sz,g1,g2,adO,hp,hq,hi39]|refine Ai ?_ ?_<;>intro hb|refine fd ?_|fail))
   exact Aq (kJ _ _ (p++[Db x],q++[Do x]) ⟨by simp[up,h8],by simp[up,h9],by simp[up],by simp[hp],by simp[hq],.inr ⟨by omega,h.length+1,h.length+3,by omega,by simp[up],by simp[up],by rw[g2];simp[iv,Db],by rw[g2];simp[iv,Db,Do]⟩⟩ (by simp))
 ·exact⟨by simp[up,Dj],by simp[up],by simp[up],rfl,rfl,.inl ⟨rfl,by simp[up],by simp[up]⟩⟩
 ·obtain⟨rfl,⟨rfl,h4,h5⟩|⟨hne,b,b',hbb,h4,h5,hb,hb'⟩⟩:=hk
  ·rw[c0 rfl]
   (have hb:=trivial;with_reducible repeat' (first|simp only[hb,Va.down,seval,aaX.down,h4,h5]|refine Ai ?_ ?_<;>intro hb|refine fd ?_|fail))
  ·rw[c1 hne]
   have hz:(b=b')=False:=eq_false hbb
   (with_reducible repeat' (first|simp only[hb,Va.down,seval,aaX.down,h4,h5,hb,hb',hz]|refine Ai ?_ ?_<;>intro hb|refine fd ?_|fail))
theorem cG{l:List Int}{nn:Bool}(hl:l.length≤1000)(hne:l≠[]):Bl.call (.fn 94) [Az 1 true nn (l.map iv)] []=
 some (.ret (.tup [.slr 1 0 0 l.length,.slr 1 1 0 l.length]),[.live 1 true false ((l.map Db).map iv),.live 1 true false ((l.map Do).map iv)]):=
 sW l nn hl _ _ (fun e=>(hne e).elim) (fun _=>rfl)
theorem fY{nn:Bool}:Bl.call (.fn 94) [Az 1 true nn []] []=some (.ret (.tup [.nils,.nils]),[]):=
 sW [] nn (by simp) _ _ (fun _=>rfl) (fun e=>(e rfl).elim)
def Xr(x y:Int):Int:=IntKind.i64.wrap (x-y)
theorem ajH{x y:Int}{rest l':List Int}{i:Nat}(hy:l'[i]?=some y)(p:List Int)(hp:p.length=i):(p++[Xr x y])++aoB Xr rest (l'.drop (p++[Xr x y]).length)=p++aoB Xr (x::rest) (l'.drop p.length):=by
 have hlt:i<l'.length:=(aj1.1 hy).1
 have hd:l'.drop i=y::l'.drop (i+1):=by
  rw[List.drop_eq_getElem_cons hlt]
  congr 1
  exact Option.some.inj ((acV hlt).symm.trans hy)
 rw[List.length_append,hp,hd]
 simp
theorem Ou(l l':List Int)(nn':Bool)(nn:Bool)(hl:l.length≤1000)(hll:l.length≤l'.length)(o:Ea)(h':Aa)(c0:l=[]→(o,h')=(.ret .nils,[]))(c1:l≠[]→(o,h')=(.ret (.slr 1 0 0 l.length),[.live 1 true false ((aoB Xr l l').map iv)])):
 Bl.call (.fn 95) [Az 1 true nn (l.map iv),Az 1 true nn' (l'.map iv)] []=some (o,h'):=by
 have hl':l.length≤maxLen:=by unfold maxLen;omega
 (refine ce Tryz.func95 ?_;simp only[Tryz.f95];(have hb:=trivial;with_reducible repeat' (first|simp only[hb,Va.down,seval,aaW.down,acQ]|refine Ai ?_ ?_<;>intro hb|refine fd ?_|fail)))
 refine Dm (Sj 26 l (fun i (a:List Int) t h=>t 0=Az 1 true nn (l.map iv)∧t 1=Az 1 true nn' (l'.map iv)∧t 8=.int .i64 l.length∧t 9=.int .i64 i∧a.length=i∧((i=0∧t 5=.nils)∨(0<i∧∃b,t 5=.slr 1 b 0 i∧h[b]?=some (.live 1 true false (a.map iv)))))
  (fun rest a=>a++aoB Xr rest (l'.drop a.length)) (fun r e t h=>e=.exit 0∧((l=[]∧t 5=.nils)∨(l≠[]∧∃b,t 5=.slr 1 b 0 l.length∧h[b]?=some (.live 1 true false (r.map iv))))) ?_ ?_ [] _ _ ?_) (fun e t h hk=>?_)
 ·rintro p t h Q' kQ ⟨h0',h1',h8',hi',hp,hc⟩
  (have hb:=trivial;with_reducible repeat' (first|simp only[hb,Va.down,seval,aaW.down,h0',h1',h8',hi',acI,decide_false]|refine Ai ?_ ?_<;>intro hb|refine fd ?_|fail))
  refine kQ _ _ _ ⟨rfl,?_⟩
  rcases hc with⟨h0,ho⟩|⟨h0,b,ho,hb⟩
  ·exact .inl ⟨ak9.1 h0,by simp[up,ho]⟩
  ·exact .inr ⟨fun e=>by rw[e]at h0;simp at h0,b,by simp[up,ho],by simpa using hb⟩
 ·rintro x rest i p t h J Q' kJ kQ hx hi ⟨h0',h1',h8',hi',hp,hc⟩
  have hd:decide ((i:Int)<(l.length:Int))=true:=by simpa using hi
  have hw:=Ak hi hl'
  obtain⟨y,hy⟩:∃y,l'[i]?=some y:=⟨l'[i]'(by omega),acV _⟩
  have hF:=ajH (x:=x) (rest:=rest) hy
  rcases hc with⟨rfl,ho⟩|⟨h0,b,ho,hb⟩
  ·simp only[ajZ]at hd
   (have hb:=trivial;with_reducible repeat' (first|simp only[hb,Va.down,seval,aaW.down,h0',h1',h8',hi',ho,hd,hw,hx,iv,hy]|refine Ai ?_ ?_<;>intro hb|refine fd ?_|fail))
   obtain rfl:p=[]:=ak9.1 hp
   exact Aq (kJ _ _ [Xr x y] ⟨by simp[up,h0'],by simp[up,h1'],by simp[up,h8'],by simp[up],rfl,.inr ⟨by omega,h.length+1,by simp[up],by rw[Ur];simp[iv,Xr]⟩⟩ (by exact hF _ hp))
  ·have hbl:b<h.length:=(aj1.1 hb).1
   have hA:=Bv hb
   have hS:=Nu hbl
   have hlp:0+i=p.length:=by omega
   have hi39:(i+1≤549755813888)=True:=eq_true (by omega)
   (have hb:=trivial;with_reducible repeat' (first|simp only[hb,Va.down,seval,aaW.down,h0',h1',h8',hi',ho,hd,hw,hx,iv,hA,hS,cM,Sz,adO,hp,hi39,hy]|refine Ai ?_ ?_<;>intro hb|refine fd ?_|fail))
   exact Aq (kJ _ _ (p++[Xr x y]) ⟨by simp[up,h0'],by simp[up,h1'],by simp[up,h8'],by simp[up],by simp[hp],.inr ⟨by omega,h.length+1,by simp[up],by rw[Sz];simp[iv,Xr]⟩⟩ (by exact hF _ hp))
 ·exact⟨by simp[up,Dj],by simp[up,Dj],by simp[up],by simp[up],rfl,.inl ⟨rfl,by simp[up]⟩⟩
 ·obtain⟨rfl,⟨hnil,ho⟩|⟨hne,b,ho,hb⟩⟩:=hk
  ·rw[c0 hnil]
   (have hb:=trivial;with_reducible repeat' (first|simp only[hb,Va.down,seval,aaW.down,ho]|refine Ai ?_ ?_<;>intro hb|refine fd ?_|fail))
  ·rw[c1 hne]
   (with_reducible repeat' (first|simp only[hb,Va.down,seval,aaW.down,ho,hb]|refine Ai ?_ ?_<;>intro hb|refine fd ?_|fail))
def Ax:List Int→Int→Int
 | [],a=>a
 |x::l,a=>Ax l (IntKind.i64.wrap (a+x))
theorem Zb{l:List Int}{nn:Bool}(hl:l.length≤maxLen):Bl.call (.fn 124) [Az 1 true nn (l.map iv)] []=some (.ret (.int .i64 (Ax l 0)),[]):=by
 (refine ce Tryz.func124 ?_;simp only[Tryz.f124];(have hb:=trivial;with_reducible repeat' (first|simp only[hb,Va.down,seval,yG.down,acQ]|refine Ai ?_ ?_<;>intro hb|refine fd ?_|fail)))
 refine Dm (Sj 17 l (fun i (s:Int) t h=>t 6=Az 1 true nn (l.map iv)∧t 7=.int .i64 l.length∧t 8=.int .i64 i∧t 3=.int .i64 s)
  (fun rest s=>Ax rest s) (fun r e t h=>e=.exit 0∧t 3=.int .i64 r) ?_ ?_ 0 _ _ ?_) (fun e t h hk=>?_)
 ·rintro s t h Q' kQ ⟨h6,h7,h8,h3⟩
  (have hb:=trivial;with_reducible repeat' (first|simp only[hb,Va.down,seval,yG.down,h6,h7,h8,h3,acI,decide_false]|refine Ai ?_ ?_<;>intro hb|refine fd ?_|fail))
  exact kQ _ _ _ ⟨rfl,by simp[up,h3,Ax]⟩
 ·rintro x rest i s t h J Q' kJ kQ hx hi ⟨h6,h7,h8,h3⟩
  have hd:decide ((i:Int)<(l.length:Int))=true:=by simpa using hi
  have hw:=Ak hi hl
  (have hb:=trivial;with_reducible repeat' (first|simp only[hb,Va.down,seval,yG.down,h6,h7,h8,h3,hd,hx,iv,hw]|refine Ai ?_ ?_<;>intro hb|refine fd ?_|fail))
  exact Aq (kJ _ _ (IntKind.i64.wrap (s+x)) ⟨by simp[up,h6],by simp[up,h7],by simp[up],by simp[up]⟩ rfl)
 ·exact⟨by simp[up,Dj],by simp[up],by simp[up],by simp[up]⟩
 ·obtain⟨rfl,h3⟩:=hk
  (have hb:=trivial;with_reducible repeat' (first|simp only[hb,Va.down,seval,yG.down,h3]|refine Ai ?_ ?_<;>intro hb|refine fd ?_|fail))
theorem as6{l l':List Int}{nn nn':Bool}(hl:l.length≤maxLen)(hl':l'.length≤maxLen):Bl.call (.fn 20) [Az 1 true nn (l.map iv),Az 1 true nn' (l'.map iv)] []=some (.ret (.bool (decide (l=l'))),[]):=by
 have hne:(!((l.length:Int)==(l'.length:Int)))=decide (l.length≠l'.length):=by
  by_cases h:l.length=l'.length
  ·simp[h]
  ·simp[h];omega
 (refine ce Tryz.func20 ?_;simp only[Tryz.f20];(have hb:=trivial;with_reducible repeat' (first|simp only[hb,Va.down,seval,afJ.down,acQ,hne]|refine Ai ?_ ?_<;>intro hb|refine fd ?_|fail)))
 ·rw[decide_eq_true_eq]at hb
  simp
  intro e;rw[e]at hb;exact hb rfl
 rw[decide_eq_false_iff_not]at hb
 have hlen:l.length=l'.length:=by omega
 refine Dm (Sj 26 l (fun i (_:Unit) t h=>t 0=Az 1 true nn (l.map iv)∧t 1=Az 1 true nn' (l'.map iv)∧t 5=.int .i64 i∧l.take i=l'.take i)
  (fun rest _=>()) (fun r e t h=>if l=l' then e=.exit 0 else e=.ret∧t 4=.bool false) ?_ ?_ () _ _ ?_) (fun e t h hk=>?_)
 ·rintro _ t h Q' kQ ⟨h0,h1,h5,hp⟩
  (have hb:=trivial;with_reducible repeat' (first|simp only[hb,Va.down,seval,afJ.down,h0,h5,acI,decide_false]|refine Ai ?_ ?_<;>intro hb|refine fd ?_|fail))
  rw[aoN,hlen,aoN]at hp
  exact kQ _ _ _ (by rw[if_pos hp])
 ·rintro x rest i _ t h J Q' kJ kQ hx hi ⟨h0,h1,h5,hp⟩
  have hd:decide ((i:Int)<(l.length:Int))=true:=by simpa using hi
  have hw:=Ak hi hl
  obtain⟨y,hy⟩:∃y,l'[i]?=some y:=⟨l'[i]'(by omega),acV _⟩
  (have hb:=trivial;with_reducible repeat' (first|simp only[hb,Va.down,seval,afJ.down,h0,h1,h5,hd,hx,hy,iv,hw]|refine Ai ?_ ?_<;>intro hb|refine fd ?_|fail))
  ·refine kQ _ _ _ ?_
   rw[if_neg (fun e=>by rw[e]at hx;rw[hx]at hy;cases hy;simp at hb)]
   exact⟨rfl,rfl⟩
  ·have hxy:x=y:=by simpa using hb
   exact Aq (kJ _ _ () ⟨by simp[up,h0],by simp[up,h1],by simp[up],by rw[aoO,aoO,hp,hx,hy,hxy]⟩ rfl)
 ·exact⟨by simp[up,Dj],by simp[up,Dj],by simp[up],by simp⟩
 ·by_cases he:l=l'
  ·rw[if_pos he]at hk
   subst hk
   (have hb:=trivial;with_reducible repeat' (first|simp only[hb,Va.down,seval,afJ.down]|refine Ai ?_ ?_<;>intro hb|refine fd ?_|fail))
   all_goals simp[he]
  ·rw[if_neg he]at hk
   obtain⟨rfl,h4⟩:=hk
   (have hb:=trivial;with_reducible repeat' (first|simp only[hb,Va.down,seval,afJ.down,h4]|refine Ai ?_ ?_<;>intro hb|refine fd ?_|fail))
   all_goals simp[he]
def Ey(amount whole so got:Int):Int:=if 0<whole then IntKind.i64.wrap (IntKind.i64.wrap ((IntKind.i64.wrap (amount*so)).tdiv whole)-got)else 0
def Dn(amount whole:Int):List Int→Int→Int→List Int
 | [],_,_=>[]
 |w::rest,so,got=>Ey amount whole (IntKind.i64.wrap (so+w)) got::Dn amount whole rest (IntKind.i64.wrap (so+w)) (IntKind.i64.wrap (got+Ey amount whole (IntKind.i64.wrap (so+w)) got))
end Go.Proofs.YtdbiogihimdpcaaGreatDoor
