/- The functions of the layer, walked. -/
import Derived.Test.YtdbiogihimdpcaaGreatDoorPartAA
set_option linter.unusedSimpArgs false
set_option linter.unusedVariables false
/- Layer 6: the reference's contracts; stores. -/
namespace Go.Proofs.YtdbiogihimdpcaaGreatDoor
open Go.Ev Go
set_option maxRecDepth 100000
set_option maxHeartbeats 16000000
theorem r_Contract(c:BCon)(hl:c.rates.length≤maxLen):om'.call (.fn 44) [.agg [.bool c.firm,.int .i64 c.space,.int .i64 c.lo,.int .i64 c.hi,slv 3 true c.nn (c.rates.map BRate.cells),.int .i64 c.gas,.int .i64 c.fixed,.int .i64 c.inn,.int .i64 c.out,.int .i64 c.cut,.int .i64 c.lack]] []=some (.ret (.bool (conB c)),[]):=by
 (refine ce Tryz.func44 ?_;simp only[Tryz.f44];(have hb:=trivial;with_reducible repeat' (first|simp only[hb,Va.down,seval,TY44.down,r_in,r_Hours,r_price]|refine fsp ?_ ?_<;>intro hb|refine fd ?_|fail)))
 all_goals first|(refine congrArg (fun b=>(Out.ret (AV.bool b),([]:Heap))) ?_;symm;((try simp only[Bool.not_eq_eq_eq_not,Bool.not_true,Bool.not_false]at *);simp only[conB, *,Bool.and_false,Bool.false_and,Bool.and_true,Bool.true_and,Bool.and_self,Bool.not_not,Bool.not_true,Bool.not_false,List.all_cons,List.all_nil]))|skip
 refine fw_ot (lst 135 c.rates (fun i (s:Option BRate) t h=>(i=0∧s=none∨0<i∧s=c.rates[i-1]?)∧h[0]?=some (.live 11 false false [[.bool c.firm,.int .i64 c.space,.int .i64 c.lo,.int .i64 c.hi,slv 3 true c.nn (c.rates.map BRate.cells),.int .i64 c.gas,.int .i64 c.fixed,.int .i64 c.inn,.int .i64 c.out,.int .i64 c.cut,.int .i64 c.lack]])∧t 1=.ptr 0 0 0∧t 3=.int .i64 i)
  (fun rest s=>ratesB rest s) (fun r e t h=>if r=true then e=.exit 0 else e=.ret∧t 2=.bool false) ?_ ?_ none _ _ ?_) (fun e t h hk=>?_)
 ·rintro s t h Q' kQ ⟨hs,hh,h1,h3⟩
  (have hb:=trivial;with_reducible repeat' (first|simp only[hb,Va.down,seval,TY44.down,hh,h1,h3,Int.lt_irrefl,decide_false]|refine fsp ?_ ?_<;>intro hb|refine fd ?_|fail))
  exact kQ _ _ _ (by simp[ratesB])
 ·rintro x rest i s t h J Q' kJ kQ hx hi ⟨hs,hh,h1,h3⟩
  have hd:decide ((i:Int)<(c.rates.length:Int))=true:=by simpa using hi
  have hA:=get_app hh
  have kF:∀{p:Option BRate},rateB p x=false→ratesB (x::rest) p=false:=fun h=>by simp[ratesB,h]
  have kT:∀{p:Option BRate},rateB p x=true→ratesB rest (some x)=ratesB (x::rest) p:=fun h=>by simp[ratesB,h]
  have hw:=wrap_next hi hl
  rcases hs with⟨rfl,rfl⟩|⟨hpos,rfl⟩
  ·simp only[Int.natCast_zero,Int.zero_add]at hd h3 hw
   (have hb:=trivial;with_reducible repeat' (first|simp only[hb,Va.down,seval,TY44.down,hA,hh,h1,h3,hd,hx,BRate.cells,r_in,r_Kilos,hw,Int.toNat_zero,Int.le_refl,beq_self_eq_true,Int.lt_irrefl,decide_false]|refine fsp ?_ ?_<;>intro hb|refine fd ?_|fail))
   all_goals first
    |exact kQ _ _ _ (by rw[if_neg (by rw[kF (by(rw[Bool.eq_false_iff];intro hcon;simp only[rateB,inB,Bool.and_eq_true,Bool.or_eq_true,Bool.not_eq_true',Bool.and_eq_false_iff,Bool.or_eq_false_iff,decide_eq_true_eq,decide_eq_false_iff_not,beq_iff_eq,beq_eq_false_iff_ne,ne_eq,Bool.not_eq_eq_eq_not,Bool.not_true,Bool.not_false]at *;omega))];simp)];exact⟨rfl,rfl⟩)
    |exact rnd_go (kJ _ _ (some x) ⟨.inr ⟨by omega,by simp[hx]⟩,hA _,by simp[up,h1],by simp[up]<;>omega⟩ (kT (by(simp only[rateB,inB,Bool.and_eq_true,Bool.or_eq_true,Bool.not_eq_true',Bool.and_eq_false_iff,Bool.or_eq_false_iff,decide_eq_true_eq,decide_eq_false_iff_not,beq_iff_eq,beq_eq_false_iff_ne,ne_eq,Bool.not_eq_eq_eq_not,Bool.not_true,Bool.not_false]at *;omega))))
  ·obtain⟨j,rfl⟩:∃j,i=j+1:=⟨i-1,by omega⟩
   obtain⟨q,hq⟩:∃q,c.rates[j]?=some q:=⟨c.rates[j],List.getElem?_eq_getElem (by omega)⟩
   have hj:IntKind.i64.wrap (((j+1:Nat):Int)-1)=(j:Int):=by unfold maxLen at hl;rw[wrap_of (by omega) (by omega)];omega
   have hz:(((j+1:Nat):Int)==0)=false:=by rw[beq_eq_false_iff_ne];omega
   have hg:decide (0<((j+1:Nat):Int))=true:=by rw[decide_eq_true_eq];omega
   simp only[Nat.add_sub_cancel,hq]at kJ kQ
   (have hb:=trivial;with_reducible repeat' (first|simp only[hb,Va.down,seval,TY44.down,hA,hh,h1,h3,hd,hx,BRate.cells,r_in,r_Kilos,hw,hj,hz,hg,hq]|refine fsp ?_ ?_<;>intro hb|refine fd ?_|fail))
   all_goals first
    |exact kQ _ _ _ (by rw[if_neg (by rw[kF (by(rw[Bool.eq_false_iff];intro hcon;simp only[rateB,inB,Bool.and_eq_true,Bool.or_eq_true,Bool.not_eq_true',Bool.and_eq_false_iff,Bool.or_eq_false_iff,decide_eq_true_eq,decide_eq_false_iff_not,beq_iff_eq,beq_eq_false_iff_ne,ne_eq,Bool.not_eq_eq_eq_not,Bool.not_true,Bool.not_false]at *;omega))];simp)];exact⟨rfl,rfl⟩)
    |exact rnd_go (kJ _ _ (some x) ⟨.inr ⟨by omega,by simp[hx]⟩,hA _,by simp[up,h1],by simp[up]<;>omega⟩ (kT (by(simp only[rateB,inB,Bool.and_eq_true,Bool.or_eq_true,Bool.not_eq_true',Bool.and_eq_false_iff,Bool.or_eq_false_iff,decide_eq_true_eq,decide_eq_false_iff_not,beq_iff_eq,beq_eq_false_iff_ne,ne_eq,Bool.not_eq_eq_eq_not,Bool.not_true,Bool.not_false]at *;omega))))
 ·exact⟨.inl ⟨rfl,rfl⟩,rfl,by simp[up],by simp[up]⟩
 ·split at hk
  ·subst hk
   rename_i hr
   (have hb:=trivial;with_reducible repeat' (first|simp only[hb,Va.down,seval,TY44.down]|refine fsp ?_ ?_<;>intro hb|refine fd ?_|fail))
   all_goals (refine congrArg (fun b=>(Out.ret (AV.bool b),([]:Heap))) ?_;symm;((try simp only[Bool.not_eq_eq_eq_not,Bool.not_true,Bool.not_false]at *);simp only[conB, *,Bool.and_false,Bool.false_and,Bool.and_true,Bool.true_and,Bool.and_self,Bool.not_not,Bool.not_true,Bool.not_false,List.all_cons,List.all_nil]))
  ·obtain⟨rfl,h2⟩:=hk
   rename_i hr
   (have hb:=trivial;with_reducible repeat' (first|simp only[hb,Va.down,seval,TY44.down,h2]|refine fsp ?_ ?_<;>intro hb|refine fd ?_|fail))
   all_goals simp[conB,hr]
/-- What is sold in an hour, as it is reckoned. -/
def sold1(hour:Int)(c:BCon)(a:Int × Int):Int × Int:=if(c.firm&&inB hour c.lo c.hi)=true then(IntKind.i64.wrap (a.1+(c.rates.head?.map BRate.inn).getD 0),IntKind.i64.wrap (a.2+(c.rates.getLast?.map BRate.out).getD 0))else a
def soldF(hour:Int):List BCon→Int × Int→Int × Int
 | [],a=>a
 |c::l,a=>soldF hour l (sold1 hour c a)
def spacesF:List BCon→Int→Int
 | [],a=>a
 |c::l,a=>spacesF l (IntKind.i64.wrap (a+c.space))
theorem last_of{α:Type}{l:List α}(h:l≠[]):∃x,l[l.length-1]?=some x∧l.getLast?=some x:=by
 have hl:0<l.length:=List.length_pos_iff.2 h
 refine⟨l[l.length-1],List.getElem?_eq_getElem (by omega),?_⟩
 rw[List.getLast?_eq_getElem?]
 exact List.getElem?_eq_getElem (by omega)
theorem e_spaces{l:List BCon}{nn:Bool}(hl:l.length≤maxLen):om'.call (.fn 67) [slv 11 false nn (l.map BCon.cells)] []=some (.ret (.int .i64 (spacesF l 0)),[]):=by
 (refine ce Tryz.func67 ?_;simp only[Tryz.f67];(have hb:=trivial;with_reducible repeat' (first|simp only[hb,Va.down,seval,TY67.down,List.length_map]|refine fsp ?_ ?_<;>intro hb|refine fd ?_|fail)))
 refine fw_ot (lst 18 l (fun i (s:Int) t h=>t 6=slv 11 false nn (l.map BCon.cells)∧t 7=.int .i64 l.length∧t 8=.int .i64 i∧t 3=.int .i64 s)
  (fun rest s=>spacesF rest s) (fun r e t h=>e=.exit 0∧t 3=.int .i64 r) ?_ ?_ 0 _ _ ?_) (fun e t h hk=>?_)
 ·rintro s t h Q' kQ ⟨h6,h7,h8,h3⟩
  (have hb:=trivial;with_reducible repeat' (first|simp only[hb,Va.down,seval,TY67.down,h6,h7,h8,h3,Int.lt_irrefl,decide_false]|refine fsp ?_ ?_<;>intro hb|refine fd ?_|fail))
  exact kQ _ _ _ ⟨rfl,by simp[up,h3,spacesF]⟩
 ·rintro x rest i s t h J Q' kJ kQ hx hi ⟨h6,h7,h8,h3⟩
  have hd:decide ((i:Int)<(l.length:Int))=true:=by simpa using hi
  have hw:=wrap_next hi hl
  (have hb:=trivial;with_reducible repeat' (first|simp only[hb,Va.down,seval,TY67.down,h6,h7,h8,h3,hd,hx,BCon.cells,hw]|refine fsp ?_ ?_<;>intro hb|refine fd ?_|fail))
  exact rnd_go (kJ _ _ (IntKind.i64.wrap (s+x.space)) ⟨by simp[up,h6],by simp[up,h7],by simp[up],by simp[up]⟩ rfl)
 ·exact⟨by simp[up,ent],by simp[up],by simp[up],by simp[up]⟩
 ·obtain⟨rfl,h3⟩:=hk
  (have hb:=trivial;with_reducible repeat' (first|simp only[hb,Va.down,seval,TY67.down,h3]|refine fsp ?_ ?_<;>intro hb|refine fd ?_|fail))
theorem e_sold{l:List BCon}{nn:Bool}(hour:Int)(hl:l.length≤maxLen)(hr:∀c∈l,c.rates≠[]∧c.rates.length≤6):om'.call (.fn 68) [slv 11 false nn (l.map BCon.cells),.int .i64 hour] []=some (.ret (.tup [.int .i64 (soldF hour l (0,0)).1,.int .i64 (soldF hour l (0,0)).2]),[]):=by
 (refine ce Tryz.func68 ?_;simp only[Tryz.f68];(have hb:=trivial;with_reducible repeat' (first|simp only[hb,Va.down,seval,TY68.down,List.length_map]|refine fsp ?_ ?_<;>intro hb|refine fd ?_|fail)))
 refine fw_ot (lst 44 l (fun i (s:Int × Int) t h=>t 1=.int .i64 hour∧t 10=slv 11 false nn (l.map BCon.cells)∧t 11=.int .i64 l.length∧t 12=.int .i64 i∧t 6=.int .i64 s.1∧t 7=.int .i64 s.2)
  (fun rest s=>soldF hour rest s) (fun r e t h=>e=.exit 0∧t 6=.int .i64 r.1∧t 7=.int .i64 r.2) ?_ ?_ (0,0) _ _ ?_) (fun e t h hk=>?_)
 ·rintro s t h Q' kQ ⟨h1,h10,h11,h12,h6,h7⟩
  (have hb:=trivial;with_reducible repeat' (first|simp only[hb,Va.down,seval,TY68.down,h10,h11,h12,Int.lt_irrefl,decide_false]|refine fsp ?_ ?_<;>intro hb|refine fd ?_|fail))
  exact kQ _ _ _ ⟨rfl,by simp[up,h6,soldF],by simp[up,h7,soldF]⟩
 ·rintro x rest i s t h J Q' kJ kQ hx hi ⟨h1,h10,h11,h12,h6,h7⟩
  have hd:decide ((i:Int)<(l.length:Int))=true:=by simpa using hi
  have hw:=wrap_next hi hl
  obtain⟨hne,h6r⟩:=hr x (List.mem_of_getElem? hx)
  obtain⟨q,hq1,hq2⟩:=last_of hne
  obtain⟨r0,hr0⟩:∃r0,x.rates[0]?=some r0:=⟨x.rates[0]'(List.length_pos_iff.2 hne),List.getElem?_eq_getElem _⟩
  have hlast:IntKind.i64.wrap ((x.rates.length:Int)-1)=((x.rates.length-1:Nat):Int):=by
   have:=List.length_pos_iff.2 hne
   rw[wrap_of (by omega) (by omega)];omega
  have hh0:x.rates.head?=some r0:=by rw[List.head?_eq_getElem?];exact hr0
  (have hb:=trivial;with_reducible repeat' (first|simp only[hb,Va.down,seval,TY68.down,h1,h10,h11,h12,h6,h7,hd,hx,BCon.cells,BRate.cells,hw,e_active,hlast,hq1,hr0,Int.le_refl,Int.toNat_zero]|refine fsp ?_ ?_<;>intro hb|refine fd ?_|fail))
  all_goals exact rnd_go (kJ _ _ (sold1 hour x s) ⟨by simp[up,h1],by simp[up,h10],by simp[up,h11],by simp[up],by simp[up,sold1, *],by simp[up,sold1, *]⟩ rfl)
 ·exact⟨by simp[up,ent],by simp[up,ent],by simp[up],by simp[up],by simp[up],by simp[up]⟩
 ·obtain⟨rfl,h6,h7⟩:=hk
  (have hb:=trivial;with_reducible repeat' (first|simp only[hb,Va.down,seval,TY68.down,h6,h7]|refine fsp ?_ ?_<;>intro hb|refine fd ?_|fail))
def ratesOK(l:List BCon):Prop:=∀c∈l,c.rates≠[]∧c.rates.length≤6
theorem r_Sold{l:List BCon}{nn:Bool}(hour:Int)(hl:l.length≤maxLen)(hr:ratesOK l):om'.call (.fn 69) [slv 11 false nn (l.map BCon.cells),.int .i64 hour] []=some (.ret (.agg [.int .i64 (spacesF l 0),.int .i64 (soldF hour l (0,0)).1,.int .i64 (soldF hour l (0,0)).2]),[]):=by
 (refine ce Tryz.func69 ?_;simp only[Tryz.f69];(have hb:=trivial;with_reducible repeat' (first|simp only[hb,Va.down,seval,TY69.down,List.length_map]|refine fsp ?_ ?_<;>intro hb|refine fd ?_|fail)))
 refine fw_ot (lst 67 l (fun i (s:Bool × Int × Int × Int) t h=>h=[.live 3 true false [[.int .i64 0,.int .i64 0,.int .i64 0]],.live 3 true s.1 [[.int .i64 s.2.1,.int .i64 s.2.2.1,.int .i64 s.2.2.2]]]∧t 0=slv 11 false nn (l.map BCon.cells)∧t 1=.int .i64 hour∧t 4=.ptr 0 0 0∧t 5=.ptr 1 0 0∧t 6=.int .i64 i)
  (fun rest s=>(spacesF rest s.2.1,soldF hour rest s.2.2)) (fun r e t h=>e=.exit 0∧(∃w,h=[.live 3 true false [[.int .i64 0,.int .i64 0,.int .i64 0]],.live 3 true w [[.int .i64 r.1,.int .i64 r.2.1,.int .i64 r.2.2]]])∧t 4=.ptr 0 0 0∧t 5=.ptr 1 0 0) ?_ ?_ (false,0,0,0) _ _ ?_) (fun e t h hk=>?_)
 ·rintro⟨w,a,b,c⟩ t h Q' kQ ⟨rfl,h0,h1,h4,h5,h6⟩
  (have hb:=trivial;with_reducible repeat' (first|simp only[hb,Va.down,seval,TY69.down,h0,h6,Int.lt_irrefl,decide_false]|refine fsp ?_ ?_<;>intro hb|refine fd ?_|fail))
  exact kQ _ _ _ ⟨rfl,⟨w,by simp[spacesF,soldF]⟩,by simp[up,h4],by simp[up,h5]⟩
 ·rintro x rest i ⟨w,a,b,c⟩ t h J Q' kJ kQ hx hi ⟨rfl,h0,h1,h4,h5,h6⟩
  have hd:decide ((i:Int)<(l.length:Int))=true:=by simpa using hi
  have hw:=wrap_next hi hl
  obtain⟨hne,h6r⟩:=hr x (List.mem_of_getElem? hx)
  obtain⟨q,hq1,hq2⟩:=last_of hne
  obtain⟨r0,hr0⟩:∃r0,x.rates[0]?=some r0:=⟨x.rates[0]'(List.length_pos_iff.2 hne),List.getElem?_eq_getElem _⟩
  have hlast:IntKind.i64.wrap ((x.rates.length:Int)-1)=((x.rates.length-1:Nat):Int):=by
   have:=List.length_pos_iff.2 hne
   rw[wrap_of (by omega) (by omega)];omega
  have hh0:x.rates.head?=some r0:=by rw[List.head?_eq_getElem?];exact hr0
  (have hb:=trivial;with_reducible repeat' (first|simp only[hb,Va.down,seval,TY69.down,h0,h1,h4,h5,h6,hd,hx,BCon.cells,BRate.cells,hw,r_Active,hlast,hq1,hr0,Int.le_refl,Int.toNat_zero]|refine fsp ?_ ?_<;>intro hb|refine fd ?_|fail))
  all_goals exact rnd_go (kJ _ _ (true,IntKind.i64.wrap (a+x.space),sold1 hour x (b,c)) ⟨by simp[sold1, *],by simp[up,h0],by simp[up,h1],by simp[up,h4],by simp[up,h5],by simp[up]⟩ rfl)
 ·exact⟨rfl,by simp[up,ent],by simp[up,ent],by simp[up],by simp[up],by simp[up]⟩
 ·obtain⟨rfl,⟨w,rfl⟩,h4,h5⟩:=hk
  (have hb:=trivial;with_reducible repeat' (first|simp only[hb,Va.down,seval,TY69.down,h4,h5]|refine fsp ?_ ?_<;>intro hb|refine fd ?_|fail))
/-- All hours from some on. -/
def hoursF(p:Int→Bool):Nat→Bool
 |0=>true
 |n+1=>p (48-((n+1:Nat):Int))&&hoursF p n
def okH(s:BStore)(l:List BCon)(h:Int):Bool:=decide ((soldF h l (0,0)).1≤s.inn)&&decide ((soldF h l (0,0)).2≤s.out)
def onceB(s:BStore)(l:List BCon):Bool:=hoursF (okH s l) 48&&decide (spacesF l 0≤s.space)
theorem hoursF_and(a:Bool)(p:Int→Bool):∀n,hoursF (fun h=>a&&p h) (n+1)=(hoursF p (n+1)&&a)
 |0=>by simp[hoursF,Bool.and_comm]
 |n+1=>by
  rw[hoursF,hoursF_and a p n]
  conv=>rhs;rw[hoursF]
  cases a<;>simp
theorem e_once(s:BStore)(hl:s.cons.length≤maxLen)(hr:ratesOK s.cons):om'.call (.fn 87) [.agg s.cells] []=some (.ret (.bool (onceB s s.cons)),[]):=by
 have hs:=fun(h:Int)=>e_sold (nn:=s.nn) h hl hr
 have hp:=e_spaces (nn:=s.nn) hl
 (refine ce Tryz.func87 ?_;simp only[Tryz.f87];(have hb:=trivial;with_reducible repeat' (first|simp only[hb,Va.down,seval,TY87.down]|refine fsp ?_ ?_<;>intro hb|refine fd ?_|fail)))
 refine fw_ot (cnt 33 (fun n (_:Unit) t h=>n≤48∧h[0]?=some (.live 6 false false [s.cells])∧t 1=.ptr 0 0 0∧t 6=.int .i64 (48-n))
  (fun n _=>hoursF (okH s s.cons) n) (fun r e t h=>if r=true then e=.exit 0∧h[0]?=some (.live 6 false false [s.cells])∧t 1=.ptr 0 0 0 else e=.ret∧t 2=.bool false) ?_ ?_ 48 () _ _ ?_) (fun e t h hk=>?_)
 ·rintro _ t h Q' kQ ⟨_,hh,h1,h6⟩
  (have hb:=trivial;with_reducible repeat' (first|simp only[hb,Va.down,seval,TY87.down,h1,h6,Int.natCast_zero,Int.sub_zero,Int.lt_irrefl,decide_false]|refine fsp ?_ ?_<;>intro hb|refine fd ?_|fail))
  exact kQ _ _ _ (by simp[hoursF,hh,up,h1])
 ·rintro n _ t h J Q' kJ kQ ⟨hn,hh,h1,h6⟩
  have hd:decide ((48:Int)-((n+1:Nat):Int)<48)=true:=by rw[decide_eq_true_eq];omega
  have hw:IntKind.i64.wrap ((48:Int)-((n+1:Nat):Int)+1)=48-(n:Int):=by rw[wrap_of (by omega) (by omega)];omega
  (have hb:=trivial;with_reducible repeat' (first|simp only[hb,Va.down,seval,TY87.down,hh,h1,h6,hd,hw,hs]|refine fsp ?_ ?_<;>intro hb|refine fd ?_|fail))
  all_goals first
   |exact kQ _ _ _ (by rw[if_neg (by intro hcon;(simp only[hoursF,okH,Bool.and_eq_true,Bool.or_eq_true,Bool.not_eq_true',Bool.and_eq_false_iff,Bool.or_eq_false_iff,decide_eq_true_eq,decide_eq_false_iff_not,beq_iff_eq,beq_eq_false_iff_ne,ne_eq,Bool.not_eq_eq_eq_not,Bool.not_true,Bool.not_false]at *;omega))];exact⟨rfl,rfl⟩)
   |exact rnd_go (kJ _ _ () ⟨by omega,hh,by simp[up,h1],by simp[up]⟩ (by
     have:okH s s.cons (48-((n+1:Nat):Int))=true:=by(simp only[okH,Bool.and_eq_true,Bool.or_eq_true,Bool.not_eq_true',Bool.and_eq_false_iff,Bool.or_eq_false_iff,decide_eq_true_eq,decide_eq_false_iff_not,beq_iff_eq,beq_eq_false_iff_ne,ne_eq,Bool.not_eq_eq_eq_not,Bool.not_true,Bool.not_false]at *;omega)
     simp only[hoursF,this,Bool.true_and]))
 ·exact⟨by omega,rfl,by simp[up],by simp[up]⟩
 ·split at hk
  ·obtain⟨rfl,hh,h1⟩:=hk
   rename_i hr'
   (have hb:=trivial;with_reducible repeat' (first|simp only[hb,Va.down,seval,TY87.down,hh,h1,hp]|refine fsp ?_ ?_<;>intro hb|refine fd ?_|fail))
   all_goals simp[onceB,hr']
  ·obtain⟨rfl,h2⟩:=hk
   rename_i hr'
   (have hb:=trivial;with_reducible repeat' (first|simp only[hb,Va.down,seval,TY87.down,h2]|refine fsp ?_ ?_<;>intro hb|refine fd ?_|fail))
   all_goals simp[onceB,hr']
theorem conB_rates{l:List BCon}(h:l.all conB=true):ratesOK l:=fun c hc=>by
 have:=List.all_eq_true.1 h c hc
 simp only[conB,inB,Bool.and_eq_true,decide_eq_true_eq]at this
 obtain⟨⟨⟨_,h1,h2⟩,_⟩,_⟩:=this
 refine⟨fun e=>?_,by omega⟩
 rw[e]at h1;simp at h1
theorem r_Once(s:BStore)(l:List BCon)(nn:Bool)(hl:l.length≤maxLen)(hr:ratesOK l):om'.call (.fn 56) [.agg s.cells,slv 11 false nn (l.map BCon.cells)] []=some (.ret (.bool (onceB s l)),[]):=by
 have hs:=fun(h:Int)=>r_Sold (nn:=nn) h hl hr
 (refine ce Tryz.func56 ?_;simp only[Tryz.f56];(have hb:=trivial;with_reducible repeat' (first|simp only[hb,Va.down,seval,TY56.down]|refine fsp ?_ ?_<;>intro hb|refine fd ?_|fail)))
 refine fw_ot (cnt 33 (fun n (_:Unit) t h=>n≤48∧h[0]?=some (.live 6 false false [s.cells])∧t 1=slv 11 false nn (l.map BCon.cells)∧t 2=.ptr 0 0 0∧t 5=.int .i64 (48-n))
  (fun n _=>hoursF (fun h=>decide (spacesF l 0≤s.space)&&okH s l h) n) (fun r e t h=>if r=true then e=.exit 0 else e=.ret∧t 4=.bool false) ?_ ?_ 48 () _ _ ?_) (fun e t h hk=>?_)
 ·rintro _ t h Q' kQ ⟨_,hh,h1,h2,h5⟩
  (have hb:=trivial;with_reducible repeat' (first|simp only[hb,Va.down,seval,TY56.down,h5,Int.natCast_zero,Int.sub_zero,Int.lt_irrefl,decide_false]|refine fsp ?_ ?_<;>intro hb|refine fd ?_|fail))
  exact kQ _ _ _ (by simp[hoursF])
 ·rintro n _ t h J Q' kJ kQ ⟨hn,hh,h1,h2,h5⟩
  have hd:decide ((48:Int)-((n+1:Nat):Int)<48)=true:=by rw[decide_eq_true_eq];omega
  have hw:IntKind.i64.wrap ((48:Int)-((n+1:Nat):Int)+1)=48-(n:Int):=by rw[wrap_of (by omega) (by omega)];omega
  have hA:=get_app hh
  (have hb:=trivial;with_reducible repeat' (first|simp only[hb,Va.down,seval,TY56.down,hA,hh,h1,h2,h5,hd,hw,hs]|refine fsp ?_ ?_<;>intro hb|refine fd ?_|fail))
  all_goals first
   |exact kQ _ _ _ (by rw[if_neg (by intro hcon;(simp only[hoursF,okH,Bool.and_eq_true,Bool.or_eq_true,Bool.not_eq_true',Bool.and_eq_false_iff,Bool.or_eq_false_iff,decide_eq_true_eq,decide_eq_false_iff_not,beq_iff_eq,beq_eq_false_iff_ne,ne_eq,Bool.not_eq_eq_eq_not,Bool.not_true,Bool.not_false]at *;omega))];exact⟨rfl,rfl⟩)
   |exact rnd_go (kJ _ _ () ⟨by omega,hA _,by simp[up,h1],by simp[up,h2],by simp[up]⟩ (by
     have:(decide (spacesF l 0≤s.space)&&okH s l (48-((n+1:Nat):Int)))=true:=by(simp only[okH,Bool.and_eq_true,Bool.or_eq_true,Bool.not_eq_true',Bool.and_eq_false_iff,Bool.or_eq_false_iff,decide_eq_true_eq,decide_eq_false_iff_not,beq_iff_eq,beq_eq_false_iff_ne,ne_eq,Bool.not_eq_eq_eq_not,Bool.not_true,Bool.not_false]at *;omega)
     simp only[hoursF,this,Bool.true_and]))
 ·exact⟨by omega,rfl,by simp[up,ent],by simp[up],by simp[up]⟩
 ·have he:onceB s l=hoursF (fun h=>decide (spacesF l 0≤s.space)&&okH s l h) 48:=by rw[hoursF_and];rfl
  split at hk
  ·subst hk
   rename_i hr'
   (have hb:=trivial;with_reducible repeat' (first|simp only[hb,Va.down,seval,TY56.down]|refine fsp ?_ ?_<;>intro hb|refine fd ?_|fail))
   all_goals simp[he,hr']
  ·obtain⟨rfl,h2⟩:=hk
   rename_i hr'
   (have hb:=trivial;with_reducible repeat' (first|simp only[hb,Va.down,seval,TY56.down,h2]|refine fsp ?_ ?_<;>intro hb|refine fd ?_|fail))
   all_goals simp[he,hr']
theorem r_Offers{l:List BCon}{nn:Bool}(hl:l.length≤maxLen)(hr:∀c∈l,c.rates.length≤maxLen):om'.call (.fn 55) [slv 11 false nn (l.map BCon.cells)] []=some (.ret (.bool (l.all conB)),[]):=by
 (refine ce Tryz.func55 ?_;simp only[Tryz.f55];(have hb:=trivial;with_reducible repeat' (first|simp only[hb,Va.down,seval,TY55.down,List.length_map]|refine fsp ?_ ?_<;>intro hb|refine fd ?_|fail)))
 refine fw_ot (lst 16 l (fun i (_:Unit) t h=>t 0=slv 11 false nn (l.map BCon.cells)∧t 3=.int .i64 i)
  (fun rest _=>rest.all conB) (fun r e t h=>if r=true then e=.exit 0 else e=.ret∧t 2=.bool false) ?_ ?_ () _ _ ?_) (fun e t h hk=>?_)
 ·rintro _ t h Q' kQ ⟨h0,h3⟩
  (have hb:=trivial;with_reducible repeat' (first|simp only[hb,Va.down,seval,TY55.down,h0,h3,Int.lt_irrefl,decide_false]|refine fsp ?_ ?_<;>intro hb|refine fd ?_|fail))
  exact kQ _ _ _ (by simp)
 ·rintro x rest i _ t h J Q' kJ kQ hx hi ⟨h0,h3⟩
  have hd:decide ((i:Int)<(l.length:Int))=true:=by simpa using hi
  have hw:=wrap_next hi hl
  have hc:=r_Contract x (hr x (List.mem_of_getElem? hx))
  (have hb:=trivial;with_reducible repeat' (first|simp only[hb,Va.down,seval,TY55.down,h0,h3,hd,hx,BCon.cells,hw,hc]|refine fsp ?_ ?_<;>intro hb|refine fd ?_|fail))
  ·exact kQ _ _ _ (by rw[if_neg (by simp at hb;simp[hb])];exact⟨rfl,rfl⟩)
  ·exact rnd_go (kJ _ _ () ⟨by simp[up,h0],by simp[up]⟩ (by simp at hb;simp[hb]))
 ·exact⟨by simp[up,ent],by simp[up]⟩
 ·split at hk
  ·subst hk
   rename_i hr'
   (have hb:=trivial;with_reducible repeat' (first|simp only[hb,Va.down,seval,TY55.down]|refine fsp ?_ ?_<;>intro hb|refine fd ?_|fail))
   all_goals simp[hr']
  ·obtain⟨rfl,h2⟩:=hk
   rename_i hr'
   (have hb:=trivial;with_reducible repeat' (first|simp only[hb,Va.down,seval,TY55.down,h2]|refine fsp ?_ ?_<;>intro hb|refine fd ?_|fail))
   all_goals (rw[Bool.not_eq_true]at hr';rw[hr'])
structure BStore.small(s:BStore):Prop where
 cons:s.cons.length≤maxLen
 rates:∀c∈s.cons,c.rates.length≤maxLen
def storeB(s:BStore):Bool:=([s.space,s.inn,s.out].all fun x=>inB x 0 800000000)&&inB s.lead 0 48&&inB s.fuel 0 1000&&decide (s.cons.length≤8)&&s.cons.all conB&&onceB s s.cons
theorem e_store1(c:BCon)(hl:c.rates.length≤maxLen):om'.call (.fn 91) [.agg [.bool c.firm,.int .i64 c.space,.int .i64 c.lo,.int .i64 c.hi,slv 3 true c.nn (c.rates.map BRate.cells),.int .i64 c.gas,.int .i64 c.fixed,.int .i64 c.inn,.int .i64 c.out,.int .i64 c.cut,.int .i64 c.lack]] []=some (.ret (.bool (!conB c)),[]):=by
 (refine ce Tryz.func91 ?_;simp only[Tryz.f91];(have hb:=trivial;with_reducible repeat' (first|simp only[hb,Va.down,seval,TY91.down,e_contract c hl]|refine fsp ?_ ?_<;>intro hb|refine fd ?_|fail)))
theorem e_store(s:BStore)(hs:s.small):om'.call (.fn 49) [.agg s.cells] []=some (.ret (.bool (storeB s)),[]):=by
 have hg:=e_great (l:=[s.space,s.inn,s.out]) (nn:=true) (by simp[maxLen])
 simp only[List.map_cons,List.map_nil,iv,slv_cons]at hg
 have hc:=e_contCon (l:=s.cons) (nn:=s.nn) (g:=91) (cap:=[]) (p:=fun c=> !conB c) rfl rfl (fun x hx=>e_store1 x (hs.rates x hx)) hs.cons
 have ha:s.cons.any (fun c=> !conB c)= !(s.cons.all conB):=by rw[List.all_eq_not_any_not,Bool.not_not]
 have hlen:decide ((s.cons.length:Int)≤8)=decide (s.cons.length≤8):=by rw[decide_eq_decide];omega
 cases hv:s.cons.all conB with
 |false=>
  rw[ha,hv]at hc
  (refine ce Tryz.func49 ?_;simp only[Tryz.f49];(have hb:=trivial;with_reducible repeat' (first|simp only[hb,Va.down,seval,TY49.down,hg,e_in,hc,hlen]|refine fsp ?_ ?_<;>intro hb|refine fd ?_|fail)))
  all_goals simp[storeB, *]
 |true=>
  rw[ha,hv]at hc
  have ho:=e_once s hs.cons (conB_rates hv)
  (refine ce Tryz.func49 ?_;simp only[Tryz.f49];(have hb:=trivial;with_reducible repeat' (first|simp only[hb,Va.down,seval,TY49.down,hg,e_in,hc,ho,hlen]|refine fsp ?_ ?_<;>intro hb|refine fd ?_|fail)))
  all_goals simp[storeB, *]
theorem r_Store(s:BStore)(hs:s.small):om'.call (.fn 17) [.agg s.cells] []=some (.ret (.bool (storeB s)),[]):=by
 have hc:=r_Offers (nn:=s.nn) hs.cons hs.rates
 have hlen:decide (8<(s.cons.length:Int))= !decide (s.cons.length≤8):=by rw[←decide_not,decide_eq_decide];omega
 cases hv:s.cons.all conB with
 |false=>
  rw[hv]at hc
  (refine ce Tryz.func17 ?_;simp only[Tryz.f17];(have hb:=trivial;with_reducible repeat' (first|simp only[hb,Va.down,seval,TY17.down,r_Much,r_in,hc,hlen]|refine fsp ?_ ?_<;>intro hb|refine fd ?_|fail)))
  all_goals (refine congrArg (fun b=>(Out.ret (AV.bool b),([]:Heap))) ?_;symm;((try simp only[Bool.not_eq_eq_eq_not,Bool.not_true,Bool.not_false]at *);simp only[storeB, *,Bool.and_false,Bool.false_and,Bool.and_true,Bool.true_and,Bool.and_self,Bool.not_not,Bool.not_true,Bool.not_false,List.all_cons,List.all_nil]))
 |true=>
  rw[hv]at hc
  have ho:=r_Once s s.cons s.nn hs.cons (conB_rates hv)
  (refine ce Tryz.func17 ?_;simp only[Tryz.f17];(have hb:=trivial;with_reducible repeat' (first|simp only[hb,Va.down,seval,TY17.down,r_Much,r_in,hc,ho,hlen]|refine fsp ?_ ?_<;>intro hb|refine fd ?_|fail)))
  all_goals (refine congrArg (fun b=>(Out.ret (AV.bool b),([]:Heap))) ?_;symm;((try simp only[Bool.not_eq_eq_eq_not,Bool.not_true,Bool.not_false]at *);simp only[storeB, *,Bool.and_false,Bool.false_and,Bool.and_true,Bool.true_and,Bool.and_self,Bool.not_not,Bool.not_true,Bool.not_false,List.all_cons,List.all_nil]))
def shortB(l:List BCon):Bool:=(l.all fun c=>decide (c.rates.length≤10))&&decide (l.length≤12)
theorem w_short{l:List BCon}{nn:Bool}(hl:l.length≤maxLen):om'.call (.fn 14) [slv 11 false nn (l.map BCon.cells)] []=some (.ret (.bool (shortB l)),[]):=by
 (refine ce Tryz.func14 ?_;simp only[Tryz.f14];(have hb:=trivial;with_reducible repeat' (first|simp only[hb,Va.down,seval,TY14.down,List.length_map]|refine fsp ?_ ?_<;>intro hb|refine fd ?_|fail)))
 refine fw_ot (lst 20 l (fun i (_:Unit) t h=>t 0=slv 11 false nn (l.map BCon.cells)∧t 3=.int .i64 i)
  (fun rest _=>rest.all fun c=>decide (c.rates.length≤10)) (fun r e t h=>if r=true then e=.exit 0∧t 0=slv 11 false nn (l.map BCon.cells)else e=.ret∧t 2=.bool false) ?_ ?_ () _ _ ?_) (fun e t h hk=>?_)
 ·rintro _ t h Q' kQ ⟨h0,h3⟩
  (have hb:=trivial;with_reducible repeat' (first|simp only[hb,Va.down,seval,TY14.down,h0,h3,Int.lt_irrefl,decide_false]|refine fsp ?_ ?_<;>intro hb|refine fd ?_|fail))
  exact kQ _ _ _ (by simp[up,h0])
 ·rintro x rest i _ t h J Q' kJ kQ hx hi ⟨h0,h3⟩
  have hd:decide ((i:Int)<(l.length:Int))=true:=by simpa using hi
  have hw:=wrap_next hi hl
  (have hb:=trivial;with_reducible repeat' (first|simp only[hb,Va.down,seval,TY14.down,h0,h3,hd,hx,BCon.cells,hw]|refine fsp ?_ ?_<;>intro hb|refine fd ?_|fail))
  ·exact kQ _ _ _ (by rw[if_neg (by simp only[decide_eq_true_eq]at hb;simp;omega)];exact⟨rfl,rfl⟩)
  ·exact rnd_go (kJ _ _ () ⟨by simp[up,h0],by simp[up]⟩ (by simp only[decide_eq_false_iff_not]at hb;simp;omega))
 ·exact⟨by simp[up,ent],by simp[up]⟩
 ·have hlen:decide ((l.length:Int)≤12)=decide (l.length≤12):=by rw[decide_eq_decide];omega
  split at hk
  ·obtain⟨rfl,h0⟩:=hk
   rename_i hr'
   (have hb:=trivial;with_reducible repeat' (first|simp only[hb,Va.down,seval,TY14.down,h0,hlen]|refine fsp ?_ ?_<;>intro hb|refine fd ?_|fail))
   all_goals simp[shortB,hr']
  ·obtain⟨rfl,h2⟩:=hk
   rename_i hr'
   (have hb:=trivial;with_reducible repeat' (first|simp only[hb,Va.down,seval,TY14.down,h2]|refine fsp ?_ ?_<;>intro hb|refine fd ?_|fail))
   all_goals (rw[Bool.not_eq_true]at hr';simp[shortB,hr'])
def min2(x y:Int):Int:=if y<x then y else x
theorem storeB_con{s:BStore}(h:storeB s=true):s.cons.all conB=true:=by
 simp only[storeB,Bool.and_eq_true]at h;exact h.1.2
theorem i_eqself(a:Int):(a==a)=true:=by simp
theorem list_of{α:Type}{f:α→List AV}{p:List AV→Prop}{q:α→Prop}(hf:∀r,p r→∃x,r=f x∧q x):∀{rows:List (List AV)},(∀r∈rows,p r)→∃l:List α,rows=l.map f∧∀x∈l,q x
 | [],_=>⟨[],rfl,fun x hx=>by simp at hx⟩
 |r::rows,h=>by
  obtain⟨x,rfl,hx⟩:=hf r (h r (List.mem_cons_self ..))
  obtain⟨l,rfl,hl⟩:=list_of hf (fun r hr=>h r (List.mem_cons_of_mem _ hr))
  exact⟨x::l,rfl,fun y hy=>by
   rcases List.mem_cons.1 hy with rfl|hy
   ·exact hx
   ·exact hl y hy⟩
def i64(n:Int):Prop:= -9223372036854775808≤n∧n≤9223372036854775807
theorem ty_int{n:Nat}{r:List AV}(h:Ty Tryz.prog (n+1) 3 r):∃x,r=[.int .i64 x]∧i64 x:=by
 simp only[Ty,Tryz.underlying3]at h
 obtain⟨x,rfl,h1,h2⟩:=h
 exact⟨x,rfl,h1,h2⟩
theorem ty_bool{n:Nat}{r:List AV}(h:Ty Tryz.prog (n+1) 4 r):∃x,r=[.bool x]:=by
 simp only[Ty,Tryz.underlying4]at h
 exact h
theorem ty_span{n:Nat}{r:List AV}(h:Ty Tryz.prog (n+2) 39 r):∃x y,r=[.int .i64 x,.int .i64 y]∧i64 x∧i64 y:=by
 unfold Ty at h
 simp only[Tryz.underlying39,TyFs]at h
 obtain⟨a,b,rfl,h1,c,d,rfl,h2,rfl⟩:=h
 obtain⟨x,rfl,hx⟩:=ty_int h1
 obtain⟨y,rfl,hy⟩:=ty_int h2
 exact⟨x,y,rfl,hx,hy⟩
theorem ty_rate{n:Nat}{r:List AV}(h:Ty Tryz.prog (n+2) 94 r):∃x:BRate,r=x.cells∧True:=by
 unfold Ty at h
 simp only[Tryz.underlying94,TyFs]at h
 obtain⟨a,b,rfl,h1,c,d,rfl,h2,e,f,rfl,h3,rfl⟩:=h
 obtain⟨x,rfl,_⟩:=ty_int h1
 obtain⟨y,rfl,_⟩:=ty_int h2
 obtain⟨z,rfl,_⟩:=ty_int h3
 exact⟨⟨x,y,z⟩,rfl,trivial⟩
theorem ty_con{n:Nat}{r:List AV}(h:Ty Tryz.prog (n+4) 42 r):∃x:BCon,r=x.cells∧x.rates.length≤maxLen:=by
 unfold Ty at h
 simp only[Tryz.underlying42,TyFs]at h
 obtain⟨a0,b0,rfl,h0,a1,b1,rfl,h1,a2,b2,rfl,h2,a3,b3,rfl,h3,a4,b4,rfl,h4,a5,b5,rfl,h5,a6,b6,rfl,h6,a7,b7,rfl,h7,a8,b8,rfl,h8,a9,b9,rfl,h9,rfl⟩:=h
 obtain⟨x0,rfl⟩:=ty_bool h0
 obtain⟨x1,rfl,_⟩:=ty_int h1
 obtain⟨x2,y2,rfl,_⟩:=ty_span h2
 obtain⟨x4,rfl,_⟩:=ty_int h4
 obtain⟨x5,rfl,_⟩:=ty_int h5
 obtain⟨x6,rfl,_⟩:=ty_int h6
 obtain⟨x7,rfl,_⟩:=ty_int h7
 obtain⟨x8,rfl,_⟩:=ty_int h8
 obtain⟨x9,rfl,_⟩:=ty_int h9
 unfold Ty at h3
 simp only[Tryz.underlying40]at h3
 obtain⟨nn,rows,rfl,hl,hrows⟩:=h3
 obtain⟨l,rfl,_⟩:=list_of (fun r hr=>ty_rate hr) hrows
 have e1:Tryz.prog.cellsOf 94=3:=by kernel_rfl
 have e2:flT Tryz.prog (n+2) 94=true:=by
  simp only[flT,Tryz.underlying94,Tryz.underlying3];rfl
 rw[e1,e2]
 exact⟨⟨x0,x1,x2,y2,nn,l,x4,x5,x6,x7,x8,x9⟩,rfl,by simpa using hl⟩
theorem ty_cons{n:Nat}{r:List AV}(h:Ty Tryz.prog (n+5) 22 r):∃(nn:Bool) (l:List BCon),r=[slv 11 false nn (l.map BCon.cells)]∧l.length≤maxLen∧∀c∈l,c.rates.length≤maxLen:=by
 unfold Ty at h
 simp only[Tryz.underlying22]at h
 obtain⟨nn,rows,rfl,hl,hrows⟩:=h
 obtain⟨l,rfl,hc⟩:=list_of (fun r hr=>ty_con hr) hrows
 have e1:Tryz.prog.cellsOf 42=11:=by kernel_rfl
 have e2:flT Tryz.prog (n+4) 42=false:=by
  simp only[flT,Tryz.underlying42,Tryz.underlying40];simp
 rw[e1,e2]
 exact⟨nn,l,rfl,by simpa using hl,hc⟩
theorem ty_store{n:Nat}{r:List AV}(h:Ty Tryz.prog (n+6) 24 r):∃s:BStore,r=s.cells∧s.small:=by
 unfold Ty at h
 simp only[Tryz.underlying24,TyFs]at h
 obtain⟨a0,b0,rfl,h0,a1,b1,rfl,h1,a2,b2,rfl,h2,a3,b3,rfl,h3,a4,b4,rfl,h4,a5,b5,rfl,h5,rfl⟩:=h
 obtain⟨x0,rfl,_⟩:=ty_int h0
 obtain⟨x1,rfl,_⟩:=ty_int h1
 obtain⟨x2,rfl,_⟩:=ty_int h2
 obtain⟨x3,rfl,_⟩:=ty_int h3
 obtain⟨x4,rfl,_⟩:=ty_int h4
 obtain⟨nn,l,rfl,hl,hc⟩:=ty_cons h5
 exact⟨⟨x0,x1,x2,x3,x4,nn,l⟩,rfl,hl,hc⟩
theorem tv_store{av:AV}(h:TyV Tryz.prog 7 24 av):∃s:BStore,av=.agg s.cells∧s.small:=by
 unfold TyV at h
 simp only[Tryz.underlying24]at h
 obtain⟨cs,rfl,h⟩:=h
 obtain⟨s,rfl,hs⟩:=ty_store h
 exact⟨s,rfl,hs⟩
structure BNom where
 con:Int
 hour:Int
 sent:Int
 amount:Int
def BNom.cells(n:BNom):List AV:=[.int .i64 n.con,.int .i64 n.hour,.int .i64 n.sent,.int .i64 n.amount]
def nomB(k:Int)(n:BNom):Bool:=inB n.con 0 (IntKind.i64.wrap (k-1))&&inB n.hour 0 47&&inB n.sent 0 47&&inB n.amount (-100000000) 100000000
theorem e_nom1(n:BNom)(k:Int):om'.call (.fn 113) [.agg [.int .i64 n.con,.int .i64 n.hour,.int .i64 n.sent,.int .i64 n.amount],.ptr 0 0 0] [.live 1 true false [[.int .i64 k]]]=some (.ret (.bool (!nomB k n)),[.live 1 true false [[.int .i64 k]]]):=by
 (refine ce Tryz.func113 ?_;simp only[Tryz.f113];(have hb:=trivial;with_reducible repeat' (first|simp only[hb,Va.down,seval,TY113.down,e_in]|refine fsp ?_ ?_<;>intro hb|refine fd ?_|fail)))
 all_goals (refine congrArg (fun b=>(Out.ret (AV.bool b),[CB.live 1 true false [[AV.int IntKind.i64 k]]])) ?_;((try simp only[Bool.not_eq_eq_eq_not,Bool.not_true,Bool.not_false]at *);simp only[nomB, *,Bool.and_false,Bool.false_and,Bool.and_true,Bool.true_and,Bool.and_self,Bool.not_not,Bool.not_true,Bool.not_false,List.all_cons,List.all_nil]))
theorem e_idxNomH{l:List BNom}{nn:Bool}{g bs:Nat}{brows:List (List AV)}{p:BNom→Bool}(hp:∀x∈l,om'.call (.fn g) (.agg [.int .i64 x.con,.int .i64 x.hour,.int .i64 x.sent,.int .i64 x.amount]::[.ptr 0 0 0]) [.live bs true false brows]=some (.ret (.bool (p x)),[.live bs true false brows]))(hl:l.length≤maxLen):
 om'.call (.fn 135) [slv 4 true nn (l.map BNom.cells),.func (.func g) [] [.ptr 0 0 0]] [.live bs true false brows]=some (.ret (.int .i64 (idx p l 0)),[.live bs true false brows]):=by
 (refine ce Tryz.func135 ?_;simp only[Tryz.f135];(have hb:=trivial;with_reducible repeat' (first|simp only[hb,Va.down,seval,TY135.down,List.length_map]|refine fsp ?_ ?_<;>intro hb|refine fd ?_|fail)))
 refine fw_ot (lst 19 l (fun i (s:Int) t h=>s=i∧h=[.live bs true false brows]∧t 0=slv 4 true nn (l.map BNom.cells)∧t 1=.func (.func g) [] [.ptr 0 0 0]∧t 7=.int .i64 l.length∧t 8=.int .i64 i)
  (fun rest s=>idx p rest s) (fun r e t h=>h=[.live bs true false brows]∧((e=.exit 0∧r= -1)∨(e=.ret∧t 4=.int .i64 r))) ?_ ?_ 0 _ _ ?_) (fun e t h hk=>?_)
 ·rintro s t h Q' kQ ⟨rfl,rfl,h0,h1,h7,h8⟩
  (have hb:=trivial;with_reducible repeat' (first|simp only[hb,Va.down,seval,TY135.down,h0,h1,h7,h8,Int.lt_irrefl,decide_false]|refine fsp ?_ ?_<;>intro hb|refine fd ?_|fail))
  exact kQ _ _ _ ⟨rfl,.inl ⟨rfl,rfl⟩⟩
 ·rintro x rest i s t h J Q' kJ kQ hx hi ⟨rfl,rfl,h0,h1,h7,h8⟩
  have hpx:=hp x (List.mem_of_getElem? hx)
  have hd:decide ((i:Int)<(l.length:Int))=true:=by simpa using hi
  (have hb:=trivial;with_reducible repeat' (first|simp only[hb,Va.down,seval,TY135.down,h0,h1,h7,h8,hd,hx,BNom.cells,hpx,wrap_next hi hl]|refine fsp ?_ ?_<;>intro hb|refine fd ?_|fail))
  ·exact kQ _ _ _ ⟨rfl,.inr ⟨rfl,by simp[up,idx,hb]⟩⟩
  ·exact rnd_go (kJ _ _ (i+1) ⟨by simp,rfl,by simp[up,h0],by simp[up,h1],by simp[up,h7],by simp[up]⟩ (by simp[idx,hb]))
 ·exact⟨rfl,rfl,by simp[up,ent],by simp[up,ent],by simp[up],by simp[up]⟩
 ·obtain⟨rfl,⟨rfl,hi⟩|⟨rfl,hi⟩⟩:=hk
  ·(have hb:=trivial;with_reducible repeat' (first|simp only[hb,Va.down,seval,TY135.down]|refine fsp ?_ ?_<;>intro hb|refine fd ?_|fail))
   rw[hi]
  ·(have hb:=trivial;with_reducible repeat' (first|simp only[hb,Va.down,seval,TY135.down,hi]|refine fsp ?_ ?_<;>intro hb|refine fd ?_|fail))
theorem e_contNomH{l:List BNom}{nn:Bool}{g bs:Nat}{brows:List (List AV)}{p:BNom→Bool}(hp:∀x∈l,om'.call (.fn g) (.agg [.int .i64 x.con,.int .i64 x.hour,.int .i64 x.sent,.int .i64 x.amount]::[.ptr 0 0 0]) [.live bs true false brows]=some (.ret (.bool (p x)),[.live bs true false brows]))(hl:l.length≤maxLen):
 om'.call (.fn 112) [slv 4 true nn (l.map BNom.cells),.func (.func g) [] [.ptr 0 0 0]] [.live bs true false brows]=some (.ret (.bool (l.any p)),[.live bs true false brows]):=by
 (refine ce Tryz.func112 ?_;simp only[Tryz.f112];(have hb:=trivial;with_reducible repeat' (first|simp only[hb,Va.down,seval,e_idxNomH hp hl,idx_any p l 0 (Int.le_refl 0)]|refine fsp ?_ ?_<;>intro hb|refine fd ?_|fail)))
theorem e_nominated{l:List BNom}{nn:Bool}(k:Int)(hl:l.length≤maxLen):om'.call (.fn 70) [slv 4 true nn (l.map BNom.cells),.int .i64 k] []=some (.ret (.bool (l.all (nomB k))),[]):=by
 have h:=e_contNomH (l:=l) (nn:=nn) (g:=113) (bs:=1) (brows:=[[.int .i64 k]]) (p:=fun n=> !nomB k n) (fun x _=>e_nom1 x k) hl
 (refine ce Tryz.func70 ?_;simp only[Tryz.f70];(have hb:=trivial;with_reducible repeat' (first|simp only[hb,Va.down,seval,h]|refine fsp ?_ ?_<;>intro hb|refine fd ?_|fail)))
 simp[List.all_eq_not_any_not]
/-- Which nomination counts, as it is reckoned. -/
def sentAt(l:List BNom)(o:Int):Int:=(l[o.toNat]?.map BNom.sent).getD 0
def cnt1(lead:Int)(l:List BNom)(c h:Int)(n:BNom)(i:Nat)(o:Int):Int:=
 if(n.con==c&&n.hour==h&&decide (IntKind.i64.wrap (n.sent+lead)≤h)&&(decide (o<0)||decide (sentAt l o≤n.sent)))=true then i else o
def cntF(lead:Int)(l:List BNom)(c h:Int):List BNom→Nat × Int→Int
 | [],a=>a.2
 |n::rest,a=>cntF lead l c h rest (a.1+1,cnt1 lead l c h n a.1 a.2)
theorem e_counts(s:BStore)(l:List BNom)(nn:Bool)(c h:Int)(hl:l.length≤maxLen):om'.call (.fn 72) [.agg s.cells,slv 4 true nn (l.map BNom.cells),.int .i64 c,.int .i64 h] []=some (.ret (.int .i64 (cntF s.lead l c h l (0,-1))),[]):=by
 (refine ce Tryz.func72 ?_;simp only[Tryz.f72];(have hb:=trivial;with_reducible repeat' (first|simp only[hb,Va.down,seval,TY72.down]|refine fsp ?_ ?_<;>intro hb|refine fd ?_|fail)))
 refine fw_ot (lst 55 l (fun i (a:Nat × Int) t hp=>a.1=i∧(a.2= -1∨0≤a.2∧a.2<i)∧hp[0]?=some (.live 6 false false [s.cells])∧t 1=slv 4 true nn (l.map BNom.cells)∧t 2=.int .i64 c∧t 3=.int .i64 h∧t 4=.ptr 0 0 0∧t 12=slv 4 true nn (l.map BNom.cells)∧t 13=.int .i64 l.length∧t 9=.int .i64 a.2∧t 14=.int .i64 i)
  (fun rest a=>cntF s.lead l c h rest a) (fun r e t hp=>e=.exit 0∧t 9=.int .i64 r) ?_ ?_ (0,-1) _ _ ?_) (fun e t hp hk=>?_)
 ·rintro⟨i',o⟩ t hp Q' kQ ⟨rfl,ho,hh,h1,h2,h3,h4,h12,h13,h9,h14⟩
  (have hb:=trivial;with_reducible repeat' (first|simp only[hb,Va.down,seval,TY72.down,h13,h14,Int.lt_irrefl,decide_false]|refine fsp ?_ ?_<;>intro hb|refine fd ?_|fail))
  exact kQ _ _ _ ⟨rfl,by simp[up,h9,cntF]⟩
 ·rintro x rest i ⟨i',o⟩ t hp J Q' kJ kQ hx hi ⟨rfl,ho,hh,h1,h2,h3,h4,h12,h13,h9,h14⟩
  simp only at ho h9 h14 hx hi
  have hd:decide ((i':Int)<(l.length:Int))=true:=by simpa using hi
  have hw:=wrap_next hi hl
  have hA:=get_app hh
  rcases ho with rfl|⟨ho1,ho2⟩
  ·have hn:decide ((-1:Int)<0)=true:=by decide
   (have hb:=trivial;with_reducible repeat' (first|simp only[hb,Va.down,seval,TY72.down,hA,h1,h2,h3,h4,h12,h13,h9,h14,hd,hw,hx,BNom.cells,hn]|refine fsp ?_ ?_<;>intro hb|refine fd ?_|fail))
   all_goals exact rnd_go (kJ _ _ (i'+1,cnt1 s.lead l c h x i' (-1)) ⟨rfl,by unfold cnt1;split<;>simp<;>omega,hA _,by simp[up,h1],by simp[up,h2],by simp[up,h3],by simp[up,h4],by simp[up,h12],by simp[up,h13],by simp[up,h9,cnt1, *],by simp[up]⟩ rfl)
  ·have hn:decide (o<0)=false:=by rw[decide_eq_false_iff_not];omega
   obtain⟨q,hq⟩:∃q,l[o.toNat]?=some q:=⟨l[o.toNat]'(by omega),List.getElem?_eq_getElem (by omega)⟩
   have hs:sentAt l o=q.sent:=by simp[sentAt,hq]
   have h0:(0≤o)=True:=eq_true ho1
   (have hb:=trivial;with_reducible repeat' (first|simp only[hb,Va.down,seval,TY72.down,hA,h1,h2,h3,h4,h12,h13,h9,h14,hd,hw,hx,BNom.cells,hn,hq,h0]|refine fsp ?_ ?_<;>intro hb|refine fd ?_|fail))
   all_goals exact rnd_go (kJ _ _ (i'+1,cnt1 s.lead l c h x i' o) ⟨rfl,by unfold cnt1;split<;>simp<;>omega,hA _,by simp[up,h1],by simp[up,h2],by simp[up,h3],by simp[up,h4],by simp[up,h12],by simp[up,h13],by simp[up,h9,cnt1,hs, *],by simp[up]⟩ rfl)
 ·exact⟨rfl,.inl rfl,rfl,by simp[up,ent],by simp[up,ent],by simp[up,ent],by simp[up],by simp[up,ent],by simp[up],by simp[up],by simp[up]⟩
 ·obtain⟨rfl,h9⟩:=hk
  (have hb:=trivial;with_reducible repeat' (first|simp only[hb,Va.down,seval,TY72.down,h9]|refine fsp ?_ ?_<;>intro hb|refine fd ?_|fail))
theorem r_Nom(n:BNom)(k:Int):om'.call (.fn 26) [.agg [.int .i64 n.con,.int .i64 n.hour,.int .i64 n.sent,.int .i64 n.amount],.int .i64 k] []=some (.ret (.bool (nomB k n)),[]):=by
 (refine ce Tryz.func26 ?_;simp only[Tryz.f26];(have hb:=trivial;with_reducible repeat' (first|simp only[hb,Va.down,seval,TY26.down,r_in,r_Hour]|refine fsp ?_ ?_<;>intro hb|refine fd ?_|fail)))
 all_goals (refine congrArg (fun b=>(Out.ret (AV.bool b),([]:Heap))) ?_;symm;((try simp only[Bool.not_eq_eq_eq_not,Bool.not_true,Bool.not_false]at *);simp only[nomB, *,Bool.and_false,Bool.false_and,Bool.and_true,Bool.true_and,Bool.and_self,Bool.not_not,Bool.not_true,Bool.not_false,List.all_cons,List.all_nil]))
theorem r_Noms{l:List BNom}{nn:Bool}(k:Int)(hl:l.length≤maxLen):om'.call (.fn 37) [slv 4 true nn (l.map BNom.cells),.int .i64 k] []=some (.ret (.bool (l.all (nomB k))),[]):=by
 (refine ce Tryz.func37 ?_;simp only[Tryz.f37];(have hb:=trivial;with_reducible repeat' (first|simp only[hb,Va.down,seval,TY37.down,List.length_map]|refine fsp ?_ ?_<;>intro hb|refine fd ?_|fail)))
 refine fw_ot (lst 19 l (fun i (_:Unit) t h=>t 0=slv 4 true nn (l.map BNom.cells)∧t 1=.int .i64 k∧t 5=.int .i64 i)
  (fun rest _=>rest.all (nomB k)) (fun r e t h=>if r=true then e=.exit 0 else e=.ret∧t 4=.bool false) ?_ ?_ () _ _ ?_) (fun e t h hk=>?_)
 ·rintro _ t h Q' kQ ⟨h0,h1,h5⟩
  (have hb:=trivial;with_reducible repeat' (first|simp only[hb,Va.down,seval,TY37.down,h0,h5,Int.lt_irrefl,decide_false]|refine fsp ?_ ?_<;>intro hb|refine fd ?_|fail))
  exact kQ _ _ _ (by simp)
 ·rintro x rest i _ t h J Q' kJ kQ hx hi ⟨h0,h1,h5⟩
  have hd:decide ((i:Int)<(l.length:Int))=true:=by simpa using hi
  have hw:=wrap_next hi hl
  (have hb:=trivial;with_reducible repeat' (first|simp only[hb,Va.down,seval,TY37.down,h0,h1,h5,hd,hx,BNom.cells,hw,r_Nom]|refine fsp ?_ ?_<;>intro hb|refine fd ?_|fail))
  ·exact kQ _ _ _ (by rw[if_neg (by simp at hb;simp[hb])];exact⟨rfl,rfl⟩)
  ·exact rnd_go (kJ _ _ () ⟨by simp[up,h0],by simp[up,h1],by simp[up]⟩ (by simp at hb;simp[hb]))
 ·exact⟨by simp[up,ent],by simp[up,ent],by simp[up]⟩
 ·split at hk
  ·subst hk
   rename_i hr'
   (have hb:=trivial;with_reducible repeat' (first|simp only[hb,Va.down,seval,TY37.down]|refine fsp ?_ ?_<;>intro hb|refine fd ?_|fail))
   all_goals simp[hr']
  ·obtain⟨rfl,h2⟩:=hk
   rename_i hr'
   (have hb:=trivial;with_reducible repeat' (first|simp only[hb,Va.down,seval,TY37.down,h2]|refine fsp ?_ ?_<;>intro hb|refine fd ?_|fail))
   all_goals (rw[Bool.not_eq_true]at hr';rw[hr'])
theorem r_Counts(s:BStore)(l:List BNom)(nn:Bool)(c h:Int)(hl:l.length≤maxLen):om'.call (.fn 39) [.agg s.cells,slv 4 true nn (l.map BNom.cells),.int .i64 c,.int .i64 h] []=some (.ret (.int .i64 (cntF s.lead l c h l (0,-1))),[]):=by
 (refine ce Tryz.func39 ?_;simp only[Tryz.f39];(have hb:=trivial;with_reducible repeat' (first|simp only[hb,Va.down,seval,TY39.down]|refine fsp ?_ ?_<;>intro hb|refine fd ?_|fail)))
 refine fw_ot (lst 57 l (fun i (a:Nat × Int) t hp=>a.1=i∧(a.2= -1∨0≤a.2∧a.2<i)∧hp[0]?=some (.live 6 false false [s.cells])∧t 1=slv 4 true nn (l.map BNom.cells)∧t 2=.int .i64 c∧t 3=.int .i64 h∧t 4=.ptr 0 0 0∧t 9=.int .i64 a.2∧t 10=.int .i64 i)
  (fun rest a=>cntF s.lead l c h rest a) (fun r e t hp=>e=.exit 0∧t 9=.int .i64 r) ?_ ?_ (0,-1) _ _ ?_) (fun e t hp hk=>?_)
 ·rintro⟨i',o⟩ t hp Q' kQ ⟨rfl,ho,hh,h1,h2,h3,h4,h9,h10⟩
  (have hb:=trivial;with_reducible repeat' (first|simp only[hb,Va.down,seval,TY39.down,h1,h10,Int.lt_irrefl,decide_false]|refine fsp ?_ ?_<;>intro hb|refine fd ?_|fail))
  exact kQ _ _ _ ⟨rfl,by simp[up,h9,cntF]⟩
 ·rintro x rest i ⟨i',o⟩ t hp J Q' kJ kQ hx hi ⟨rfl,ho,hh,h1,h2,h3,h4,h9,h10⟩
  simp only at ho h9 h10 hx hi
  have hd:decide ((i':Int)<(l.length:Int))=true:=by simpa using hi
  have hw:=wrap_next hi hl
  have hA:=get_app hh
  rcases ho with rfl|⟨ho1,ho2⟩
  ·have hn:decide ((-1:Int)<0)=true:=by decide
   (have hb:=trivial;with_reducible repeat' (first|simp only[hb,Va.down,seval,TY39.down,hA,h1,h2,h3,h4,h9,h10,hd,hw,hx,BNom.cells,hn]|refine fsp ?_ ?_<;>intro hb|refine fd ?_|fail))
   all_goals exact rnd_go (kJ _ _ (i'+1,cnt1 s.lead l c h x i' (-1)) ⟨rfl,by unfold cnt1;split<;>simp<;>omega,hA _,by simp[up,h1],by simp[up,h2],by simp[up,h3],by simp[up,h4],by simp[up,h9,cnt1, *],by simp[up]⟩ rfl)
  ·have hn:decide (o<0)=false:=by rw[decide_eq_false_iff_not];omega
   obtain⟨q,hq⟩:∃q,l[o.toNat]?=some q:=⟨l[o.toNat]'(by omega),List.getElem?_eq_getElem (by omega)⟩
   have hs:sentAt l o=q.sent:=by simp[sentAt,hq]
   have h0:(0≤o)=True:=eq_true ho1
   (have hb:=trivial;with_reducible repeat' (first|simp only[hb,Va.down,seval,TY39.down,hA,h1,h2,h3,h4,h9,h10,hd,hw,hx,BNom.cells,hn,hq,h0]|refine fsp ?_ ?_<;>intro hb|refine fd ?_|fail))
   all_goals exact rnd_go (kJ _ _ (i'+1,cnt1 s.lead l c h x i' o) ⟨rfl,by unfold cnt1;split<;>simp<;>omega,hA _,by simp[up,h1],by simp[up,h2],by simp[up,h3],by simp[up,h4],by simp[up,h9,cnt1,hs, *],by simp[up]⟩ rfl)
 ·exact⟨rfl,.inl rfl,rfl,by simp[up,ent],by simp[up,ent],by simp[up,ent],by simp[up],by simp[up],by simp[up]⟩
 ·obtain⟨rfl,h9⟩:=hk
  (have hb:=trivial;with_reducible repeat' (first|simp only[hb,Va.down,seval,TY39.down,h9]|refine fsp ?_ ?_<;>intro hb|refine fd ?_|fail))
theorem ty_nom{n:Nat}{r:List AV}(h:Ty Tryz.prog (n+2) 62 r):∃x:BNom,r=x.cells∧True:=by
 unfold Ty at h
 simp only[Tryz.underlying62,TyFs]at h
 obtain⟨a,b,rfl,h1,c,d,rfl,h2,e,f,rfl,h3,g,k,rfl,h4,rfl⟩:=h
 obtain⟨x,rfl,_⟩:=ty_int h1
 obtain⟨y,rfl,_⟩:=ty_int h2
 obtain⟨z,rfl,_⟩:=ty_int h3
 obtain⟨u,rfl,_⟩:=ty_int h4
 exact⟨⟨x,y,z,u⟩,rfl,trivial⟩
theorem ty_noms{n:Nat}{r:List AV}(h:Ty Tryz.prog (n+3) 45 r):∃(nn:Bool) (l:List BNom),r=[slv 4 true nn (l.map BNom.cells)]∧l.length≤maxLen:=by
 unfold Ty at h
 simp only[Tryz.underlying45]at h
 obtain⟨nn,rows,rfl,hl,hrows⟩:=h
 obtain⟨l,rfl,_⟩:=list_of (fun r hr=>ty_nom hr) hrows
 have e1:Tryz.prog.cellsOf 62=4:=by kernel_rfl
 have e2:flT Tryz.prog (n+2) 62=true:=by
  simp only[flT,Tryz.underlying62,Tryz.underlying3];rfl
 rw[e1,e2]
 exact⟨nn,l,rfl,by simpa using hl⟩
def posI(x:Int):Int:=if x>0 then x else 0
def negI(x:Int):Int:=posI (IntKind.i64.wrap (0-x))
theorem set_app{h:Heap}{b:Nat}(hb:b<h.length)(l:Heap)(c:CB):(h++l).set b c=h.set b c++l:=List.set_append_left _ _ hb
theorem gset0{h:Heap}{b:Nat}(c:CB)(l:Heap):(h.set b c++l)[h.length]?=l[0]?:=by
 have:=hp_get0 (h.set b c) l
 rwa[List.length_set]at this
theorem gsetk{h:Heap}{b:Nat}(c:CB)(l:Heap)(k:Nat):(h.set b c++l)[h.length+k]?=l[k]?:=by
 have:=hp_getk (h.set b c) l k
 rwa[List.length_set]at this
theorem gset_ne{h:Heap}{b b':Nat}{x:CB}(c:CB)(hne:b≠b')(hb:h[b']?=some x)(l:Heap):(h.set b c++l)[b']?=some x:=by
 rw[List.getElem?_append_left (by rw[List.length_set];exact(List.getElem?_eq_some_iff.1 hb).1),List.getElem?_set_ne hne];exact hb
theorem e_sides'(l:List Int)(nn:Bool)(hl:l.length≤1000)(o:Out)(h':Heap)(c0:l=[]→(o,h')=(.ret (.tup [.nils,.nils]),[]))
 (c1:l≠[]→(o,h')=(.ret (.tup [.slr 1 0 0 l.length,.slr 1 1 0 l.length]),[.live 1 true false ((l.map posI).map iv),.live 1 true false ((l.map negI).map iv)])):
 om'.call (.fn 94) [slv 1 true nn (l.map iv)] []=some (o,h'):=by
 have hl':l.length≤maxLen:=by unfold maxLen;omega
 (refine ce Tryz.func94 ?_;simp only[Tryz.f94];(have hb:=trivial;with_reducible repeat' (first|simp only[hb,Va.down,seval,TY94.down,List.length_map]|refine fsp ?_ ?_<;>intro hb|refine fd ?_|fail)))
 refine fw_ot (lst 28 l (fun i (a:List Int × List Int) t h=>t 8=slv 1 true nn (l.map iv)∧t 9=.int .i64 l.length∧t 10=.int .i64 i∧a.1.length=i∧a.2.length=i∧
  ((i=0∧t 4=.nils∧t 5=.nils)∨(0<i∧∃b b',b≠b'∧t 4=.slr 1 b 0 i∧t 5=.slr 1 b' 0 i∧h[b]?=some (.live 1 true false (a.1.map iv))∧h[b']?=some (.live 1 true false (a.2.map iv)))))
  (fun rest a=>(a.1++rest.map posI,a.2++rest.map negI)) (fun r e t h=>e=.exit 0∧((l=[]∧t 4=.nils∧t 5=.nils)∨(l≠[]∧∃b b',b≠b'∧t 4=.slr 1 b 0 l.length∧t 5=.slr 1 b' 0 l.length∧h[b]?=some (.live 1 true false (r.1.map iv))∧h[b']?=some (.live 1 true false (r.2.map iv))))) ?_ ?_ ([],[]) _ _ ?_) (fun e t h hk=>?_)
 ·rintro⟨p,q⟩ t h Q' kQ ⟨h8,h9,h10,hp,hq,hc⟩
  (have hb:=trivial;with_reducible repeat' (first|simp only[hb,Va.down,seval,TY94.down,h8,h9,h10,Int.lt_irrefl,decide_false]|refine fsp ?_ ?_<;>intro hb|refine fd ?_|fail))
  refine kQ _ _ _ ⟨rfl,?_⟩
  rcases hc with⟨h0,h4,h5⟩|⟨h0,b,b',hne,h4,h5,hb,hb'⟩
  ·exact .inl ⟨List.length_eq_zero_iff.1 h0,by simp[up,h4],by simp[up,h5]⟩
  ·exact .inr ⟨fun e=>by rw[e]at h0;simp at h0,b,b',hne,by simp[up,h4],by simp[up,h5],by simpa using hb,by simpa using hb'⟩
 ·rintro x rest i ⟨p,q⟩ t h J Q' kJ kQ hx hi ⟨h8,h9,h10,hp,hq,hc⟩
  simp only at hp hq
  have hd:decide ((i:Int)<(l.length:Int))=true:=by simpa using hi
  have hw:=wrap_next hi hl'
  rcases hc with⟨rfl,h4,h5⟩|⟨h0,b,b',hne,h4,h5,hb,hb'⟩
  ·simp only[Int.natCast_zero]at hd
   (have hb:=trivial;with_reducible repeat' (first|simp only[hb,Va.down,seval,TY94.down,h8,h9,h10,h4,h5,hd,hw,hx,iv]|refine fsp ?_ ?_<;>intro hb|refine fd ?_|fail))
   obtain rfl:p=[]:=List.length_eq_zero_iff.1 hp
   obtain rfl:q=[]:=List.length_eq_zero_iff.1 hq
   exact rnd_go (kJ _ _ ([posI x],[negI x]) ⟨by simp[up,h8],by simp[up,h9],by simp[up],rfl,rfl,.inr ⟨by omega,h.length+1,h.length+3,by omega,by simp[up],by simp[up],by rw[hp_getk];rfl,by rw[hp_getk];rfl⟩⟩ (by simp))
  ·have hbl:b<h.length:=(List.getElem?_eq_some_iff.1 hb).1
   have hbl':b'<h.length:=(List.getElem?_eq_some_iff.1 hb').1
   have hA:=get_app hb
   have hS:=set_app hbl
   have hB':=gset_ne (b:=b) .dead hne hb'
   have hS':=set_app (h:=h.set b .dead) (b:=b') (by rw[List.length_set];exact hbl')
   have hlp:0+i=p.length:=by omega
   have hlq:0+i=q.length:=by omega
   have hi39:(i+1≤549755813888)=True:=eq_true (by omega)
   have g1:=fun(l:Heap)=>gset0 (h:=h.set b .dead) (b:=b') .dead l
   have g2:=fun(l:Heap) (k:Nat)=>gsetk (h:=h.set b .dead) (b:=b') .dead l k
   simp only[List.length_set]at g1 g2
   (have hb:=trivial;with_reducible repeat' (first|simp only[hb,Va.down,seval,TY94.down,h8,h9,h10,h4,h5,hd,hw,hx,iv,hA,hS,hB',hS',gset0,gsetk,g1,g2,List.length_set,hp,hq,hi39]|refine fsp ?_ ?_<;>intro hb|refine fd ?_|fail))
   exact rnd_go (kJ _ _ (p++[posI x],q++[negI x]) ⟨by simp[up,h8],by simp[up,h9],by simp[up],by simp[hp],by simp[hq],.inr ⟨by omega,h.length+1,h.length+3,by omega,by simp[up],by simp[up],by rw[g2];simp[iv,posI],by rw[g2];simp[iv,posI,negI]⟩⟩ (by simp))
 ·exact⟨by simp[up,ent],by simp[up],by simp[up],rfl,rfl,.inl ⟨rfl,by simp[up],by simp[up]⟩⟩
 ·obtain⟨rfl,⟨rfl,h4,h5⟩|⟨hne,b,b',hbb,h4,h5,hb,hb'⟩⟩:=hk
  ·rw[c0 rfl]
   (have hb:=trivial;with_reducible repeat' (first|simp only[hb,Va.down,seval,TY94.down,h4,h5]|refine fsp ?_ ?_<;>intro hb|refine fd ?_|fail))
  ·rw[c1 hne]
   have hz:(b=b')=False:=eq_false hbb
   (with_reducible repeat' (first|simp only[hb,Va.down,seval,TY94.down,h4,h5,hb,hb',hz]|refine fsp ?_ ?_<;>intro hb|refine fd ?_|fail))
theorem e_sides{l:List Int}{nn:Bool}(hl:l.length≤1000)(hne:l≠[]):om'.call (.fn 94) [slv 1 true nn (l.map iv)] []=
 some (.ret (.tup [.slr 1 0 0 l.length,.slr 1 1 0 l.length]),[.live 1 true false ((l.map posI).map iv),.live 1 true false ((l.map negI).map iv)]):=
 e_sides' l nn hl _ _ (fun e=>(hne e).elim) (fun _=>rfl)
theorem e_sides_nil{nn:Bool}:om'.call (.fn 94) [slv 1 true nn []] []=some (.ret (.tup [.nils,.nils]),[]):=
 e_sides' [] nn (by simp) _ _ (fun _=>rfl) (fun e=>(e rfl).elim)
theorem r_In'(l:List Int)(nn:Bool)(hl:l.length≤1000)  (o:Out)(h':Heap)(c0:l=[]→(o,h')=(.ret .nils,[]))(c1:l≠[]→(o,h')=(.ret (.slr 1 0 0 l.length),[.live 1 true false ((l.map posI).map iv)])):
 om'.call (.fn 59) [slv 1 true nn (l.map iv)] []=some (o,h'):=by
 have hl':l.length≤maxLen:=by unfold maxLen;omega
 (refine ce Tryz.func59 ?_;simp only[Tryz.f59];(have hb:=trivial;with_reducible repeat' (first|simp only[hb,Va.down,seval,TY59.down,List.length_map]|refine fsp ?_ ?_<;>intro hb|refine fd ?_|fail)))
 refine fw_ot (lst 20 l (fun i (a:List Int) t h=>t 0=slv 1 true nn (l.map iv)∧t 4=.int .i64 i∧a.length=i∧((i=0∧t 3=.nils)∨(0<i∧∃b,t 3=.slr 1 b 0 i∧h[b]?=some (.live 1 true false (a.map iv)))))
  (fun rest a=>a++rest.map posI) (fun r e t h=>e=.exit 0∧((l=[]∧t 3=.nils)∨(l≠[]∧∃b,t 3=.slr 1 b 0 l.length∧h[b]?=some (.live 1 true false (r.map iv))))) ?_ ?_ [] _ _ ?_) (fun e t h hk=>?_)
 ·rintro p t h Q' kQ ⟨h0',hi',hp,hc⟩
  (have hb:=trivial;with_reducible repeat' (first|simp only[hb,Va.down,seval,TY59.down,h0',hi',Int.lt_irrefl,decide_false]|refine fsp ?_ ?_<;>intro hb|refine fd ?_|fail))
  refine kQ _ _ _ ⟨rfl,?_⟩
  rcases hc with⟨h0,ho⟩|⟨h0,b,ho,hb⟩
  ·exact .inl ⟨List.length_eq_zero_iff.1 h0,by simp[up,ho]⟩
  ·exact .inr ⟨fun e=>by rw[e]at h0;simp at h0,b,by simp[up,ho],by simpa using hb⟩
 ·rintro x rest i p t h J Q' kJ kQ hx hi ⟨h0',hi',hp,hc⟩
  have hd:decide ((i:Int)<(l.length:Int))=true:=by simpa using hi
  have hw:=wrap_next hi hl'
  skip
  rcases hc with⟨rfl,ho⟩|⟨h0,b,ho,hb⟩
  ·simp only[Int.natCast_zero]at hd
   (have hb:=trivial;with_reducible repeat' (first|simp only[hb,Va.down,seval,TY59.down,h0',hi',ho,hd,hw,hx,iv]|refine fsp ?_ ?_<;>intro hb|refine fd ?_|fail))
   obtain rfl:p=[]:=List.length_eq_zero_iff.1 hp
   exact rnd_go (kJ _ _ [posI x] ⟨by simp[up,h0'],by simp[up],rfl,.inr ⟨by omega,h.length+1,by simp[up],by rw[hp_getk];simp[iv,posI]⟩⟩ (by simp))
  ·have hbl:b<h.length:=(List.getElem?_eq_some_iff.1 hb).1
   have hA:=get_app hb
   have hS:=set_app hbl
   have hlp:0+i=p.length:=by omega
   have hi39:(i+1≤549755813888)=True:=eq_true (by omega)
   (have hb:=trivial;with_reducible repeat' (first|simp only[hb,Va.down,seval,TY59.down,h0',hi',ho,hd,hw,hx,iv,hA,hS,gset0,gsetk,List.length_set,hp,hi39]|refine fsp ?_ ?_<;>intro hb|refine fd ?_|fail))
   exact rnd_go (kJ _ _ (p++[posI x]) ⟨by simp[up,h0'],by simp[up],by simp[hp],.inr ⟨by omega,h.length+1,by simp[up],by rw[gsetk];simp[iv,posI]⟩⟩ (by simp))
 ·exact⟨by simp[up,ent],by simp[up],rfl,.inl ⟨rfl,by simp[up]⟩⟩
 ·obtain⟨rfl,⟨hnil,ho⟩|⟨hne,b,ho,hb⟩⟩:=hk
  ·rw[c0 hnil]
   (have hb:=trivial;with_reducible repeat' (first|simp only[hb,Va.down,seval,TY59.down,ho]|refine fsp ?_ ?_<;>intro hb|refine fd ?_|fail))
  ·rw[c1 hne]
   (with_reducible repeat' (first|simp only[hb,Va.down,seval,TY59.down,ho,hb]|refine fsp ?_ ?_<;>intro hb|refine fd ?_|fail))
theorem r_Out'(l:List Int)(nn:Bool)(hl:l.length≤1000)  (o:Out)(h':Heap)(c0:l=[]→(o,h')=(.ret .nils,[]))(c1:l≠[]→(o,h')=(.ret (.slr 1 0 0 l.length),[.live 1 true false ((l.map negI).map iv)])):
 om'.call (.fn 60) [slv 1 true nn (l.map iv)] []=some (o,h'):=by
 have hl':l.length≤maxLen:=by unfold maxLen;omega
 (refine ce Tryz.func60 ?_;simp only[Tryz.f60];(have hb:=trivial;with_reducible repeat' (first|simp only[hb,Va.down,seval,TY60.down,List.length_map]|refine fsp ?_ ?_<;>intro hb|refine fd ?_|fail)))
 refine fw_ot (lst 21 l (fun i (a:List Int) t h=>t 0=slv 1 true nn (l.map iv)∧t 4=.int .i64 i∧a.length=i∧((i=0∧t 3=.nils)∨(0<i∧∃b,t 3=.slr 1 b 0 i∧h[b]?=some (.live 1 true false (a.map iv)))))
  (fun rest a=>a++rest.map negI) (fun r e t h=>e=.exit 0∧((l=[]∧t 3=.nils)∨(l≠[]∧∃b,t 3=.slr 1 b 0 l.length∧h[b]?=some (.live 1 true false (r.map iv))))) ?_ ?_ [] _ _ ?_) (fun e t h hk=>?_)
 ·rintro p t h Q' kQ ⟨h0',hi',hp,hc⟩
  (have hb:=trivial;with_reducible repeat' (first|simp only[hb,Va.down,seval,TY60.down,h0',hi',Int.lt_irrefl,decide_false]|refine fsp ?_ ?_<;>intro hb|refine fd ?_|fail))
  refine kQ _ _ _ ⟨rfl,?_⟩
  rcases hc with⟨h0,ho⟩|⟨h0,b,ho,hb⟩
  ·exact .inl ⟨List.length_eq_zero_iff.1 h0,by simp[up,ho]⟩
  ·exact .inr ⟨fun e=>by rw[e]at h0;simp at h0,b,by simp[up,ho],by simpa using hb⟩
 ·rintro x rest i p t h J Q' kJ kQ hx hi ⟨h0',hi',hp,hc⟩
  have hd:decide ((i:Int)<(l.length:Int))=true:=by simpa using hi
  have hw:=wrap_next hi hl'
  skip
  rcases hc with⟨rfl,ho⟩|⟨h0,b,ho,hb⟩
  ·simp only[Int.natCast_zero]at hd
   (have hb:=trivial;with_reducible repeat' (first|simp only[hb,Va.down,seval,TY60.down,h0',hi',ho,hd,hw,hx,iv]|refine fsp ?_ ?_<;>intro hb|refine fd ?_|fail))
   obtain rfl:p=[]:=List.length_eq_zero_iff.1 hp
   exact rnd_go (kJ _ _ [negI x] ⟨by simp[up,h0'],by simp[up],rfl,.inr ⟨by omega,h.length+1,by simp[up],by rw[hp_getk];simp[iv,posI,negI]⟩⟩ (by simp))
  ·have hbl:b<h.length:=(List.getElem?_eq_some_iff.1 hb).1
   have hA:=get_app hb
   have hS:=set_app hbl
   have hlp:0+i=p.length:=by omega
   have hi39:(i+1≤549755813888)=True:=eq_true (by omega)
   (have hb:=trivial;with_reducible repeat' (first|simp only[hb,Va.down,seval,TY60.down,h0',hi',ho,hd,hw,hx,iv,hA,hS,gset0,gsetk,List.length_set,hp,hi39]|refine fsp ?_ ?_<;>intro hb|refine fd ?_|fail))
   exact rnd_go (kJ _ _ (p++[negI x]) ⟨by simp[up,h0'],by simp[up],by simp[hp],.inr ⟨by omega,h.length+1,by simp[up],by rw[gsetk];simp[iv,posI,negI]⟩⟩ (by simp))
 ·exact⟨by simp[up,ent],by simp[up],rfl,.inl ⟨rfl,by simp[up]⟩⟩
 ·obtain⟨rfl,⟨hnil,ho⟩|⟨hne,b,ho,hb⟩⟩:=hk
  ·rw[c0 hnil]
   (have hb:=trivial;with_reducible repeat' (first|simp only[hb,Va.down,seval,TY60.down,ho]|refine fsp ?_ ?_<;>intro hb|refine fd ?_|fail))
  ·rw[c1 hne]
   (with_reducible repeat' (first|simp only[hb,Va.down,seval,TY60.down,ho,hb]|refine fsp ?_ ?_<;>intro hb|refine fd ?_|fail))
def subW(x y:Int):Int:=IntKind.i64.wrap (x-y)
theorem zip_step{x y:Int}{rest l':List Int}{i:Nat}(hy:l'[i]?=some y)(p:List Int)(hp:p.length=i):(p++[subW x y])++List.zipWith subW rest (l'.drop (p++[subW x y]).length)=p++List.zipWith subW (x::rest) (l'.drop p.length):=by
 have hlt:i<l'.length:=(List.getElem?_eq_some_iff.1 hy).1
 have hd:l'.drop i=y::l'.drop (i+1):=by
  rw[List.drop_eq_getElem_cons hlt]
  congr 1
  exact Option.some.inj ((List.getElem?_eq_getElem hlt).symm.trans hy)
 rw[List.length_append,hp,hd]
 simp
theorem e_joined'(l l':List Int)(nn':Bool)(nn:Bool)(hl:l.length≤1000)(hll:l.length≤l'.length)(o:Out)(h':Heap)(c0:l=[]→(o,h')=(.ret .nils,[]))(c1:l≠[]→(o,h')=(.ret (.slr 1 0 0 l.length),[.live 1 true false ((List.zipWith subW l l').map iv)])):
 om'.call (.fn 95) [slv 1 true nn (l.map iv),slv 1 true nn' (l'.map iv)] []=some (o,h'):=by
 have hl':l.length≤maxLen:=by unfold maxLen;omega
 (refine ce Tryz.func95 ?_;simp only[Tryz.f95];(have hb:=trivial;with_reducible repeat' (first|simp only[hb,Va.down,seval,TY95.down,List.length_map]|refine fsp ?_ ?_<;>intro hb|refine fd ?_|fail)))
 refine fw_ot (lst 26 l (fun i (a:List Int) t h=>t 0=slv 1 true nn (l.map iv)∧t 1=slv 1 true nn' (l'.map iv)∧t 8=.int .i64 l.length∧t 9=.int .i64 i∧a.length=i∧((i=0∧t 5=.nils)∨(0<i∧∃b,t 5=.slr 1 b 0 i∧h[b]?=some (.live 1 true false (a.map iv)))))
  (fun rest a=>a++List.zipWith subW rest (l'.drop a.length)) (fun r e t h=>e=.exit 0∧((l=[]∧t 5=.nils)∨(l≠[]∧∃b,t 5=.slr 1 b 0 l.length∧h[b]?=some (.live 1 true false (r.map iv))))) ?_ ?_ [] _ _ ?_) (fun e t h hk=>?_)
 ·rintro p t h Q' kQ ⟨h0',h1',h8',hi',hp,hc⟩
  (have hb:=trivial;with_reducible repeat' (first|simp only[hb,Va.down,seval,TY95.down,h0',h1',h8',hi',Int.lt_irrefl,decide_false]|refine fsp ?_ ?_<;>intro hb|refine fd ?_|fail))
  refine kQ _ _ _ ⟨rfl,?_⟩
  rcases hc with⟨h0,ho⟩|⟨h0,b,ho,hb⟩
  ·exact .inl ⟨List.length_eq_zero_iff.1 h0,by simp[up,ho]⟩
  ·exact .inr ⟨fun e=>by rw[e]at h0;simp at h0,b,by simp[up,ho],by simpa using hb⟩
 ·rintro x rest i p t h J Q' kJ kQ hx hi ⟨h0',h1',h8',hi',hp,hc⟩
  have hd:decide ((i:Int)<(l.length:Int))=true:=by simpa using hi
  have hw:=wrap_next hi hl'
  obtain⟨y,hy⟩:∃y,l'[i]?=some y:=⟨l'[i]'(by omega),List.getElem?_eq_getElem _⟩
  have hF:=zip_step (x:=x) (rest:=rest) hy
  rcases hc with⟨rfl,ho⟩|⟨h0,b,ho,hb⟩
  ·simp only[Int.natCast_zero]at hd
   (have hb:=trivial;with_reducible repeat' (first|simp only[hb,Va.down,seval,TY95.down,h0',h1',h8',hi',ho,hd,hw,hx,iv,hy]|refine fsp ?_ ?_<;>intro hb|refine fd ?_|fail))
   obtain rfl:p=[]:=List.length_eq_zero_iff.1 hp
   exact rnd_go (kJ _ _ [subW x y] ⟨by simp[up,h0'],by simp[up,h1'],by simp[up,h8'],by simp[up],rfl,.inr ⟨by omega,h.length+1,by simp[up],by rw[hp_getk];simp[iv,subW]⟩⟩ (by exact hF _ hp))
  ·have hbl:b<h.length:=(List.getElem?_eq_some_iff.1 hb).1
   have hA:=get_app hb
   have hS:=set_app hbl
   have hlp:0+i=p.length:=by omega
   have hi39:(i+1≤549755813888)=True:=eq_true (by omega)
   (have hb:=trivial;with_reducible repeat' (first|simp only[hb,Va.down,seval,TY95.down,h0',h1',h8',hi',ho,hd,hw,hx,iv,hA,hS,gset0,gsetk,List.length_set,hp,hi39,hy]|refine fsp ?_ ?_<;>intro hb|refine fd ?_|fail))
   exact rnd_go (kJ _ _ (p++[subW x y]) ⟨by simp[up,h0'],by simp[up,h1'],by simp[up,h8'],by simp[up],by simp[hp],.inr ⟨by omega,h.length+1,by simp[up],by rw[gsetk];simp[iv,subW]⟩⟩ (by exact hF _ hp))
 ·exact⟨by simp[up,ent],by simp[up,ent],by simp[up],by simp[up],rfl,.inl ⟨rfl,by simp[up]⟩⟩
 ·obtain⟨rfl,⟨hnil,ho⟩|⟨hne,b,ho,hb⟩⟩:=hk
  ·rw[c0 hnil]
   (have hb:=trivial;with_reducible repeat' (first|simp only[hb,Va.down,seval,TY95.down,ho]|refine fsp ?_ ?_<;>intro hb|refine fd ?_|fail))
  ·rw[c1 hne]
   (with_reducible repeat' (first|simp only[hb,Va.down,seval,TY95.down,ho,hb]|refine fsp ?_ ?_<;>intro hb|refine fd ?_|fail))
theorem r_both'(l l':List Int)(nn':Bool)(nn:Bool)(hl:l.length≤1000)(hll:l.length≤l'.length)(o:Out)(h':Heap)(c0:l=[]→(o,h')=(.ret .nils,[]))(c1:l≠[]→(o,h')=(.ret (.slr 1 0 0 l.length),[.live 1 true false ((List.zipWith subW l l').map iv)])):
 om'.call (.fn 57) [slv 1 true nn (l.map iv),slv 1 true nn' (l'.map iv)] []=some (o,h'):=by
 have hl':l.length≤maxLen:=by unfold maxLen;omega
 (refine ce Tryz.func57 ?_;simp only[Tryz.f57];(have hb:=trivial;with_reducible repeat' (first|simp only[hb,Va.down,seval,TY57.down,List.length_map]|refine fsp ?_ ?_<;>intro hb|refine fd ?_|fail)))
 refine fw_ot (lst 26 l (fun i (a:List Int) t h=>t 0=slv 1 true nn (l.map iv)∧t 1=slv 1 true nn' (l'.map iv)∧t 6=.int .i64 i∧a.length=i∧((i=0∧t 5=.nils)∨(0<i∧∃b,t 5=.slr 1 b 0 i∧h[b]?=some (.live 1 true false (a.map iv)))))
  (fun rest a=>a++List.zipWith subW rest (l'.drop a.length)) (fun r e t h=>e=.exit 0∧((l=[]∧t 5=.nils)∨(l≠[]∧∃b,t 5=.slr 1 b 0 l.length∧h[b]?=some (.live 1 true false (r.map iv))))) ?_ ?_ [] _ _ ?_) (fun e t h hk=>?_)
 ·rintro p t h Q' kQ ⟨h0',h1',hi',hp,hc⟩
  (have hb:=trivial;with_reducible repeat' (first|simp only[hb,Va.down,seval,TY57.down,h0',h1',hi',Int.lt_irrefl,decide_false]|refine fsp ?_ ?_<;>intro hb|refine fd ?_|fail))
  refine kQ _ _ _ ⟨rfl,?_⟩
  rcases hc with⟨h0,ho⟩|⟨h0,b,ho,hb⟩
  ·exact .inl ⟨List.length_eq_zero_iff.1 h0,by simp[up,ho]⟩
  ·exact .inr ⟨fun e=>by rw[e]at h0;simp at h0,b,by simp[up,ho],by simpa using hb⟩
 ·rintro x rest i p t h J Q' kJ kQ hx hi ⟨h0',h1',hi',hp,hc⟩
  have hd:decide ((i:Int)<(l.length:Int))=true:=by simpa using hi
  have hw:=wrap_next hi hl'
  obtain⟨y,hy⟩:∃y,l'[i]?=some y:=⟨l'[i]'(by omega),List.getElem?_eq_getElem _⟩
  have hF:=zip_step (x:=x) (rest:=rest) hy
  rcases hc with⟨rfl,ho⟩|⟨h0,b,ho,hb⟩
  ·simp only[Int.natCast_zero]at hd
   (have hb:=trivial;with_reducible repeat' (first|simp only[hb,Va.down,seval,TY57.down,h0',h1',hi',ho,hd,hw,hx,iv,hy]|refine fsp ?_ ?_<;>intro hb|refine fd ?_|fail))
   obtain rfl:p=[]:=List.length_eq_zero_iff.1 hp
   exact rnd_go (kJ _ _ [subW x y] ⟨by simp[up,h0'],by simp[up,h1'],by simp[up],rfl,.inr ⟨by omega,h.length+1,by simp[up],by rw[hp_getk];simp[iv,subW]⟩⟩ (by exact hF _ hp))
  ·have hbl:b<h.length:=(List.getElem?_eq_some_iff.1 hb).1
   have hA:=get_app hb
   have hS:=set_app hbl
   have hlp:0+i=p.length:=by omega
   have hi39:(i+1≤549755813888)=True:=eq_true (by omega)
   (have hb:=trivial;with_reducible repeat' (first|simp only[hb,Va.down,seval,TY57.down,h0',h1',hi',ho,hd,hw,hx,iv,hA,hS,gset0,gsetk,List.length_set,hp,hi39,hy]|refine fsp ?_ ?_<;>intro hb|refine fd ?_|fail))
   exact rnd_go (kJ _ _ (p++[subW x y]) ⟨by simp[up,h0'],by simp[up,h1'],by simp[up],by simp[hp],.inr ⟨by omega,h.length+1,by simp[up],by rw[gsetk];simp[iv,subW]⟩⟩ (by exact hF _ hp))
 ·exact⟨by simp[up,ent],by simp[up,ent],by simp[up],rfl,.inl ⟨rfl,by simp[up]⟩⟩
 ·obtain⟨rfl,⟨hnil,ho⟩|⟨hne,b,ho,hb⟩⟩:=hk
  ·rw[c0 hnil]
   (have hb:=trivial;with_reducible repeat' (first|simp only[hb,Va.down,seval,TY57.down,ho]|refine fsp ?_ ?_<;>intro hb|refine fd ?_|fail))
  ·rw[c1 hne]
   (with_reducible repeat' (first|simp only[hb,Va.down,seval,TY57.down,ho,hb]|refine fsp ?_ ?_<;>intro hb|refine fd ?_|fail))
def sumF:List Int→Int→Int
 | [],a=>a
 |x::l,a=>sumF l (IntKind.i64.wrap (a+x))
theorem e_sum{l:List Int}{nn:Bool}(hl:l.length≤maxLen):om'.call (.fn 124) [slv 1 true nn (l.map iv)] []=some (.ret (.int .i64 (sumF l 0)),[]):=by
 (refine ce Tryz.func124 ?_;simp only[Tryz.f124];(have hb:=trivial;with_reducible repeat' (first|simp only[hb,Va.down,seval,TY124.down,List.length_map]|refine fsp ?_ ?_<;>intro hb|refine fd ?_|fail)))
 refine fw_ot (lst 17 l (fun i (s:Int) t h=>t 6=slv 1 true nn (l.map iv)∧t 7=.int .i64 l.length∧t 8=.int .i64 i∧t 3=.int .i64 s)
  (fun rest s=>sumF rest s) (fun r e t h=>e=.exit 0∧t 3=.int .i64 r) ?_ ?_ 0 _ _ ?_) (fun e t h hk=>?_)
 ·rintro s t h Q' kQ ⟨h6,h7,h8,h3⟩
  (have hb:=trivial;with_reducible repeat' (first|simp only[hb,Va.down,seval,TY124.down,h6,h7,h8,h3,Int.lt_irrefl,decide_false]|refine fsp ?_ ?_<;>intro hb|refine fd ?_|fail))
  exact kQ _ _ _ ⟨rfl,by simp[up,h3,sumF]⟩
 ·rintro x rest i s t h J Q' kJ kQ hx hi ⟨h6,h7,h8,h3⟩
  have hd:decide ((i:Int)<(l.length:Int))=true:=by simpa using hi
  have hw:=wrap_next hi hl
  (have hb:=trivial;with_reducible repeat' (first|simp only[hb,Va.down,seval,TY124.down,h6,h7,h8,h3,hd,hx,iv,hw]|refine fsp ?_ ?_<;>intro hb|refine fd ?_|fail))
  exact rnd_go (kJ _ _ (IntKind.i64.wrap (s+x)) ⟨by simp[up,h6],by simp[up,h7],by simp[up],by simp[up]⟩ rfl)
 ·exact⟨by simp[up,ent],by simp[up],by simp[up],by simp[up]⟩
 ·obtain⟨rfl,h3⟩:=hk
  (have hb:=trivial;with_reducible repeat' (first|simp only[hb,Va.down,seval,TY124.down,h3]|refine fsp ?_ ?_<;>intro hb|refine fd ?_|fail))
theorem r_Sum{l:List Int}{nn:Bool}(hl:l.length≤maxLen):om'.call (.fn 77) [slv 1 true nn (l.map iv)] []=some (.ret (.int .i64 (sumF l 0)),[]):=by
 (refine ce Tryz.func77 ?_;simp only[Tryz.f77];(have hb:=trivial;with_reducible repeat' (first|simp only[hb,Va.down,seval,TY77.down,List.length_map]|refine fsp ?_ ?_<;>intro hb|refine fd ?_|fail)))
 refine fw_ot (lst 18 l (fun i (s:Int) t h=>t 0=slv 1 true nn (l.map iv)∧t 4=.int .i64 i∧t 3=.int .i64 s)
  (fun rest s=>sumF rest s) (fun r e t h=>e=.exit 0∧t 3=.int .i64 r) ?_ ?_ 0 _ _ ?_) (fun e t h hk=>?_)
 ·rintro s t h Q' kQ ⟨h0,h4,h3⟩
  (have hb:=trivial;with_reducible repeat' (first|simp only[hb,Va.down,seval,TY77.down,h0,h4,h3,Int.lt_irrefl,decide_false]|refine fsp ?_ ?_<;>intro hb|refine fd ?_|fail))
  exact kQ _ _ _ ⟨rfl,by simp[up,h3,sumF]⟩
 ·rintro x rest i s t h J Q' kJ kQ hx hi ⟨h0,h4,h3⟩
  have hd:decide ((i:Int)<(l.length:Int))=true:=by simpa using hi
  have hw:=wrap_next hi hl
  (have hb:=trivial;with_reducible repeat' (first|simp only[hb,Va.down,seval,TY77.down,h0,h4,h3,hd,hx,iv,hw]|refine fsp ?_ ?_<;>intro hb|refine fd ?_|fail))
  exact rnd_go (kJ _ _ (IntKind.i64.wrap (s+x)) ⟨by simp[up,h0],by simp[up],by simp[up]⟩ rfl)
 ·exact⟨by simp[up,ent],by simp[up],by simp[up]⟩
 ·obtain⟨rfl,h3⟩:=hk
  (have hb:=trivial;with_reducible repeat' (first|simp only[hb,Va.down,seval,TY77.down,h3]|refine fsp ?_ ?_<;>intro hb|refine fd ?_|fail))
theorem r_Same{l l':List Int}{nn nn':Bool}(hl:l.length≤maxLen)(hl':l'.length≤maxLen):om'.call (.fn 20) [slv 1 true nn (l.map iv),slv 1 true nn' (l'.map iv)] []=some (.ret (.bool (decide (l=l'))),[]):=by
 have hne:(!((l.length:Int)==(l'.length:Int)))=decide (l.length≠l'.length):=by
  by_cases h:l.length=l'.length
  ·simp[h]
  ·simp[h];omega
 (refine ce Tryz.func20 ?_;simp only[Tryz.f20];(have hb:=trivial;with_reducible repeat' (first|simp only[hb,Va.down,seval,TY20.down,List.length_map,hne]|refine fsp ?_ ?_<;>intro hb|refine fd ?_|fail)))
 ·rw[decide_eq_true_eq]at hb
  simp
  intro e;rw[e]at hb;exact hb rfl
 rw[decide_eq_false_iff_not]at hb
 have hlen:l.length=l'.length:=by omega
 refine fw_ot (lst 26 l (fun i (_:Unit) t h=>t 0=slv 1 true nn (l.map iv)∧t 1=slv 1 true nn' (l'.map iv)∧t 5=.int .i64 i∧l.take i=l'.take i)
  (fun rest _=>()) (fun r e t h=>if l=l' then e=.exit 0 else e=.ret∧t 4=.bool false) ?_ ?_ () _ _ ?_) (fun e t h hk=>?_)
 ·rintro _ t h Q' kQ ⟨h0,h1,h5,hp⟩
  (have hb:=trivial;with_reducible repeat' (first|simp only[hb,Va.down,seval,TY20.down,h0,h5,Int.lt_irrefl,decide_false]|refine fsp ?_ ?_<;>intro hb|refine fd ?_|fail))
  rw[List.take_length,hlen,List.take_length]at hp
  exact kQ _ _ _ (by rw[if_pos hp])
 ·rintro x rest i _ t h J Q' kJ kQ hx hi ⟨h0,h1,h5,hp⟩
  have hd:decide ((i:Int)<(l.length:Int))=true:=by simpa using hi
  have hw:=wrap_next hi hl
  obtain⟨y,hy⟩:∃y,l'[i]?=some y:=⟨l'[i]'(by omega),List.getElem?_eq_getElem _⟩
  (have hb:=trivial;with_reducible repeat' (first|simp only[hb,Va.down,seval,TY20.down,h0,h1,h5,hd,hx,hy,iv,hw]|refine fsp ?_ ?_<;>intro hb|refine fd ?_|fail))
  ·refine kQ _ _ _ ?_
   rw[if_neg (fun e=>by rw[e]at hx;rw[hx]at hy;cases hy;simp at hb)]
   exact⟨rfl,rfl⟩
  ·have hxy:x=y:=by simpa using hb
   exact rnd_go (kJ _ _ () ⟨by simp[up,h0],by simp[up,h1],by simp[up],by rw[List.take_add_one,List.take_add_one,hp,hx,hy,hxy]⟩ rfl)
 ·exact⟨by simp[up,ent],by simp[up,ent],by simp[up],by simp⟩
 ·by_cases he:l=l'
  ·rw[if_pos he]at hk
   subst hk
   (have hb:=trivial;with_reducible repeat' (first|simp only[hb,Va.down,seval,TY20.down]|refine fsp ?_ ?_<;>intro hb|refine fd ?_|fail))
   all_goals simp[he]
  ·rw[if_neg he]at hk
   obtain⟨rfl,h4⟩:=hk
   (have hb:=trivial;with_reducible repeat' (first|simp only[hb,Va.down,seval,TY20.down,h4]|refine fsp ?_ ?_<;>intro hb|refine fd ?_|fail))
   all_goals simp[he]
end Go.Proofs.YtdbiogihimdpcaaGreatDoor
