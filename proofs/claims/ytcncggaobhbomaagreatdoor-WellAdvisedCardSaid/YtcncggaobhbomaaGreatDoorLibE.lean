/- The evaluator and its soundness. -/
import Derived.Test.YtcncggaobhbomaaGreatDoorLibD
import Derived.Sort.Grow
open And renaming intro→aaN
open Eq renaming trans→adC
open Option renaming map_eq_some_iff→adQ,bind_eq_some_iff→ae2,bind_some→afJ,map_some→ajY,some→arF
open Nat renaming le_refl→af8,zero_le→ajV,le_trans→alC,add_zero→arA,strongRecOn→aA5,mul_le_mul_left→a0J
open List renaming mem_cons_of_mem→ag1,mem_cons_self→ai0,mem_cons→ajM,getElem?_eq_some_iff→aj6,mem_append→aj8,mem_append_left→akX,mem_append_right→akY,mem_map→akZ,all_eq_true→ak0,filter_cons_of_pos→ak2,nil_append→aoR,getElem?_eq_getElem→aq3,filter_cons_of_neg→aq4,getElem?_map→aq5,append_nil→aq6,length_cons→aq7,range→as4,foldl_cons→atH,pairwise_cons→auE,length_append→auG,cons_append→auQ,replicate→avR,flatMap_cons→awB,getElem?_append_left→aw2,mem_of_getElem?→aw6,getElem?_of_mem→aAX,mem_filter→aHA,length_map→aHN,length_nil→aY2,set_cons_succ→aY3,getElem?_append_right→aY5,any_eq_true→aY6,getElem?_set_ne→aY9,getD_eq_getElem?_getD→aZA,getElem?_set_self→aZL
open Bool renaming or_true→aq8,and_eq_true→arB,or_eq_true→aw4,not_eq_true'→aY7,not_eq_eq_eq_not→aY8
set_option linter.unusedSimpArgs false
set_option linter.unusedVariables false
namespace Go.Ev
noncomputable section
set_option maxRecDepth 100000
def EVa:=PLift.up (aaN @aqW (aaN @au0 (aaN @aG2 (aaN @anP (aaN @ah7 (aaN @alG (aaN @alM (aaN @as9 (aaN @List.map_cons.{0,0} (aaN @List.map_nil.{0,0} (aaN @ajY.{0,0} (aaN @Option.map_none.{0,0} (aaN @List.getElem?_cons_zero.{0} (aaN @List.getElem?_cons_succ.{0} (aaN @afJ.{0,0} (aaN @ayH (aaN @bd8 (aaN @a73 (aaN @atK (aaN @axQ (aaN @aUJ (aaN @aS5 (aaN @ayT (aaN @azV (aaN @apM (aaN @bcP (aaN @arT (aaN @as0 (aaN @avC (aaN @atA (aaN @asP (aaN @Nat.add_assoc (aaN @List.append_assoc.{0} @auG.{0})))))))))))))))))))))))))))))))))
def EVb:=PLift.up (aaN @List.length_replicate.{0} (aaN @aHN.{0,0} (aaN @Int.natCast_nonneg (aaN @Int.toNat_natCast (aaN @aq5.{0,0} (aaN @auS (aaN @ai9 (aaN @avO (aaN @axY (aaN @a9H (aaN @auJ (aaN @amM (aaN @aoD (aaN @ayQ (aaN @a6B (aaN @a8E (aaN @aCG (aaN @asV (aaN @aeR (aaN @aoC (aaN @lI (aaN @arL (aaN @aoE (aaN @av1 (aaN @baM (aaN @bcL (aaN @bb5 (aaN @a5T (aaN @baS (aaN @baJ (aaN @a5H @beF)))))))))))))))))))))))))))))))
def EVc:=PLift.up (aaN @au3 (aaN @an4 (aaN @ap5 (aaN @avV (aaN @arE (aaN @iH (aaN @amH (aaN @anQ (aaN @agQ (aaN @auZ (aaN @aS7 (aaN @amN (aaN @a35 (aaN @alY (aaN @apH (aaN @anG (aaN @aiK (aaN @rB (aaN @vC (aaN @aqH (aaN @yI (aaN @uS (aaN @aqU (aaN @ag9 (aaN @aiZ (aaN @aqY (aaN @amL (aaN @arK (aaN @auB (aaN @aSL (aaN @atX (aaN @aIS @auH))))))))))))))))))))))))))))))))
def EVd:=PLift.up (aaN @axH (aaN @aAO (aaN @arM (aaN @anZ (aaN @axK (aaN @arG (aaN @ayE (aaN @atF (aaN @aNT (aaN @ayW (aaN @aX6 (aaN @aKP (aaN @aTY (aaN @as1 (aaN @List.all_cons.{0} (aaN @List.all_nil.{0} (aaN @aoR.{0} (aaN @aq6.{0} (aaN @auQ.{0} (aaN @aq7.{0} (aaN @aY2.{0} (aaN @List.take_succ_cons.{0} (aaN @List.take_zero.{0} (aaN @List.drop_succ_cons.{0} (aaN @List.drop_zero.{0} (aaN @List.take_nil.{0} (aaN @List.set_cons_zero.{0} (aaN @aY3.{0} (aaN @arU @aM7)))))))))))))))))))))))))))))
def EVe:=PLift.up (aaN @auX (aaN @auP (aaN @ayJ (aaN @ayF (aaN @aM0 (aaN @avL (aaN @aR1 (aaN @auL (aaN @au6 (aaN @aJ8 (aaN @ay8 (aaN @axD (aaN @Bool.and_self (aaN @Bool.and_true (aaN @Bool.true_and (aaN @Bool.false_and (aaN @Bool.and_false (aaN @aq8 (aaN @Bool.or_false (aaN @Bool.true_or (aaN @Bool.not_true (aaN @Bool.not_false (aaN @Nat.zero_add (aaN @arA (aaN @Bool.false_eq_true (aaN @true_and (aaN @and_true (aaN @and_self (aaN @af8 (aaN @aT2 (aaN @avE (aaN @al8 @anW))))))))))))))))))))))))))))))))
def EVf:=PLift.up (aaN @a8H (aaN @beK (aaN @avF (aaN @aNV (aaN @azO (aaN @ag4 (aaN @ac2 (aaN @amD (aaN @azC (aaN @agC (aaN @asU (aaN @ahQ (aaN @auW (aaN @axS (aaN @baO (aaN @beI (aaN @anS (aaN @ap3 (aaN @ae4 (aaN @axW (aaN @amZ (aaN @ao8 (aaN @aIF (aaN @a0Q (aaN @awU (aaN @aKF (aaN @aqP (aaN @a5R (aaN @a3A (aaN @asN (aaN @aKY (aaN @aC5 (aaN @ayK (aaN @aOE (aaN @aAE @bcF)))))))))))))))))))))))))))))))))))
def EVg:=PLift.up (aaN @ar2 (aaN @apL (aaN @ajN (aaN @aeL (aaN @auF (aaN @az6 (aaN @auT (aaN @aN3 (aaN @atJ (aaN @ad8 (aaN @ao7 (aaN @aiS (aaN @auM (aaN @aHP (aaN @asZ (aaN @axB (aaN @axP (aaN @azZ (aaN @aEY (aaN @List.any_cons.{0} (aaN @List.any_nil.{0} (aaN @ayA (aaN @alV (aaN @abY (aaN @yV (aaN @ajX (aaN @aeS (aaN @List.replicate_succ.{0} (aaN @List.replicate_zero.{0} (aaN @or_self (aaN @ne_eq.{1} @not_true_eq_false)))))))))))))))))))))))))))))))
def EVh:=PLift.up (aaN @aAU (aaN @ao0 (aaN @aqO (aaN @aj2 (aaN @akK (aaN @a23 (aaN @aoI @auN)))))))
section
variable {P:Program} {O:Uo}
theorem rS{C:R→Prop}{b:Bool}{k:R}(hb:b=true)(h:True→C k):C (Vm b k):=awT hb (h trivial)
end
end
noncomputable section
open Go.RowKit
theorem aiQ(b:Nat):place [] b=(0,[b]):=adC rfl rfl
theorem afD(a b:Nat)(m:List Nat):place (a::m) b=if a=b then(0,a::m)else((place m b).1+1,a::(place m b).2):=by
 unfold place
 rw[List.idxOf?_cons]
 by_cases h:a=b
 ·simp[h]
 ·simp only[h,if_false,beq_iff_eq]
  cases List.idxOf? b m<;>simp
section
variable {P:Program} {O:Uo}
theorem atS(d:Nat)(m:List Nat)(b:Bool):Rl (d+1) m (.bool b)=some (.bool b,m):=adC rfl rfl
theorem aAL(d:Nat)(m:List Nat)(k:IntKind)(n:Int):Rl (d+1) m (.int k n)=some (.int k n,m):=adC rfl rfl
theorem atP(d:Nat)(m:List Nat):Rl (d+1) m .nils=some (.nils,m):=adC rfl rfl
theorem ax3(d:Nat)(m:List Nat)(n:Nat)(fl:Bool)(rows:List (List AV)):Rl (d+1) m (.imm n fl rows)=some (.imm n fl rows,m):=adC rfl rfl
theorem aAZ(d:Nat)(m:List Nat)(n:Nat)(fl nn:Bool)(rows:List (List AV)):Rl (d+1) m (Rn n fl nn rows)=some (Rn n fl nn rows,m):=Xn m (iH d n fl nn rows)
theorem aSF(d:Nat)(m:List Nat)(b r o:Nat):Rl (d+1) m (.ptr b r o)=some (.ptr (place m b).1 r o,(place m b).2):=adC rfl rfl
theorem ayV(d:Nat)(m:List Nat)(st b r len:Nat):Rl (d+1) m (.slr st b r len)=some (.slr st (place m b).1 r len,(place m b).2):=adC rfl rfl
def rfA(x:Option (List AV × List Nat)):Option (AV × List Nat):=x.map fun(cs,m)=>(.agg cs,m)
def rfT(x:Option (List AV × List Nat)):Option (AV × List Nat):=x.map fun(cs,m)=>(.tup cs,m)
theorem amJ(cs:List AV)(m:List Nat):rfA (some (cs,m))=some (.agg cs,m):=adC rfl rfl
theorem ap1(cs:List AV)(m:List Nat):rfT (some (cs,m))=some (.tup cs,m):=adC rfl rfl
theorem ax2(d:Nat)(m:List Nat)(cs:List AV):Rl (d+1) m (.agg cs)=rfA (Rl.refL (Rl d) m cs):=adC rfl rfl
theorem axT(d:Nat)(m:List Nat)(cs:List AV):Rl (d+1) m (.tup cs)=rfT (Rl.refL (Rl d) m cs):=adC rfl rfl
def rfG(fn:Fn)(a:List AV)(x:Option (List AV × List Nat)):Option (AV × List Nat):=x.map fun(b,m)=>(.func fn a b,m)
def rfF(fn:Fn)(d:Nat)(b:List AV)(x:Option (List AV × List Nat)):Option (AV × List Nat):=x.bind fun(a,m)=>rfG fn a (Rl.refL (Rl d) m b)
theorem aqE(fn:Fn)(a b:List AV)(m:List Nat):rfG fn a (some (b,m))=some (.func fn a b,m):=adC rfl rfl
theorem anK(fn:Fn)(d:Nat)(a b:List AV)(m:List Nat):rfF fn d b (some (a,m))=rfG fn a (Rl.refL (Rl d) m b):=adC rfl rfl
theorem avS(d:Nat)(m:List Nat)(fn:Fn)(a b:List AV):Rl (d+1) m (.func fn a b)=rfF fn d b (Rl.refL (Rl d) m a):=adC rfl rfl
def rfD(v:AV)(x:Option (List AV × List Nat)):Option (List AV × List Nat):=x.map fun(vs,m)=>(v::vs,m)
def rfC(f:List Nat→AV→Option (AV × List Nat))(vs:List AV)(x:Option (AV × List Nat)):Option (List AV × List Nat):=x.bind fun(v,m)=>rfD v (Rl.refL f m vs)
theorem apB(v:AV)(vs:List AV)(m:List Nat):rfD v (some (vs,m))=some (v::vs,m):=adC rfl rfl
theorem alF(f:List Nat→AV→Option (AV × List Nat))(vs:List AV)(v:AV)(m:List Nat):rfC f vs (some (v,m))=rfD v (Rl.refL f m vs):=adC rfl rfl
theorem arJ(f:List Nat→AV→Option (AV × List Nat))(m:List Nat):Rl.refL f m []=some ([],m):=adC rfl rfl
theorem apF(f:List Nat→AV→Option (AV × List Nat))(m:List Nat)(v:AV)(vs:List AV):Rl.refL f m (v::vs)=rfC f vs (f m v):=adC rfl rfl
def rrD(cs:List AV)(x:Option (List (List AV) × List Nat)):Option (List (List AV) × List Nat):=x.map fun(rs,m)=>(cs::rs,m)
def rrC(rs:List (List AV))(x:Option (List AV × List Nat)):Option (List (List AV) × List Nat):=x.bind fun(cs,m)=>rrD cs (Zd m rs)
theorem ak6(cs:List AV)(rs:List (List AV))(m:List Nat):rrD cs (some (rs,m))=some (cs::rs,m):=adC rfl rfl
theorem anD(rs:List (List AV))(cs:List AV)(m:List Nat):rrC rs (some (cs,m))=rrD cs (Zd m rs):=adC rfl rfl
theorem ax1(m:List Nat):Zd m []=some ([],m):=adC rfl rfl
theorem as6(m:List Nat)(cs:List AV)(rs:List (List AV)):Zd m (cs::rs)=rrC rs (Rl.refL (Rl 8) m cs):=adC rfl rfl
def rbV(st:Nat)(w:Bool)(x:Option (List (List AV) × List Nat)):Option (CB × List Nat):=x.map fun(rows,m)=>(.live st false w rows,m)
theorem alZ(st:Nat)(w:Bool)(rows:List (List AV))(m:List Nat):rbV st w (some (rows,m))=some (.live st false w rows,m):=adC rfl rfl
theorem bcO(m:List Nat)(st:Nat)(w:Bool)(rows:List (List AV)):lL m (.live st true w rows)=some (.live st true w rows,m):=adC rfl rfl
theorem baV(m:List Nat)(st:Nat)(w:Bool)(rows:List (List AV)):lL m (.live st false w rows)=rbV st w (Zd m rows):=adC rfl rfl
def pcE(c:CB)(x:Option (List CB × List Nat)):Option (List CB × List Nat):=x.map fun(cs,m)=>(c::cs,m)
def pcR(n:Nat)(h:Qa)(i:Nat)(x:Option (CB × List Nat)):Option (List CB × List Nat):=x.bind fun(c,m)=>pcE c (Yj n (hf h) (i+1) m)
def pcB(n:Nat)(h:Qa)(i:Nat)(m:List Nat)(x:Option CB):Option (List CB × List Nat):=x.bind fun c=>pcR n h i (lL m c)
def pcK(n:Nat)(h:Qa)(i:Nat)(m:List Nat)(x:Option Nat):Option (List CB × List Nat):=
 match x with
 |none=>some ([],m)
 |some b=>pcB n h i m (h[b]?)
theorem aqB(c:CB)(cs:List CB)(m:List Nat):pcE c (some (cs,m))=some (c::cs,m):=adC rfl rfl
theorem alJ(n:Nat)(h:Qa)(i:Nat)(c:CB)(m:List Nat):pcR n h i (some (c,m))=pcE c (Yj n (hf h) (i+1) m):=adC rfl rfl
theorem alE(n:Nat)(h:Qa)(i:Nat)(m:List Nat)(c:CB):pcB n h i m (some c)=pcR n h i (lL m c):=adC rfl rfl
theorem alO(n:Nat)(h:Qa)(i:Nat)(m:List Nat):pcK n h i m none=some ([],m):=adC rfl rfl
theorem apX(n:Nat)(h:Qa)(i:Nat)(m:List Nat)(b:Nat):pcK n h i m (some b)=pcB n h i m (h[b]?):=adC rfl rfl
theorem a78(n:Nat)(h:Qa)(i:Nat)(m:List Nat):Yj (n+1) (hf h) i m=pcK n h i m (m[i]?):=by
 unfold Yj pcK
 cases m[i]?<;>rfl
def pkB(vs:List AV)(x:Option (List CB × List Nat)):Option (List AV × List CB × List Nat):=x.map fun(cs,m)=>(vs,cs,m)
def pkA(h:Qa)(x:Option (List AV × List Nat)):Option (List AV × List CB × List Nat):=x.bind fun(vs,m)=>pkB vs (Yj 5000 (hf h) 0 m)
theorem aq2(vs:List AV)(cs:List CB)(m:List Nat):pkB vs (some (cs,m))=some (vs,cs,m):=adC rfl rfl
theorem anM(h:Qa)(vs:List AV)(m:List Nat):pkA h (some (vs,m))=pkB vs (Yj 5000 (hf h) 0 m):=adC rfl rfl
theorem a3R(h:Qa)(m:List Nat)(vs:List AV):Xw (hf h) m vs=pkA h (Rl.refL (Rl 8) m vs):=adC rfl rfl
def upK(h:Qa)(lent:List Nat)(v:Option AV)(ps ns:Option (List Qd))(o:AV→Tu):OE:=v.bind fun v=>ps.bind fun ps=>ns.bind fun ns=>
 some (o v,(if lent.isEmpty|| !(hasImm 8 v||(ps++ns).any Qd.hasImm)then []else Ui (hf h) lent)++ps++ns)
def crU(h:Qa)(base:Nat)(lent m:List Nat)(cs:List CB)(x:Option (Tu × Qa)):OE:=
 match x with
 |some (.ret v,h')=>upK h lent (Su 8 (Uw m base) v) (Vu (Uw m base) m cs (h'.take m.length)) (Wy (Uw m base) base (h'.drop m.length)) .ret
 |some (.pan v,h')=>upK h lent (Su 8 (Uw m base) v) (Vu (Uw m base) m cs (h'.take m.length)) (Wy (Uw m base) base (h'.drop m.length)) .pan
 |none=>none
def crP(O:Uo)(h:Qa)(base:Nat)(f:bX)(lent:List Nat)(x:Option (List AV × List CB × List Nat)):OE:=x.bind fun(vs,cs,m)=>
 if lent.any (m.contains ·)then none else crU h base lent m cs (O.call f vs (cs.map CB.clean))
def crQ(O:Uo)(h:Qa)(base:Nat)(f:bX)(lent:List Nat)(x:Option (List AV)):OE:=x.bind fun vs=>crP O h base f lent (Xw (hf h) [] vs)
theorem bfY(h:Qa)(base:Nat)(f:bX)(args:List AV):cr (sO O (hf h) base f args)=crQ O h base f (args.flatMap (Qu 12 (hf h))) (Ri (wJ h) args):=by
 unfold sO Ta crQ wJ
 cases Ri (Vp 12 (hf h)) args with
 |none=>rfl
 |some vs=>
  simp only[afJ]
  unfold crP
  cases Xw (hf h) [] vs with
  |none=>rfl
  |some x=>
   obtain⟨vs',cs,m⟩:=x
   simp only[afJ]
   split
   ·rfl
   ·cases O.call f vs' (cs.map CB.clean)with
    |none=>rfl
    |some y=>
     obtain⟨out,h'⟩:=y
     simp only[afJ,Yi]
     unfold crU upK
     cases out with
     |ret v=>
      simp only[Tu.v]
      cases Su 8 (Uw m base) v with
      |none=>rfl
      |some v=>
       cases Vu (Uw m base) m cs (h'.take m.length)with
       |none=>rfl
       |some ps=>cases Wy (Uw m base) base (h'.drop m.length)<;>rfl
     |pan v=>
      simp only[Tu.v]
      cases Su 8 (Uw m base) v with
      |none=>rfl
      |some v=>
       cases Vu (Uw m base) m cs (h'.take m.length)with
       |none=>rfl
       |some ps=>cases Wy (Uw m base) base (h'.drop m.length)<;>rfl
theorem apG(h:Qa)(base:Nat)(f:bX)(lent:List Nat)(vs:List AV):crQ O h base f lent (some vs)=crP O h base f lent (Xw (hf h) [] vs):=adC rfl rfl
theorem anH(h:Qa)(base:Nat)(f:bX)(lent:List Nat)(vs:List AV)(cs:List CB)(m:List Nat):crP O h base f lent (some (vs,cs,m))=if lent.any (m.contains ·)=true then none else crU h base lent m cs (O.call f vs (cs.map CB.clean)):=adC rfl rfl
theorem ar1(h:Qa)(base:Nat)(lent m:List Nat)(cs:List CB)(v:AV)(h':Qa):crU h base lent m cs (some (.ret v,h'))=upK h lent (Su 8 (Uw m base) v) (Vu (Uw m base) m cs (h'.take m.length)) (Wy (Uw m base) base (h'.drop m.length)) .ret:=adC rfl rfl
theorem alA(h:Qa)(lent:List Nat)(v:AV)(ps ns:List Qd)(o:AV→Tu):upK h lent (some v) (some ps) (some ns) o=some (o v,(if(lent.isEmpty|| !(hasImm 8 v||(ps++ns).any Qd.hasImm))=true then []else Ui (hf h) lent)++ps++ns):=adC rfl rfl
theorem avA(st:Nat)(fl w:Bool)(rows:List (List AV)):CB.clean (.live st fl w rows)=.live st fl false rows:=adC rfl rfl
theorem ar9(d:Nat)(g:HF)(b:Bool):Qu (d+1) g (.bool b)=[]:=adC rfl rfl
theorem aC4(d:Nat)(g:HF)(k:IntKind)(n:Int):Qu (d+1) g (.int k n)=[]:=adC rfl rfl
theorem ar6(d:Nat)(g:HF):Qu (d+1) g .nils=[]:=adC rfl rfl
theorem axX(d:Nat)(g:HF)(n:Nat)(fl:Bool)(rows:List (List AV)):Qu (d+1) g (.imm n fl rows)=[]:=adC rfl rfl
theorem ax9(d:Nat)(g:HF)(b r o:Nat):Qu (d+1) g (.ptr b r o)=[]:=adC rfl rfl
theorem au7(d:Nat)(g:HF)(fn:Fn)(a b:List AV):Qu (d+1) g (.func fn a b)=[]:=adC rfl rfl
theorem aXY(d:Nat)(g:HF)(n:Nat)(fl nn:Bool)(rows:List (List AV)):Qu (d+1) g (Rn n fl nn rows)=[]:=eW g (d:=1) (by omega) (iH 0 n fl nn rows)
theorem aU2(d:Nat)(g:HF)(cs:List AV):Qu (d+1) g (.agg cs)=cs.flatMap (Qu d g):=adC rfl rfl
def lvS(b:Nat)(c:Option CB)(q:AV→List Nat)(r len:Nat):List Nat:=
 b::match c with
 |some (.live _ fl _ rows)=>if r+len≤rows.length then(if fl then []else((rows.drop r).take len).flatMap fun cs=>cs.flatMap q)else []
 |some (.frz _ fl rows)=>if r+len≤rows.length then(if fl then []else((rows.drop r).take len).flatMap fun cs=>cs.flatMap q)else []
 |_=>[]
theorem aeF(d:Nat)(h:Qa)(st b r len:Nat):Qu (d+1) (hf h) (.slr st b r len)=lvS b (h[b]?) (Qu d (hf h)) r len:=by
 have e:Qu (d+1) (hf h) (.slr st b r len)=b::(match Ug (hf h) b r len with|some (_,fl,rows)=>if fl then []else rows.flatMap fun cs=>cs.flatMap (Qu d (hf h))|none=>[]):=rfl
 rw[e]
 generalize Qu d (hf h)=q
 unfold Ug lvS
 have eh:hf h b=h[b]?:=rfl
 rw[eh]
 cases h[b]? with
 |none=>rfl
 |some c=>
  cases c with
  |live st fl w rows=>simp only;by_cases hq:r+len≤rows.length<;>simp[hq]
  |frz st fl rows=>simp only;by_cases hq:r+len≤rows.length<;>simp[hq]
  |_=>rfl
theorem a0U(b:Nat)(st:Nat)(w:Bool)(rows:List (List AV))(q:AV→List Nat)(r len:Nat):lvS b (some (.live st true w rows)) q r len=[b]:=by simp[lvS]
theorem a1W(m:List Nat)(base i:Nat):Uw m base i=if i<m.length then m.getD i base else base+(i-m.length):=adC rfl rfl
theorem asC(d:Nat)(f:Nat→Nat)(b:Bool):Su (d+1) f (.bool b)=some (.bool b):=adC rfl rfl
theorem aAQ(d:Nat)(f:Nat→Nat)(k:IntKind)(n:Int):Su (d+1) f (.int k n)=some (.int k n):=adC rfl rfl
theorem azD(d:Nat)(f:Nat→Nat)(n:Nat)(fl nn:Bool)(rows:List (List AV)):Su (d+1) f (Rn n fl nn rows)=some (Rn n fl nn rows):=Ys f (iH d n fl nn rows)
theorem aN0(d:Nat)(f:Nat→Nat)(b r o:Nat):Su (d+1) f (.ptr b r o)=some (.ptr (f b) r o):=adC rfl rfl
theorem aO4(d:Nat)(f:Nat→Nat)(st b r len:Nat):Su (d+1) f (.slr st b r len)=some (.slr st (f b) r len):=adC rfl rfl
def rnA(x:Option (List AV)):Option AV:=x.map .agg
def rnT(x:Option (List AV)):Option AV:=x.map .tup
theorem an1(cs:List AV):rnA (some cs)=some (.agg cs):=adC rfl rfl
theorem amT(cs:List AV):rnT (some cs)=some (.tup cs):=adC rfl rfl
theorem azE(d:Nat)(f:Nat→Nat)(cs:List AV):Su (d+1) f (.agg cs)=rnA (Ri (Su d f) cs):=adC rfl rfl
theorem ayN(d:Nat)(f:Nat→Nat)(cs:List AV):Su (d+1) f (.tup cs)=rnT (Ri (Su d f) cs):=adC rfl rfl
def rnG(fn:Fn)(a:List AV)(x:Option (List AV)):Option AV:=x.map fun b=>.func fn a b
def rnF(fn:Fn)(b:Option (List AV))(x:Option (List AV)):Option AV:=x.bind fun a=>rnG fn a b
theorem apQ(fn:Fn)(a b:List AV):rnG fn a (some b)=some (.func fn a b):=adC rfl rfl
theorem amU(fn:Fn)(b:Option (List AV))(a:List AV):rnF fn b (some a)=rnG fn a b:=adC rfl rfl
theorem asI(d:Nat)(f:Nat→Nat)(fn:Fn)(a b:List AV):Su (d+1) f (.func fn a b)=rnF fn (Ri (Su d f) b) (Ri (Su d f) a):=adC rfl rfl
def rbW(st:Nat)(w:Bool)(x:Option (List (List AV))):Option CB:=x.map (.live st false w)
theorem aq1(st:Nat)(w:Bool)(rows:List (List AV)):rbW st w (some rows)=some (.live st false w rows):=adC rfl rfl
theorem bcH(f:Nat→Nat)(st:Nat)(w:Bool)(rows:List (List AV)):Xp f (.live st true w rows)=some (.live st true w rows):=adC rfl rfl
theorem baU(f:Nat→Nat)(st:Nat)(w:Bool)(rows:List (List AV)):Xp f (.live st false w rows)=rbW st w (Ri (Ri (Su 8 f)) rows):=adC rfl rfl
def peE(b:Nat)(c:Option CB)(x:Option (List Qd)):Option (List Qd):=c.bind fun c=>x.map fun es=>.put b c::es
def peK(f:Nat→Nat)(b:Nat)(c:CB)(same bad:Bool)(x:Option (List Qd)):Option (List Qd):=bif same then x else bif bad then none else peE b (Xp f c) x
theorem beL(f:Nat→Nat)(b:Nat)(c:CB)(bad:Bool)(x:Option (List Qd)):peK f b c true bad x=x:=adC rfl rfl
theorem axL(f:Nat→Nat):Vu f [] [] []=some []:=adC rfl rfl
theorem avP(f:Nat→Nat)(b:Nat)(m:List Nat)(c₀ c:CB)(cs₀ cs:List CB):Vu f (b::m) (c₀::cs₀) (c::cs)=peK f b c (c₀.same c) (c.unw|| !c₀.isLive) (Vu f m cs₀ cs):=by
 conv=>lhs;unfold Vu
 unfold peK
 cases c₀.same c with
 |true=>rfl
 |false=>
  cases(c.unw|| !c₀.isLive)with
  |true=>rfl
  |false=>
   simp only[cond_false,peE]
theorem av4(a:Nat)(b c:Bool)(r:List (List AV))(st:Nat)(fl w:Bool)(rows:List (List AV)):CB.same (.live a b c r) (.live st fl w rows)= !w:=adC rfl rfl
theorem atM(st:Nat)(fl w:Bool)(rows:List (List AV)):CB.unw (.live st fl w rows)= !w:=adC rfl rfl
theorem au1(st:Nat)(fl w:Bool)(rows:List (List AV)):CB.isLive (.live st fl w rows)=true:=adC rfl rfl
def neK(base:Nat)(c:Option CB)(x:Option (List Qd)):Option (List Qd):=c.bind fun c=>x.map fun es=>.new base c::es
theorem alD(base:Nat)(c:CB)(es:List Qd):neK base (some c) (some es)=some (.new base c::es):=adC rfl rfl
theorem aNZ(f:Nat→Nat)(base:Nat):Wy f base []=some []:=adC rfl rfl
theorem avD(f:Nat→Nat)(base:Nat)(c:CB)(cs:List CB):Wy f base (c::cs)=neK base (Xp f c) (Wy f (base+1) cs):=adC rfl rfl
theorem avQ(d:Nat)(fn:Fn)(a b:List AV):hasImm (d+1) (.func fn a b)=(a.any (hasImm d)||b.any (hasImm d)):=adC rfl rfl
theorem aFD(b:Nat)(c:CB):Qd.hasImm (.new b c)=c.hasImm:=adC rfl rfl
theorem a4U(st:Nat)(w:Bool)(rows:List (List AV)):CB.hasImm (.live st true w rows)=false:=adC rfl rfl
theorem a29(st:Nat)(w:Bool)(rows:List (List AV)):CB.hasImm (.live st false w rows)=rows.any fun cs=>cs.any (Ev.hasImm 8):=adC rfl rfl
theorem aAV(h:Qa)(b r o:Nat):wJ h (.ptr b r o)=some (.ptr b r o):=adC rfl rfl
theorem ar7(h:Qa)(cs:List AV):wJ h (.agg cs)=rdA (Ri (Vp 11 (hf h)) cs):=adC rfl rfl
theorem akW(l:List AV):rdA (some l)=some (.agg l):=adC rfl rfl
theorem atO(d:Nat)(h:Qa)(b:Bool):Vp (d+1) (hf h) (.bool b)=some (.bool b):=adC rfl rfl
theorem aHS(d:Nat)(h:Qa)(k:IntKind)(n:Int):Vp (d+1) (hf h) (.int k n)=some (.int k n):=adC rfl rfl
theorem aNR(d:Nat)(h:Qa)(n:Nat)(fl:Bool)(rows:List (List AV)):Vp (d+1) (hf h) (.imm n fl rows)=some (.imm n fl rows):=adC rfl rfl
theorem aN4(d:Nat)(h:Qa)(n b r len:Nat):Vp (d+1) (hf h) (.slr n b r len)=lE (Uf d (hf h)) (h[b]?) r len:=by
 have e:Vp (d+1) (hf h) (.slr n b r len)=(Ug (hf h) b r len).bind fun x=>if x.2.1=true then some (.imm x.1 true x.2.2)else(Ri (Ri (Uf d (hf h))) x.2.2).map (.imm x.1 false):=rfl
 rw[e]
 generalize Uf d (hf h)=q
 unfold Ug lE
 have eh:hf h b=h[b]?:=rfl
 rw[eh]
 cases h[b]? with
 |none=>rfl
 |some c=>
  cases c with
  |live st fl w rows=>
   simp only[rdR]
   by_cases hq:r+len≤rows.length
   ·cases fl<;>simp[hq]
   ·simp[hq]
  |frz st fl rows=>
   simp only[rdR]
   by_cases hq:r+len≤rows.length
   ·cases fl<;>simp[hq]
   ·simp[hq]
  |_=>rfl
def mfK(f:Nat)(a b:Option (List AV)):OE:=a.bind fun a=>b.bind fun b=>some (.ret (.func (.func f) a b),[])
theorem amC(f:Nat)(a b:List AV):mfK f (some a) (some b)=some (.ret (.func (.func f) a b),[]):=adC rfl rfl
theorem beJ(t:List AV)(h:Qa)(f:Nat)(a b:Array Operand):Tt O P t h (.makeFunc (.func f) a b)=mfK f (Rf t a.toList) (Rf t b.toList):=by
 rw[Rw _ _ _ rfl]
 simp only[exec,mfK]
 cases Rf t a.toList with
 |none=>rfl
 |some a=>cases Rf t b.toList<;>rfl
def msK(n:Nat)(z:AV)(base:Nat)(l c:Option AV):OE:=
 match l,c with
 |some (.int .i64 l),some (.int .i64 c)=>if 0≤l∧l≤c∧c≤2 ^ 40∧(Qf z).all AV.isCell=true then some (.ret (.slr n base 0 l.toNat),[.new base (.live n ((Qf z).all AV.flat) false (avR l.toNat (Qf z)))])else none
 |_,_=>none
theorem aqI(n:Nat)(z:AV)(base:Nat)(l c:Int):msK n z base (some (.int .i64 l)) (some (.int .i64 c))=if 0≤l∧l≤c∧c≤2 ^ 40∧(Qf z).all AV.isCell=true then some (.ret (.slr n base 0 l.toNat),[.new base (.live n ((Qf z).all AV.flat) false (avR l.toNat (Qf z)))])else none:=adC rfl rfl
def msO(P:Program)(ty:TypeId)(base:Nat)(l c:Option AV):OE:=rD (l.bind fun l=>c.bind fun c=>Wg P base ty l c)
theorem bbR(t:List AV)(h:Qa)(ty:TypeId)(l c:Operand):Tt O P t h (.makeSlice ty l c)=msO P ty h.length (Qe t l) (Qe t c):=Rw _ _ _ rfl
theorem beN{ty e:TypeId}{n b:Nat}{z:AV}(he:jY P ty=some e)(hn:Zo P e=some n)(hb:byT P e=some b)(hz:Vl P e=some z)(ok:(decide (b≤2 ^ 7)&&decide (n≠0)&&decide ((Qf z).length=n))=true)(base:Nat)(l c:Option AV):
 msO P ty base l c=msK n z base l c:=by
 simp only[arB,decide_eq_true_eq]at ok
 unfold msO msK
 cases l with
 |none=>rfl
 |some l=>
  cases c with
  |none=>cases l<;>first|rfl|(rename_i k _;cases k<;>rfl)
  |some c=>
   simp only[afJ,Wg,he,hn,hb,hz]
   cases l with
   |int k l=>
    cases c with
    |int k' c=>
     cases k<;>cases k'<;>first|rfl|skip
     simp only[ok.1.1,ok.1.2,ok.2,ne_eq,not_false_eq_true,true_and]
     split<;>rfl
    |_=>cases k<;>rfl
   |_=>rfl
def srS(q:Nat)(c:Option CB)(r len:Nat):Option (Bool × List (List AV)):=
 match c with
 |some (.live st fl _ rows)=>if r+len≤rows.length∧st=q then some (fl,(rows.drop r).take len)else none
 |some (.frz st fl rows)=>if r+len≤rows.length∧st=q then some (fl,(rows.drop r).take len)else none
 |_=>none
def srK(q:Nat)(h:Qa)(x:Option AV):Option (Bool × List (List AV)):=
 match x with
 |some .nils=>some (true,[])
 |some (.imm st fl rows)=>if st=q then some (fl,rows)else none
 |some (.slr _ b r len)=>srS q (h[b]?) r len
 |_=>none
theorem ap0(q st:Nat)(fl w:Bool)(rows:List (List AV))(r len:Nat):srS q (some (.live st fl w rows)) r len=if r+len≤rows.length∧st=q then some (fl,(rows.drop r).take len)else none:=adC rfl rfl
theorem anR(q:Nat)(h:Qa):srK q h (some .nils)=some (true,[]):=adC rfl rfl
theorem af9(q:Nat)(h:Qa)(st:Nat)(fl:Bool)(rows:List (List AV)):srK q h (some (.imm st fl rows))=if st=q then some (fl,rows)else none:=adC rfl rfl
theorem af6(q:Nat)(h:Qa)(st b r len:Nat):srK q h (some (.slr st b r len))=srS q (h[b]?) r len:=adC rfl rfl
def apT(n base b r len:Nat)(nfl:Bool)(new:List (List AV))(st:Nat)(fl:Bool)(rows:List (List AV)):OE:=
 if st=n∧r+len≤rows.length∧len+new.length≤2 ^ 39 then some (.ret (.slr st base 0 (len+new.length)),[.put b .dead,.new base (.live st (fl&&nfl) false ((rows.drop r).take len++new))])else none
def apS(n base b r len:Nat)(nfl:Bool)(new:List (List AV))(c:Option CB):OE:=
 match c with
 |some (.live st fl _ rows)=>if st=n∧r+len=rows.length∧len+new.length≤2 ^ 39 then some (.ret (.slr st base 0 (len+new.length)),[.put b .dead,.new base (.live st (fl&&nfl) false (rows.drop r++new))])else apT n base b r len nfl new st fl rows
 |_=>none
theorem aaM(n base b r len:Nat)(nfl:Bool)(new:List (List AV))(st:Nat)(fl w:Bool)(rows:List (List AV)):apS n base b r len nfl new (some (.live st fl w rows))=if st=n∧r+len=rows.length∧len+new.length≤2 ^ 39 then some (.ret (.slr st base 0 (len+new.length)),[.put b .dead,.new base (.live st (fl&&nfl) false (rows.drop r++new))])else apT n base b r len nfl new st fl rows:=adC rfl rfl
def apK(n:Nat)(h:Qa)(s:Option AV)(x:Option (Bool × List (List AV))):OE:=
 match s,x with
 |some .nils,some (_,[])=>some (.ret .nils,[])
 |some (.slr a b r l),some (_,[])=>some (.ret (.slr a b r l),[])
 |some (.imm a b r),some (_,[])=>some (.ret (.imm a b r),[])
 |some .nils,some (nfl,r::new)=>if(r::new).length≤2 ^ 39 then some (.ret (.slr n h.length 0 (r::new).length),[.new h.length (.live n nfl false (r::new))])else none
 |some (.slr _ b r len),some (nfl,q::new)=>apS n h.length b r len nfl (q::new) (h[b]?)
 |_,_=>none
theorem aP8(n:Nat)(h:Qa)(a b r l:Nat)(nfl:Bool):apK n h (some (.slr a b r l)) (some (nfl,[]))=some (.ret (.slr a b r l),[]):=adC rfl rfl
theorem ad1(n:Nat)(h:Qa)(nfl:Bool)(r:List AV)(new:List (List AV)):apK n h (some .nils) (some (nfl,r::new))=if(r::new).length≤2 ^ 39 then some (.ret (.slr n h.length 0 (r::new).length),[.new h.length (.live n nfl false (r::new))])else none:=adC rfl rfl
theorem adW(n:Nat)(h:Qa)(a b r len:Nat)(nfl:Bool)(q:List AV)(new:List (List AV)):apK n h (some (.slr a b r len)) (some (nfl,q::new))=apS n h.length b r len nfl (q::new) (h[b]?):=adC rfl rfl
def apO(P:Program)(ty:TypeId)(h:Qa)(s x:Option AV):OE:=rD (s.bind fun s=>x.bind fun x=>Vv P (hf h) h.length ty s x)
theorem agY(t:List AV)(h:Qa)(s x:Operand)(ty ty1 e1:TypeId)(hu:P.underlying ty1=some (.slice e1)):Tt O P t h (.call ⟨.builtin .append,#[s,x],#[ty,ty1]⟩)=apO P ty h (Qe t s) (Qe t x):=by
 rw[Rw _ _ _ rfl]
 simp only[exec,Rf,apO]
 cases Qe t s with
 |none=>rfl
 |some a=>
  cases Qe t x with
  |none=>rfl
  |some b=>
   simp only[afJ,ajY]
   have e0:(#[ty,ty1]:Array TypeId)[0]?=some ty:=rfl
   have e1:(#[ty,ty1]:Array TypeId)[1]?=some ty1:=rfl
   simp only[e0,e1,afJ,hu]
theorem adI{ty e:TypeId}{n b:Nat}{z:AV}(he:jY P ty=some e)(hn:Zo P e=some n)(hb:byT P e=some b)(hz:Vl P e=some z)(ok:(decide (b≤2 ^ 8)&&decide (n≠0)&&decide ((Qf z).length=n))=true)(h:Qa)(s x:AV)(hx:∀q,x≠.str q):
 apO P ty h (some s) (some x)=apK n h (some s) (srK n h (some x)):=by
 simp only[arB,decide_eq_true_eq]at ok
 have hbad:¬(n=0∨2 ^ 8<b∨(Qf z).length≠n):=by
  rintro(h1|h1|h1)
  ·exact ok.1.2 h1
  ·omega
  ·exact h1 ok.2
 unfold apO
 simp only[afJ,Vv,he,hn,hb,hz]
 have key:∀(nfl:Bool) (new:List (List AV)) (fs:List Rb),rD (if n=0∨2 ^ 8<b∨(Qf z).length≠n then none else
  match s,new with
  |s,[]=>match s with
   | .nils| .slr _ _ _ _| .imm _ _ _=>some ⟨s,[],fs⟩
   |_=>none
  | .nils,new=>if new.length≤2 ^ 39 then some ⟨.slr n h.length 0 new.length,[.new h.length (.live n nfl false new)],fs⟩else none
  | .slr _ b r len,new=>
    match hf h b with
    |some (.live st fl _ rows)=>
     if st=n∧r+len≤rows.length∧len+new.length≤2 ^ 39 then
      some ⟨.slr st h.length 0 (len+new.length),[.put b .dead,.new h.length (.live st (fl&&nfl) false ((rows.drop r).take len++new))],.blk b::fs⟩
     else none
    |_=>none
  |_,_=>none)=apK n h (some s) (some (nfl,new)):=fun nfl new fs=>by
  rw[if_neg hbad]
  cases new with
  |nil=>cases s<;>rfl
  |cons q new=>
   cases s with
   |nils=>simp only[ad1];split<;>rfl
   |slr a b r len=>
    simp only[adW]
    unfold apS
    have eh:hf h b=h[b]?:=rfl
    rw[eh]
    cases h[b]? with
    |none=>rfl
    |some c=>
     cases c with
     |live st fl w rows=>
      simp only
      by_cases h1:st=n∧r+len=rows.length∧len+(q::new).length≤2 ^ 39
      ·rw[if_pos h1,if_pos ⟨h1.1,by omega,h1.2.2⟩,List.take_of_length_le (by simp;omega)]
       rfl
      ·rw[if_neg h1]
       unfold apT
       split<;>rfl
     |_=>rfl
   |_=>rfl
 cases x with
 |nils=>exact key true [] []
 |imm st fl rows=>
  simp only[Ti,af9,hn,arF.injEq]
  by_cases hq:n=st
  ·subst hq;simp only[if_true,afJ];exact key fl rows []
  ·rw[if_neg hq,if_neg (fun e=>hq e.symm)]
   cases s<;>rfl
 |slr st b' r len=>
  simp only[Ti,af6,hn,Ug,srS]
  have eh:hf h b'=h[b']?:=rfl
  rw[eh]
  cases h[b']? with
  |none=>cases s<;>rfl
  |some c=>
   cases c with
   |live st fl w rows=>
    simp only
    by_cases hq:r+len≤rows.length
    ·simp only[hq,if_true,afJ,true_and,arF.injEq]
     by_cases hq2:n=st
     ·subst hq2;simp only[if_true,afJ];exact key fl _ _
     ·rw[if_neg hq2,if_neg (fun e=>hq2 e.symm)];cases s<;>rfl
    ·simp only[hq,if_false,false_and];cases s<;>rfl
   |frz st fl rows=>
    simp only
    by_cases hq:r+len≤rows.length
    ·simp only[hq,if_true,afJ,true_and,arF.injEq]
     by_cases hq2:n=st
     ·subst hq2;simp only[if_true,afJ];exact key fl _ _
     ·rw[if_neg hq2,if_neg (fun e=>hq2 e.symm)];cases s<;>rfl
    ·simp only[hq,if_false,false_and];cases s<;>rfl
   |_=>cases s<;>rfl
 |str q=>exact(hx q rfl).elim
 |_=>cases s<;>rfl
def rtK(Q:Tu→Qa→Prop)(x:Option (List AV × List CB × List Nat)):Prop:=
 match x with
 |some ([v],cs,_)=>Q (.ret v) cs
 |_=>False
theorem ao4(Q:Tu→Qa→Prop)(v:AV)(cs:List CB)(m:List Nat):rtK Q (some ([v],cs,m))=Q (.ret v) cs:=adC rfl rfl
theorem awS{q:Nat}{vs:List AV}{h:Qa}{Q:Tu→Qa→Prop}:Rt q (some vs) h Q=rtK Q (Xw (hf h) (as4 q) [bM vs]):=by
 unfold Rt as5
 simp only[afJ,cX]
 cases hp:Xw (hf h) (as4 q) [bM vs]with
 |none=>simp[rtK]
 |some x=>
  obtain⟨ws,cs,m⟩:=x
  simp only[afJ]
  match ws with
  | [v]=>
    simp only[rtK,ajY]
    exact propext ⟨fun⟨o,h',e,k⟩=>by cases e;exact k,fun k=>⟨_,_,rfl,k⟩⟩
  | []=>simp[rtK]
  |_::_::_=>simp[rtK]
theorem azB(vs:List AV)(h:Qa)(Q:Tu→Qa→Prop):Rt1 0 (some vs) h Q=rtK Q (Xw (hf h) [] [bM vs]):=awS
theorem arQ(q:Nat)(vs:List AV)(h:Qa)(Q:Tu→Qa→Prop):Rt (q+1) (some vs) h Q=rtK Q (Xw (hf h) (as4 (q+1)) [bM vs]):=awS
end
end
noncomputable section
set_option maxRecDepth 100000
def EVi:=PLift.up (aaN @aiQ (aaN @afD (aaN @atS (aaN @aAL (aaN @atP (aaN @ax3 (aaN @aAZ (aaN @aSF (aaN @ayV (aaN @amJ (aaN @ap1 (aaN @ax2 (aaN @axT (aaN @aqE (aaN @anK (aaN @avS (aaN @apB (aaN @alF (aaN @arJ (aaN @apF (aaN @ak6 (aaN @anD (aaN @ax1 (aaN @as6 (aaN @alZ (aaN @bcO (aaN @baV (aaN @aqB (aaN @alJ (aaN @alE @alO))))))))))))))))))))))))))))))
def EVj:=PLift.up (aaN @apX (aaN @a78 (aaN @aq2 (aaN @anM (aaN @a3R (aaN @bfY (aaN @apG (aaN @anH (aaN @ar1 (aaN @alA (aaN @avA (aaN @ar9 (aaN @aC4 (aaN @ar6 (aaN @axX (aaN @ax9 (aaN @au7 (aaN @aXY (aaN @aU2 (aaN @aeF (aaN @a0U (aaN @a1W (aaN @asC (aaN @aAQ (aaN @azD (aaN @aN0 (aaN @aO4 @an1)))))))))))))))))))))))))))
def EVk:=PLift.up (aaN @amT (aaN @azE (aaN @ayN (aaN @apQ (aaN @amU (aaN @asI (aaN @aq1 (aaN @bcH (aaN @baU (aaN @beL (aaN @axL (aaN @avP (aaN @av4 (aaN @atM (aaN @au1 (aaN @alD (aaN @aNZ (aaN @avD (aaN @avQ (aaN @aFD (aaN @a4U (aaN @a29 @aAV))))))))))))))))))))))
def EVl:=PLift.up (aaN @ar7 (aaN @akW (aaN @atO (aaN @aHS (aaN @aNR (aaN @aN4 (aaN @amC (aaN @beJ (aaN @aqI (aaN @bbR (aaN @ap0 (aaN @anR (aaN @af9 (aaN @af6 (aaN @aaM (aaN @aP8 (aaN @ad1 (aaN @adW (aaN @ao4 (aaN @azB (aaN @arQ (aaN @awB.{0,0} (aaN @List.flatMap_nil.{0,0} (aaN @List.isEmpty_nil.{0} (aaN @List.isEmpty_cons.{0} (aaN @List.getD_cons_zero.{0} (aaN @List.range_succ (aaN @List.range_zero (aaN @List.contains_nil.{0} @List.contains_cons.{0})))))))))))))))))))))))))))))
def EVm:=PLift.up (aaN @List.getElem?_nil.{0} (aaN @aiU (aaN @xT (aaN @ah4 @aeN))))
end
noncomputable section
theorem bS{n:Nat}{fl nn:Bool}{rows:List (List AV)}(h:rows≠[]):Rn n fl nn rows=.imm n fl rows:=by
 cases rows with
 |nil=>exact(h rfl).elim
 |cons r rs=>rfl
theorem apY(n:Nat)(fl:Bool)(rows:List (List AV)):Rn n fl true rows=.imm n fl rows:=by cases rows<;>rfl
section
variable {P:Program} {t e:TypeId} (hu:P.underlying t=some (.slice e))
include hu
theorem adK(n:Nat)(fl:Bool)(rows:List (List AV)):Ze P .eql t (.imm n fl rows) .nils=some (.bool false):=by simp[Ze,Zn,hu]
end
def axR(v:Option AV)(ns:Option (List Qd)):Option Xt:=v.bind fun v=>ns.map fun ns=>⟨.ret v,ns,[]⟩
theorem akT(v:AV)(ns:List Qd):axR (some v) (some ns)=some ⟨.ret v,ns,[]⟩:=adC rfl rfl
theorem apN(base:Nat)(v:AV)(c:CB)(cs:List CB):ac0 base (some (.ret v,c::cs))=axR (Su 8 (fun i=>base+i) v) (Wy (fun i=>base+i) base (c::cs)):=by
 simp only[ac0,axR,afJ,Tu.v,Tu.map]
def ayG(h:Qa)(lent:List Nat)(v:Option AV)(ns:Option (List Qd)):OE:=v.bind fun v=>ns.map fun ns=>(.ret v,(if lent.isEmpty|| !(hasImm 8 v||ns.any Qd.hasImm)then []else Ui (hf h) lent)++ns)
theorem ah5(h:Qa)(lent:List Nat)(v:AV)(ns:List Qd):ayG h lent (some v) (some ns)=some (.ret v,(if(lent.isEmpty|| !(hasImm 8 v||ns.any Qd.hasImm))=true then []else Ui (hf h) lent)++ns):=adC rfl rfl
theorem al5(h:Qa)(base:Nat)(lent:List Nat)(v:AV)(c:CB)(cs:List CB):crR h base lent (some (.ret v,c::cs))=ayG h lent (Su 8 (fun i=>base+i) v) (Wy (fun i=>base+i) base (c::cs)):=by
 simp only[crR,ayG,afJ,Tu.v,Tu.map]
section
variable {O:Uo}
theorem beD(h:Qa)(f:Nat)(args:List AV):shC O h f args=if(lN args||O.md f)=true then shK h (O.call (.sh f) args (Xb h))else cr (Ta O (hf h) h.length (.fn f) args):=adC rfl rfl
end
theorem axU(b r o:Nat)(l:List AV):lN (.ptr b r o::l)=false:=adC rfl rfl
theorem aU3(a b r n:Nat)(l:List AV):lN (.slr a b r n::l)=false:=adC rfl rfl
theorem bc9(b:Nat)(l:List AV):lN (.yl b::l)=true:=adC rfl rfl
theorem aRR:Xb []=[]:=adC rfl rfl
theorem avZ(c:CB)(h:Qa):Xb (c::h)=c.clean::Xb h:=adC rfl rfl
theorem aUO(h h':Qa):Xb (h++h')=Xb h++Xb h':=List.map_append
theorem aKE(h:Qa)(b:Nat):(Xb h)[b]?=(h[b]?).map CB.clean:=by simp[Xb]
theorem aAI(h:Qa):(Xb h).length=h.length:=by simp[Xb]
theorem baR(ps:List Nat)(a b:Code)(t:List AV)(st:Yc):CB.clean (.lp ps a b t st)=.lp ps a b t st:=adC rfl rfl
def Qy(h:Qa):Bool:=h.all fun c=>c.quiet c.clean
theorem agW:∀{h:Qa} (_:Qy h=true) (i:Nat) (l:Qa),Rr i h (Xb h++l)=some (Wv (i+h.length) l)
 | [],_,i,l=>by simp[Xb,Rr]
 |c::h,hq,i,l=>by
  simp only[Qy,List.all_cons,arB]at hq
  have ih:=agW (h:=h) hq.2 (i+1) l
  simp only[Xb,List.map_cons,auQ,Rr,hq.1,cond_true]at ih ⊢
  rw[ih,aq7]
  congr 2;omega
theorem vV:∀(cs:List CB) (i:Nat) (h:Qa),Ry h (Wv i cs)=h++cs
 | [],i,h=>by simp[Wv,Ry]
 |c::cs,i,h=>by simp[Wv,Ry,aB,vV cs]
theorem rZ(h:Qa)(o:Tu)(h':Qa):shK h (some (o,h'))=(Rr 0 h h').map fun es=>(o,es):=adC rfl rfl
def EVo:=PLift.up (aaN @au9 (aaN @arO (aaN @auO (aaN @axG (aaN @axC (aaN @bb4 (aaN @avW (aaN @ayP (aaN @au5 (aaN @ayU (aaN @axI @aEX)))))))))))
def EVn:=PLift.up (aaN @ahI (aaN @ajB (aaN @akT (aaN @apN (aaN @ah5 @al5)))))
def EVp:=PLift.up (aaN @beD (aaN @axU (aaN @aU3 (aaN @bc9 (aaN @aRR (aaN @avZ (aaN @aUO (aaN @aKE (aaN @aAI @baR)))))))))
end
noncomputable section
def Si:CB→Option (Nat × Bool × List (List AV))
 | .live st fl _ rows=>some (st,fl,rows)
 | .frz st fl rows=>some (st,fl,rows)
 |_=>none
def fV(f:AV→Option (AV × List Nat)):List AV→Option (List AV × List Nat)
 | []=>some ([],[])
 |a::l=>(f a).bind fun p=>(fV f l).map fun q=>(p.1::q.1,p.2++q.2)
def Rz(f:AV→Option (AV × List Nat)):List (List AV)→Option (List (List AV) × List Nat)
 | []=>some ([],[])
 |r::rs=>(fV f r).bind fun p=>(Rz f rs).map fun q=>(p.1::q.1,p.2++q.2)
def rd:Nat→HF→AV→Option (AV × List Nat)
 |0,_,_=>none
 |d+1,g,v=>
  match v with
  | .slr st b r len=>((g b).bind Si).bind fun z=>
     if z.1=st∧r=0∧len=z.2.2.length then
      (bif z.2.1 then some (.imm st true z.2.2,[b])else(Rz (rd d g) z.2.2).map fun q=>(.imm st false q.1,b::q.2))
     else none
  | .agg cs=>(fV (rd d g) cs).map fun q=>(.agg q.1,q.2)
  | .iface t x=>(rd d g x).map fun q=>(.iface t q.1,q.2)
  | .func fn [] []=>some (.func fn [] [],[])
  | .func _ _ _=>none
  | .tup _=>none
  | .ptr _ _ _=>none
  | .yl _=>none
  | .mapr _=>none
  | .itr _=>none
  | .imm _ _ _=>none
  | .iptr _=>none
  |v=>some (v,[])
theorem fY{f f':AV→Option (AV × List Nat)}:∀{l:List AV} {p:List AV × List Nat},fV f l=some p→(∀x∈l,∀q,f x=some q→(∀b∈q.2,b∈p.2)→f' x=some q)→fV f' l=some p
 | [],p,h,_=>h
 |a::l,p,h,hf=>by
  simp only[fV,ae2,adQ]at h ⊢
  obtain⟨q,hq,r,hr,rfl⟩:=h
  exact⟨q,hf a (ai0 ..) q hq (fun b hb=>akX _ hb),r,fY hr (fun x hx q' hq' hs=>hf x (ag1 _ hx) q' hq' (fun b hb=>akY _ (hs b hb))),rfl⟩
theorem cO{f f':AV→Option (AV × List Nat)}:∀{l:List (List AV)} {p:List (List AV) × List Nat},Rz f l=some p→(∀r∈l,∀x∈r,∀q,f x=some q→(∀b∈q.2,b∈p.2)→f' x=some q)→Rz f' l=some p
 | [],p,h,_=>h
 |a::l,p,h,hf=>by
  simp only[Rz,ae2,adQ]at h ⊢
  obtain⟨q,hq,r,hr,rfl⟩:=h
  exact⟨q,fY hq (fun x hx q' hq' hs=>hf a (ai0 ..) x hx q' hq' (fun b hb=>akX _ (hs b hb))),r,
   cO hr (fun r' hr' x hx q' hq' hs=>hf r' (ag1 _ hr') x hx q' hq' (fun b hb=>akY _ (hs b hb))),rfl⟩
def Agr(R:List Nat)(g g':HF):Prop:=∀b∈R,∀z,(g b).bind Si=some z→(g' b).bind Si=some z
theorem tU{g g':HF}:∀{d:Nat} {v:AV} {p:AV × List Nat},rd d g v=some p→Agr p.2 g g'→rd d g' v=some p
 |0,v,p,h,_=>by simp[rd]at h
 |d+1,v,p,h,ha=>by
  cases v with
  |slr st b r len=>
   simp only[rd,ae2]at h ⊢
   obtain⟨z,⟨c,hc,hz⟩,h⟩:=h
   split at h
   ·rename_i hq
    have hb:b∈p.2:=by
     cases hfl:z.2.1 with
     |true=>rw[hfl]at h;simp at h;rw[←h];simp
     |false=>rw[hfl]at h;simp only[cond_false,adQ]at h;obtain⟨q,_,rfl⟩:=h;simp
    have hz':=ha b hb z (by rw[hc];exact hz)
    obtain⟨c',hc',hz''⟩:=ae2.1 hz'
    refine⟨z,⟨c',hc',hz''⟩,?_⟩
    rw[if_pos hq]
    cases hfl:z.2.1 with
    |true=>rw[hfl]at h;exact h
    |false=>
     rw[hfl]at h
     simp only[cond_false,adQ]at h ⊢
     obtain⟨q,hq',rfl⟩:=h
     exact⟨q,cO hq' (fun r' _ x _ q' hx hs=>tU hx (fun b' hb'=>ha b' (ag1 _ (hs b' hb')))),rfl⟩
   ·cases h
  |agg cs=>
   simp only[rd,adQ]at h ⊢
   obtain⟨q,hq,rfl⟩:=h
   exact⟨q,fY hq (fun x _ q' hx hs=>tU hx (fun b hb=>ha b (hs b hb))),rfl⟩
  |iface t x=>
   simp only[rd,adQ]at h ⊢
   obtain⟨q,hq,rfl⟩:=h
   exact⟨q,tU hq ha,rfl⟩
  |func fn a b=>cases a<;>cases b<;>first|exact h|(simp[rd]at h)
  |_=>first|exact h|(simp[rd]at h)
theorem agG{g:HF}:∀{d e:Nat} {v:AV} {p:AV × List Nat},d≤e→rd d g v=some p→rd e g v=some p
 |0,e,v,p,_,h=>by simp[rd]at h
 |d+1,0,v,p,he,h=>by omega
 |d+1,e+1,v,p,he,h=>by
  have IH:∀x q,rd d g x=some q→rd e g x=some q:=fun x q hx=>agG (by omega) hx
  cases v with
  |slr st b r len=>
   simp only[rd,ae2]at h ⊢
   obtain⟨z,hz,h⟩:=h
   refine⟨z,hz,?_⟩
   split at h
   ·rename_i hq
    rw[if_pos hq]
    cases hfl:z.2.1 with
    |true=>rw[hfl]at h;exact h
    |false=>
     rw[hfl]at h
     simp only[cond_false,adQ]at h ⊢
     obtain⟨q,hq',rfl⟩:=h
     exact⟨q,cO hq' (fun r' _ x _ q' hx _=>IH x q' hx),rfl⟩
   ·cases h
  |agg cs=>
   simp only[rd,adQ]at h ⊢
   obtain⟨q,hq,rfl⟩:=h
   exact⟨q,fY hq (fun x _ q' hx _=>IH x q' hx),rfl⟩
  |iface t x=>
   simp only[rd,adQ]at h ⊢
   obtain⟨q,hq,rfl⟩:=h
   exact⟨q,IH _ _ hq,rfl⟩
  |func fn a b=>cases a<;>cases b<;>first|exact h|(simp[rd]at h)
  |_=>first|exact h|(simp[rd]at h)
theorem lV{f:AV→Option (AV × List Nat)}{f':AV→Option AV}:∀{l:List AV} {p:List AV × List Nat},fV f l=some p→(∀x∈l,∀q,f x=some q→f' x=some q.1)→Ri f' l=some p.1
 | [],p,h,_=>by simp[fV]at h;subst h;rfl
 |a::l,p,h,hf=>by
  simp only[fV,ae2,adQ]at h
  obtain⟨q,hq,r,hr,rfl⟩:=h
  simp only[Ri,hf a (ai0 ..) q hq,afJ,lV hr (fun x hx=>hf x (ag1 _ hx)),ajY]
theorem oU{f:AV→Option (AV × List Nat)}{f':AV→Option AV}:∀{l:List (List AV)} {p:List (List AV) × List Nat},Rz f l=some p→(∀r∈l,∀x∈r,∀q,f x=some q→f' x=some q.1)→Ri (Ri f') l=some p.1
 | [],p,h,_=>by simp[Rz]at h;subst h;rfl
 |a::l,p,h,hf=>by
  simp only[Rz,ae2,adQ]at h
  obtain⟨q,hq,r,hr,rfl⟩:=h
  simp only[Ri,lV hq (fun x hx=>hf a (ai0 ..) x hx),afJ,oU hr (fun r' hr'=>hf r' (ag1 _ hr')),ajY]
theorem nG{g:HF}{b:Nat}{z:Nat × Bool × List (List AV)}(h:(g b).bind Si=some z):Ug g b 0 z.2.2.length=some z:=by
 obtain⟨c,hc,hz⟩:=ae2.1 h
 unfold Ug
 rw[hc]
 cases c with
 |live st fl w rows=>simp[Si]at hz;subst hz;simp
 |frz st fl rows=>simp[Si]at hz;subst hz;simp
 |dead=>simp[Si]at hz
 |lp=>simp[Si]at hz
theorem qQ{g:HF}:∀{d:Nat} {v:AV} {p:AV × List Nat},rd d g v=some p→Uf d g v=some p.1
 |0,v,p,h=>by simp[rd]at h
 |d+1,v,p,h=>by
  cases v with
  |slr st b r len=>
   simp only[rd,ae2]at h
   obtain⟨z,hz,h⟩:=h
   split at h
   ·rename_i hq
    obtain⟨rfl,rfl,rfl⟩:=hq
    simp only[Uf,nG (ae2.2 hz),afJ]
    cases hfl:z.2.1 with
    |true=>rw[hfl]at h;simp at h;rw[←h];rfl
    |false=>
     rw[hfl]at h
     simp only[cond_false,adQ]at h
     obtain⟨q,hq',rfl⟩:=h
     simp[oU hq' (fun r' _ x _ q' hx=>qQ hx)]
   ·cases h
  |agg cs=>
   simp only[rd,adQ]at h
   obtain⟨q,hq,rfl⟩:=h
   simp[Uf,lV hq (fun x _ q' hx=>qQ hx)]
  |iface t x=>
   simp only[rd,adQ]at h
   obtain⟨q,hq,rfl⟩:=h
   simp[Uf,qQ hq]
  |func fn a b=>cases a<;>cases b<;>first|(simp[rd]at h;subst h;rfl)|(simp[rd]at h)
  |_=>first|(simp[rd]at h;subst h;rfl)|(simp[rd]at h)
end
noncomputable section
open Go.RowKit
section
variable {P:Program} {O:Uo} {pr:aC}
def fnS(P:Program)(rs:List ResultVar)(x:R):Option (Tu × Qa):=
 match x with
 |some (.normal,s)|some (.ret,s)=>(bY P s rs).map fun vs=>(.ret (bM vs),s.h)
 |some (.pan v,s)=>some (.pan v,s.h)
 |_=>none
theorem aH6{f:Nat}{fn:Func}(hf:P.funcs[f]?=some fn){c:Code}(hb:fn.body=some c){args:List AV}(hl:args.length≤fn.ntmps)(h:Qa):
 evS O P f args h=fnS P fn.results.toList (Rx O P Xo c [] ⟨mk fn.ntmps (aU args),h⟩):=by
 unfold evS
 simp only[hf,hb]
 rw[amB _ _ hl]
 cases Rx O P Xo c [] ⟨mk fn.ntmps (aU args),h⟩with
 |none=>rfl
 |some x=>
  obtain⟨e,s⟩:=x
  cases e<;>rfl
def FnS(P:Program)(rs:List ResultVar)(Q:Tu→Qa→Prop)(x:R):Prop:=∃o h,fnS P rs x=some (o,h)∧Q o h
def RtS(vs:Option (List AV))(h:Qa)(Q:Tu→Qa→Prop):Prop:=
 match vs with
 |some vs=>Q (.ret (bM vs)) h
 |none=>False
theorem ad3(rs:List ResultVar)(Q:Tu→Qa→Prop)(t:List AV)(h:Qa):FnS P rs Q (some (.ret,⟨t,h⟩))=RtS (bY P ⟨t,h⟩ rs) h Q:=by
 cases hr:bY P ⟨t,h⟩ rs with
 |none=>simp[FnS,fnS,RtS,hr]
 |some vs=>
  have e:fnS P rs (some (.ret,⟨t,h⟩))=some (.ret (bM vs),h):=by simp[fnS,hr]
  exact propext (Iff.intro (fun⟨o,h',e',q⟩=>by rw[e]at e';cases e';exact q) (fun q=>⟨_,_,e,q⟩))
theorem bB(rs:List ResultVar)(Q:Tu→Qa→Prop)(t:List AV)(h:Qa):FnS P rs Q (some (.normal,⟨t,h⟩))=RtS (bY P ⟨t,h⟩ rs) h Q:=by
 rw[←ad3];rfl
theorem amI(vs:List AV)(h:Qa)(Q:Tu→Qa→Prop):RtS (some vs) h Q=Q (.ret (bM vs)) h:=adC rfl rfl
theorem al2{rs:List ResultVar}{Q:Tu→Qa→Prop}:¬FnS P rs Q none:=fun⟨_,_,h,_⟩=>by simp[fnS]at h
def ShQ(O:Uo)(f:Nat)(args:List AV)(h:Qa)(Q:Tu→Qa→Prop):Prop:=∃o h',O.call (.sh f) args h=some (o,h')∧Q o h'
theorem ShQ.start{f:Nat}{fn:Func}{c:Code}{args:List AV}{h:Qa}{Q:Tu→Qa→Prop}(hp:pr f=none)(hf:P.funcs[f]?=some fn)(hb:fn.body=some c)(hl:Nat.ble args.length fn.ntmps=true)
 (he:FnS P fn.results.toList Q (Rx (om P pr) P 5000 c [] ⟨mk fn.ntmps (aU args),h⟩)) (hs:pr.sh f=none:=by exact rfl):ShQ (om P pr) f args h Q:=by
 obtain⟨o,h',e,q⟩:=he
 exact⟨o,h',axA hp hs ((aH6 hf hb (Nat.le_of_ble_eq_true hl) h).trans e),q⟩
theorem ShQ.eq{f:Nat}{args:List AV}{h:Qa}{o:Tu}{h':Qa}(k:ShQ O f args h fun o1 h1=>(o1,h1)=(o,h')):O.call (.sh f) args h=some (o,h'):=by
 obtain⟨o1,h1,e,q⟩:=k
 rw[e,q]
def ncK(x:Option AV):OE:=
 match x with
 |some (.ptr b r o)=>some (.ret (.ptr b r o),[])
 |some (.iptr cs)=>some (.ret (.iptr cs),[])
 |some (.func (.func f) a c)=>some (.ret (.func (.func f) a c),[])
 |_=>none
theorem aLK(b r o:Nat):ncK (some (.ptr b r o))=some (.ret (.ptr b r o),[]):=adC rfl rfl
theorem a1S(t:List AV)(h:Qa)(x:Operand):Tt O P t h (.nilCheck x)=ncK (Qe t x):=by
 rw[Rw _ _ _ rfl]
 simp only[exec,ncK]
 cases Qe t x with
 |none=>rfl
 |some v=>
  cases v with
  |func fn a c=>cases fn<;>rfl
  |_=>rfl
theorem a0N(t:List AV)(h:Qa)(x:Operand):kR O P t h (.nilCheck x)=some []:=adC rfl rfl
end
def EVq:=PLift.up (aaN @ad3 (aaN @bB (aaN @amI (aaN @aLK (aaN @a1S @a0N)))))
end
noncomputable section
open Go.RowKit
section
variable {P:Program} {O:Uo}
end
def aD5(k st:Nat)(fl:Bool)(rows:List (List AV))(v:AV)(g:Qa):Prop:=
 (rows=[]∧v=.nils)∨∃b w,v=.slr st (b+k) 0 rows.length∧g[b]?=some (.live st fl w rows)
def kl(k:Nat)(v:AV)(g:Qa):Qa:=
 match v with
 | .slr _ b _ _=>g.set (b-k) .dead
 |_=>g
theorem oC(k:Nat)(v:AV)(g:Qa):(kl k v g).length=g.length:=by
 unfold kl;split<;>simp
def apE(v:AV)(st:Nat)(fl:Bool)(rows:List (List AV))(base:Nat):List Qd:=
 match v with
 | .slr _ b _ _=>[.put b .dead,.new base (.live st fl false rows)]
 |_=>[.new base (.live st fl false rows)]
theorem asE{k n:Nat}{fl:Bool}{rows:List (List AV)}{v:AV}{g:Qa}(ho:aD5 k n fl rows v g){pre:Qa}(hk:pre.length=k)(l:Qa)(r:List AV)(new:List (List AV))(hl:rows.length+(new.length+1)≤549755813888):
 apK n (pre++(g++l)) (some v) (some (fl,r::new))=some (.ret (.slr n (pre++(g++l)).length 0 (rows.length+(r::new).length)),apE v n fl (rows++r::new) (pre++(g++l)).length):=by
 rcases ho with⟨rfl,rfl⟩|⟨b,w,rfl,h2⟩
 ·rw[ad1,if_pos (by simp at hl ⊢;omega)]
  simp[apE]
 ·have hb:=(aj6.1 h2).1
  have hq:(pre++(g++l))[b+k]?=some (.live n fl w rows):=by
   rw[aY5 (by omega),aw2 (by omega)]
   rw[show b+k-pre.length=b by omega];exact h2
  rw[adW,hq,aaM,if_pos ⟨rfl,by omega,by simp only[aq7];omega⟩]
  simp[apE]
theorem alP{k n:Nat}{fl:Bool}{rows:List (List AV)}{v:AV}{g:Qa}(ho:aD5 k n fl rows v g){pre:Qa}(hk:pre.length=k)(l:Qa)(st:Nat)(fl':Bool)(rows':List (List AV))(base:Nat):
 Ry (pre++(g++l)) (apE v st fl' rows' base)=pre++(kl k v g++(l++[.live st fl' false rows'])):=by
 rcases ho with⟨rfl,rfl⟩|⟨b,w,rfl,h2⟩
 ·simp[apE,Ry,aB,kl]
 ·have hb:=(aj6.1 h2).1
  simp only[apE,Ry,aB,kl,Nat.add_sub_cancel]
  rw[List.set_append_right _ _ (by omega),show b+k-pre.length=b by omega,List.set_append_left _ _ hb]
  simp
section
variable {P:Program} (ty:TypeId)
end
theorem yA{α:Type}{f:α→Option α}:∀{l:List α},(∀x∈l,f x=some x)→Ri f l=some l
 | [],_=>rfl
 |a::l,h=>by simp only[Ri,h a (ai0 ..),afJ,yA (fun x hx=>h x (ag1 _ hx)),ajY]
end
noncomputable section
open Go.RowKit
section
variable {P:Program} {O:Uo} {pr:aC}
def rnX(O:Uo)(P:Program)(n:Nat)(k:List Qm)(t:List AV)(b:Nat)(h2:Qa)(x:Option CB):R:=
 match x with
 |some (.lp _ _ _ _ .ready)=>Rq (Rx O P n) k .normal ⟨t,h2.set b .dead⟩
 |some (.lp _ _ _ _ (.done .ret))=>Rq (Rx O P n) k .ret ⟨t,h2.set b .dead⟩
 |some (.lp _ _ _ _ (.done (.exit i)))=>Rq (Rx O P n) k (.exit i) ⟨t,h2.set b .dead⟩
 |_=>none
def rnE(O:Uo)(P:Program)(n:Nat)(k:List Qm)(t:List AV)(b:Nat)(h1:Qa)(x:OE):R:=
 match x with
 |some (.ret _,es)=>rnX O P n k t b (Ry h1 es) ((Ry h1 es)[b]?)
 |_=>none
def rnC(O:Uo)(h1:Qa)(b:Nat)(fv:Option AV):OE:=
 match fv with
 |some (.func (.func g) a c)=>cr (Uk O (hf h1) h1.length (cG g (a++[.yl b]++c)) (a++[.yl b]++c))
 |_=>none
theorem a8M(n:Nat)(k:List Qm)(t:List AV)(b:Nat)(h1:Qa)(x:Option Xt):
 (x.bind fun d=>match d.out with
   | .ret _=>
     let h2:=Ry h1 d.es
     match h2[b]? with
     |some (.lp _ _ _ _ .ready)=>Rq (Rx O P n) k .normal ⟨t,h2.set b .dead⟩
     |some (.lp _ _ _ _ (.done .ret))=>Rq (Rx O P n) k .ret ⟨t,h2.set b .dead⟩
     |some (.lp _ _ _ _ (.done (.exit i)))=>Rq (Rx O P n) k (.exit i) ⟨t,h2.set b .dead⟩
     |_=>none
   | .pan _=>none)=rnE O P n k t b h1 (cr x):=by
 cases x with
 |none=>rfl
 |some d=>
  obtain⟨o,es,fs⟩:=d
  cases o<;>rfl
theorem aL1(n:Nat)(f:Operand)(ps:Array Nat)(asg body:Code)(k:List Qm)(t:List AV)(h:Qa):
 Rx O P (n+1) (.rangeFunc f ps asg body) k ⟨t,h⟩=rnE O P n k t h.length (h++[.lp ps.toList asg body t .ready]) (rnC O (h++[.lp ps.toList asg body t .ready]) h.length (Qe t f)):=by
 simp only[Rx,rnC]
 cases Qe t f with
 |none=>rfl
 |some v=>
  simp only[afJ]
  cases v with
  |func fn a c=>
   cases fn with
   |func g=>exact a8M n k t h.length _ _
   |_=>rfl
  |_=>rfl
theorem aAR(h1:Qa)(b g:Nat)(a c:List AV):rnC O h1 b (some (.func (.func g) a c))=if qP (a++[.yl b]++c)=true then shC O h1 g (a++[.yl b]++c)else cr (Ta O (hf h1) h1.length (.fn g) (a++[.yl b]++c)):=aqR h1 g _
theorem atN(n:Nat)(k:List Qm)(t:List AV)(b:Nat)(h1:Qa)(v:AV)(es:List Qd):rnE O P n k t b h1 (some (.ret v,es))=rnX O P n k t b (Ry h1 es) ((Ry h1 es)[b]?):=adC rfl rfl
theorem ah3(n:Nat)(k:List Qm)(t:List AV)(b:Nat)(h2:Qa)(ps:List Nat)(asg body:Code)(tm:List AV):rnX O P n k t b h2 (some (.lp ps asg body tm .ready))=Rq (Rx O P n) k .normal ⟨t,h2.set b .dead⟩:=adC rfl rfl
def slK(h:Qa)(b:Nat)(ok:Yc→Bool)(st:Yc)(x:Option CB):Option Qa:=
 match x with
 |some (.lp ps asg body tmps st')=>if ok st' then some (h.set b (.lp ps asg body tmps st))else none
 |_=>none
theorem a01(h:Qa)(b:Nat)(ok:Yc→Bool)(st:Yc):aA h b ok st=slK h b ok st (h[b]?):=by
 unfold aA slK
 cases h[b]? with
 |none=>rfl
 |some c=>cases c<;>rfl
theorem aoG(h:Qa)(b:Nat)(st:Yc)(ps:List Nat)(asg body:Code)(tm:List AV):slK h b Yc.isReady st (some (.lp ps asg body tm .ready))=some (h.set b (.lp ps asg body tm st)):=adC rfl rfl
theorem atD(h:Qa)(b:Nat)(st:Yc)(ps:List Nat)(asg body:Code)(tm:List AV):slK h b Yc.isBusy st (some (.lp ps asg body tm .busy))=some (h.set b (.lp ps asg body tm st)):=adC rfl rfl
def auD(O:Uo)(P:Program)(body:Code)(t:List AV)(x:Option Qa):R:=
 match x with
 |some h1=>Rx O P 5000 body [] ⟨t,h1⟩
 |none=>none
def an8(O:Uo)(P:Program)(b:Nat)(body:Code)(x:R):R:=
 match x with
 |some (.normal,s)=>auD O P body s.tmps (aA s.h b Yc.isReady .busy)
 |_=>none
def abD(r:Bool)(x:Option Qa):Option (Tu × Qa):=x.map fun h2=>(.ret (.bool r),h2)
def aj9(b:Nat)(x:R):Option (Tu × Qa):=
 match x with
 |some (.normal,s)=>abD true (aA s.h b Yc.isBusy .ready)
 |some (.ret,s)=>abD false (aA s.h b Yc.isBusy (.done .ret))
 |some (.exit i,s)=>abD false (aA s.h b Yc.isBusy (.done (.exit i)))
 |_=>none
theorem akN(body:Code)(t:List AV)(h:Qa):auD O P body t (some h)=Rx O P 5000 body [] ⟨t,h⟩:=adC rfl rfl
theorem ab6(b:Nat)(body:Code)(t:List AV)(h:Qa):an8 O P b body (some (.normal,⟨t,h⟩))=auD O P body t (aA h b Yc.isReady .busy):=adC rfl rfl
theorem aiB(r:Bool)(h:Qa):abD r (some h)=some (.ret (.bool r),h):=adC rfl rfl
theorem aqC{vs:List AV}{b:Nat}{h:Qa}{ps:List Nat}{asg body:Code}{tm:List AV}{st:Yc}(hb:h[b]?=some (.lp ps asg body tm st))(hl:ps.length=vs.length):
 Za O P (vs++[.yl b]) h=aj9 b (an8 O P b body (Rx O P 5000 asg [] ⟨aP tm ps vs,h⟩)):=by
 unfold Za
 simp only[List.reverse_append,List.reverse_cons,List.reverse_nil,aoR,auQ,List.reverse_reverse,List.length_reverse,hb,hl,if_true,Xo]
 cases Rx O P 5000 asg [] ⟨aP tm ps vs,h⟩with
 |none=>rfl
 |some x=>
  obtain⟨e,s⟩:=x
  cases e with
  |normal=>
   simp only[afJ,an8]
   cases aA s.h b Yc.isReady .busy with
   |none=>rfl
   |some h1=>
    simp only[afJ,auD]
    cases Rx O P 5000 body [] ⟨s.tmps,h1⟩with
    |none=>rfl
    |some y=>
     obtain⟨e,s⟩:=y
     cases e with
     |normal=>simp only[afJ,Zz,aj9,abD];cases aA s.h b Yc.isBusy .ready<;>rfl
     |ret=>simp only[afJ,Zz,aj9,abD];cases aA s.h b Yc.isBusy (.done .ret)<;>rfl
     |exit i=>simp only[afJ,Zz,aj9,abD];cases aA s.h b Yc.isBusy (.done (.exit i))<;>rfl
     |pan v=>rfl
  |_=>rfl
def RnE(b:Nat)(Q:Tu→Qa→Prop)(x:R):Prop:=∃o h',aj9 b x=some (o,h')∧Q o h'
def RnQ(O:Uo)(args:List AV)(h:Qa)(Q:Tu→Qa→Prop):Prop:=∃o h',O.call .round args h=some (o,h')∧Q o h'
theorem RnQ.start{vs:List AV}{b:Nat}{h:Qa}{ps:List Nat}{asg body:Code}{tm:List AV}{st:Yc}{Q:Tu→Qa→Prop}(hb:h[b]?=some (.lp ps asg body tm st))(hl:ps.length=vs.length)
 (he:RnE b Q (an8 (om P pr) P b body (Rx (om P pr) P 5000 asg [] ⟨aP tm ps vs,h⟩))):RnQ (om P pr) (vs++[.yl b]) h Q:=by
 obtain⟨o,h',e,q⟩:=he
 exact⟨o,h',aa5 ((aqC hb hl).trans e),q⟩
theorem aRB{C:R→Prop}{n f b:Nat}{k:List Qm}{t:List AV}{h1 h2:Qa}{args:List AV}{Q:Tu→Qa→Prop}(hq:ShQ O f args h2 Q)(hk:∀o h',Q o h'→C (rnE O P n k t b h1 (shK h1 (some (o,h'))))):C (rnE O P n k t b h1 (shK h1 (O.call (.sh f) args h2))):=by
 obtain⟨o,h',e,q⟩:=hq
 rw[e];exact hk o h' q
theorem ajF(b:Nat)(Q:Tu→Qa→Prop)(t:List AV)(h:Qa):RnE b Q (some (.normal,⟨t,h⟩))=∃o h',abD true (aA h b Yc.isBusy .ready)=some (o,h')∧Q o h':=adC rfl rfl
theorem au8(h:Qa)(f:Nat)(args:List AV):afG O h f args=if(lN args||O.md f)=true then some [.all]else ftR h args:=adC rfl rfl
theorem amQ{b:Nat}{Q:Tu→Qa→Prop}:¬RnE b Q none:=fun⟨_,_,h,_⟩=>by simp[aj9]at h
theorem av5(n:Nat)(t:Tm)(p:Nat)(ps:List Nat)(v:AV)(vs:List AV):aP (mk n t) (p::ps) (v::vs)=aP (mk n (up t p v)) ps vs:=by
 simp only[aP,ao2]
theorem aC7(n:Nat)(t:Tm)(vs:List AV):aP (mk n t) [] vs=mk n t:=by cases vs<;>rfl
end
def dD(f:Nat→Nat):Rb→Rb
 | .cells b o n=>.cells (f b) o n
 | .blk b=>.blk (f b)
 | .all=>.all
def lgF(f:Nat→Nat)(log:bW):List (List Rb × List Rb):=log.map fun x=>(x.1.map fun e=>dD f e.foot,x.2.map (dD f))
def yT(x y:List Rb × List Rb):Bool:=x.1.any (fun f=>(y.1++y.2).any f.meets)||y.1.any (fun f=>x.2.any f.meets)
def wS(ops:List Oper)(lg:List (List Rb × List Rb)):Bool:=
 (pM ops).all fun(i,j)=>match lg[i]?,lg[j]? with
   |some x,some y=> !yT x y
   |_,_=>false
def afE(n q:Nat)(b:Nat):Nat:=if b<q then b else b-n+1000
theorem eM{n q b:Nat}(h:b<q):afE n q b=b:=by simp[afE,h]
theorem rJ(f:Nat→Nat)(x y:Rb)(h:x.meets y=true):(dD f x).meets (dD f y)=true:=by
 cases x<;>cases y<;>simp_all[Rb.meets,dD]
theorem alW(f:Nat→Nat)(x y:List Qd × List Rb)(h:Zg x y=true):yT (x.1.map fun e=>dD f e.foot,x.2.map (dD f)) (y.1.map fun e=>dD f e.foot,y.2.map (dD f))=true:=by
 simp only[Zg,yT,aw4,aY6,aj8,akZ]at h ⊢
 rcases h with⟨a,⟨e,he,rfl⟩,b,hb,hm⟩|⟨a,⟨e,he,rfl⟩,b,hb,hm⟩
 ·refine .inl ⟨_,⟨e,he,rfl⟩,dD f b,?_,rJ f _ _ hm⟩
  rcases hb with⟨e',he',rfl⟩|hb
  ·exact .inl ⟨e',he',rfl⟩
  ·exact .inr ⟨b,hb,rfl⟩
 ·exact .inr ⟨_,⟨e,he,rfl⟩,dD f b,⟨b,hb,rfl⟩,rJ f _ _ hm⟩
theorem qL(f:Nat→Nat){ops:List Oper}{log:bW}(h:wS ops (lgF f log)=true):Tq ops log=true:=by
 simp only[wS,Tq,ak0]at h ⊢
 rintro⟨i,j⟩ hij
 have:=h (i,j) hij
 simp only[lgF,aq5]at this ⊢
 cases hi:log[i]? with
 |none=>simp[hi]at this
 |some x=>
  cases hj:log[j]? with
  |none=>simp[hi,hj]at this
  |some y=>
   simp only[hi,hj,ajY,aY7,aY8]at this ⊢
   cases hc:Zg x y with
   |false=>rfl
   |true=>rw[alW f x y hc]at this;cases this
theorem xM(n q:Nat){C:R→Prop}{ops:List Oper}{log:bW}{k:R}(hb:wS ops (lgF (afE n q) log)=true)(h:True→C k):C (Vm (Tq ops log) k):=rS (qL _ hb) h
theorem kW(f:Nat→Nat):lgF f []=[]:=adC rfl rfl
theorem eI(f:Nat→Nat)(x:List Qd)(y:List Rb)(l:bW):lgF f ((x,y)::l)=(x.map (fun e=>dD f e.foot),y.map (dD f))::lgF f l:=adC rfl rfl
theorem bR(f:Nat→Nat)(b o n:Nat):dD f (.cells b o n)=.cells (f b) o n:=adC rfl rfl
theorem kM(f:Nat→Nat)(b:Nat):dD f (.blk b)=.blk (f b):=adC rfl rfl
theorem kL(b:Nat)(c:CB):Qd.foot (.new b c)=.blk b:=adC rfl rfl
theorem kG(b:Nat)(c:CB):Qd.foot (.put b c)=.blk b:=adC rfl rfl
theorem bK(b r o:Nat)(vs:List AV):Qd.foot (.cells b r o vs)=.cells b o vs.length:=adC rfl rfl
section
variable {P:Program} {O:Uo}
end
def EVs:=PLift.up (aaN @aL1 (aaN @aAR (aaN @atN (aaN @ah3 (aaN @a01 (aaN @aoG (aaN @atD (aaN @akN (aaN @ab6 (aaN @aiB (aaN @ajF (aaN @av5 (aaN @au8 @aC7)))))))))))))
end
noncomputable section
open Go.RowKit
set_option maxRecDepth 100000
def EVZ:=PLift.up (aaN EVa.down (aaN EVb.down (aaN EVc.down (aaN EVd.down (aaN EVe.down (aaN EVf.down (aaN EVg.down (aaN EVh.down (aaN EVi.down (aaN EVj.down (aaN EVk.down (aaN EVl.down (aaN EVm.down (aaN EVn.down (aaN EVo.down (aaN EVp.down EVq.down))))))))))))))))
section
variable {P:Program} {O:Uo}
class NoN(C:R→Prop):Prop where
 no:¬C none
instance{q:Nat}{rs:List ResultVar}{Q:Tu→Qa→Prop}:NoN (FnE P q rs Q):=⟨apZ⟩
instance{rs:List ResultVar}{Q:Tu→Qa→Prop}:NoN (FnS P rs Q):=⟨al2⟩
instance{N:Nat}{J:Tm→Qa→Prop}{Q:Ex→St→Prop}:NoN (zB N J Q):=⟨anB⟩
instance{b:Nat}{Q:Tu→Qa→Prop}:NoN (RnE b Q):=⟨amQ⟩
end
end
noncomputable section
open Go.RowKit
set_option maxRecDepth 100000
section
variable {P:Program} {O:Uo}
class Spl(r:R)(b:outParam Bool)(x y:outParam R):Prop where
 sp:∀{C:R→Prop},(b=true→C x)→(b=false→C y)→C r
instance{n:Nat}{k:List Qm}{d:Option Nat}{op:Op}{cs:List CO}{b w:Bool}{t:List AV}{h:Qa}:Spl (rcG O P n k d op cs (.bool b) w t h) b (rcG O P n k d op cs (.bool true) w t h) (rcG O P n k d op cs (.bool false) w t h):=⟨bbZ⟩
instance{n:Nat}{x y:Code}{k:List Qm}{g:Bool}{s:St}:Spl (cdK O P n x y k (some (.bool g)) s) g (Rx O P n x k s) (Rx O P n y k s):=⟨a0O⟩
instance{n:Nat}{k:List Qm}{d:Option Nat}{op:Op}{cs:List CO}{b w:Bool}{t:List AV}{h:Qa}:Spl (rqG O P n k d op cs (.bool b) w t h) b (rqG O P n k d op cs (.bool true) w t h) (rqG O P n k d op cs (.bool false) w t h):=⟨baN⟩
instance{n:Nat}{k:List Qm}{d:Option Nat}{op:Op}{cs:List CO}{b w:Bool}{t:List AV}{h:Qa}:Spl (rwG O P n k d op cs (.bool b) w t h) b (rwG O P n k d op cs (.bool true) w t h) (rwG O P n k d op cs (.bool false) w t h):=⟨a4L⟩
instance{n:Nat}{k:List Qm}{ops:List Oper}{d:Option Nat}{op:Op}{cs:List CO}{b w:Bool}{t:List AV}{h:Qa}{log:bW}:Spl (rlG O P n k ops d op cs (.bool b) w t h log) b (rlG O P n k ops d op cs (.bool true) w t h log) (rlG O P n k ops d op cs (.bool false) w t h log):=⟨beE⟩
theorem Qp{C:R→Prop}{r x y:R}{b:Bool}(h1:b=true→C x)(h2:b=false→C y)(s:Spl r b x y:=by infer_instance):C r:=s.sp h1 h2
class Drw(i:Nat)(r:R)(c:outParam Bool)(r':outParam R):Prop where
 dr:∀{C:R→Prop},¬C none→c=true→C r'→C r
instance{b:Bool}{k:R}:Drw 0 (Vm b k) b k:=⟨fun _=>awT⟩
instance{n id:Nat}{ops:Array Oper}{k:List Qm}{t:List AV}{h:Qa}:Drw 1 (Rx O P (n+1) (.region id ops true) k ⟨t,h⟩) (Zk ops.toList&&afT ops.toList) (rw O P n k (ops.toList.map (Wh ops.toList)) t h):=⟨fun h=>a8F h⟩
instance{n id:Nat}{ops:Array Oper}{k:List Qm}{t:List AV}{h:Qa}:Drw 2 (Rx O P (n+1) (.region id ops true) k ⟨t,h⟩) (Zk ops.toList&&a6D ops.toList) (rq O P n k (ops.toList.map (Wh ops.toList)) t h):=⟨fun h=>a3Z h⟩
instance{n id:Nat}{ops:Array Oper}{k:List Qm}{t:List AV}{h:Qa}:Drw 3 (Rx O P (n+1) (.region id ops true) k ⟨t,h⟩) (Zk ops.toList) (rl O P n k ops.toList (ops.toList.map (Wh ops.toList)) t h []):=⟨fun h=>bcZ h⟩
structure Dw(r r':R):Prop where
 dr:∀{C:R→Prop},¬C none→C r'→C r
theorem dg{r r':R}{c:Bool}[d:Drw 0 r c r'](h:c=true:=by kernel_rfl):Dw r r':=⟨fun n k=>d.dr n h k⟩
theorem dw(i:Nat){r r':R}{c:Bool}[d:Drw i r c r'](h:c=true:=by decide+kernel):Dw r r':=⟨fun n k=>d.dr n h k⟩
theorem fd{C:R→Prop}{r r':R}[n:NoN C](k:C r')(e:Dw r r':=by first|exact dg|exact dw 1|exact dw 2|exact dw 3):C r:=e.dr n.no k
theorem aH{C:R→Prop}{r r':R}[n:NoN C](k:C r')(e:Dw r r':=by first|exact dg|exact dw 1|exact dw 3):C r:=e.dr n.no k
theorem fdq{C:R→Prop}{r r':R}[n:NoN C](k:C r')(e:Dw r r':=by first|exact dw 1|exact dw 2|exact dw 3):C r:=e.dr n.no k
end
section
variable {P:Program} {O:Uo}
def Un(O:Uo)(P:Program)(n:Nat)(k:List Qm)(c:Code)(C:R→Prop):R→Prop
 |some (.normal,s)=>C (lpK O P n k (O.loop c s))
 |some (e,s)=>C (Rq (Rx O P n) k e s)
 |none=>False
instance{n:Nat}{k:List Qm}{c:Code}{C:R→Prop}:NoN (Un O P n k c C):=⟨fun h=>h⟩
end
theorem al3:IntKind.i64.wrap 1=1:=adC rfl rfl
def EE:=PLift.up (aaN EVZ.down (aaN @al3 (aaN @Wh.eq_1 (aaN @Qe.eq_1 (aaN @Qe.eq_2 (aaN @Qe.eq_4 (aaN @Rf.eq_1 (aaN @Rf.eq_2 (aaN @wB.eq_3 (aaN @iD.eq_1 (aaN @iD.eq_2 (aaN @iD.eq_4 (aaN @iD.eq_5 (aaN @iD.eq_6 (aaN @iD.eq_8 (aaN @Ry.eq_1 (aaN @Ry.eq_2 (aaN @aB.eq_1 (aaN @aB.eq_2 (aaN @aB.eq_3 (aaN @Xu.eq_1 (aaN @Sj.eq_1 (aaN @bsK.eq_1 (aaN @bM.eq_1 (aaN @bM.eq_2 (aaN @decide_true @decide_false))))))))))))))))))))))))))
def EF:=PLift.up (aaN EE.down EE.down)
def EG:=PLift.up (aaN EF.down EVs.down)
end
noncomputable section
open Go.RowKit
def Cl(g:HF)(S:List Nat):Prop:=∀b∈S,∃z,(g b).bind Si=some z∧(z.2.1=false→∃d q,d≤8∧Rz (rd d g) z.2.2=some q∧∀x∈q.2,x∈S)
theorem Cl.nil(g:HF):Cl g []:=fun _ h=>by cases h
theorem Cl.app{g:HF}{S T:List Nat}(h1:Cl g S)(h2:Cl g T):Cl g (S++T):=fun b hb=>by
 rcases aj8.1 hb with h|h
 ·obtain⟨z,k1,k2⟩:=h1 b h
  exact⟨z,k1,fun e=>by obtain⟨d,q,a1,a2,a3⟩:=k2 e;exact⟨d,q,a1,a2,fun x hx=>akX _ (a3 x hx)⟩⟩
 ·obtain⟨z,k1,k2⟩:=h2 b h
  exact⟨z,k1,fun e=>by obtain⟨d,q,a1,a2,a3⟩:=k2 e;exact⟨d,q,a1,a2,fun x hx=>akY _ (a3 x hx)⟩⟩
theorem clL{g:HF}{f:AV→Option (AV × List Nat)}:∀{l:List AV} {p:List AV × List Nat},fV f l=some p→(∀x∈l,∀q,f x=some q→Cl g q.2)→Cl g p.2
 | [],p,h,_=>by simp[fV]at h;subst h;exact Cl.nil g
 |a::l,p,h,hf=>by
  simp only[fV,ae2,adQ]at h
  obtain⟨q,hq,r,hr,rfl⟩:=h
  exact(hf a (ai0 ..) q hq).app (clL hr fun x hx=>hf x (ag1 _ hx))
theorem clR{g:HF}{f:AV→Option (AV × List Nat)}:∀{l:List (List AV)} {p:List (List AV) × List Nat},Rz f l=some p→(∀r∈l,∀x∈r,∀q,f x=some q→Cl g q.2)→Cl g p.2
 | [],p,h,_=>by simp[Rz]at h;subst h;exact Cl.nil g
 |a::l,p,h,hf=>by
  simp only[Rz,ae2,adQ]at h
  obtain⟨q,hq,r,hr,rfl⟩:=h
  exact(clL hq (hf a (ai0 ..))).app (clR hr fun x hx=>hf x (ag1 _ hx))
theorem an3{g:HF}:∀{d:Nat} {v:AV} {p:AV × List Nat},d≤9→rd d g v=some p→Cl g p.2
 |0,v,p,_,h=>by simp[rd]at h
 |d+1,v,p,hd,h=>by
  have IH:∀x q,rd d g x=some q→Cl g q.2:=fun x q hx=>an3 (by omega) hx
  cases v with
  |slr st b r len=>
   simp only[rd,ae2]at h
   obtain⟨z,hz,h⟩:=h
   have hz':(g b).bind Si=some z:=ae2.2 hz
   split at h
   ·cases hfl:z.2.1 with
    |true=>
     rw[hfl]at h;simp at h;rw[←h]
     intro b' hb'
     simp at hb';subst hb'
     exact⟨z,hz',fun e=>by rw[hfl]at e;cases e⟩
    |false=>
     rw[hfl]at h;simp only[cond_false,adQ]at h
     obtain⟨q,hq,rfl⟩:=h
     intro b' hb'
     rcases ajM.1 hb' with rfl|hb'
     ·exact⟨z,hz',fun _=>⟨d,q,by omega,hq,fun x hx=>ag1 _ hx⟩⟩
     ·obtain⟨z',k1,k2⟩:=clR hq (fun r _ x _=>IH x) b' hb'
      exact⟨z',k1,fun e=>by obtain⟨d',q',a1,a2,a3⟩:=k2 e;exact⟨d',q',a1,a2,fun x hx=>ag1 _ (a3 x hx)⟩⟩
   ·cases h
  |agg cs=>
   simp only[rd,adQ]at h
   obtain⟨q,hq,rfl⟩:=h
   exact clL hq fun x _=>IH x
  |iface t x=>
   simp only[rd,adQ]at h
   obtain⟨q,hq,rfl⟩:=h
   exact IH x q hq
  |func fn a b=>
   cases a<;>cases b<;>first|(simp[rd]at h;subst h;exact Cl.nil g)|(simp[rd]at h)
  |_=>first|(simp[rd]at h;subst h;exact Cl.nil g)|(simp[rd]at h)
end
end Go.Ev
namespace Go.Ev
open Go.RowKit
structure Kp(lent:List Nat)(H H1:Qa):Prop where
 len:H.length≤H1.length
 rows:∀b,b<H.length→(hf H1 b).bind Si=(hf H b).bind Si
 same:∀b,b<H.length→b∉lent→H1[b]?=H[b]?
end Go.Ev
namespace Go.Ev
noncomputable section
open Go.RowKit
theorem qO{g:HF}:∀{d e:Nat} {v:AV} {p:AV × List Nat},d≤e→rd d g v=some p→Vp e g v=some p.1
 |0,e,v,p,_,h=>by simp[rd]at h
 |d+1,0,v,p,he,h=>by omega
 |d+1,e+1,v,p,he,h=>by
  cases v with
  |slr st b r len=>exact qQ (agG he h)
  |agg cs=>
   simp only[rd,adQ]at h
   obtain⟨q,hq,rfl⟩:=h
   simp[Vp,lV (f':=Vp e g) hq (fun x _ q' hx=>qO (show d≤e by omega) hx)]
  |iface t x=>
   simp only[rd,adQ]at h
   obtain⟨q,hq,rfl⟩:=h
   simp[Vp,qO (show d≤e by omega) hq]
  |func fn a b=>cases a<;>cases b<;>first|(simp[rd]at h;subst h;rfl)|(simp[rd]at h)
  |_=>first|(simp[rd]at h;subst h;rfl)|(simp[rd]at h)
theorem ao5{f:AV→Option (AV × List Nat)}{f':AV→List Nat}:∀{l:List AV} {p:List AV × List Nat},fV f l=some p→(∀x∈l,∀q,f x=some q→∀b∈f' x,b∈q.2)→∀b∈l.flatMap f',b∈p.2
 | [],p,h,_=>fun b hb=>by simp at hb
 |a::l,p,h,hf=>fun b hb=>by
  simp only[fV,ae2,adQ]at h
  obtain⟨q,hq,r,hr,rfl⟩:=h
  rw[awB]at hb
  rcases aj8.1 hb with hb|hb
  ·exact akX _ (hf a (ai0 ..) q hq b hb)
  ·exact akY _ (ao5 hr (fun x hx=>hf x (ag1 _ hx)) b hb)
theorem awW{f:AV→Option (AV × List Nat)}{f':AV→List Nat}:∀{l:List (List AV)} {p:List (List AV) × List Nat},Rz f l=some p→(∀r∈l,∀x∈r,∀q,f x=some q→∀b∈f' x,b∈q.2)→∀b∈l.flatMap (fun cs=>cs.flatMap f'),b∈p.2
 | [],p,h,_=>fun b hb=>by simp at hb
 |a::l,p,h,hf=>fun b hb=>by
  simp only[Rz,ae2,adQ]at h
  obtain⟨q,hq,r,hr,rfl⟩:=h
  rw[awB]at hb
  rcases aj8.1 hb with hb|hb
  ·exact akX _ (ao5 hq (hf a (ai0 ..)) b hb)
  ·exact akY _ (awW hr (fun x hx=>hf x (ag1 _ hx)) b hb)
theorem mU{g:HF}:∀{e d:Nat} {v:AV} {p:AV × List Nat},rd d g v=some p→∀b∈Qu e g v,b∈p.2
 |0,d,v,p,_,b,hb=>by simp[Qu]at hb
 |e+1,0,v,p,h,b,hb=>by simp[rd]at h
 |e+1,d+1,v,p,h,b,hb=>by
  cases v with
  |slr st c r len=>
   simp only[rd,ae2]at h
   obtain⟨z,hz,h⟩:=h
   split at h
   ·rename_i hq
    obtain⟨rfl,rfl,rfl⟩:=hq
    simp only[Qu,nG (ae2.2 hz)]at hb
    cases hfl:z.2.1 with
    |true=>rw[hfl]at h hb;simp at h hb;rw[←h];simp[hb]
    |false=>
     rw[hfl]at h hb
     simp only[cond_false,adQ]at h
     obtain⟨q,hq',rfl⟩:=h
     rcases ajM.1 hb with rfl|hb
     ·exact ai0 ..
     ·exact ag1 _ (awW hq' (fun r _ x _ q' hx b hb=>mU hx b hb) b (by simpa using hb))
   ·cases h
  |agg cs=>
   simp only[rd,adQ]at h
   obtain⟨q,hq,rfl⟩:=h
   exact ao5 hq (fun x _ q' hx b hb=>mU hx b hb) b hb
  |iface t x=>
   simp only[rd,adQ]at h
   obtain⟨q,hq,rfl⟩:=h
   exact mU hq b hb
  |_=>simp[Qu]at hb
theorem Uj{C:R→Prop}[n:NoN C]{r:R}(h:∀K:R→Prop,NoN K→(∀x,C x→K x)→K r):C r:=h C n fun _ h=>h
theorem iC{v:AV}{H:Qa}{b:Nat}(l:List CB)(hb:b<H.length)(hv:∀a c r m,v=.slr a c r m→c≠b):(kl 0 v H++l)[b]?=H[b]?:=by
 rw[aw2 (by rw[oC];exact hb)]
 unfold kl
 split
 ·rename_i a c r m
  rw[aY9];simpa using hv a c r m rfl
 ·rfl
theorem jE{H:Qa}{b:Nat}{z:Nat × Bool × List (List AV)}(h:(hf H b).bind Si=some z):b<H.length:=by
 obtain⟨c,hc,_⟩:=ae2.1 h
 exact(aj6.1 hc).1
theorem eH{g g':HF}{d:Nat}{l:List AV}{p:List AV × List Nat}(h:fV (rd d g) l=some p)(ha:Agr p.2 g g'):fV (rd d g') l=some p:=
 fY h fun _ _ _ hq hs=>tU hq fun b hb=>ha b (hs b hb)
theorem tY{g g':HF}{d:Nat}{l:List (List AV)}{p:List (List AV) × List Nat}(h:Rz (rd d g) l=some p)(ha:Agr p.2 g g'):Rz (rd d g') l=some p:=
 cO h fun _ _ _ _ _ hq hs=>tU hq fun b hb=>ha b (hs b hb)
theorem uI{H:Qa}{d:Nat}{l:List AV}{p:List AV × List Nat}(hd:d≤9)(h:fV (rd d (hf H)) l=some p):∀b∈p.2,b<H.length:=fun b hb=>by
 obtain⟨z,hz,_⟩:=clL h (fun x _ q hx=>an3 hd hx) b hb
 exact jE hz
theorem xA{H:Qa}{d:Nat}{l:List (List AV)}{p:List (List AV) × List Nat}(hd:d≤9)(h:Rz (rd d (hf H)) l=some p):∀b∈p.2,b<H.length:=fun b hb=>by
 obtain⟨z,hz,_⟩:=clR h (fun r _ x _ q hx=>an3 hd hx) b hb
 exact jE hz
theorem sL{f:AV→Option (AV × List Nat)}:∀{l:List (List AV)} {p:List (List AV) × List Nat},Rz f l=some p→l.length=p.1.length
 | [],p,h=>by simp[Rz]at h;subst h;rfl
 |a::l,p,h=>by
  simp only[Rz,ae2,adQ]at h
  obtain⟨q,hq,r,hr,rfl⟩:=h
  simp[sL hr]
theorem rY{f:AV→Option (AV × List Nat)}:∀{l:List (List AV)} {p:List (List AV) × List Nat} {i:Nat} {X:List AV},Rz f l=some p→p.1[i]?=some X→∃r R,l[i]?=some r∧fV f r=some (X,R)
 | [],p,i,X,h,hx=>by simp[Rz]at h;subst h;simp at hx
 |a::l,p,i,X,h,hx=>by
  simp only[Rz,ae2,adQ]at h
  obtain⟨q,hq,r,hr,rfl⟩:=h
  cases i with
  |zero=>simp at hx;subst hx;exact⟨a,q.2,rfl,hq⟩
  |succ i=>simp at hx;obtain⟨r',R',k1,k2⟩:=rY hr hx;exact⟨r',R',by simpa using k1,k2⟩
theorem afW{f:AV→Option (AV × List Nat)}:∀{l:List AV} {p:List AV × List Nat},fV f l=some p→l.length=p.1.length
 | [],p,h=>by simp[fV]at h;subst h;rfl
 |a::l,p,h=>by
  simp only[fV,ae2,adQ]at h
  obtain⟨q,hq,r,hr,rfl⟩:=h
  simp[afW hr]
theorem Yd{f:AV→Option (AV × List Nat)}{l xs:List AV}{x:AV}{R:List Nat}(h:fV f l=some (x::xs,R)):∃a l' R1 R2,l=a::l'∧f a=some (x,R1)∧fV f l'=some (xs,R2)∧R=R1++R2:=by
 cases l with
 |nil=>simp[fV]at h
 |cons a l=>
  simp only[fV,ae2,adQ]at h
  obtain⟨q,hq,r,hr,he⟩:=h
  simp only[Prod.mk.injEq,List.cons.injEq]at he
  obtain⟨⟨rfl,rfl⟩,rfl⟩:=he
  exact⟨a,l,q.2,r.2,rfl,hq,hr,rfl⟩
theorem eR{f:AV→Option (AV × List Nat)}{l:List AV}{R:List Nat}(h:fV f l=some ([],R)):l=[]∧R=[]:=by
 cases l with
 |nil=>simp[fV]at h;exact⟨rfl,h⟩
 |cons a l=>have:=afW h;simp at this
theorem afI{g:HF}{d:Nat}{v:AV}{k:IntKind}{n:Int}{R:List Nat}(h:rd (d+1) g v=some (.int k n,R)):v=.int k n∧R=[]:=by
 cases v with
 |slr st b r len=>
  simp only[rd,ae2]at h
  obtain⟨z,_,h⟩:=h
  split at h
  ·cases hfl:z.2.1<;>rw[hfl]at h<;>simp at h
  ·cases h
 |func fn a b=>cases a<;>cases b<;>simp[rd]at h
 |int k' n'=>simp[rd]at h;exact⟨by simp[h],h.2⟩
 |agg cs=>simp[rd]at h
 |iface t x=>simp[rd]at h
 |_=>simp[rd]at h
theorem an6{g:HF}{d st:Nat}{fl nn:Bool}{v:AV}{rows:List (List AV)}{R:List Nat}(h:rd (d+1) g v=some (Rn st fl nn rows,R)):v.isCell=true∧v.flat=false:=by
 have hs:Rn st fl nn rows=.nils∨∃r,Rn st fl nn rows=.imm st fl r:=by
  cases rows with
  |nil=>cases nn with
   |true=>exact .inr ⟨_,rfl⟩
   |false=>exact .inl rfl
  |cons=>exact .inr ⟨_,rfl⟩
 generalize Rn st fl nn rows=X at h hs
 cases v with
 |func fn a b=>cases a<;>cases b<;>first|exact⟨rfl,rfl⟩|(simp[rd]at h)
 |agg cs=>simp only[rd,adQ]at h;obtain⟨_,_,h⟩:=h;simp only[Prod.mk.injEq]at h;obtain⟨h,_⟩:=h;subst h;rcases hs with hs|⟨_,hs⟩<;>cases hs
 |ptr b r o=>exact⟨rfl,rfl⟩
 |yl b=>exact⟨rfl,rfl⟩
 |mapr b=>exact⟨rfl,rfl⟩
 |itr b=>exact⟨rfl,rfl⟩
 |tup cs=>simp[rd]at h
 |bool b=>simp[rd]at h;obtain⟨h,_⟩:=h;subst h;rcases hs with hs|⟨_,hs⟩<;>cases hs
 |int k n=>simp[rd]at h;obtain⟨h,_⟩:=h;subst h;rcases hs with hs|⟨_,hs⟩<;>cases hs
 |str s=>simp[rd]at h;obtain⟨h,_⟩:=h;subst h;rcases hs with hs|⟨_,hs⟩<;>cases hs
 |_=>exact⟨rfl,rfl⟩
theorem fL{g:HF}{d st:Nat}{fl nn:Bool}{v:AV}{rows:List (List AV)}{R:List Nat}(h:rd (d+1) g v=some (Rn st fl nn rows,R)):
 (v=.nils∧rows=[])∨∃b rows',v=.slr st b 0 rows.length∧(g b).bind Si=some (st,fl,rows')∧rows'.length=rows.length∧(fl=true→rows'=rows)∧(fl=false→∃R',Rz (rd d g) rows'=some (rows,R')):=by
 have hs:(Rn st fl nn rows=.nils∧rows=[])∨Rn st fl nn rows=.imm st fl rows:=by
  cases rows with
  |nil=>cases nn with
   |true=>exact .inr rfl
   |false=>exact .inl ⟨rfl,rfl⟩
  |cons=>exact .inr rfl
 generalize Rn st fl nn rows=X at h hs
 cases v with
 |nils=>simp[rd]at h;obtain⟨rfl,_⟩:=h;rcases hs with⟨_,hs⟩|hs
        ·exact .inl ⟨rfl,hs⟩
        ·cases hs
 |slr st' b r len=>
  simp only[rd,ae2]at h
  obtain⟨z,hz,h⟩:=h
  split at h
  ·rename_i hq
   obtain⟨q1,rfl,q3⟩:=hq
   obtain⟨z1,z2,z3⟩:=z
   simp only at q1 q3 h
   subst q1
   cases z2 with
   |true=>
    simp at h
    obtain⟨rfl,_⟩:=h
    rcases hs with⟨hs,_⟩|hs
    ·cases hs
    ·cases hs
     exact .inr ⟨b,_,by rw[q3],ae2.2 hz,rfl,fun _=>rfl,fun e=>by cases e⟩
   |false=>
    simp only[cond_false,adQ]at h
    obtain⟨q,hq,he⟩:=h
    simp only[Prod.mk.injEq]at he
    obtain⟨rfl,_⟩:=he
    rcases hs with⟨hs,_⟩|hs
    ·cases hs
    ·cases hs
     have hl:z3.length=q.1.length:=sL hq
     exact .inr ⟨b,z3,by rw[q3,hl],ae2.2 hz,hl,fun e=>(by cases e),fun _=>⟨q.2,hq⟩⟩
  ·cases h
 |func fn a b=>cases a<;>cases b<;>simp[rd]at h<;>(obtain⟨rfl,_⟩:=h;rcases hs with⟨hs,_⟩|hs<;>cases hs)
 |agg cs=>simp only[rd,adQ]at h;obtain⟨_,_,h⟩:=h;simp only[Prod.mk.injEq]at h;obtain⟨rfl,_⟩:=h;rcases hs with⟨hs,_⟩|hs<;>cases hs
 |iface t x=>simp only[rd,adQ]at h;obtain⟨_,_,h⟩:=h;simp only[Prod.mk.injEq]at h;obtain⟨rfl,_⟩:=h;rcases hs with⟨hs,_⟩|hs<;>cases hs
 |ptr b r o=>simp[rd]at h
 |yl b=>simp[rd]at h
 |mapr b=>simp[rd]at h
 |itr b=>simp[rd]at h
 |tup cs=>simp[rd]at h
 |imm=>simp[rd]at h
 |iptr=>simp[rd]at h
 |_=>simp[rd]at h;obtain⟨rfl,_⟩:=h;rcases hs with⟨hs,_⟩|hs<;>cases hs
theorem agB{H:Qa}{b st:Nat}{fl:Bool}{rows:List (List AV)}(h:(hf H b).bind Si=some (st,fl,rows))(i:Nat):Zf (H[b]?) i=rows[i]?:=by
 obtain⟨c,hc,hz⟩:=ae2.1 h
 rw[show H[b]?=some c from hc]
 cases c<;>simp[Si]at hz<;>(obtain⟨_,_,rfl⟩:=hz;rfl)
theorem mD{g:HF}{d:Nat}(k:IntKind)(n:Int):rd (d+1) g (.int k n)=some (.int k n,[]):=rfl
theorem anX{g:HF}{d st b n:Nat}{rows:List (List AV)}(h:(g b).bind Si=some (st,true,rows))(hn:n=rows.length):rd (d+1) g (.slr st b 0 n)=some (.imm st true rows,[b]):=by
 subst hn;simp[rd,h]
theorem dG{f:AV→Option (AV × List Nat)}:fV f []=some ([],[]):=rfl
theorem Vq{f:AV→Option (AV × List Nat)}{a x:AV}{l xs:List AV}{R1 R2:List Nat}(h1:f a=some (x,R1))(h2:fV f l=some (xs,R2)):fV f (a::l)=some (x::xs,R1++R2):=by simp[fV,h1,h2]
theorem oY{f:AV→Option (AV × List Nat)}:∀{l:List (List AV)} {p:List (List AV) × List Nat} {r:List AV} {q:List AV × List Nat},Rz f l=some p→fV f r=some q→Rz f (l++[r])=some (p.1++[q.1],p.2++q.2)
 | [],p,r,q,h,hr=>by simp[Rz]at h;subst h;simp[Rz,hr]
 |a::l,p,r,q,h,hr=>by
  simp only[Rz,ae2,adQ]at h
  obtain⟨q1,hq1,r1,hr1,rfl⟩:=h
  simp[Rz,hq1,oY hr1 hr]
end
noncomputable section
open Go.RowKit
section
variable {P:Program} {O:Uo}
def slx(P:Program)(ty:TypeId)(a:Option AV)(l h:Option (Option AV)):OE:=r1 (a.bind fun a=>l.bind fun l=>h.bind fun h=>uM P ty a l h)
theorem al6(t:List AV)(h:Qa)(ty:TypeId)(x:Operand)(lo hi:Option Operand):Tt O P t h (.slice ty x lo hi none)=slx P ty (Qe t x) (oK t lo) (oK t hi):=by
 rw[Rw _ _ _ rfl]
 simp only[exec,slx]
 cases Qe t x with
 |none=>rfl
 |some a=>
  cases oK t lo with
  |none=>rfl
  |some l=>
   cases oK t hi with
   |none=>rfl
   |some h=>exact Vs _
def oS(x:Option AV):Option (Option AV):=x.map some
theorem arX(v:AV):oS (some v)=some (some v):=adC rfl rfl
theorem ajC(t:List AV):oK t none=some none:=adC rfl rfl
theorem aj3(t:List AV)(x:Operand):oK t (some x)=oS (Qe t x):=adC rfl rfl
end
end
noncomputable section
set_option maxRecDepth 100000
section
variable {P:Program} {G:Nat→Option Obj}
end
section
variable {P:Program}
end
def EVu:=PLift.up (aaN @arC (aaN @xF (aaN @nH (aaN @al6 (aaN @ajC (aaN @aj3 @arX))))))
end
noncomputable section
section
variable {α:Type}
end
end
section
def aI:Qa→Qa→Qa
 | [],h'=>h'
 |c₀::h,[]=>c₀::h
 |c₀::h,c::h'=>(bif c₀.quiet c then c₀ else c.mark)::aI h h'
def zI(h h':Qa):Prop:=h.length≤h'.length∧∀(i:Nat) (c₀ c:CB),h[i]?=some c₀→h'[i]?=some c→c₀.quiet c=true∨c₀.isLive=true
theorem jF:∀(h h' pre:Qa),zI h h'→∃es,Rr pre.length h h'=some es∧Ry (pre++h) es=pre++aI h h'
 | [],h',pre,_=>⟨_,rfl,by simp[vV,aI]⟩
 |c₀::h,[],pre,ok=>by simp[zI]at ok
 |c₀::h,c::h',pre,ok=>by
  have ok':zI h h':=⟨by simpa using ok.1,fun i a b h1 h2=>ok.2 (i+1) a b (by simpa using h1) (by simpa using h2)⟩
  cases hq:c₀.quiet c with
  |true=>
   obtain⟨es,e1,e2⟩:=jF h h' (pre++[c₀]) ok'
   refine⟨es,?_,?_⟩
   ·simp only[Rr,hq,cond_true]
    simpa using e1
   ·simpa [aI,hq]using e2
  |false=>
   have hl:c₀.isLive=true:=by
    rcases ok.2 0 c₀ c rfl rfl with h|h
    ·rw[hq]at h;cases h
    ·exact h
   obtain⟨es,e1,e2⟩:=jF h h' (pre++[c.mark]) ok'
   refine⟨.put pre.length c.mark::es,?_,?_⟩
   ·simp only[Rr,hq,hl,cond_false,cond_true]
    simp only[auG,aq7,aY2]at e1
    rw[e1];rfl
   ·simp only[Ry,aB,aI,hq,cond_false]
    have:(pre++c₀::h).set pre.length c.mark=(pre++[c.mark])++h:=by simp
    rw[this,e2];simp
theorem eK:∀{h h':Qa},h.length≤h'.length→(aI h h').length=h'.length
 | [],h',_=>rfl
 |c₀::h,[],hl=>by simp at hl
 |c₀::h,c::h',hl=>by simp[aI,eK (h:=h) (h':=h') (by simpa using hl)]
theorem aE:∀{h h':Qa} {i:Nat} {c₀ c:CB},h[i]?=some c₀→h'[i]?=some c→c₀.quiet c=true→(aI h h')[i]?=some c₀
 | [],h',i,c₀,c,h1,_,_=>by simp at h1
 |a::h,[],i,c₀,c,_,h2,_=>by simp at h2
 |a::h,b::h',0,c₀,c,h1,h2,hq=>by
  simp at h1 h2;subst h1 h2;simp[aI,hq]
 |a::h,b::h',i+1,c₀,c,h1,h2,hq=>by
  simp at h1 h2;simpa [aI]using aE h1 h2 hq
theorem jI:∀{h h':Qa} {i:Nat} {c₀ c:CB},h[i]?=some c₀→h'[i]?=some c→c₀.quiet c=false→(aI h h')[i]?=some c.mark
 | [],h',i,c₀,c,h1,_,_=>by simp at h1
 |a::h,[],i,c₀,c,_,h2,_=>by simp at h2
 |a::h,b::h',0,c₀,c,h1,h2,hq=>by
  simp at h1 h2;subst h1 h2;simp[aI,hq]
 |a::h,b::h',i+1,c₀,c,h1,h2,hq=>by
  simp at h1 h2;simpa [aI]using jI h1 h2 hq
theorem mG:∀{h h':Qa} {i:Nat},h.length≤h'.length→h.length≤i→(aI h h')[i]?=h'[i]?
 | [],h',i,_,_=>rfl
 |a::h,[],i,hl,_=>by simp at hl
 |a::h,b::h',0,_,hi=>by simp at hi
 |a::h,b::h',i+1,hl,hi=>by
  simpa [aI]using mG (h:=h) (h':=h') (i:=i) (by simpa using hl) (by simpa using hi)
theorem Vf{h:Qa}{i:Nat}{c:CB}(hc:h[i]?=some c):(Xb h)[i]?=some c.clean:=by simp[Xb,hc]
theorem Sm(h:Qa):(Xb h).length=h.length:=by simp[Xb]
theorem ad6(c:CB):Si c.clean=Si c:=by cases c<;>rfl
theorem akC(c:CB):Si c.mark=Si c:=by cases c<;>rfl
theorem xR{O:Uo}{H:Qa}{f:Nat}{args:List AV}{Q:Tu→Qa→Prop}(hd:qP args=true)(hm:O.md f=true)(K:ShQ O f args (Xb H) Q)(ok:∀o G,Q o G→zI H G):
 ∃o G es,cl O H (some (.func (.func f) [] [])) (some args)=some (o,es)∧Ry H es=aI H G∧Q o G:=by
 obtain⟨o,G,hc,hq⟩:=K
 obtain⟨es,e1,e2⟩:=jF H G [] (ok o G hq)
 refine⟨o,G,es,?_,by simpa using e2,hq⟩
 rw[agQ]
 simp only[aoR,aq6,hd,if_true,shC,hm,aq8,hc]
 rw[rZ]
 have e1':Rr 0 H G=some es:=e1
 rw[e1'];rfl
structure Xr(X:List Nat)(H H1:Qa):Prop where
 len:H.length≤H1.length
 same:∀b,b<H.length→b∉X→H1[b]?=H[b]?
theorem Xr.app(H l:Qa):Xr [] H (H++l):=⟨by simp,fun b hb _=>aw2 hb⟩
theorem Xr.trans{X Y:List Nat}{H H1 H2:Qa}(h1:Xr X H H1)(h2:Xr Y H1 H2):Xr (X++Y) H H2:=
 ⟨alC h1.len h2.len,fun b hb hn=>by
   rw[h2.same b (Nat.lt_of_lt_of_le hb h1.len) (fun h=>hn (akY _ h)),h1.same b hb (fun h=>hn (akX _ h))]⟩
end
noncomputable section
open Go.RowKit
def yQ(f:Nat→Nat):bW→List (List Rb × List Rb)→Prop
 | [],[]=>True
 |(es,fs)::l,(w,r)::l'=>(∀e∈es,Rb.all∈w∨dD f e.foot∈w)∧(∀x∈fs,Rb.all∈r∨dD f x∈r)∧yQ f l l'
 |_,_=>False
theorem yQ.get{f:Nat→Nat}:∀{l:bW} {l':List (List Rb × List Rb)} {i:Nat} {y:List Rb × List Rb},yQ f l l'→l'[i]?=some y→∃x,l[i]?=some x∧(∀e∈x.1,Rb.all∈y.1∨dD f e.foot∈y.1)∧(∀a∈x.2,Rb.all∈y.2∨dD f a∈y.2)
 | [],[],i,y,_,h=>by simp at h
 |(es,fs)::l,(w,r)::l',0,y,h,hy=>by simp at hy;subst hy;exact⟨_,rfl,h.1,h.2.1⟩
 |(es,fs)::l,(w,r)::l',i+1,y,h,hy=>by
  obtain⟨x,h1,h2⟩:=yQ.get h.2.2 (i:=i) (by simpa using hy)
  exact⟨x,by simpa using h1,h2⟩
theorem akA(x:Rb):x.meets .all=true:=by cases x<;>rfl
theorem akB(x:Rb):Rb.meets .all x=true:=by cases x<;>rfl
theorem amE(f:Nat→Nat){ops:List Oper}{log:bW}(lg:List (List Rb × List Rb))(hc:yQ f log lg)(hd:wS ops lg=true):Tq ops log=true:=by
 simp only[wS,Tq,ak0]at hd ⊢
 rintro⟨i,j⟩ hij
 have:=hd (i,j) hij
 simp only at this ⊢
 cases hi:lg[i]? with
 |none=>simp[hi]at this
 |some x=>
  cases hj:lg[j]? with
  |none=>simp[hi,hj]at this
  |some y=>
   obtain⟨x',a1,a2,a3⟩:=hc.get hi
   obtain⟨y',b1,b2,b3⟩:=hc.get hj
   simp only[hi,hj,a1,b1,aY7,aY8]at this ⊢
   cases hk:Zg x' y' with
   |false=>rfl
   |true=>
    rw[←this];symm
    have mt:∀{p q:Rb} {P Q:List Rb},p.meets q=true→(Rb.all∈P∨dD f p∈P)→(Rb.all∈Q∨dD f q∈Q)→∃p'∈P,∃q'∈Q,p'.meets q'=true:=fun {p q P Q} hm hp hq=>by
     rcases hp with hp|hp<;>rcases hq with hq|hq
     ·exact⟨_,hp,_,hq,rfl⟩
     ·exact⟨_,hp,_,hq,akB _⟩
     ·exact⟨_,hp,_,hq,akA _⟩
     ·exact⟨_,hp,_,hq,rJ f _ _ hm⟩
    simp only[Zg,yT,aw4,aY6,aj8,akZ]at hk ⊢
    rcases hk with⟨_,⟨e,he,rfl⟩,b,hb,hm⟩|⟨_,⟨e,he,rfl⟩,b,hb,hm⟩
    ·left
     rcases hb with⟨e',he',rfl⟩|hb
     ·obtain⟨p,hp,q,hq,hpq⟩:=mt hm (a2 e he) (b2 e' he')
      exact⟨p,hp,q,.inl hq,hpq⟩
     ·obtain⟨p,hp,q,hq,hpq⟩:=mt hm (a2 e he) (b3 b hb)
      exact⟨p,hp,q,.inr hq,hpq⟩
    ·right
     obtain⟨p,hp,q,hq,hpq⟩:=mt hm (b2 e he) (a3 b hb)
     exact⟨p,hp,q,hq,hpq⟩
theorem yR(f:Nat→Nat)(lg:List (List Rb × List Rb)){C:R→Prop}{ops:List Oper}{log:bW}{k:R}(hb:wS ops lg=true)(hc:yQ f log lg)(h:True→C k):C (Vm (Tq ops log) k):=rS (amE f lg hc hb) h
theorem lU(f:Nat→Nat):yQ f [] []=True:=rfl
theorem iW(f:Nat→Nat)(es:List Qd)(fs:List Rb)(l:bW)(w r:List Rb)(l':List (List Rb × List Rb)):yQ f ((es,fs)::l) ((w,r)::l')=((∀e∈es,Rb.all∈w∨dD f e.foot∈w)∧(∀x∈fs,Rb.all∈r∨dD f x∈r)∧yQ f l l'):=rfl
theorem av8{O:Uo}{H:Qa}{f:Nat}{args:List AV}{o:Tu}{l:Qa}(hd:qP args=true)(hm:O.md f=true)(hc:O.call (.sh f) args (Xb H)=some (o,Xb H++l))(hq:Qy H=true):
 cl O H (some (.func (.func f) [] [])) (some args)=some (o,Wv H.length l):=by
 rw[agQ]
 simp only[aoR,aq6,hd,if_true,shC,hm,aq8,hc]
 rw[rZ,agW hq]
 simp
theorem avH{O:Uo}{H:Qa}{f:Nat}{args:List AV}{o:Tu}(hd:qP args=true)(hm:O.md f=true)(hc:O.call (.sh f) args (Xb H)=some (o,Xb H))(hq:Qy H=true):
 cl O H (some (.func (.func f) [] [])) (some args)=some (o,[]):=by
 have:=av8 (l:=[]) hd hm (by simpa using hc) hq
 simpa [Wv]using this
theorem kD{H:Qa}(h:∀c∈H,c.quiet c.clean=true):Qy H=true:=by simp only[Qy,ak0];exact h
theorem We{H:Qa}(h:Qy H=true){b:Nat}{c:CB}(hb:H[b]?=some c):c.quiet c.clean=true:=by
 simp only[Qy,ak0]at h
 exact h c (aw6 hb)
theorem Uz{H l:Qa}(h:Qy H=true)(hl:Qy l=true):Qy (H++l)=true:=by
 simp only[Qy,ak0,aj8]at h hl ⊢
 exact fun c hc=>hc.elim (h c) (hl c)
theorem Uy{H:Qa}(h:Qy H=true)(b:Nat){c:CB}(hc:c.quiet c.clean=true):Qy (H.set b c)=true:=by
 simp only[Qy,ak0]at h ⊢
 exact fun x hx=>(List.mem_or_eq_of_mem_set hx).elim (h x) (fun e=>e▸hc)
theorem adJ{c:CB}(h:c.quiet c.clean=true):c.clean.quiet c.clean.clean=true:=by cases c<;>first|rfl|exact h
theorem dT{H:Qa}(h:Qy H=true):Qy (Xb H)=true:=by
 simp only[Qy,Xb,ak0,akZ]at h ⊢
 rintro c ⟨c0,h0,rfl⟩
 exact adJ (h c0 h0)
theorem uL{c:CB}(h:c.quiet c.clean=true):c.mark.quiet c.mark.clean=true:=by cases c<;>first|rfl|exact h
theorem Xz{H0 G:Qa}{X:List Nat}(hq:Qy H0=true)(K:Xr X (Xb H0) G)(hX:∀b∈X,b<H0.length∧∀c0 c,H0[b]?=some c0→G[b]?=some c→c0.isLive=true∧c0.quiet c=false):
 zI H0 G∧(aI H0 G).length=G.length∧(∀b,H0.length≤b→(aI H0 G)[b]?=G[b]?)∧(∀b,b<H0.length→b∉X→(aI H0 G)[b]?=H0[b]?)∧(∀b∈X,∀c,G[b]?=some c→(aI H0 G)[b]?=some c.mark):=by
 have hlen:H0.length≤G.length:=by have:=K.len;rwa[Sm]at this
 have old:∀b c0,H0[b]?=some c0→b∉X→G[b]?=some c0.clean:=fun b c0 h0 hb=>by
  rw[K.same b (by rw[Sm];exact(aj6.1 h0).1) hb,Vf h0]
 refine⟨⟨hlen,fun b c0 c h0 h1=>?_⟩,eK hlen,fun b hb=>mG hlen hb,fun b hb hn=>?_,fun b hb c hc=>?_⟩
 ·by_cases hb:b∈X
  ·exact .inr ((hX b hb).2 c0 c h0 h1).1
  ·rw[old b c0 h0 hb]at h1;cases h1
   exact .inl (We hq h0)
 ·obtain⟨c0,h0⟩:∃c,H0[b]?=some c:=⟨_,aq3 hb⟩
  rw[h0];exact aE h0 (old b c0 h0 hn) (We hq h0)
 ·obtain⟨h1,h2⟩:=hX b hb
  obtain⟨c0,h0⟩:∃c,H0[b]?=some c:=⟨_,aq3 h1⟩
  exact jI h0 hc (h2 c0 c h0 hc).2
theorem jC{H0 G:Qa}{X:List Nat}(hq:Qy H0=true)(K:Xr X (Xb H0) G)(hX:∀b∈X,b<H0.length∧∀c0 c,H0[b]?=some c0→G[b]?=some c→c0.isLive=true∧c0.quiet c=false)(hg:Qy G=true):Qy (aI H0 G)=true:=by
 obtain⟨_,k1,k2,k3,k4⟩:=Xz hq K hX
 refine kD fun c hc=>?_
 obtain⟨b,hb⟩:=aAX hc
 by_cases h1:b<H0.length
 ·by_cases h2:b∈X
  ·obtain⟨c1,h3⟩:∃c,G[b]?=some c:=⟨_,aq3 (by rw[←k1];exact(aj6.1 hb).1)⟩
   rw[k4 b h2 c1 h3]at hb;cases hb
   exact uL (We hg h3)
  ·rw[k3 b h1 h2]at hb;exact We hq hb
 ·rw[k2 b (by omega)]at hb;exact We hg hb
theorem aj0{H0 G:Qa}{X:List Nat}(hq:Qy H0=true)(K:Xr X (Xb H0) G)(hX:∀b∈X,b<H0.length∧∀c0 c,H0[b]?=some c0→G[b]?=some c→c0.isLive=true∧c0.quiet c=false)(b:Nat):(hf (aI H0 G) b).bind Si=(hf G b).bind Si:=by
 obtain⟨_,k1,k2,k3,k4⟩:=Xz hq K hX
 show((aI H0 G)[b]?).bind Si=(G[b]?).bind Si
 by_cases h1:b<H0.length
 ·by_cases h2:b∈X
  ·cases h3:G[b]? with
   |none=>rw[List.getElem?_eq_none_iff]at h3;have h4:=K.len;rw[Sm]at h4;omega
   |some c1=>rw[k4 b h2 c1 h3];exact akC c1
  ·rw[k3 b h1 h2,K.same b (by rw[Sm];exact h1) h2]
   cases h3:H0[b]? with
   |none=>simp[Xb,h3]
   |some c=>rw[Vf h3];exact(ad6 c).symm
 ·rw[k2 b (by omega)]
end
theorem Ux{h:Qa}{b:Nat}{c:CB}(e:h[b]?=some c):b<h.length:=(aj6.1 e).1
structure wF(st lo:Nat)(ov:AV)(h:Qa)(rows Q:List (List AV))(Ro:List Nat):Prop where
 own:aD5 0 st false rows ov h
 nil:rows=[]→ov=.nils
 q:Rz (rd 5 (hf h)) rows=some (Q,Ro)
 dx:∀b∈Ro,lo≤b
 dov:∀a b r n,ov=.slr a b r n→lo≤b∧b∉Ro∧b<h.length
theorem wF.none{st lo:Nat}{h:Qa}:wF st lo .nils h [] [] []:=⟨.inl ⟨rfl,rfl⟩,fun _=>rfl,rfl,by simp,fun _ _ _ _ e=>by cases e⟩
theorem wF.keep{st lo:Nat}{ov:AV}{h h':Qa}{rows Q:List (List AV)}{Ro:List Nat}(I:wF st lo ov h rows Q Ro)(hl:h.length≤h'.length)(k:∀b,lo≤b→b<h.length→h'[b]?=h[b]?):wF st lo ov h' rows Q Ro:=by
 refine⟨?_,I.nil,?_,I.dx,fun a b r n e=>?_⟩
 ·rcases I.own with h1|⟨b,w,h1,h2⟩
  ·exact .inl h1
  ·exact .inr ⟨b,w,h1,by rw[k b (by have:=(I.dov _ _ _ _ h1).1;simpa using this) (Ux h2)];exact h2⟩
 ·refine tY I.q fun j hj z hz=>?_
  show(h'[j]?).bind Si=_
  rw[k j (I.dx j hj) (xA (by omega) I.q j hj)];exact hz
 ·obtain⟨a1,b1,c⟩:=I.dov a b r n e
  exact⟨a1,b1,by omega⟩
theorem wF.snoc{st lo:Nat}{ov:AV}{h h':Qa}{rows Q:List (List AV)}{Ro:List Nat}(I:wF st lo ov h rows Q Ro)(hl:h.length≤h'.length)(k:∀b,lo≤b→b<h.length→h'[b]?=h[b]?){r X:List AV}{R':List Nat}(hr:fV (rd 5 (hf h')) r=some (X,R'))(hR:∀b∈R',h.length≤b)(hlo:lo≤h.length)(a:CB){m n:Nat}(hm:m=h'.length+1)(hn:n=rows.length+1):
 wF st lo (.slr st m 0 n) (kl 0 ov h'++[a,.live st false false (rows++[r])]) (rows++[r]) (Q++[X]) (Ro++R'):=by
 subst hm hn
 have I':=I.keep hl k
 have lR:=xA (by omega) I.q
 have lR':=uI (by omega) hr
 have get:∀j,j<h'.length→(∀a m r n,ov=.slr a m r n→m≠j)→(kl 0 ov h'++[a,.live st false false (rows++[r])])[j]?=h'[j]?:=fun j hj ho=>iC _ hj ho
 have hlen:(kl 0 ov h').length=h'.length:=oC ..
 have hnew:(kl 0 ov h'++[a,.live st false false (rows++[r])])[h'.length+1]?=some (.live st false false (rows++[r])):=by
  rw[aY5 (by omega),hlen,show h'.length+1-h'.length=1 by omega];rfl
 have q1:Rz (rd 5 (hf (kl 0 ov h'++[a,.live st false false (rows++[r])]))) rows=some (Q,Ro):=tY I'.q fun j hj z hz=>by
  show((kl 0 ov h'++_)[j]?).bind Si=_
  rw[get j (by have:=lR j hj;omega) fun a m r n e e2=>(I.dov a m r n e).2.1 (e2▸hj)];exact hz
 have q2:fV (rd 5 (hf (kl 0 ov h'++[a,.live st false false (rows++[r])]))) r=some (X,R'):=eH hr fun j hj z hz=>by
  show((kl 0 ov h'++_)[j]?).bind Si=_
  rw[get j (lR' j hj) fun a m r n e e2=>by have:=(I.dov a m r n e).2.2;have:=hR j hj;omega];exact hz
 refine⟨.inr ⟨h'.length+1,false,by simp,hnew⟩,fun e=>by simp at e,?_,fun b hb=>?_,fun a b r n e=>?_⟩
 ·simpa using oY q1 q2
 ·rcases aj8.1 hb with hb|hb
  ·exact I.dx b hb
  ·have:=hR b hb;omega
 ·cases e
  refine⟨by omega,fun hb=>?_,by simp[hlen]⟩
  rcases aj8.1 hb with hb|hb
  ·have:=lR _ hb;omega
  ·have:=lR' _ hb;omega
theorem auV(d b:Nat):Qx (d+1) (.mapr b)=false:=adC rfl rfl
theorem av7(b:Nat):AV.isCell (.mapr b)=true:=adC rfl rfl
theorem ar0(b:Nat):AV.flat (.mapr b)=false:=adC rfl rfl
theorem av9(b:Nat):Qf (.mapr b)=[.mapr b]:=adC rfl rfl
theorem as2(d:Nat)(m:List Nat)(b:Nat):Rl (d+1) m (.mapr b)=some (.mapr (place m b).1,(place m b).2):=adC rfl rfl
theorem at7(d:Nat)(g:HF)(b:Nat):Qu (d+1) g (.mapr b)=[]:=adC rfl rfl
theorem avJ(h:Qa)(b:Nat):wJ h (.mapr b)=some (.mapr b):=adC rfl rfl
def aT:=PLift.up (aaN @auV (aaN @av7 (aaN @ar0 (aaN @av9 (aaN @as2 (aaN @at7 @avJ))))))
theorem uG(c:CB):c.quiet c.clean=true∨(c.clean.mark=c∧c.isLive=true):=by
 cases c with
 |lp a b d e st=>exact .inr ⟨rfl,rfl⟩
 |_=>exact .inl rfl
theorem rG:∀(cs:List CB) (i:Nat),∀e∈Wv i cs,∃b,e.foot=.blk b∧i≤b
 | [],i,e,h=>by cases h
 |c::cs,i,e,h=>by
  rcases ajM.1 h with rfl|h
  ·exact⟨i,rfl,af8 _⟩
  ·obtain⟨b,h1,h2⟩:=rG cs (i+1) e h
   exact⟨b,h1,by omega⟩
theorem acN:∀{h h':Qa} {i:Nat} {es:List Qd},Rr i h h'=some es→∀e∈es,∃b,e.foot=.blk b∧(i+h.length≤b∨∃j c₀ c,b=i+j∧h[j]?=some c₀∧h'[j]?=some c∧c₀.quiet c=false)
 | [],h',i,es,hs,e,he=>by
   simp only[Rr,arF.injEq]at hs;subst hs
   obtain⟨b,h1,h2⟩:=rG h' i e he
   exact⟨b,h1,.inl (by simpa using h2)⟩
 |c₀::h,[],i,es,hs,e,he=>by simp[Rr]at hs
 |c₀::h,c::h',i,es,hs,e,he=>by
  have up:∀{es':List Qd},Rr (i+1) h h'=some es'→e∈es'→∃b,e.foot=.blk b∧(i+(c₀::h).length≤b∨∃j c₀' c',b=i+j∧(c₀::h)[j]?=some c₀'∧(c::h')[j]?=some c'∧c₀'.quiet c'=false):=fun {es'} h1 h2=>by
   obtain⟨b,k1,k2⟩:=acN h1 e h2
   refine⟨b,k1,?_⟩
   rcases k2 with k2|⟨j,x,y,k3,k4,k5,k6⟩
   ·exact .inl (by simp;omega)
   ·exact .inr ⟨j+1,x,y,by omega,by simpa using k4,by simpa using k5,k6⟩
  unfold Rr at hs
  cases hq:c₀.quiet c with
  |true=>rw[hq]at hs;exact up hs he
  |false=>
   rw[hq]at hs
   simp only[cond_false]at hs
   cases hl:c₀.isLive with
   |false=>rw[hl]at hs;simp at hs
   |true=>
    rw[hl]at hs
    simp only[cond_true,adQ]at hs
    obtain⟨es',h1,rfl⟩:=hs
    rcases ajM.1 he with rfl|he
    ·exact⟨i,rfl,.inr ⟨0,c₀,c,by simp,rfl,rfl,hq⟩⟩
    ·exact up h1 he
theorem anC{O:Uo}{H:Qa}{f:Nat}{args:List AV}{Q:Tu→Qa→Prop}(hd:qP args=true)(hm:O.md f=true)(K:ShQ O f args (Xb H) Q)(ok:∀o G,Q o G→zI H G):
 ∃o G es,cl O H (some (.func (.func f) [] [])) (some args)=some (o,es)∧Ry H es=aI H G∧Rr 0 H G=some es∧Q o G:=by
 obtain⟨o,G,hc,hq⟩:=K
 obtain⟨es,e1,e2⟩:=jF H G [] (ok o G hq)
 have e1':Rr 0 H G=some es:=e1
 refine⟨o,G,es,?_,by simpa using e2,e1',hq⟩
 rw[agQ]
 simp only[aoR,aq6,hd,if_true,shC,hm,aq8,hc]
 rw[rZ,e1'];rfl
theorem aqS{O:Uo}{H:Qa}{f:Nat}{args:List AV}{Q:Tu→Qa→Prop}(hd:qP args=true)(hm:O.md f=true)(K:ShQ O f args (Xb H) fun o G=>Q o G∧Xr [] (Xb H) G):
 ∃o G es M,cl O H (some (.func (.func f) [] [])) (some args)=some (o,es)∧Ry H es=M∧Q o G∧M.length=G.length∧H.length≤M.length∧(∀b,b<H.length→M[b]?=H[b]?)∧(∀b,H.length≤b→M[b]?=G[b]?)∧∀e∈es,∃b,e.foot=.blk b∧(H.length≤b∨∃c,H[b]?=some c∧c.quiet c.clean=false):=by
 obtain⟨o,G,es,e1,e2,e3,hq,hk⟩:=anC hd hm K fun o G ⟨_,hk⟩=>⟨by have:=hk.len;rwa[Sm]at this,fun i c₀ c h1 h2=>by
  have h3:=hk.same i (by rw[Sm];exact Ux h1) (by simp)
  rw[Vf h1,h2]at h3;cases h3
  rcases uG c₀ with h|h
  ·exact .inl h
  ·exact .inr h.2⟩
 have hl:H.length≤G.length:=by have:=hk.len;rwa[Sm]at this
 refine⟨o,G,es,aI H G,e1,e2,hq,eK hl,by rw[eK hl];exact hl,fun b hb=>?_,fun b hb=>mG hl hb,fun e he=>?_⟩
 ·have h1:H[b]?=some H[b]:=aq3 hb
  have h2:=hk.same b (by rw[Sm];exact hb) (by simp)
  rw[Vf h1]at h2
  rcases uG H[b]with h|h
  ·rw[aE h1 h2 h,h1]
  ·cases hqq:(H[b]).quiet (H[b]).clean with
   |true=>rw[aE h1 h2 hqq,h1]
   |false=>rw[jI h1 h2 hqq,h.1,h1]
 ·obtain⟨b,k1,k2⟩:=acN e3 e he
  refine⟨b,k1,?_⟩
  rcases k2 with k2|⟨j,c₀,c,k3,k4,k5,k6⟩
  ·exact .inl (by omega)
  ·have h2:=hk.same j (by rw[Sm];exact Ux k4) (by simp)
   rw[Vf k4,k5]at h2
   cases h2
   exact .inr ⟨c₀,by rw[k3,Nat.zero_add];exact k4,k6⟩
theorem wF.read{st lo:Nat}{ov:AV}{h:Qa}{rows Q:List (List AV)}{Ro:List Nat}(I:wF st lo ov h rows Q Ro):∃R,rd 6 (hf h) ov=some (Rn st false false Q,R)∧(∀b∈R,lo≤b)∧R.length≤1+Ro.length:=by
 have key:∀d,Rz (rd d (hf h)) rows=some (Q,Ro)→∃R,rd (d+1) (hf h) ov=some (Rn st false false Q,R)∧(∀b∈R,lo≤b)∧R.length≤1+Ro.length:=fun d hq=>by
  rcases I.own with⟨rfl,rfl⟩|⟨b,w,rfl,hb⟩
  ·simp[Rz]at hq;obtain⟨rfl,rfl⟩:=hq;exact⟨[],by simp[rd,Rn],by simp,by simp⟩
  ·have hne:rows≠[]:=fun e=>by have:=I.nil e;cases this
   have hb':(hf h (b+0)).bind Si=some (st,false,rows):=by show(h[b]?).bind Si=_;rw[hb];rfl
   refine⟨(b+0)::Ro,?_,fun c hc=>?_,by simp;omega⟩
   ·simp only[rd,hb',afJ,if_true,and_self,cond_false,hq,ajY]
    have hl:Q≠[]:=fun e=>by
     cases rows with
     |nil=>exact hne rfl
     |cons r rs=>
      simp only[Rz,ae2,adQ]at hq
      obtain⟨_,_,_,_,hq⟩:=hq
      simp only[Prod.mk.injEq]at hq
      rw[e]at hq;cases hq.1
    cases Q with
    |nil=>exact absurd rfl hl
    |cons r rs=>rfl
   ·rcases ajM.1 hc with rfl|hc
    ·exact(I.dov _ _ _ _ rfl).1
    ·exact I.dx c hc
 exact key 5 I.q
theorem qW{f:AV→Option (AV × List Nat)}:∀{l:List (List AV)} {p:List (List AV) × List Nat} {i:Nat} {r:List AV} {q:List AV × List Nat},Rz f l=some p→l[i]?=some r→fV f r=some q→∀b∈q.2,b∈p.2
 | [],p,i,r,q,_,h,_=>by simp at h
 |a::l,p,i,r,q,hp,hi,hq=>by
  simp only[Rz,ae2,adQ]at hp
  obtain⟨x,hx,y,hy,rfl⟩:=hp
  cases i with
  |zero=>
   simp at hi;subst hi
   rw[hx]at hq;cases hq
   exact fun b hb=>akX _ hb
  |succ i=>
   exact fun b hb=>akY _ (qW hy (by simpa using hi) hq b hb)
theorem tP{g:HF}{d st b r n:Nat}{x:AV}{R:List Nat}{rows:List (List AV)}(h:rd (d+1) g (.slr st b r n)=some (x,R))(hb:(g b).bind Si=some (st,false,rows)):∃q,Rz (rd d g) rows=some q∧R=b::q.2∧x=.imm st false q.1:=by
 simp only[rd,hb,afJ,cond_false]at h
 split at h
 ·obtain⟨q,hq,h⟩:=adQ.1 h
  simp only[Prod.mk.injEq]at h
  exact⟨q,hq,h.2.symm,h.1.symm⟩
 ·cases h
end Go.Ev
namespace Go.Ev
namespace Net
abbrev Edge:=Nat × Nat × Nat
inductive aJ(E:List Edge)(s:Nat):Nat→Nat→Nat→Prop
 |nil (n:Nat):aJ E s n s 0
 |fwd {n a b c k:Nat} (h:aJ E s n a k) (he:(a,b,c)∈E):aJ E s (n+1) b (k+c)
 |bwd {n a b c k:Nat} (h:aJ E s n b k) (he:(a,b,c)∈E):aJ E s (n+1) a (k+c)
def Xy(E:List Edge)(u v c:Nat):Prop:=(u,v,c)∈E∨(v,u,c)∈E
theorem aJ.step{E:List Edge}{s n u v k c:Nat}(h:aJ E s n u k)(hs:Xy E u v c):aJ E s (n+1) v (k+c):=hs.elim (fun e=>.fwd h e) (fun e=>.bwd h e)
theorem aJ.cases'{E:List Edge}{s n v k:Nat}(h:aJ E s n v k):(v=s∧k=0)∨∃m u j c,n=m+1∧aJ E s m u j∧Xy E u v c∧k=j+c:=by
 cases h with
 |nil=>exact .inl ⟨rfl,rfl⟩
 |fwd h he=>exact .inr ⟨_,_,_,_,rfl,h,.inl he,rfl⟩
 |bwd h he=>exact .inr ⟨_,_,_,_,rfl,h,.inr he,rfl⟩
theorem aJ.more{E:List Edge}{s n v k:Nat}(h:aJ E s n v k):∀{m:Nat},n≤m→aJ E s m v k:=by
 induction h with
 |nil n=>exact fun _=>.nil _
 |fwd h he ih=>
  intro m hm
  obtain⟨m,rfl⟩:∃j,m=j+1:=⟨m-1,by omega⟩
  exact .fwd (ih (by omega)) he
 |bwd h he ih=>
  intro m hm
  obtain⟨m,rfl⟩:∃j,m=j+1:=⟨m-1,by omega⟩
  exact .bwd (ih (by omega)) he
def Cst(E:List Edge)(s v k:Nat):Prop:=∃n,aJ E s n v k
theorem Cst.step{E:List Edge}{s u v k c:Nat}(h:Cst E s u k)(hs:Xy E u v c):Cst E s v (k+c):=by obtain⟨n,h⟩:=h;exact⟨_,h.step hs⟩
def qG(E:List Edge)(s v k:Nat):Prop:=Cst E s v k∧∀j,Cst E s v j→k≤j
theorem least{p:Nat→Prop}:(∃n,p n)→∃n,p n∧∀j,p j→n≤j:=fun⟨n,hn⟩=>by
 induction n using aA5 with
 |ind n ih=>
  by_cases h:∃j,j<n∧p j
  ·obtain⟨j,h1,h2⟩:=h;exact ih j h1 h2
  ·exact⟨n,hn,fun j hj=>Nat.le_of_not_lt fun hlt=>h ⟨j,hlt,hj⟩⟩
theorem qG.ex{E:List Edge}{s v k:Nat}(h:Cst E s v k):∃j,qG E s v j:=least ⟨k,h⟩
theorem qG.eq{E:List Edge}{s v k j:Nat}(h1:qG E s v k)(h2:qG E s v j):k=j:=Nat.le_antisymm (h1.2 j h2.1) (h2.2 k h1.1)
def fF(E:List Edge)(s n v:Nat):Prop:=∃k,qG E s v k∧aJ E s n v k
theorem fF.more{E:List Edge}{s n m v:Nat}(h:fF E s n v)(hm:n≤m):fF E s m v:=by obtain⟨k,h1,h2⟩:=h;exact⟨k,h1,h2.more hm⟩
theorem fF.prev{E:List Edge}{s n v:Nat}(h:fF E s (n+1) v):v=s∨∃u c k,fF E s n u∧qG E s u k∧Xy E u v c∧qG E s v (k+c):=by
 obtain⟨k,h1,h2⟩:=h
 rcases h2.cases' with⟨h,_⟩|⟨m,u,j,c,hm,hw,hs,rfl⟩
 ·exact .inl h
 ·cases hm
  have hl:qG E s u j:=⟨⟨_,hw⟩,fun i hi=>by have:=h1.2 _ (hi.step hs);omega⟩
  exact .inr ⟨u,c,j,⟨j,hl,hw⟩,hl,hs,h1⟩
theorem fF.next{E:List Edge}{s n u v c k:Nat}(h:fF E s n u)(hu:qG E s u k)(hs:Xy E u v c)(hv:qG E s v (k+c)):fF E s (n+1) v:=by
 obtain⟨j,h1,h2⟩:=h
 cases h1.eq hu
 exact⟨_,hv,h2.step hs⟩
theorem qG.src{E:List Edge}{s:Nat}:qG E s s 0:=⟨⟨0,.nil 0⟩,fun j _=>ajV j⟩
theorem fF.src{E:List Edge}{s:Nat}(n:Nat):fF E s n s:=⟨0,qG.src,.nil n⟩
theorem fF.stable{E:List Edge}{s n:Nat}(h:∀v,fF E s (n+1) v→fF E s n v):∀m v,fF E s m v→fF E s n v
 |0,v,hv=>hv.more (ajV n)
 |m+1,v,hv=>by
  rcases hv.prev with rfl|⟨u,c,k,h1,h2,h3,h4⟩
  ·exact fF.src n
  ·exact h v ((fF.stable h m u h1).next h2 h3 h4)
noncomputable def qF(p:Nat→Prop):Nat→Nat
 |0=>0
 |N+1=>qF p N+(@ite Nat (p N) (Classical.propDecidable _) 1 0)
theorem afH(p:Nat→Prop):∀N,qF p N≤N
 |0=>af8 0
 |N+1=>by
  have:=afH p N
  unfold qF
  split<;>omega
theorem ac3{p q:Nat→Prop}(h:∀v,p v→q v):∀N,qF p N≤qF q N
 |0=>af8 0
 |N+1=>by
  have:=ac3 h N
  unfold qF
  split
  ·rename_i h1;rw[if_pos (h _ h1)];omega
  ·split<;>omega
theorem ae7{p q:Nat→Prop}(h:∀v,p v→q v){v:Nat}(hq:q v)(hp:¬p v):∀{N:Nat},v<N→qF p N+1≤qF q N
 |0,hv=>by omega
 |N+1,hv=>by
  unfold qF
  by_cases e:v=N
  ·subst e
   have:=ac3 h v
   rw[if_neg hp,if_pos hq];omega
  ·have:=ae7 h hq hp (N:=N) (by omega)
   split
   ·rename_i h1;rw[if_pos (h _ h1)];omega
   ·split<;>omega
theorem agR{p:Nat→Prop}{v:Nat}(hp:p v):∀{N:Nat},v<N→1≤qF p N
 |0,hv=>by omega
 |N+1,hv=>by
  unfold qF
  by_cases e:v=N
  ·subst e;rw[if_pos hp];omega
  ·have:=agR hp (N:=N) (by omega);split<;>omega
theorem at0{E:List Edge}{s N:Nat}(hs:s<N)(hE:∀a b c,(a,b,c)∈E→a<N∧b<N):∀m v,fF E s m v→fF E s (N-1) v:=by
 have lt:∀m v,fF E s m v→v<N:=fun m=>by
  induction m with
  |zero=>
   intro v ⟨k,_,h⟩
   rcases h.cases' with⟨rfl,_⟩|⟨_,_,_,_,h,_⟩
   ·exact hs
   ·cases h
  |succ m ih=>
   intro v hv
   rcases hv.prev with rfl|⟨u,c,k,h1,h2,h3,h4⟩
   ·exact hs
   ·rcases h3 with h3|h3
    ·exact(hE _ _ _ h3).2
    ·exact(hE _ _ _ h3).1
 have grow:∀n,(∃k,k≤n∧∀v,fF E s (k+1) v→fF E s k v)∨n+1≤qF (fF E s n) N:=fun n=>by
  induction n with
  |zero=>exact .inr (agR (fF.src 0) hs)
  |succ n ih=>
   rcases ih with⟨k,h1,h2⟩|h
   ·exact .inl ⟨k,by omega,h2⟩
   ·by_cases e:∀v,fF E s (n+1) v→fF E s n v
    ·exact .inl ⟨n,by omega,e⟩
    ·obtain⟨v,hv⟩:=Classical.not_forall.1 e
     have h1:fF E s (n+1) v:=Classical.byContradiction fun h=>hv fun h'=>(h h').elim
     have h2:¬fF E s n v:=fun h=>hv fun _=>h
     have:=ae7 (p:=fF E s n) (q:=fF E s (n+1)) (fun v h=>h.more (Nat.le_succ n)) h1 h2 (lt _ v h1)
     exact .inr (by omega)
 intro m v hv
 rcases grow N with⟨k,h1,h2⟩|h
 ·by_cases e:k≤N-1
  ·exact(fF.stable h2 m v hv).more e
  ·
   have hk:k=N:=by omega
   rcases grow (N-1)with⟨k',h1',h2'⟩|h'
   ·exact(fF.stable h2' m v hv).more h1'
   ·exact Classical.byContradiction fun hn=>by
     have:=ae7 (p:=fF E s (N-1)) (q:=fun _=>True) (fun _ _=>trivial) trivial hn (lt _ v hv)
     have:=afH (fun _=>True) N
     omega
 ·have:=afH (fF E s N) N;omega
theorem qG.lvl{E:List Edge}{s N v k:Nat}(hs:s<N)(hE:∀a b c,(a,b,c)∈E→a<N∧b<N)(h:qG E s v k):fF E s (N-1) v:=by
 obtain⟨n,hw⟩:=h.1
 exact at0 hs hE n v ⟨k,h,hw⟩
theorem aJ.le{E:List Edge}{s n v k:Nat}(hc:∀a b c,(a,b,c)∈E→c≤1)(h:aJ E s n v k):k≤n:=by
 induction h with
 |nil=>omega
 |fwd h he ih=>have:=hc _ _ _ he;omega
 |bwd h he ih=>have:=hc _ _ _ he;omega
theorem qG.le{E:List Edge}{s N v k:Nat}(hs:s<N)(hE:∀a b c,(a,b,c)∈E→a<N∧b<N)(hc:∀a b c,(a,b,c)∈E→c≤1)(h:qG E s v k):k≤N-1:=by
 obtain⟨j,h1,h2⟩:=h.lvl hs hE
 cases h1.eq h
 exact h2.le hc
def fM(E:List Edge)(s N far:Nat)(d:Nat→Nat):Prop:=∀v,v<N→(∀k,qG E s v k→d v=k)∧((∀k,¬Cst E s v k)→d v=far)
theorem ak9{E:List Edge}{s N far:Nat}{d:Nat→Nat}(h0:d s=0)(hr:∀v,v<N→d v=far∨Cst E s v (d v))(hc:∀u v c,Xy E u v c→d v≤d u+c)(hf:∀v k,qG E s v k→k<far):fM E s N far d:=fun v hv=>by
 have le:∀n v k,aJ E s n v k→d v≤k:=fun n v k h=>by
  induction h with
  |nil=>omega
  |fwd h he ih=>have:=hc _ _ _ (.inl he);omega
  |bwd h he ih=>have:=hc _ _ _ (.inr he);omega
 refine⟨fun k hk=>?_,fun h=>?_⟩
 ·obtain⟨n,hn⟩:=hk.1
  have h1:=le n v k hn
  rcases hr v hv with h|h
  ·have:=hf v k hk;omega
  ·have:=hk.2 _ h;omega
 ·rcases hr v hv with h1|h1
  ·exact h1
  ·exact(h _ h1).elim
def pY(d:List Nat)(e:Edge):List Nat:=(d.set e.2.1 (min (d.getD e.2.1 0) (d.getD e.1 0+e.2.2))).set e.1 (min (d.getD e.1 0) (d.getD e.2.1 0+e.2.2))
def a3B(E:List Edge)(d:List Nat):List Nat:=E.foldl pY d
def qD(E:List Edge):Nat→List Nat→List Nat
 |0,d=>d
 |n+1,d=>qD E n (a3B E d)
theorem tR(d:List Nat)(e:Edge):(pY d e).length=d.length:=by simp[pY]
theorem mZ{d:List Nat}{i v x:Nat}(hi:i<d.length):(d.set i x).getD v 0=if i=v then x else d.getD v 0:=by
 simp only[aZA]
 by_cases h:i=v
 ·subst h;rw[aZL hi,if_pos rfl];rfl
 ·rw[aY9 h,if_neg h]
theorem yX{d:List Nat}{a b c:Nat}(ha:a<d.length)(hb:b<d.length)(hab:a≠b)(v:Nat):(pY d (a,b,c)).getD v 0=if v=a then min (d.getD a 0) (d.getD b 0+c)else if v=b then min (d.getD b 0) (d.getD a 0+c)else d.getD v 0:=by
 unfold pY
 rw[mZ (by simpa using ha),mZ hb]
 by_cases h1:v=a
 ·subst h1;simp
 ·rw[if_neg (fun e=>h1 e.symm),if_neg h1]
  by_cases h2:v=b
  ·subst h2;simp
  ·rw[if_neg (fun e=>h2 e.symm),if_neg h2]
structure tJ(E:List Edge)(s N far:Nat)(d:List Nat):Prop where
 len:d.length=N
 src:d.getD s 0=0
 real:∀v,v<N→d.getD v 0=far∨Cst E s v (d.getD v 0)
 le:∀v,v<N→d.getD v 0≤far
theorem tJ.one{E:List Edge}{s N far:Nat}{d:List Nat}(I:tJ E s N far d){a b c:Nat}(he:(a,b,c)∈E)(ha:a<N)(hb:b<N)(hab:a≠b):tJ E s N far (pY d (a,b,c)):=by
 have hl:=I.len
 have at_:=fun v=>yX (d:=d) (c:=c) (by omega) (by omega) hab v
 have mn:∀u v,u<N→v<N→Xy E u v c→(min (d.getD v 0) (d.getD u 0+c)=far∨Cst E s v (min (d.getD v 0) (d.getD u 0+c))):=fun u v hu hv hs=>by
  have h1:=I.le v hv
  rcases Nat.le_total (d.getD v 0) (d.getD u 0+c)with h|h
  ·rw[Nat.min_eq_left h];exact I.real v hv
  ·rw[Nat.min_eq_right h]
   rcases I.real u hu with hh|hh
   ·left;omega
   ·exact .inr (hh.step hs)
 refine⟨by rw[tR,hl],?_,fun v hv=>?_,fun v hv=>?_⟩
 ·rw[at_]
  have:=I.src
  split
  ·rename_i h;subst h;rw[this];simp
  ·split
   ·rename_i h;subst h;rw[this];simp
   ·exact this
 ·rw[at_]
  split
  ·rename_i h;subst h;exact mn b v hb hv (.inr he)
  ·split
   ·rename_i h;subst h;exact mn a v ha hv (.inl he)
   ·exact I.real v hv
 ·rw[at_]
  split
  ·rename_i h;subst h;have:=I.le v hv;omega
  ·split
   ·rename_i h;subst h;have:=I.le v hv;omega
   ·exact I.le v hv
def uO(E:List Edge)(N:Nat):Prop:=∀a b c,(a,b,c)∈E→a<N∧b<N∧a≠b∧c≤1
theorem agV{d:List Nat}{a b c:Nat}(ha:a<d.length)(hb:b<d.length)(hab:a≠b)(v:Nat):(pY d (a,b,c)).getD v 0≤d.getD v 0:=by
 rw[yX ha hb hab]
 split
 ·rename_i h;subst h;omega
 ·split
  ·rename_i h;subst h;omega
  ·exact af8 _
theorem yZ:∀{L:List Edge} {d:List Nat} {N:Nat},d.length=N→uO L N→∀v,(L.foldl pY d).getD v 0≤d.getD v 0
 | [],d,N,_,_,v=>af8 _
 |(a,b,c)::L,d,N,hl,hE,v=>by
  have h:=hE a b c (ai0 ..)
  have h1:=yZ (L:=L) (d:=pY d (a,b,c)) (by rw[tR,hl]) (fun a b c hm=>hE a b c (ag1 _ hm)) v
  have h2:=agV (d:=d) (c:=c) (by omega) (by omega) h.2.2.1 v
  rw[atH];omega
theorem apV{E:List Edge}{s N far:Nat}:∀{L:List Edge} {d:List Nat},(∀e∈L,e∈E)→uO E N→tJ E s N far d→tJ E s N far (L.foldl pY d)
 | [],d,_,_,I=>I
 |(a,b,c)::L,d,hs,hE,I=>by
  have he:=hs _ (ai0 ..)
  have h:=hE a b c he
  rw[atH]
  exact apV (L:=L) (fun e hm=>hs e (ag1 _ hm)) hE (I.one he h.1 h.2.1 h.2.2.1)
theorem rK{N:Nat}:∀{L:List Edge} {d:List Nat},d.length=N→uO L N→∀{u v c k:Nat},(u,v,c)∈L∨(v,u,c)∈L→d.getD u 0≤k→(L.foldl pY d).getD v 0≤k+c
 | [],d,_,_,u,v,c,k,h,_=>by rcases h with h|h<;>cases h
 |(a,b,e)::L,d,hl,hE,u,v,c,k,h,hk=>by
  have q:=hE a b e (ai0 ..)
  have hE':uO L N:=fun a b c hm=>hE a b c (ag1 _ hm)
  have hl':(pY d (a,b,e)).length=N:=by rw[tR,hl]
  have key:(u=a∧v=b∧c=e)∨(u=b∧v=a∧c=e)∨((u,v,c)∈L∨(v,u,c)∈L):=by
   rcases h with h|h
   ·rcases ajM.1 h with h|h
    ·cases h;exact .inl ⟨rfl,rfl,rfl⟩
    ·exact .inr (.inr (.inl h))
   ·rcases ajM.1 h with h|h
    ·cases h;exact .inr (.inl ⟨rfl,rfl,rfl⟩)
    ·exact .inr (.inr (.inr h))
  rw[atH]
  have at_:=fun v=>yX (d:=d) (c:=e) (by omega) (by omega) q.2.2.1 v
  rcases key with⟨rfl,rfl,rfl⟩|⟨rfl,rfl,rfl⟩|h
  ·have h1:=yZ hl' hE' v
   rw[at_ v,if_neg (fun e=>q.2.2.1 e.symm),if_pos rfl]at h1
   omega
  ·have h1:=yZ hl' hE' v
   rw[at_ v,if_pos rfl]at h1
   omega
  ·have h2:=agV (d:=d) (c:=e) (by omega) (by omega) q.2.2.1 u
   exact rK hl' hE' h (by omega)
theorem yN{E:List Edge}{s N far:Nat}(hE:uO E N):∀(n:Nat) {d:List Nat},tJ E s N far d→tJ E s N far (qD E n d)
 |0,d,I=>I
 |n+1,d,I=>yN hE n (apV (fun _ h=>h) hE I)
theorem rW(E:List Edge):∀(n:Nat) (d:List Nat),qD E (n+1) d=a3B E (qD E n d)
 |0,d=>rfl
 |n+1,d=>by rw[qD,rW E n];rfl
theorem abA{E:List Edge}{s N far:Nat}(hE:uO E N){d:List Nat}(I:tJ E s N far d):∀(n:Nat) {v k:Nat},fF E s n v→qG E s v k→(qD E n d).getD v 0≤k
 |0,v,k,⟨j,h1,h2⟩,hk=>by
  rcases h2.cases' with⟨rfl,rfl⟩|⟨_,_,_,_,h,_⟩
  ·rw[qD,I.src];exact ajV _
  ·cases h
 |n+1,v,k,hv,hk=>by
  rw[rW]
  have J:=yN hE n I
  rcases hv.prev with rfl|⟨u,c,j,h1,h2,h3,h4⟩
  ·have K:=yN hE (n+1) I
   rw[rW]at K
   rw[K.src];exact ajV _
  ·cases h4.eq hk
   exact rK J.len hE h3 (abA hE I n h1 h2)
theorem afC{E:List Edge}{s N far:Nat}(hs:s<N)(hE:uO E N)(hf:N≤far){d:List Nat}(I:tJ E s N far d){n:Nat}(hn:N-1≤n):fM E s N far (fun v=>(qD E n d).getD v 0):=fun v hv=>by
 have J:=yN hE n I
 have hE1:∀a b c,(a,b,c)∈E→a<N∧b<N:=fun a b c h=>⟨(hE a b c h).1,(hE a b c h).2.1⟩
 have hE2:∀a b c,(a,b,c)∈E→c≤1:=fun a b c h=>(hE a b c h).2.2.2
 refine⟨fun k hk=>?_,fun h=>?_⟩
 ·have h1:=abA hE I n ((hk.lvl hs hE1).more hn) hk
  have h2:=hk.le hs hE1 hE2
  rcases J.real v hv with h|h
  ·simp only[h]at h1 ⊢;omega
  ·have:=hk.2 _ h;simp only;omega
 ·rcases J.real v hv with h1|h1
  ·exact h1
  ·exact(h _ h1).elim
end Net
end Go.Ev
namespace Go.Ev
namespace Net
structure nK(E:List Edge)(s N far:Nat)(d q:List Nat)(X:Nat→Nat→Nat→Prop):Prop where
 i:tJ E s N far d
 w:∀r∈q,r<N
 tr:∀u v c,Xy E u v c→u∈q∨X u v c∨d.getD v 0≤d.getD u 0+c
def dL(E:List Edge)(r i u v c:Nat):Prop:=u=r∧∃j,i≤j∧(E[j]?=some (r,v,c)∨E[j]?=some (v,r,c))
theorem nK.take{E:List Edge}{s N far:Nat}{d q:List Nat}{r:Nat}(I:nK E s N far d (r::q) (fun _ _ _=>False)):r<N∧nK E s N far d q (dL E r 0):=by
 refine⟨I.w r (ai0 ..),I.i,fun u hu=>I.w u (ag1 _ hu),fun u v c h=>?_⟩
 rcases I.tr u v c h with h1|h1|h1
 ·rcases ajM.1 h1 with rfl|h1
  ·right;left
   refine⟨rfl,?_⟩
   rcases h with h|h
   ·obtain⟨j,hj⟩:=aAX h;exact⟨j,ajV j,.inl hj⟩
   ·obtain⟨j,hj⟩:=aAX h;exact⟨j,ajV j,.inr hj⟩
  ·exact .inl h1
 ·exact h1.elim
 ·exact .inr (.inr h1)
theorem dL.next{E:List Edge}{r i u v c:Nat}(h:dL E r i u v c):dL E r (i+1) u v c∨(u=r∧(E[i]?=some (r,v,c)∨E[i]?=some (v,r,c))):=by
 obtain⟨h1,j,h2,h3⟩:=h
 by_cases e:i=j
 ·subst e;exact .inr ⟨h1,h3⟩
 ·exact .inl ⟨h1,j,by omega,h3⟩
theorem nK.skip{E:List Edge}{s N far:Nat}{d q:List Nat}{r i a b c:Nat}(I:nK E s N far d q (dL E r i))(hi:E[i]?=some (a,b,c))(ha:r≠a)(hb:r≠b):nK E s N far d q (dL E r (i+1)):=by
 refine⟨I.i,I.w,fun u v c' h=>?_⟩
 rcases I.tr u v c' h with h1|h1|h1
 ·exact .inl h1
 ·rcases h1.next with h1|⟨_,h2|h2⟩
  ·exact .inr (.inl h1)
  ·rw[hi]at h2;cases h2;exact(ha rfl).elim
  ·rw[hi]at h2;cases h2;exact(hb rfl).elim
 ·exact .inr (.inr h1)
theorem nK.same{E:List Edge}{s N far:Nat}{d q:List Nat}{r i t c:Nat}(I:nK E s N far d q (dL E r i))(hi:E[i]?=some (r,t,c)∨E[i]?=some (t,r,c))(hn:d.getD t 0≤d.getD r 0+c):nK E s N far d q (dL E r (i+1)):=by
 refine⟨I.i,I.w,fun u v c' h=>?_⟩
 rcases I.tr u v c' h with h1|h1|h1
 ·exact .inl h1
 ·rcases h1.next with h1|⟨rfl,h2⟩
  ·exact .inr (.inl h1)
  ·right;right
   rcases hi with h3|h3<;>rcases h2 with h2|h2<;>(rw[h3]at h2;cases h2;exact hn)
 ·exact .inr (.inr h1)
theorem nK.less{E:List Edge}{s N far:Nat}{d q q':List Nat}{r i t c:Nat}(I:nK E s N far d q (dL E r i))(hr:r<N)(ht:t<N)(hrt:r≠t)(hi:E[i]?=some (r,t,c)∨E[i]?=some (t,r,c))(hn:d.getD r 0+c<d.getD t 0)(hq:∀x,x∈q'↔x=t∨x∈q):nK E s N far (d.set t (d.getD r 0+c)) q' (dL E r (i+1)):=by
 have hl:=I.i.len
 have at_:=fun v=>mZ (d:=d) (v:=v) (x:=d.getD r 0+c) (show t<d.length by omega)
 have hst:Xy E r t c:=hi.elim (fun h=>.inl (aw6 h)) (fun h=>.inr (aw6 h))
 have hfar:=I.i.le t ht
 have le:∀v,(d.set t (d.getD r 0+c)).getD v 0≤d.getD v 0:=fun v=>by
  rw[at_];split
  ·rename_i h;subst h;omega
  ·exact af8 _
 refine⟨⟨by simpa using hl,?_,fun v hv=>?_,fun v hv=>?_⟩,fun x hx=>?_,fun u v c' h=>?_⟩
 ·rw[at_];split
  ·rename_i h;subst h;have:=I.i.src;omega
  ·exact I.i.src
 ·rw[at_];split
  ·rename_i h;subst h
   rcases I.i.real r hr with h|h
   ·omega
   ·exact .inr (h.step hst)
  ·exact I.i.real v hv
 ·have:=le v;have:=I.i.le v hv;omega
 ·rcases(hq x).1 hx with rfl|h
  ·exact ht
  ·exact I.w x h
 ·by_cases hu:u=t
  ·exact .inl ((hq u).2 (.inl hu))
  ·have hdu:(d.set t (d.getD r 0+c)).getD u 0=d.getD u 0:=by rw[at_,if_neg (fun e=>hu e.symm)]
   rcases I.tr u v c' h with h1|h1|h1
   ·exact .inl ((hq u).2 (.inr h1))
   ·rcases h1.next with h1|⟨rfl,h2⟩
    ·exact .inr (.inl h1)
    ·right;right
     have hvt:v=t∧c'=c:=by
      rcases hi with h3|h3<;>rcases h2 with h2|h2<;>(rw[h3]at h2;cases h2;first|exact⟨rfl,rfl⟩|exact(hrt rfl).elim)
     obtain⟨rfl,rfl⟩:=hvt
     rw[hdu,at_,if_pos rfl]
     exact af8 _
   ·right;right
    have:=le v
    rw[hdu];omega
theorem dL.none{E:List Edge}{r i u v c:Nat}(hi:E.length≤i):¬dL E r i u v c:=fun⟨_,j,h1,h2⟩=>by
 rw[List.getElem?_eq_none (by omega)]at h2
 rcases h2 with h2|h2<;>cases h2
theorem nK.done{E:List Edge}{s N far:Nat}{d q:List Nat}{r i:Nat}(I:nK E s N far d q (dL E r i))(hi:E.length≤i):nK E s N far d q (fun _ _ _=>False):=
 ⟨I.i,I.w,fun u v c h=>(I.tr u v c h).imp id fun h=>h.elim (fun h=>(dL.none hi h).elim) .inr⟩
theorem asK{d:List Nat}:∀{t x:Nat},t<d.length→(d.set t x).sum+d.getD t 0=d.sum+x:=by
 induction d with
 |nil=>intro t x h;simp at h
 |cons a d ih=>
  intro t x h
  cases t with
  |zero=>simp;omega
  |succ t=>
   have:=ih (t:=t) (x:=x) (by simpa using h)
   simp only[aY3,List.sum_cons,List.getD_cons_succ]
   omega
theorem lT{d:List Nat}{t x:Nat}(ht:t<d.length)(hx:x<d.getD t 0):(d.set t x).sum<d.sum:=by
 have:=asK (d:=d) (x:=x) ht
 omega
theorem nK.right{E:List Edge}{s N far:Nat}{d:List Nat}(hs:s<N)(hE:uO E N)(hf:N≤far)(I:nK E s N far d [] (fun _ _ _=>False)):fM E s N far (fun v=>d.getD v 0):=by
 refine ak9 I.i.src I.i.real (fun u v c h=>?_) fun v k hk=>?_
 ·rcases I.tr u v c h with h1|h1|h1
  ·cases h1
  ·exact h1.elim
  ·exact h1
 ·have:=hk.le hs (fun a b c h=>⟨(hE a b c h).1,(hE a b c h).2.1⟩) (fun a b c h=>(hE a b c h).2.2.2)
  omega
theorem fM.num{E:List Edge}{s N far far':Nat}{d d':Nat→Nat}(h:fM E s N far d)(h':fM E s N far' d')(hf:N≤far)(hf':N≤far')(hs:s<N)(hE:uO E N){v:Nat}(hv:v<N):(d v=far↔d' v=far')∧(d v≠far→d v=d' v)∧(d v≠far→d v<N):=by
 have hE1:∀a b c,(a,b,c)∈E→a<N∧b<N:=fun a b c h=>⟨(hE a b c h).1,(hE a b c h).2.1⟩
 have hE2:∀a b c,(a,b,c)∈E→c≤1:=fun a b c h=>(hE a b c h).2.2.2
 by_cases e:∃k,Cst E s v k
 ·obtain⟨k,hk⟩:=e
  obtain⟨j,hj⟩:=qG.ex hk
  have h1:=(h v hv).1 j hj
  have h2:=(h' v hv).1 j hj
  have h3:=hj.le hs hE1 hE2
  rw[h1,h2]
  exact⟨⟨fun e=>by omega,fun e=>by omega⟩,fun _=>rfl,fun _=>by omega⟩
 ·have hn:∀k,¬Cst E s v k:=fun k hk=>e ⟨k,hk⟩
  have h1:=(h v hv).2 hn
  have h2:=(h' v hv).2 hn
  rw[h1,h2]
  exact⟨⟨fun _=>rfl,fun _=>rfl⟩,fun h=>(h rfl).elim,fun h=>(h rfl).elim⟩
end Net
end Go.Ev
namespace Go.Ev
namespace Net
def Zt(N s far:Nat):List Nat:=(avR N far).set s 0
theorem qU{N s far v:Nat}(hs:s<N)(hv:v<N):(Zt N s far).getD v 0=if s=v then 0 else far:=by
 unfold Zt
 rw[mZ (by simpa using hs)]
 split
 ·rfl
 ·simp[aZA,hv]
theorem afF{E:List Edge}{N s far:Nat}(hs:s<N):tJ E s N far (Zt N s far):=by
 refine⟨by simp[Zt],by rw[qU hs hs,if_pos rfl],fun v hv=>?_,fun v hv=>?_⟩
 ·rw[qU hs hv]
  split
  ·rename_i h;subst h;exact .inr ⟨0,.nil 0⟩
  ·exact .inl rfl
 ·rw[qU hs hv];split<;>omega
theorem asY{E:List Edge}{N s far:Nat}(hs:s<N)(hE:uO E N):nK E s N far (Zt N s far) [s] (fun _ _ _=>False):=by
 refine⟨afF hs,fun r hr=>by simp at hr;omega,fun u v c h=>?_⟩
 have hb:u<N∧v<N:=h.elim (fun h=>⟨(hE _ _ _ h).1,(hE _ _ _ h).2.1⟩) (fun h=>⟨(hE _ _ _ h).2.1,(hE _ _ _ h).1⟩)
 by_cases e:u=s
 ·exact .inl (by simp[e])
 ·right;right
  rw[qU hs hb.1,if_neg (fun h=>e h.symm)]
  have:=(afF (E:=E) (far:=far) hs).le v hb.2
  omega
def uU(E:List Edge)(N len:Nat):Nat:=if 1000≤(qD E N (Zt N 0 1000)).getD 1 0 then len+1 else(qD E N (Zt N 0 1000)).getD 1 0
theorem kU{E:List Edge}{N:Nat}(hN:2≤N)(hN2:N≤1000)(hE:uO E N):fM E 0 N 1000 (fun v=>(qD E N (Zt N 0 1000)).getD v 0):=
 afC (by omega) hE hN2 (afF (by omega)) (by omega)
theorem axE{E:List Edge}{N far len:Nat}(hN:2≤N)(hN2:N≤1000)(hf:N≤far)(hE:uO E N){d:Nat→Nat}(h:fM E 0 N far d):(if d 1=far then len+1 else d 1)=uU E N len:=by
 obtain⟨h1,h2,h3⟩:=fM.num (kU hN hN2 hE) h hN2 hf (by omega) hE (v:=1) (by omega)
 unfold uU
 by_cases e:(qD E N (Zt N 0 1000)).getD 1 0=1000
 ·rw[if_pos (h1.1 e),if_pos (by rw[e];exact af8 _)]
 ·have:=h3 e
  rw[if_neg (fun h=>e (h1.2 h)),if_neg (by omega)]
  exact(h2 e).symm
end Net
end Go.Ev
namespace Go.Ev
namespace Net
end Net
end Go.Ev
namespace Go.Ev
namespace Net
theorem uO.ends{E:List Edge}{N:Nat}(h:uO E N):∀a b c,(a,b,c)∈E→a<N∧b<N:=fun a b c e=>⟨(h a b c e).1,(h a b c e).2.1⟩
theorem uO.one{E:List Edge}{N:Nat}(h:uO E N):∀a b c,(a,b,c)∈E→c≤1:=fun a b c e=>(h a b c e).2.2.2
theorem agO{E:List Edge}{N len k:Nat}(hN:2≤N)(hN2:N≤1000)(hE:uO E N)(h:qG E 0 1 k):uU E N len=k∧k<N:=by
 have h1:=(kU hN hN2 hE 1 (by omega)).1 k h
 have h2:=h.le (s:=0) (by omega) hE.ends hE.one
 simp only at h1
 unfold uU
 rw[h1,if_neg (by omega)]
 exact⟨rfl,by omega⟩
theorem afX{E:List Edge}{N len:Nat}(hN:2≤N)(hN2:N≤1000)(hE:uO E N)(h:∀k,¬Cst E 0 1 k):uU E N len=len+1:=by
 have h1:=(kU hN hN2 hE 1 (by omega)).2 h
 simp only at h1
 unfold uU
 rw[h1,if_pos (af8 _)]
def Tgh(E E':List Edge):Prop:=∀a b c',(a,b,c')∈E'→∃c,(a,b,c)∈E∧c≤c'
theorem aJ.tgh{E E':List Edge}(h:Tgh E E'){s n v k:Nat}(hw:aJ E' s n v k):∃k',k'≤k∧aJ E s n v k':=by
 induction hw with
 |nil n=>exact⟨0,af8 _,.nil n⟩
 |fwd _ he ih=>
  obtain⟨k',h1,h2⟩:=ih
  obtain⟨c,h3,h4⟩:=h _ _ _ he
  exact⟨k'+c,by omega,.fwd h2 h3⟩
 |bwd _ he ih=>
  obtain⟨k',h1,h2⟩:=ih
  obtain⟨c,h3,h4⟩:=h _ _ _ he
  exact⟨k'+c,by omega,.bwd h2 h3⟩
def sY(E E':List Edge):Prop:=∀a b c,(a,b,c)∈E→∃c',(a,b,c')∈E'
theorem aJ.ends{E E':List Edge}(h:sY E E'){s n v k:Nat}(hw:aJ E s n v k):∃k',aJ E' s n v k':=by
 induction hw with
 |nil n=>exact⟨0,.nil n⟩
 |fwd _ he ih=>
  obtain⟨k',h2⟩:=ih
  obtain⟨c,h3⟩:=h _ _ _ he
  exact⟨k'+c,.fwd h2 h3⟩
 |bwd _ he ih=>
  obtain⟨k',h2⟩:=ih
  obtain⟨c,h3⟩:=h _ _ _ he
  exact⟨k'+c,.bwd h2 h3⟩
theorem aoX{E E':List Edge}{N len:Nat}(hN:2≤N)(hN2:N≤1000)(hE:uO E N)(hE':uO E' N)(h:Tgh E E')(he:sY E E'):uU E N len≤uU E' N len:=by
 by_cases hp:∃k,Cst E' 0 1 k
 ·obtain⟨k,hk⟩:=hp
  obtain⟨j,hj⟩:=qG.ex hk
  obtain⟨n,hn⟩:=hj.1
  obtain⟨i,hi,hw⟩:=hn.tgh h
  obtain⟨m,hm⟩:=qG.ex (E:=E) ⟨n,hw⟩
  rw[(agO hN hN2 hE hm).1,(agO hN hN2 hE' hj).1]
  exact alC (hm.2 i ⟨n,hw⟩) hi
 ·have h1:∀k,¬Cst E' 0 1 k:=fun k hk=>hp ⟨k,hk⟩
  have h2:∀k,¬Cst E 0 1 k:=fun k ⟨n,hk⟩=>by
   obtain⟨k',hk'⟩:=hk.ends he
   exact h1 k' ⟨n,hk'⟩
  rw[afX hN hN2 hE h2,afX hN hN2 hE' h1]
  exact af8 _
end Net
end Go.Ev
namespace Go.Ev
namespace Net
end Net
end Go.Ev
namespace Go.Ev
namespace Net
end Net
end Go.Ev
namespace Go.Ev
structure qE(S:Type) where
 goal:S→Bool
 ops:S→List (Nat × List S)
inductive nI{S:Type}(Y:qE S):S→Nat→Prop
 |met {s:S} {k:Nat} (h:Y.goal s=true):nI Y s k
 |op {s:S} {c:Nat} {to:List S} {k k':Nat} (h:(c,to)∈Y.ops s) (ht:∀s'∈to,nI Y s' k') (hk:c+k'≤k):nI Y s k
namespace nI
variable {S:Type} {Y:qE S}
theorem mono{s:S}{k j:Nat}(h:nI Y s k)(hj:k≤j):nI Y s j:=by
 cases h with
 |met h=>exact .met h
 |op h ht hk=>exact .op h ht (by omega)
theorem le_of_stable{L:List S}{f:S→Nat}{top:Nat}(hg:∀s∈L,Y.goal s=true→f s=0)
 (hs:∀s∈L,∀c to,(c,to)∈Y.ops s→(∀s'∈to,s'∈L)∧∀m,m<top→(∀s'∈to,f s'≤m)→f s≤c+m) {s:S} {k:Nat} (h:nI Y s k):s∈L→k<top→f s≤k:=by
 induction h with
 |met h=>intro hL _;rw[hg _ hL h];exact ajV _
 | @op s c to k k' h ht hk ih=>
   intro hL hkt
   obtain⟨h1,h2⟩:=hs s hL c to h
   have:=h2 k' (by omega) fun s' h'=>ih s' h' (h1 s' h') (by omega)
   omega
end nI
theorem acT{S:Type}[DecidableEq S]{L:List S}{f:S→Nat}{top b:Nat}(h:∀s∈L,f s<top→0<f s→∃s'∈L,f s'<f s∧f s≤b+f s'):∀n,∀s∈L,f s=n→n<top→n≤b*(L.filter fun s'=>decide (f s'<n)).length:=by
 intro n
 induction n using aA5 with
 |ind n ih=>
  intro s hs hf ht
  by_cases h0:0<n
  ·obtain⟨s',h1,h2,h3⟩:=h s hs (by omega) (by omega)
   have h4:=ih (f s') (by omega) s' h1 rfl (by omega)
   have h5:(L.filter fun x=>decide (f x<f s')).length+1≤(L.filter fun x=>decide (f x<n)).length:=by
    clear h4 ih h hs
    have gen:∀{M:List S},s'∈M→(M.filter fun x=>decide (f x<f s')).length+1≤(M.filter fun x=>decide (f x<n)).length:=fun {M}=>by
     have le:∀{M:List S},(M.filter fun x=>decide (f x<f s')).length≤(M.filter fun x=>decide (f x<n)).length:=fun {M}=>by
      induction M with
      |nil=>simp
      |cons a M ih=>
       by_cases e1:f a<f s'
       ·rw[ak2 (by simpa using e1),ak2 (by simp;omega)];simp;exact ih
       ·rw[aq4 (by simpa using e1)]
        by_cases e2:f a<n
        ·rw[ak2 (by simpa using e2)];simp;omega
        ·rw[aq4 (by simpa using e2)];exact ih
     induction M with
     |nil=>intro h;cases h
     |cons a M ih=>
      intro hm
      rcases ajM.1 hm with rfl|hm
      ·rw[aq4 (by simp),ak2 (by simp;omega)]
       have:=le (M:=M)
       simp;omega
      ·have:=ih hm
       by_cases e1:f a<f s'
       ·rw[ak2 (by simpa using e1),ak2 (by simp;omega)];simp;exact this
       ·rw[aq4 (by simpa using e1)]
        by_cases e2:f a<n
        ·rw[ak2 (by simpa using e2)];simp;omega
        ·rw[aq4 (by simpa using e2)];exact this
    exact gen h1
   have:b*((L.filter fun x=>decide (f x<f s')).length+1)≤b*(L.filter fun x=>decide (f x<n)).length:=a0J b h5
   rw[Nat.mul_add,Nat.mul_one]at this
   omega
  ·have:n=0:=by omega
   subst this;exact ajV _
theorem alQ{S:Type}[DecidableEq S]{L:List S}{f:S→Nat}{top b:Nat}(h:∀s∈L,f s<top→0<f s→∃s'∈L,f s'<f s∧f s≤b+f s'){s:S}(hs:s∈L)(ht:f s<top):f s≤b*L.length:=
 alC (acT h (f s) s hs rfl ht) (a0J b (List.length_filter_le ..))
namespace qE
variable {S:Type}
def mx(f:S→Nat)(l:List S):Nat:=l.foldl (fun m x=>max m (f x)) 0
theorem qM(f:S→Nat):∀(l:List S) (m:Nat),m≤l.foldl (fun m x=>max m (f x)) m∧(∀x∈l,f x≤l.foldl (fun m x=>max m (f x)) m)∧(l.foldl (fun m x=>max m (f x)) m=m∨∃x∈l,l.foldl (fun m x=>max m (f x)) m=f x)
 | [],m=>⟨af8 _,by simp,.inl rfl⟩
 |a::l,m=>by
  obtain⟨h1,h2,h3⟩:=qM f l (max m (f a))
  simp only[atH]
  refine⟨by omega,fun x hx=>?_,?_⟩
  ·rcases ajM.1 hx with rfl|hx
   ·omega
   ·exact h2 x hx
  ·rcases h3 with h3|⟨x,hx,h3⟩
   ·by_cases hm:m≤f a
    ·exact .inr ⟨a,by simp,by rw[h3];omega⟩
    ·exact .inl (by rw[h3];omega)
   ·exact .inr ⟨x,ag1 _ hx,h3⟩
theorem mx_le{f:S→Nat}{l:List S}{x:S}(h:x∈l):f x≤mx f l:=(qM f l 0).2.1 x h
theorem yS{f:S→Nat}{l:List S}{m:Nat}(h:∀x∈l,f x≤m):mx f l≤m:=by
 rcases(qM f l 0).2.2 with e|⟨x,hx,e⟩
 ·unfold mx;rw[e];exact ajV _
 ·unfold mx;rw[e];exact h x hx
theorem a0P{f:S→Nat}{l:List S}(h:l≠[]):∃x∈l,mx f l=f x:=by
 rcases(qM f l 0).2.2 with e|⟨x,hx,e⟩
 ·obtain⟨a,ha⟩:=List.exists_mem_of_ne_nil l h
  have:=mx_le (f:=f) ha
  unfold mx at this
  exact⟨a,ha,by unfold mx;omega⟩
 ·exact⟨x,hx,e⟩
theorem agH{f g:S→Nat}{l:List S}(h:∀x∈l,g x≤f x):mx g l≤mx f l:=yS fun x hx=>alC (h x hx) (mx_le hx)
variable [DecidableEq S] (Y:qE S)
structure Known(top:Nat)(L:List S)(f:S→Nat):Prop where
 ops:∀s∈L,∀o∈Y.ops s,1≤o.1∧o.1≤1000∧o.2≠[]∧∀x∈o.2,x∈L
 le:∀s∈L,f s≤top
 goal:∀s∈L,Y.goal s=true→f s=0
 got:∀s∈L,f s<top→nI Y s (f s)
 by_:∀s∈L,f s<top→Y.goal s=true∨∃o∈Y.ops s,o.1+mx f o.2≤f s
variable {Y}
theorem Known.less{top:Nat}{L:List S}{f:S→Nat}(K:Y.Known top L f){s:S}{o:Nat × List S}(ho:o∈Y.ops s)(hs:s∈L){n:Nat}(hn:n=min top (o.1+mx f o.2))(hl:n<f s):Y.Known top L (fun x=>if x=s then n else f x):=by
 have hts:=K.le s hs
 have hnt:n<top:=by omega
 have hno:n=o.1+mx f o.2:=by omega
 have dn:∀x:S,(if x=s then n else f x)≤f x:=fun x=>by
  split
  ·rename_i e;subst e;omega
  ·exact af8 _
 have hx:∀x∈o.2,f x<top:=fun x h=>by have:=mx_le (f:=f) h;omega
 refine⟨K.ops,fun x h=>alC (dn x) (K.le x h),fun x h hg=>?_,fun x h hlt=>?_,fun x h hlt=>?_⟩
 ·have:=K.goal x h hg
  have:=dn x
  omega
 ·by_cases e:x=s
  ·subst e
   simp only[if_true]
   refine .op (c:=o.1) (to:=o.2) ho (k':=mx f o.2) (fun y hy=>?_) (by omega)
   exact(K.got y ((K.ops _ hs o ho).2.2.2 y hy) (hx y hy)).mono (mx_le hy)
  ·simp only[if_neg e]at hlt ⊢
   exact K.got x h hlt
 ·by_cases e:x=s
  ·subst e
   simp only[if_true]
   exact .inr ⟨o,ho,by have:=agH (f:=f) (l:=o.2) fun y _=>dn y;omega⟩
  ·simp only[if_neg e]at hlt ⊢
   rcases K.by_ x h hlt with hg|⟨p,hp,hle⟩
   ·exact .inl hg
   ·exact .inr ⟨p,hp,by have:=agH (f:=f) (l:=p.2) fun y _=>dn y;omega⟩
theorem Known.best{top:Nat}{L:List S}{f:S→Nat}(K:Y.Known top L f)(st:∀s∈L,∀o∈Y.ops s,f s≤min top (o.1+mx f o.2)){s:S}(hs:s∈L):
 (∀k,k<top→nI Y s k→f s≤k)∧(f s<top→nI Y s (f s)∧f s≤1000*L.length)∧(f s=0→0<top→Y.goal s=true):=by
 refine⟨fun k hk hc=>nI.le_of_stable K.goal (fun s hs c to ho=>⟨(K.ops s hs _ ho).2.2.2,fun m hm h=>?_⟩) hc hs hk,fun h=>⟨K.got s hs h,alQ (f:=f) (top:=top) (fun s hs hlt h0=>?_) hs h⟩,fun h0 ht=>?_⟩
 ·have h1:=st s hs _ ho
  have h2:=yS (f:=f) h
  simp only at h1
  omega
 ·rcases K.by_ s hs hlt with hg|⟨o,ho,hle⟩
  ·have:=K.goal s hs hg;omega
  ·have h1:=st s hs o ho
   obtain⟨a1,a2,a3,a4⟩:=K.ops s hs o ho
   obtain⟨x,hx,e⟩:=a0P (f:=f) a3
   exact⟨x,a4 x hx,by omega,by omega⟩
 ·rcases K.by_ s hs (by omega)with hg|⟨o,ho,hle⟩
  ·exact hg
  ·have:=(K.ops s hs o ho).1;omega
end qE
end Go.Ev
namespace Go.Ev
theorem aa7{P:Nat→Prop}(h:∃k,P k):∃k,P k∧∀j,P j→k≤j:=by
 obtain⟨k,hk⟩:=h
 induction k using aA5 with
 |ind k ih=>
  by_cases c:∃j,j<k∧P j
  ·obtain⟨j,h1,h2⟩:=c;exact ih j h1 h2
  ·exact⟨k,hk,fun j hj=>by
    by_cases e:j<k
    ·exact absurd ⟨j,e,hj⟩ c
    ·omega⟩
namespace qE
variable {S:Type} (Y:qE S)
noncomputable def bst(top:Nat)(s:S):Nat:=@dite Nat (∃k,nI Y s k) (Classical.propDecidable _) (fun h=>Classical.choose (aa7 h)) fun _=>top
variable {Y}
theorem iM{top:Nat}{s:S}(h:∃k,nI Y s k):nI Y s (Y.bst top s)∧∀k,nI Y s k→Y.bst top s≤k:=by
 unfold bst;rw[dif_pos h];exact Classical.choose_spec (aa7 h)
theorem bst_none{top:Nat}{s:S}(h:¬∃k,nI Y s k):Y.bst top s=top:=by
 unfold bst;rw[dif_neg h]
theorem bst_goal{top:Nat}{s:S}(h:Y.goal s=true):Y.bst top s=0:=by
 have:=(iM (top:=top) ⟨0,.met h⟩).2 0 (.met h);omega
structure Fine(Y:qE S)(top:Nat)(s:S):Prop where
 lt:(∃k,nI Y s k)→Y.bst top s<top
theorem Known.fin[DecidableEq S]{top:Nat}{L:List S}{f:S→Nat}(K:Y.Known top L f)(st:∀s∈L,∀o∈Y.ops s,f s≤min top (o.1+mx f o.2))(hb:1000*L.length+1000<top){s:S}{k:Nat}(h:nI Y s k):s∈L→f s<top:=by
 induction h with
 |met h=>intro hL;rw[K.goal _ hL h];omega
 | @op s c to k k' h ht hk ih=>
   intro hL
   obtain⟨a1,a2,a3,a4⟩:=K.ops s hL _ h
   have hm:mx f to≤1000*L.length:=yS fun x hx=>((K.best st (a4 x hx)).2.1 (ih x hx (a4 x hx))).2
   have:=st s hL _ h
   simp only at this a2
   omega
theorem Known.bst[DecidableEq S]{top:Nat}{L:List S}{f:S→Nat}(K:Y.Known top L f)(st:∀s∈L,∀o∈Y.ops s,f s≤min top (o.1+mx f o.2))(hb:1000*L.length+1000<top){s:S}(hs:s∈L):f s=Y.bst top s∧((∃k,nI Y s k)→f s<top):=by
 by_cases h:∃k,nI Y s k
 ·obtain⟨k,hk⟩:=h
  have hf:=K.fin st hb hk hs
  obtain⟨b1,b2⟩:=iM (top:=top) ⟨k,hk⟩
  obtain⟨c1,c2,c3⟩:=K.best st hs
  have d1:=b2 _ (c2 hf).1
  have d2:=c1 (Y.bst top s) (by omega) b1
  exact⟨by omega,fun _=>hf⟩
 ·refine⟨?_,fun h'=>absurd h' h⟩
  rw[bst_none h]
  by_cases e:f s<top
  ·exact absurd ⟨_,K.got s hs e⟩ h
  ·have:=K.le s hs;omega
theorem bst_le{top:Nat}{s:S}(hs:Y.Fine top s){c:Nat}{to:List S}(h:(c,to)∈Y.ops s):Y.bst top s≤min top (c+mx (Y.bst top) to):=by
 have h1:Y.bst top s≤top:=by
  by_cases e:∃k,nI Y s k
  ·exact Nat.le_of_lt (hs.lt e)
  ·rw[bst_none e];exact af8 _
 by_cases a:∀x∈to,∃k,nI Y x k
 ·have hc:nI Y s (c+mx (Y.bst top) to):=.op h (fun x hx=>(iM (a x hx)).1.mono (mx_le hx)) (af8 _)
  have:=(iM (top:=top) ⟨_,hc⟩).2 _ hc
  omega
 ·obtain⟨x,hx⟩:=Classical.not_forall.1 a
  obtain⟨hx,hn⟩:=Classical.not_imp.1 hx
  have h2:=mx_le (f:=Y.bst top) hx
  rw[bst_none hn]at h2
  omega
theorem bst_op{top:Nat}{s:S}(hs:Y.Fine top s)(h:Y.bst top s<top)(hg:Y.goal s=false)(h1:∀o∈Y.ops s,1≤o.1):∃o∈Y.ops s,Y.bst top s=min top (o.1+mx (Y.bst top) o.2)∧∀x∈o.2,(∃k,nI Y x k)∧Y.bst top x<Y.bst top s:=by
 have e:∃k,nI Y s k:=Classical.byContradiction fun n=>by rw[bst_none n]at h;omega
 have hc:=(iM (top:=top) e).1
 generalize hb:Y.bst top s=b at *
 cases hc with
 |met h=>rw[hg]at h;cases h
 | @op _ c to _ k' ho ht hk=>
   have hx:∀x∈to,Y.bst top x≤k':=fun x hx=>(iM ⟨_,ht x hx⟩).2 _ (ht x hx)
   have hm:mx (Y.bst top) to≤k':=yS hx
   have h3:=bst_le hs ho
   rw[hb]at h3
   have h4:=h1 _ ho
   exact⟨(c,to),ho,by simp only;omega,fun x hx'=>⟨⟨_,ht x hx'⟩,by have:=hx x hx';simp only at h4;omega⟩⟩
theorem bst_pos{top:Nat}{s:S}(hs:Y.Fine top s)(ht:0<top)(h1:∀o∈Y.ops s,1≤o.1):Y.bst top s=0↔Y.goal s=true:=by
 constructor
 ·intro h
  cases hg:Y.goal s with
  |true=>rfl
  |false=>
   obtain⟨o,ho,e,_⟩:=bst_op hs (by omega) hg h1
   have:=h1 o ho
   omega
 ·exact bst_goal
end qE
end Go.Ev
namespace Go.Ev
namespace Snake
abbrev V:=Bool × Bool × Bool
def nb(x y:V):Bool:=(x.1 !=y.1).toNat+(x.2.1 !=y.2.1).toNat+(x.2.2 !=y.2.2).toNat==1
theorem nodup_sub{α:Type}[DecidableEq α]:∀{l m:List α},l.Nodup→(∀x∈l,x∈m)→l.length≤m.length
 | [],_,_,_=>ajV _
 |a::l,m,hn,hs=>by
  have hn':=List.nodup_cons.1 hn
  have h1:=nodup_sub (l:=l) (m:=m.erase a) hn'.2 fun x hx=>(List.mem_erase_of_ne (fun e=>hn'.1 (by rw[←e];exact hx))).2 (hs x (by simp[hx]))
  rw[List.length_erase_of_mem (hs a (by simp))]at h1
  have:=List.length_pos_of_mem (hs a (by simp))
  simp;omega
theorem bgE:∀a b c d e f g h:Bool,6≤a.toNat+b.toNat+c.toNat+d.toNat+e.toNat+f.toNat+g.toNat+h.toNat→
 ((a&&b&&d&&c)||(e&&f&&h&&g)||(a&&b&&f&&e)||(c&&d&&h&&g)||(a&&c&&g&&e)||(b&&d&&h&&f)||(b&&d&&c&&g&&e&&f)||(a&&c&&g&&h&&f&&b)||(a&&b&&d&&h&&g&&e)||(a&&c&&d&&h&&f&&e))=true:=by decide
theorem q3(I:List Nat)(hI:I.Nodup)(u:Nat→V)(h:∀i∈I,∀j∈I,i<j→u i≠u j∧(nb (u i) (u j)=true→j=i+1)):I.length≤5:=by
 apply Classical.byContradiction
 intro hc
 have ad:∀(x y:V) i j,i∈I→j∈I→u i=x→u j=y→nb x y=true→nb y x=true→j=i+1∨i=j+1:=by
  intro x y i j hi hj hx hy h1 h2
  subst hx;subst hy
  rcases Nat.lt_trichotomy i j with hl|rfl|hl
  ·exact .inl ((h i hi j hj hl).2 h1)
  ·simp[nb]at h1
  ·exact .inr ((h j hj i hi hl).2 h2)
 have ne:∀(x y:V) i j,u i=x→u j=y→x≠y→i≠j:=by
  intro x y i j hx hy hn e
  subst e;exact hn (hx.symm.trans hy)
 have hinj:(I.map u).Nodup:=by
  rw[List.nodup_iff_pairwise_ne,List.pairwise_map]
  refine List.Pairwise.imp_of_mem (R:=fun a b=>a≠b) ?_ hI
  intro a b ha hb hab e
  rcases Nat.lt_or_gt_of_ne hab with hl|hl
  ·exact(h a ha b hb hl).1 e
  ·exact(h b hb a ha hl).1 e.symm
 have hp:∀x:V,∃t:Bool,(t=true→∃i∈I,u i=x)∧(t=false→x∉I.map u):=by
  intro x
  by_cases e:x∈I.map u
  ·exact⟨true,fun _=>by obtain⟨i,hi,rfl⟩:=akZ.1 e;exact⟨i,hi,rfl⟩,(fun h=>nomatch h)⟩
  ·exact⟨false,(fun h=>nomatch h),fun _=>e⟩
 obtain⟨a,a1,a2⟩:=hp (false,false,false)
 obtain⟨b,b1,b2⟩:=hp (true,false,false)
 obtain⟨c,c1,c2⟩:=hp (false,true,false)
 obtain⟨d,d1,d2⟩:=hp (true,true,false)
 obtain⟨e,e1,e2⟩:=hp (false,false,true)
 obtain⟨f,f1,f2⟩:=hp (true,false,true)
 obtain⟨g,g1,g2⟩:=hp (false,true,true)
 obtain⟨k,k1,k2⟩:=hp (true,true,true)
 have hlen:(I.map u).length≤(((if a then [(false,false,false)]else [])++(if b then [(true,false,false)]else [])++(if c then [(false,true,false)]else [])++(if d then [(true,true,false)]else [])++(if e then [(false,false,true)]else [])++(if f then [(true,false,true)]else [])++(if g then [(false,true,true)]else [])++(if k then [(true,true,true)]else [])):List V).length:=by
  refine nodup_sub hinj fun x hx=>?_
  obtain⟨x1,x2,x3⟩:=x
  cases x1<;>cases x2<;>cases x3
  ·cases a with|true=>simp|false=>exact absurd hx (a2 rfl)
  ·cases e with|true=>simp|false=>exact absurd hx (e2 rfl)
  ·cases c with|true=>simp|false=>exact absurd hx (c2 rfl)
  ·cases g with|true=>simp|false=>exact absurd hx (g2 rfl)
  ·cases b with|true=>simp|false=>exact absurd hx (b2 rfl)
  ·cases f with|true=>simp|false=>exact absurd hx (f2 rfl)
  ·cases d with|true=>simp|false=>exact absurd hx (d2 rfl)
  ·cases k with|true=>simp|false=>exact absurd hx (k2 rfl)
 have hl:∀(t:Bool) (x:V),(if t then [x]else []).length=t.toNat:=by intro t x;cases t<;>rfl
 simp only[auG,hl,aHN]at hlen
 have hcu:=bgE a b c d e f g k (by omega)
 simp only[aw4,arB]at hcu
 rcases hcu with(((((((((⟨⟨⟨rfl,rfl⟩,rfl⟩,rfl⟩|⟨⟨⟨rfl,rfl⟩,rfl⟩,rfl⟩)|⟨⟨⟨rfl,rfl⟩,rfl⟩,rfl⟩)|⟨⟨⟨rfl,rfl⟩,rfl⟩,rfl⟩)|⟨⟨⟨rfl,rfl⟩,rfl⟩,rfl⟩)|⟨⟨⟨rfl,rfl⟩,rfl⟩,rfl⟩)|⟨⟨⟨⟨⟨rfl,rfl⟩,rfl⟩,rfl⟩,rfl⟩,rfl⟩)|⟨⟨⟨⟨⟨rfl,rfl⟩,rfl⟩,rfl⟩,rfl⟩,rfl⟩)|⟨⟨⟨⟨⟨rfl,rfl⟩,rfl⟩,rfl⟩,rfl⟩,rfl⟩)|⟨⟨⟨⟨⟨rfl,rfl⟩,rfl⟩,rfl⟩,rfl⟩,rfl⟩)
 ·obtain⟨i1,m1,v1⟩:=a1 rfl
  obtain⟨i2,m2,v2⟩:=b1 rfl
  obtain⟨i3,m3,v3⟩:=d1 rfl
  obtain⟨i4,m4,v4⟩:=c1 rfl
  have p1:=ad _ _ _ _ m1 m2 v1 v2 rfl rfl
  have p2:=ad _ _ _ _ m2 m3 v2 v3 rfl rfl
  have p3:=ad _ _ _ _ m3 m4 v3 v4 rfl rfl
  have p4:=ad _ _ _ _ m4 m1 v4 v1 rfl rfl
  have n1:=ne _ _ _ _ v1 v3 (by simp)
  have n2:=ne _ _ _ _ v2 v4 (by simp)
  omega
 ·obtain⟨i1,m1,v1⟩:=e1 rfl
  obtain⟨i2,m2,v2⟩:=f1 rfl
  obtain⟨i3,m3,v3⟩:=k1 rfl
  obtain⟨i4,m4,v4⟩:=g1 rfl
  have p1:=ad _ _ _ _ m1 m2 v1 v2 rfl rfl
  have p2:=ad _ _ _ _ m2 m3 v2 v3 rfl rfl
  have p3:=ad _ _ _ _ m3 m4 v3 v4 rfl rfl
  have p4:=ad _ _ _ _ m4 m1 v4 v1 rfl rfl
  have n1:=ne _ _ _ _ v1 v3 (by simp)
  have n2:=ne _ _ _ _ v2 v4 (by simp)
  omega
 ·obtain⟨i1,m1,v1⟩:=a1 rfl
  obtain⟨i2,m2,v2⟩:=b1 rfl
  obtain⟨i3,m3,v3⟩:=f1 rfl
  obtain⟨i4,m4,v4⟩:=e1 rfl
  have p1:=ad _ _ _ _ m1 m2 v1 v2 rfl rfl
  have p2:=ad _ _ _ _ m2 m3 v2 v3 rfl rfl
  have p3:=ad _ _ _ _ m3 m4 v3 v4 rfl rfl
  have p4:=ad _ _ _ _ m4 m1 v4 v1 rfl rfl
  have n1:=ne _ _ _ _ v1 v3 (by simp)
  have n2:=ne _ _ _ _ v2 v4 (by simp)
  omega
 ·obtain⟨i1,m1,v1⟩:=c1 rfl
  obtain⟨i2,m2,v2⟩:=d1 rfl
  obtain⟨i3,m3,v3⟩:=k1 rfl
  obtain⟨i4,m4,v4⟩:=g1 rfl
  have p1:=ad _ _ _ _ m1 m2 v1 v2 rfl rfl
  have p2:=ad _ _ _ _ m2 m3 v2 v3 rfl rfl
  have p3:=ad _ _ _ _ m3 m4 v3 v4 rfl rfl
  have p4:=ad _ _ _ _ m4 m1 v4 v1 rfl rfl
  have n1:=ne _ _ _ _ v1 v3 (by simp)
  have n2:=ne _ _ _ _ v2 v4 (by simp)
  omega
 ·obtain⟨i1,m1,v1⟩:=a1 rfl
  obtain⟨i2,m2,v2⟩:=c1 rfl
  obtain⟨i3,m3,v3⟩:=g1 rfl
  obtain⟨i4,m4,v4⟩:=e1 rfl
  have p1:=ad _ _ _ _ m1 m2 v1 v2 rfl rfl
  have p2:=ad _ _ _ _ m2 m3 v2 v3 rfl rfl
  have p3:=ad _ _ _ _ m3 m4 v3 v4 rfl rfl
  have p4:=ad _ _ _ _ m4 m1 v4 v1 rfl rfl
  have n1:=ne _ _ _ _ v1 v3 (by simp)
  have n2:=ne _ _ _ _ v2 v4 (by simp)
  omega
 ·obtain⟨i1,m1,v1⟩:=b1 rfl
  obtain⟨i2,m2,v2⟩:=d1 rfl
  obtain⟨i3,m3,v3⟩:=k1 rfl
  obtain⟨i4,m4,v4⟩:=f1 rfl
  have p1:=ad _ _ _ _ m1 m2 v1 v2 rfl rfl
  have p2:=ad _ _ _ _ m2 m3 v2 v3 rfl rfl
  have p3:=ad _ _ _ _ m3 m4 v3 v4 rfl rfl
  have p4:=ad _ _ _ _ m4 m1 v4 v1 rfl rfl
  have n1:=ne _ _ _ _ v1 v3 (by simp)
  have n2:=ne _ _ _ _ v2 v4 (by simp)
  omega
 ·obtain⟨i1,m1,v1⟩:=b1 rfl
  obtain⟨i2,m2,v2⟩:=d1 rfl
  obtain⟨i3,m3,v3⟩:=c1 rfl
  obtain⟨i4,m4,v4⟩:=g1 rfl
  obtain⟨i5,m5,v5⟩:=e1 rfl
  obtain⟨i6,m6,v6⟩:=f1 rfl
  have p1:=ad _ _ _ _ m1 m2 v1 v2 rfl rfl
  have p2:=ad _ _ _ _ m2 m3 v2 v3 rfl rfl
  have p3:=ad _ _ _ _ m3 m4 v3 v4 rfl rfl
  have p4:=ad _ _ _ _ m4 m5 v4 v5 rfl rfl
  have p5:=ad _ _ _ _ m5 m6 v5 v6 rfl rfl
  have p6:=ad _ _ _ _ m6 m1 v6 v1 rfl rfl
  have n1:=ne _ _ _ _ v1 v3 (by simp)
  have n2:=ne _ _ _ _ v2 v4 (by simp)
  have n3:=ne _ _ _ _ v3 v5 (by simp)
  have n4:=ne _ _ _ _ v4 v6 (by simp)
  omega
 ·obtain⟨i1,m1,v1⟩:=a1 rfl
  obtain⟨i2,m2,v2⟩:=c1 rfl
  obtain⟨i3,m3,v3⟩:=g1 rfl
  obtain⟨i4,m4,v4⟩:=k1 rfl
  obtain⟨i5,m5,v5⟩:=f1 rfl
  obtain⟨i6,m6,v6⟩:=b1 rfl
  have p1:=ad _ _ _ _ m1 m2 v1 v2 rfl rfl
  have p2:=ad _ _ _ _ m2 m3 v2 v3 rfl rfl
  have p3:=ad _ _ _ _ m3 m4 v3 v4 rfl rfl
  have p4:=ad _ _ _ _ m4 m5 v4 v5 rfl rfl
  have p5:=ad _ _ _ _ m5 m6 v5 v6 rfl rfl
  have p6:=ad _ _ _ _ m6 m1 v6 v1 rfl rfl
  have n1:=ne _ _ _ _ v1 v3 (by simp)
  have n2:=ne _ _ _ _ v2 v4 (by simp)
  have n3:=ne _ _ _ _ v3 v5 (by simp)
  have n4:=ne _ _ _ _ v4 v6 (by simp)
  omega
 ·obtain⟨i1,m1,v1⟩:=a1 rfl
  obtain⟨i2,m2,v2⟩:=b1 rfl
  obtain⟨i3,m3,v3⟩:=d1 rfl
  obtain⟨i4,m4,v4⟩:=k1 rfl
  obtain⟨i5,m5,v5⟩:=g1 rfl
  obtain⟨i6,m6,v6⟩:=e1 rfl
  have p1:=ad _ _ _ _ m1 m2 v1 v2 rfl rfl
  have p2:=ad _ _ _ _ m2 m3 v2 v3 rfl rfl
  have p3:=ad _ _ _ _ m3 m4 v3 v4 rfl rfl
  have p4:=ad _ _ _ _ m4 m5 v4 v5 rfl rfl
  have p5:=ad _ _ _ _ m5 m6 v5 v6 rfl rfl
  have p6:=ad _ _ _ _ m6 m1 v6 v1 rfl rfl
  have n1:=ne _ _ _ _ v1 v3 (by simp)
  have n2:=ne _ _ _ _ v2 v4 (by simp)
  have n3:=ne _ _ _ _ v3 v5 (by simp)
  have n4:=ne _ _ _ _ v4 v6 (by simp)
  omega
 ·obtain⟨i1,m1,v1⟩:=a1 rfl
  obtain⟨i2,m2,v2⟩:=c1 rfl
  obtain⟨i3,m3,v3⟩:=d1 rfl
  obtain⟨i4,m4,v4⟩:=k1 rfl
  obtain⟨i5,m5,v5⟩:=f1 rfl
  obtain⟨i6,m6,v6⟩:=e1 rfl
  have p1:=ad _ _ _ _ m1 m2 v1 v2 rfl rfl
  have p2:=ad _ _ _ _ m2 m3 v2 v3 rfl rfl
  have p3:=ad _ _ _ _ m3 m4 v3 v4 rfl rfl
  have p4:=ad _ _ _ _ m4 m5 v4 v5 rfl rfl
  have p5:=ad _ _ _ _ m5 m6 v5 v6 rfl rfl
  have p6:=ad _ _ _ _ m6 m1 v6 v1 rfl rfl
  have n1:=ne _ _ _ _ v1 v3 (by simp)
  have n2:=ne _ _ _ _ v2 v4 (by simp)
  have n3:=ne _ _ _ _ v3 v5 (by simp)
  have n4:=ne _ _ _ _ v4 v6 (by simp)
  omega
theorem zO(cls:Nat→Nat)(n:Nat):∀(k:Nat) (L:List Nat),(∀x∈L,cls x<k)→(∀c,c<k→(L.filter fun x=>cls x==c).length≤n)→L.length≤n*k
 |0,L,h,_=>by
  cases L with
  |nil=>simp
  |cons a L=>exact absurd (h a (by simp)) (by omega)
 |k+1,L,h,hc=>by
  have h1:=zO cls n k (L.filter fun x=> !(cls x==k)) (fun x hx=>by
   have h2:=aHA.1 hx
   have h3:=h x h2.1
   have h4:cls x≠k:=by simpa using h2.2
   omega) (fun c hck=>alC ?_ (hc c (by omega)))
  ·have h2:=hc k (by omega)
   have h3:∀M:List Nat,M.length=(M.filter fun x=>cls x==k).length+(M.filter fun x=> !(cls x==k)).length:=by
    intro M
    induction M with
    |nil=>rfl
    |cons a M ih=>cases e:(cls a==k)<;>simp[e,ih]<;>omega
   rw[h3 L,Nat.mul_succ]
   omega
  ·have h5:∀M:List Nat,((M.filter fun x=> !(cls x==k)).filter fun x=>cls x==c).length≤(M.filter fun x=>cls x==c).length:=by
    intro M
    exact(List.filter_sublist.filter _).length_le
   exact h5 L
theorem way_short(m k:Nat)(b:Nat→Nat→Bool)(E:Nat→Nat)(hE:∀i,i<m→E i<k)(h:∀i j,i<j→j<m→E i=E j→(∃v,v<5∧b i v≠b j v)∧∀v,v<5→b i v≠b j v→(∀z,z<5→z≠v→b i z=b j z)→j=i+1):m≤20*k:=by
 have h0:=zO (fun i=>4*E i+((b i 3).toNat+2*(b i 4).toNat)) 5 (4*k) (as4 m) (fun i hi=>by
  have h1:=hE i (by simpa using hi)
  have h2:(b i 3).toNat≤1:=by cases b i 3<;>simp
  have h3:(b i 4).toNat≤1:=by cases b i 4<;>simp
  show 4*E i+_<4*k
  omega) (fun c _=>by
  refine q3 _ ((List.nodup_range).filter _) (fun i=>(b i 0,b i 1,b i 2)) fun i hi j hj hij=>?_
  have i1:=aHA.1 hi
  have j1:=aHA.1 hj
  have ei:4*E i+((b i 3).toNat+2*(b i 4).toNat)=c:=by simpa using i1.2
  have ej:4*E j+((b j 3).toNat+2*(b j 4).toNat)=c:=by simpa using j1.2
  have hjm:j<m:=by simpa using j1.1
  have tl:∀x:Bool,x.toNat≤1:=by intro x;cases x<;>simp
  have ti:∀x y:Bool,x.toNat=y.toNat→x=y:=by intro x y;cases x<;>cases y<;>decide
  have t1:=tl (b i 3);have t2:=tl (b i 4);have t3:=tl (b j 3);have t4:=tl (b j 4)
  have e0:E i=E j:=by omega
  have e3:b i 3=b j 3:=ti _ _ (by omega)
  have e4:b i 4=b j 4:=ti _ _ (by omega)
  obtain⟨k1,k2⟩:=h i j hij hjm e0
  constructor
  ·intro e
   obtain⟨v,hv,hn⟩:=k1
   injection e with x0 e
   injection e with x1 x2
   obtain rfl|rfl|rfl|rfl|rfl:v=0∨v=1∨v=2∨v=3∨v=4:=by omega
   ·exact hn x0
   ·exact hn x1
   ·exact hn x2
   ·exact hn e3
   ·exact hn e4
  ·intro hb
   have hb':(b i 0 !=b j 0).toNat+(b i 1 !=b j 1).toNat+(b i 2 !=b j 2).toNat=1:=by simpa [nb]using hb
   have bne':∀x y:Bool,(x !=y).toNat=0→x=y:=by intro x y;cases x<;>cases y<;>decide
   have bne1:∀x y:Bool,(x !=y).toNat=1→x≠y:=by intro x y;cases x<;>cases y<;>decide
   have cs:((b i 0 !=b j 0).toNat=1∧(b i 1 !=b j 1).toNat=0∧(b i 2 !=b j 2).toNat=0)∨((b i 0 !=b j 0).toNat=0∧(b i 1 !=b j 1).toNat=1∧(b i 2 !=b j 2).toNat=0)∨((b i 0 !=b j 0).toNat=0∧(b i 1 !=b j 1).toNat=0∧(b i 2 !=b j 2).toNat=1):=by omega
   rcases cs with⟨p0,p1,p2⟩|⟨p0,p1,p2⟩|⟨p0,p1,p2⟩
   ·refine k2 0 (by omega) (bne1 _ _ p0) fun z hz hn=>?_
    obtain rfl|rfl|rfl|rfl:z=1∨z=2∨z=3∨z=4:=by omega
    ·exact bne' _ _ p1
    ·exact bne' _ _ p2
    ·exact e3
    ·exact e4
   ·refine k2 1 (by omega) (bne1 _ _ p1) fun z hz hn=>?_
    obtain rfl|rfl|rfl|rfl:z=0∨z=2∨z=3∨z=4:=by omega
    ·exact bne' _ _ p0
    ·exact bne' _ _ p2
    ·exact e3
    ·exact e4
   ·refine k2 2 (by omega) (bne1 _ _ p2) fun z hz hn=>?_
    obtain rfl|rfl|rfl|rfl:z=0∨z=1∨z=3∨z=4:=by omega
    ·exact bne' _ _ p0
    ·exact bne' _ _ p1
    ·exact e3
    ·exact e4)
 simp at h0
 omega
end Snake
end Go.Ev
namespace Go.Ev
noncomputable section
open Go.RowKit
def aeB(x:Int):List Int→List Int
 | []=>[x]
 |y::l=>if x≤y then x::y::l else y::aeB x l
def qZ:List Int→List Int
 | []=>[]
 |x::l=>aeB x (qZ l)
theorem nO(x:Int):∀l:List Int,(aeB x l).Perm (x::l)
 | []=>List.Perm.refl _
 |y::l=>by
  unfold aeB
  split
  ·exact List.Perm.refl _
  ·exact((nO x l).cons y).trans (List.Perm.swap x y l)
theorem kE:∀l:List Int,(qZ l).Perm l
 | []=>List.Perm.refl _
 |x::l=>(nO x _).trans ((kE l).cons x)
theorem pP(x:Int):∀{l:List Int},l.Pairwise (· ≤·)→(aeB x l).Pairwise (· ≤·)
 | [],_=>by simp[aeB]
 |y::l,h=>by
  rw[auE]at h
  unfold aeB
  split
  ·rename_i hxy
   refine auE.2 ⟨fun z hz=>?_,auE.2 h⟩
   rcases ajM.1 hz with rfl|hz
   ·exact hxy
   ·exact Int.le_trans hxy (h.1 z hz)
  ·rename_i hxy
   refine auE.2 ⟨fun z hz=>?_,pP x h.2⟩
   rcases ajM.1 ((nO x l).mem_iff.1 hz)with rfl|hz
   ·omega
   ·exact h.1 z hz
theorem mF:∀l:List Int,(qZ l).Pairwise (· ≤·)
 | []=>List.Pairwise.nil
 |x::l=>pP x (mF l)
theorem alX(l:List Int):(l.mergeSort fun x y=>decide (x≤y))=qZ l:=by
 have h1:=List.pairwise_mergeSort (le:=fun x y:Int=>decide (x≤y)) (by simp;omega) (by simp;omega) l
 refine List.Perm.eq_of_pairwise (le:=(· ≤·)) (fun a b _ _ h1 h2=>Int.le_antisymm h1 h2) ?_ (mF l) ((List.mergeSort_perm l _).trans (kE l).symm)
 simpa using h1
theorem aiJ(l:List Int):(qZ l).length=l.length:=(kE l).length_eq
def tN:List (List AV)→Option (List Int)
 | []=>some []
 | [.int .i64 n]::l=>(tN l).map (n::·)
 |_=>none
theorem wN:∀{rows:List (List AV)} {l:List Int},tN rows=some l→rows=l.map fun n=>[.int .i64 n]
 | [],l,h=>by simp[tN]at h;subst h;rfl
 |r::rows,l,h=>by
  unfold tN at h
  split at h
  ·rename_i e;cases e
  ·rename_i n l' e
   cases e
   obtain⟨l2,h2,rfl⟩:=adQ.1 h
   rw[wN h2];rfl
  ·cases h
def agD:List AV→Qa→Option (Tu × Qa)
 | [.slr 1 b 0 len],h=>match h[b]? with
   |some (.live 1 true _ rows)=>if rows.length=len∧1≤len∧len≤549755813888 then(tN rows).map fun zs=>(.ret (.tup []),h.set b (.live 1 true true ((qZ zs).map fun n=>[.int .i64 n])))else none
   |_=>none
 |_,_=>none
section
variable {P:Program} {G:Nat→Option Obj}
theorem vA{w:World}{cb:Nat}{c:Array Value}{e:TypeId}{fz:Nat × Nat}(hk:w.heap[cb]?=some (.cells c e fz))(f:Array Value→Array Value):Go.Sort.mapBlock w cb f=setB w cb (.cells (f c) e fz):=by
 unfold Go.Sort.mapBlock setB
 congr 1
 apply Array.ext_getElem?
 intro k
 simp only[Array.getElem?_modify,Array.getElem?_setIfInBounds]
 by_cases h:cb=k
 ·subst h
  have hl:=(Array.getElem?_eq_some_iff.1 hk).1
  rw[if_pos rfl,if_pos rfl,if_pos hl,hk];rfl
 ·rw[if_neg h,if_neg h]
theorem ab9(w:World)(n:Nat):Below w.heap.size w (Go.Sort.ahead w n) where
 os:=rfl
 tape:=rfl
 output:=rfl
 size:=af8 _
 block:=fun _ _=>rfl
theorem at6{f:Nat}(hen:∀args w,(callFunc f args).run P w=.ok (.enter f args) w)
 (hc:∀(blk off cap:Nat) (zs:List Int) (w:World),Go.Sort.Holds (Value.int .i64) w blk off zs.toArray→blk<w.heap.size→zs.length<4611686018427387904→
   Calls P f #[.slice (some ⟨blk,off,none⟩) zs.length cap] w fun e w'=>e=.returned (.tuple #[])∧∃n os,w'=Go.Sort.grow (Go.Sort.putRow (Value.int .i64) (Go.Sort.ahead w n) blk off (zs.mergeSort fun x y=>decide (x≤y)).toArray) os):oN P G f agD:=by
 intro args h out h' hp
 refine⟨hen,fun w S ρ cargs hI H dom all hargs=>?_⟩
 unfold agD at hp
 split at hp
 ·rename_i b len
  split at hp
  ·rename_i wr rows hg
   split at hp
   ·rename_i hl
    obtain⟨hl1,hl2,hl3⟩:=hl
    obtain⟨zs,hz,hp⟩:=adQ.1 hp
    simp only[Prod.mk.injEq]at hp
    obtain⟨rfl,rfl⟩:=hp
    have hrows:=wN hz
    have hzl:zs.length=len:=by rw[←hl1,hrows];simp
    obtain⟨v,vs',e,hv,hn⟩:=hargs.cons_inv
    have:=hn.nil_inv
    subst this
    have ec:cargs=#[v]:=by apply Array.toList_inj.1;rw[e]
    subst ec
    have hbl:b<h.length:=(aj6.1 hg).1
    cases hv with
    |slrD hρ _=>have:=H.dead b hρ;rw[show hf h b=some _ from hg]at this;cases this
    | @slr _ _ _ _ cb co _ sz cap a hρ hle ha=>
      obtain⟨c,e',fz,fl',rows',k1,k2,k3,k4⟩:=H.at_ b cb co 1 sz hρ
      rcases k4 with⟨⟨wr',k4⟩,hS,hfz⟩|⟨k4,_⟩
      ·rw[show hf h b=some _ from hg]at k4
       cases k4
       rcases ha with ha|⟨rfl,hcap⟩
       ·omega
       have hco:co+len≤c.size:=by have:=k3.len;rw[hl1]at this;omega
       have hold:Go.Sort.Holds (Value.int .i64) w cb (co+0*1) zs.toArray:=fun j hj=>by
        have hj':j<zs.length:=by simpa using hj
        have hr:rows[j]?=some [AV.int .i64 zs[j]]:=by rw[hrows,aq5,aq3 hj'];rfl
        obtain⟨v,h1,h2⟩:=k3.cell j _ 0 _ hr rfl
        cases h2
        have hlt:co+j<c.size:=by omega
        refine⟨?_,wY k1 (hfz _ (by rw[←k2];omega))⟩
        rw[mO k1]
        simp only[Nat.zero_mul,arA]
        have h1':c[co+j]?=some (Value.int .i64 zs[j]):=by simpa using h1
        rw[h1']
        simp[getElem!_pos,hj']
       rw[←hzl]
       refine(hc cb (co+0*1) cap zs w hold (H.lt hρ) (by omega)).mono fun e w' hw=>?_
       obtain⟨rfl,n,os,rfl⟩:=hw
       rw[alX]
       have hB1:=ab9 w n
       have H1:=H.below hB1
       have k1':(Go.Sort.ahead w n).heap[cb]?=some (.cells c e' fz):=k1
       have hsl:=aiJ zs
       generalize qZ zs=ys at *
       have hput:Go.Sort.putRow (Value.int .i64) (Go.Sort.ahead w n) cb (co+0*1) ys.toArray=setB (Go.Sort.ahead w n) cb (.cells (Go.Sort.putCells (Value.int .i64) (co+0*1) ys.toArray c) e' fz):=vA k1' _
       rw[hput]
       have hcs:(Go.Sort.putCells (Value.int .i64) (co+0*1) ys.toArray c).size=c.size:=by simp[Go.Sort.putCells]
       have hblk:Ub (Go.Sort.ahead w n) S ρ (Go.Sort.putCells (Value.int .i64) (co+0*1) ys.toArray c) co 1 true (ys.map fun n=>[.int .i64 n]):=by
        refine⟨by rw[hcs];simp;omega,fun r hr=>?_,fun _ r hr x hx=>?_,fun i r j x hr hx=>?_,fun r hr x hx=>?_⟩
        ·obtain⟨n,_,rfl⟩:=akZ.1 hr;rfl
        ·obtain⟨n,_,rfl⟩:=akZ.1 hr;simp at hx;subst hx;rfl
        ·rw[aq5]at hr
         obtain⟨m,hm,rfl⟩:=adQ.1 hr
         have hi:i<ys.length:=(aj6.1 hm).1
         have hx':j=0∧x=.int .i64 m:=by
          cases j with
          |zero=>simp at hx;exact⟨rfl,hx.symm⟩
          |succ j=>simp at hx
         obtain⟨rfl,rfl⟩:=hx'
         refine⟨.int .i64 m,?_,.int _ _⟩
         simp only[Go.Sort.putCells,Array.getElem?_mapIdx,Nat.mul_one,arA,Nat.zero_mul,arA]
         rw[Array.getElem?_eq_getElem (by omega),ajY,if_pos ⟨by omega,by simp;omega⟩,show co+i-co=i by omega]
         have:ys[i]?=some m:=hm
         have h2:=aj6.1 hm
         simp[getElem!_pos,h2.1,h2.2]
        ·obtain⟨n,_,rfl⟩:=akZ.1 hr;simp at hx;subst hx;rfl
       have H2:=H1.setLive (wr:=true) hρ hS (e:=e') (fz:=fz) (by rw[hcs];exact k2) hfz ⟨_,_,_,k1'⟩ hblk
       have hs2:=Ue.setB (w:=Go.Sort.ahead w n) hρ hS ⟨_,_,_,k1'⟩ (.cells (Go.Sort.putCells (Value.int .i64) (co+0*1) ys.toArray c) e' fz)
       generalize hw2:setB (Go.Sort.ahead w n) cb (.cells (Go.Sort.putCells (Value.int .i64) (co+0*1) ys.toArray c) e' fz)=w2 at *
       have hB3:=rQ (w:=w2) (af8 _) os
       have H3:=H2.below hB3
       refine⟨.tuple #[],S,ρ,⟨⟨_,rfl⟩,rfl⟩,.tup rfl (fun i x v hx _=>by simp at hx),by rw[adX hbl];exact H3,((Ue.below H hB1).trans hs2).trans (Ue.below H2 hB3),fun b' hb'=>dom b' (by simpa using hb'),fun b' hb'=>all b' (by simpa using hb'),by simp,fun i x x' hx hx' hsm=>?_⟩
       by_cases e:i=b
       ·subst e
        rw[hg]at hx;cases hx
        rw[aZL hbl]at hx';cases hx'
        simp[CB.same]at hsm
       ·refine⟨rfl,fun cb' co' st' sz' hb'=>?_⟩
        have hne:cb'≠cb:=fun q=>e (H.inj _ _ _ _ _ _ _ _ _ hb' (q▸hρ))
        have hl':cb'<w.heap.size:=H.lt hb'
        have hw2s:w2.heap.size=w.heap.size:=by rw[←hw2];simp[setB,Go.Sort.ahead]
        rw[hB3.block cb' (by rw[hw2s];exact hl'),←hw2,Qo hne]
        rfl
      ·rw[show hf h b=some _ from hg]at k4;cases k4
   ·cases hp
  ·cases hp
 ·cases hp
end
def xU(fI fJ fS:Nat)(md:Nat→Bool):aC:={ at_:=fun f=>if f=fI then some afN else if f=fJ then some abI else none,md:=md,sh:=fun f=>if f=fS then some agD else none }
theorem akG{P:Program}{G:Nat→Option Obj}{fI fJ fS:Nat}{md:Nat→Bool}(hI:oN P G fI afN)(hJ:oN P G fJ abI)(hS:oN P G fS agD):zA P G (xU fI fJ fS md):=by
 refine⟨fun f p hp=>?_,fun f p hp=>?_⟩
 ·simp only[xU]at hp
  split at hp
  ·rename_i e;subst e;cases hp;exact hI
  ·split at hp
   ·rename_i e;subst e;cases hp;exact hJ
   ·cases hp
 ·simp only[xU]at hp
  split at hp
  ·rename_i e;subst e;cases hp;exact hS
  ·cases hp
end
end Go.Ev
