/- The evaluator and its soundness. -/
import Derived.Test.YtcncggaobhbomaaGreatDoorLibD
import Derived.Sort.Grow
open And renaming intro→abT
open Eq renaming trans→abV
open Option renaming map_eq_some_iff→acG,bind_eq_some_iff→ac4,bind_some→adA,map_some→ahF,some→ao1
open Nat renaming le_refl→adD,zero_le→agF,le_trans→aoP,add_zero→aoW,strongRecOn→atY,mul_le_mul_left→ay4
open List renaming mem_cons_of_mem→adM,mem_cons_self→adP,mem_cons→ad8,getElem?_eq_some_iff→ahS,mem_append→ah9,mem_append_left→aiF,mem_append_right→ai3,all_eq_true→ai4,filter_cons_of_pos→ai5,mem_map→ajT,nil_append→anI,getElem?_eq_getElem→aoQ,filter_cons_of_neg→aoR,getElem?_map→aoS,append_nil→aoT,length_cons→aoU,foldl_cons→apA,pairwise_cons→apU,cons_append→aqT,replicate→aq9,range→as3,flatMap_cons→atB,getElem?_append_left→atC,mem_of_getElem?→atT,getElem?_of_mem→atU,length_append→awV,length_nil→awX,set_cons_succ→axM,take_of_length_le→axO,getElem?_append_right→ax7,any_eq_true→ayY,getElem?_set_ne→ay1,getD_eq_getElem?_getD→ay2,getElem?_set_self→ay3
open Bool renaming or_true→aoV,and_eq_true→asT,or_eq_true→ayX,not_eq_true'→ayZ,not_eq_eq_eq_not→ay0
set_option linter.unusedSimpArgs false
set_option linter.unusedVariables false
namespace Go.Ev
noncomputable section
set_option maxRecDepth 100000
def EVa:=PLift.up (abT @akZ (abT @ap1 (abT @axP (abT @anG (abT @aiY (abT @akH (abT @anW (abT @aq1 (abT @List.map_cons.{0,0} (abT @List.map_nil.{0,0} (abT @ahF.{0,0} (abT @Option.map_none.{0,0} (abT @List.getElem?_cons_zero.{0} (abT @List.getElem?_cons_succ.{0} (abT @adA.{0,0} (abT @avK (abT @aAE (abT @a32 (abT @apX (abT @axE (abT @au4 (abT @avP (abT @auE (abT @au1 (abT @amV (abT @aZA (abT @as8 (abT @ao9 (abT @ar7 (abT @ao0 (abT @arJ (abT @Nat.add_assoc (abT @List.append_assoc.{0} @awV.{0})))))))))))))))))))))))))))))))))
def EVb:=PLift.up (abT @List.length_replicate.{0} (abT @List.length_map.{0,0} (abT @Int.natCast_nonneg (abT @Int.toNat_natCast (abT @aoS.{0,0} (abT @apM (abT @ag5 (abT @as1 (abT @avS (abT @aC6 (abT @aq7 (abT @ajR (abT @ajQ (abT @avG (abT @aC8 (abT @aRS (abT @ayA (abT @asI (abT @adC (abT @ajF (abT @jW (abT @aq6 (abT @ak0 (abT @arT (abT @aKY (abT @aAL (abT @a6B (abT @a3A (abT @aAQ (abT @aAV (abT @a8C @aWL)))))))))))))))))))))))))))))))
def EVc:=PLift.up (abT @arS (abT @akW (abT @al4 (abT @aoY (abT @asA (abT @eU (abT @amA (abT @akE (abT @aeU (abT @asD (abT @axB (abT @aoA (abT @aAX (abT @anS (abT @aoH (abT @anQ (abT @afT (abT @qM (abT @tA (abT @amL (abT @wA (abT @sS (abT @amM (abT @agN (abT @ah2 (abT @alG (abT @anO (abT @asZ (abT @apP (abT @ayE (abT @asY (abT @auD @arP))))))))))))))))))))))))))))))))
def EVd:=PLift.up (abT @axW (abT @ayQ (abT @ar1 (abT @ajX (abT @ayD (abT @aq0 (abT @avH (abT @aq5 (abT @axA (abT @au6 (abT @at7 (abT @axJ (abT @av8 (abT @arK (abT @List.all_cons.{0} (abT @List.all_nil.{0} (abT @anI.{0} (abT @aoT.{0} (abT @aqT.{0} (abT @aoU.{0} (abT @awX.{0} (abT @List.take_succ_cons.{0} (abT @List.take_zero.{0} (abT @List.drop_succ_cons.{0} (abT @List.drop_zero.{0} (abT @List.take_nil.{0} (abT @List.set_cons_zero.{0} (abT @axM.{0} (abT @apV @axV)))))))))))))))))))))))))))))
def EVe:=PLift.up (abT @aqH (abT @aqX (abT @axG (abT @awU (abT @auG (abT @ao7 (abT @avJ (abT @ao6 (abT @ap7 (abT @at0 (abT @avI (abT @ayJ (abT @Bool.and_self (abT @Bool.and_true (abT @Bool.true_and (abT @Bool.false_and (abT @Bool.and_false (abT @aoV (abT @Bool.or_false (abT @Bool.true_or (abT @Bool.not_true (abT @Bool.not_false (abT @Nat.zero_add (abT @aoW (abT @Bool.false_eq_true (abT @true_and (abT @and_true (abT @and_self (abT @adD (abT @ayT (abT @asQ (abT @anE @alQ))))))))))))))))))))))))))))))))
def EVf:=PLift.up (abT @azZ (abT @azF (abT @aqE (abT @au5 (abT @axR (abT @afO (abT @aaA (abT @amO (abT @ayO (abT @afG (abT @asO (abT @agR (abT @aq4 (abT @avD (abT @aRR (abT @aSL (abT @anN (abT @adH (abT @ax4 (abT @ak4 (abT @ajI (abT @ayS (abT @a0U (abT @atX (abT @ax6 (abT @akA (abT @azE (abT @aY6 (abT @arA (abT @auI (abT @ax1 (abT @auN (abT @aw2 (abT @aw5 @az6))))))))))))))))))))))))))))))))))
def EVg:=PLift.up (abT @apZ (abT @aoL (abT @ahI (abT @abX (abT @arD (abT @av4 (abT @asM (abT @awS (abT @atE (abT @adF (abT @amU (abT @agQ (abT @aqU (abT @ax0 (abT @avZ (abT @auU (abT @av1 (abT @au0 (abT @List.any_cons.{0} (abT @List.any_nil.{0} (abT @awD (abT @amW (abT @yQ (abT @vY (abT @ahJ (abT @adU (abT @List.replicate_succ.{0} (abT @List.replicate_zero.{0} (abT @or_self (abT @ne_eq.{1} @not_true_eq_false))))))))))))))))))))))))))))))
def EVh:=PLift.up (abT @avF (abT @alZ (abT @aoO (abT @agU (abT @aiQ (abT @aT2 (abT @ajC @arF)))))))
section
variable {P:Program} {O:Ud}
theorem vS{C:R→Prop}{b:Bool}{k:R}(hb:b=true)(h:True→C k):C (Vh b k):=atV hb (h trivial)
end
end
noncomputable section
open Go.RowKit
theorem ag3(b:Nat):place [] b=(0,[b]):=abV rfl rfl
theorem abY(a b:Nat)(m:List Nat):place (a::m) b=if a=b then(0,a::m)else((place m b).1+1,a::(place m b).2):=by
 unfold place
 rw[List.idxOf?_cons]
 by_cases h:a=b
 ·simp[h]
 ·simp only[h,if_false,beq_iff_eq]
  cases List.idxOf? b m<;>simp
section
variable {P:Program} {O:Ud}
theorem arG(d:Nat)(m:List Nat)(b:Bool):Qz (d+1) m (.bool b)=some (.bool b,m):=abV rfl rfl
theorem avE(d:Nat)(m:List Nat)(k:IntKind)(n:Int):Qz (d+1) m (.int k n)=some (.int k n,m):=abV rfl rfl
theorem as2(d:Nat)(m:List Nat):Qz (d+1) m .nils=some (.nils,m):=abV rfl rfl
theorem avC(d:Nat)(m:List Nat)(n:Nat)(fl:Bool)(rows:List (List AV)):Qz (d+1) m (.imm n fl rows)=some (.imm n fl rows,m):=abV rfl rfl
theorem awT(d:Nat)(m:List Nat)(n:Nat)(fl nn:Bool)(rows:List (List AV)):Qz (d+1) m (Rw n fl nn rows)=some (Rw n fl nn rows,m):=Xb m (eU d n fl nn rows)
theorem avA(d:Nat)(m:List Nat)(b r o:Nat):Qz (d+1) m (.ptr b r o)=some (.ptr (place m b).1 r o,(place m b).2):=abV rfl rfl
theorem ayL(d:Nat)(m:List Nat)(st b r len:Nat):Qz (d+1) m (.slr st b r len)=some (.slr st (place m b).1 r len,(place m b).2):=abV rfl rfl
def rfA(x:Option (List AV × List Nat)):Option (AV × List Nat):=x.map fun(cs,m)=>(.agg cs,m)
def rfT(x:Option (List AV × List Nat)):Option (AV × List Nat):=x.map fun(cs,m)=>(.tup cs,m)
theorem ajB(cs:List AV)(m:List Nat):rfA (some (cs,m))=some (.agg cs,m):=abV rfl rfl
theorem ajN(cs:List AV)(m:List Nat):rfT (some (cs,m))=some (.tup cs,m):=abV rfl rfl
theorem awC(d:Nat)(m:List Nat)(cs:List AV):Qz (d+1) m (.agg cs)=rfA (Qz.refL (Qz d) m cs):=abV rfl rfl
theorem auO(d:Nat)(m:List Nat)(cs:List AV):Qz (d+1) m (.tup cs)=rfT (Qz.refL (Qz d) m cs):=abV rfl rfl
def rfG(fn:Fn)(a:List AV)(x:Option (List AV × List Nat)):Option (AV × List Nat):=x.map fun(b,m)=>(.func fn a b,m)
def rfF(fn:Fn)(d:Nat)(b:List AV)(x:Option (List AV × List Nat)):Option (AV × List Nat):=x.bind fun(a,m)=>rfG fn a (Qz.refL (Qz d) m b)
theorem al5(fn:Fn)(a b:List AV)(m:List Nat):rfG fn a (some (b,m))=some (.func fn a b,m):=abV rfl rfl
theorem aj1(fn:Fn)(d:Nat)(a b:List AV)(m:List Nat):rfF fn d b (some (a,m))=rfG fn a (Qz.refL (Qz d) m b):=abV rfl rfl
theorem apW(d:Nat)(m:List Nat)(fn:Fn)(a b:List AV):Qz (d+1) m (.func fn a b)=rfF fn d b (Qz.refL (Qz d) m a):=abV rfl rfl
def rfD(v:AV)(x:Option (List AV × List Nat)):Option (List AV × List Nat):=x.map fun(vs,m)=>(v::vs,m)
def rfC(f:List Nat→AV→Option (AV × List Nat))(vs:List AV)(x:Option (AV × List Nat)):Option (List AV × List Nat):=x.bind fun(v,m)=>rfD v (Qz.refL f m vs)
theorem aoK(v:AV)(vs:List AV)(m:List Nat):rfD v (some (vs,m))=some (v::vs,m):=abV rfl rfl
theorem ak2(f:List Nat→AV→Option (AV × List Nat))(vs:List AV)(v:AV)(m:List Nat):rfC f vs (some (v,m))=rfD v (Qz.refL f m vs):=abV rfl rfl
theorem aoX(f:List Nat→AV→Option (AV × List Nat))(m:List Nat):Qz.refL f m []=some ([],m):=abV rfl rfl
theorem alV(f:List Nat→AV→Option (AV × List Nat))(m:List Nat)(v:AV)(vs:List AV):Qz.refL f m (v::vs)=rfC f vs (f m v):=abV rfl rfl
def rrD(cs:List AV)(x:Option (List (List AV) × List Nat)):Option (List (List AV) × List Nat):=x.map fun(rs,m)=>(cs::rs,m)
def rrC(rs:List (List AV))(x:Option (List AV × List Nat)):Option (List (List AV) × List Nat):=x.bind fun(cs,m)=>rrD cs (Yj m rs)
theorem aoI(cs:List AV)(rs:List (List AV))(m:List Nat):rrD cs (some (rs,m))=some (cs::rs,m):=abV rfl rfl
theorem amC(rs:List (List AV))(cs:List AV)(m:List Nat):rrC rs (some (cs,m))=rrD cs (Yj m rs):=abV rfl rfl
theorem ax2(m:List Nat):Yj m []=some ([],m):=abV rfl rfl
theorem ap8(m:List Nat)(cs:List AV)(rs:List (List AV)):Yj m (cs::rs)=rrC rs (Qz.refL (Qz 8) m cs):=abV rfl rfl
def rbV(st:Nat)(w:Bool)(x:Option (List (List AV) × List Nat)):Option (CB × List Nat):=x.map fun(rows,m)=>(.live st false w rows,m)
theorem alY(st:Nat)(w:Bool)(rows:List (List AV))(m:List Nat):rbV st w (some (rows,m))=some (.live st false w rows,m):=abV rfl rfl
theorem aQ4(m:List Nat)(st:Nat)(w:Bool)(rows:List (List AV)):kS m (.live st true w rows)=some (.live st true w rows,m):=abV rfl rfl
theorem aC5(m:List Nat)(st:Nat)(w:Bool)(rows:List (List AV)):kS m (.live st false w rows)=rbV st w (Yj m rows):=abV rfl rfl
def pcE(c:CB)(x:Option (List CB × List Nat)):Option (List CB × List Nat):=x.map fun(cs,m)=>(c::cs,m)
def pcR(n:Nat)(h:Qa)(i:Nat)(x:Option (CB × List Nat)):Option (List CB × List Nat):=x.bind fun(c,m)=>pcE c (Xt n (hf h) (i+1) m)
def pcB(n:Nat)(h:Qa)(i:Nat)(m:List Nat)(x:Option CB):Option (List CB × List Nat):=x.bind fun c=>pcR n h i (kS m c)
def pcK(n:Nat)(h:Qa)(i:Nat)(m:List Nat)(x:Option Nat):Option (List CB × List Nat):=
 match x with
 |none=>some ([],m)
 |some b=>pcB n h i m (h[b]?)
theorem amE(c:CB)(cs:List CB)(m:List Nat):pcE c (some (cs,m))=some (c::cs,m):=abV rfl rfl
theorem al2(n:Nat)(h:Qa)(i:Nat)(c:CB)(m:List Nat):pcR n h i (some (c,m))=pcE c (Xt n (hf h) (i+1) m):=abV rfl rfl
theorem aj8(n:Nat)(h:Qa)(i:Nat)(m:List Nat)(c:CB):pcB n h i m (some c)=pcR n h i (kS m c):=abV rfl rfl
theorem an5(n:Nat)(h:Qa)(i:Nat)(m:List Nat):pcK n h i m none=some ([],m):=abV rfl rfl
theorem akI(n:Nat)(h:Qa)(i:Nat)(m:List Nat)(b:Nat):pcK n h i m (some b)=pcB n h i m (h[b]?):=abV rfl rfl
theorem aY5(n:Nat)(h:Qa)(i:Nat)(m:List Nat):Xt (n+1) (hf h) i m=pcK n h i m (m[i]?):=by
 unfold Xt pcK
 cases m[i]?<;>rfl
def pkB(vs:List AV)(x:Option (List CB × List Nat)):Option (List AV × List CB × List Nat):=x.map fun(cs,m)=>(vs,cs,m)
def pkA(h:Qa)(x:Option (List AV × List Nat)):Option (List AV × List CB × List Nat):=x.bind fun(vs,m)=>pkB vs (Xt 5000 (hf h) 0 m)
theorem akV(vs:List AV)(cs:List CB)(m:List Nat):pkB vs (some (cs,m))=some (vs,cs,m):=abV rfl rfl
theorem anY(h:Qa)(vs:List AV)(m:List Nat):pkA h (some (vs,m))=pkB vs (Xt 5000 (hf h) 0 m):=abV rfl rfl
theorem aC4(h:Qa)(m:List Nat)(vs:List AV):Xj (hf h) m vs=pkA h (Qz.refL (Qz 8) m vs):=abV rfl rfl
def upK(h:Qa)(lent:List Nat)(v:Option AV)(ps ns:Option (List Qb))(o:AV→Tj):OE:=v.bind fun v=>ps.bind fun ps=>ns.bind fun ns=>
 some (o v,(if lent.isEmpty|| !(hasImm 8 v||(ps++ns).any Qb.hasImm)then []else Uk (hf h) lent)++ps++ns)
def crU(h:Qa)(base:Nat)(lent m:List Nat)(cs:List CB)(x:Option (Tj × Qa)):OE:=
 match x with
 |some (.ret v,h')=>upK h lent (Si 8 (Uj m base) v) (Vm (Uj m base) m cs (h'.take m.length)) (Wx (Uj m base) base (h'.drop m.length)) .ret
 |some (.pan v,h')=>upK h lent (Si 8 (Uj m base) v) (Vm (Uj m base) m cs (h'.take m.length)) (Wx (Uj m base) base (h'.drop m.length)) .pan
 |none=>none
def crP(O:Ud)(h:Qa)(base:Nat)(f:aW)(lent:List Nat)(x:Option (List AV × List CB × List Nat)):OE:=x.bind fun(vs,cs,m)=>
 if lent.any (m.contains ·)then none else crU h base lent m cs (O.call f vs (cs.map CB.clean))
def crQ(O:Ud)(h:Qa)(base:Nat)(f:aW)(lent:List Nat)(x:Option (List AV)):OE:=x.bind fun vs=>crP O h base f lent (Xj (hf h) [] vs)
theorem bcH(h:Qa)(base:Nat)(f:aW)(args:List AV):cr (qD O (hf h) base f args)=crQ O h base f (args.flatMap (Qn 12 (hf h))) (Qw (uT h) args):=by
 unfold qD Rz crQ uT
 cases Qw (Vd 12 (hf h)) args with
 |none=>rfl
 |some vs=>
  simp only[adA]
  unfold crP
  cases Xj (hf h) [] vs with
  |none=>rfl
  |some x=>
   obtain⟨vs',cs,m⟩:=x
   simp only[adA]
   split
   ·rfl
   ·cases O.call f vs' (cs.map CB.clean)with
    |none=>rfl
    |some y=>
     obtain⟨out,h'⟩:=y
     simp only[adA,Xv]
     unfold crU upK
     cases out with
     |ret v=>
      simp only[Tj.v]
      cases Si 8 (Uj m base) v with
      |none=>rfl
      |some v=>
       cases Vm (Uj m base) m cs (h'.take m.length)with
       |none=>rfl
       |some ps=>cases Wx (Uj m base) base (h'.drop m.length)<;>rfl
     |pan v=>
      simp only[Tj.v]
      cases Si 8 (Uj m base) v with
      |none=>rfl
      |some v=>
       cases Vm (Uj m base) m cs (h'.take m.length)with
       |none=>rfl
       |some ps=>cases Wx (Uj m base) base (h'.drop m.length)<;>rfl
theorem ajA(h:Qa)(base:Nat)(f:aW)(lent:List Nat)(vs:List AV):crQ O h base f lent (some vs)=crP O h base f lent (Xj (hf h) [] vs):=abV rfl rfl
theorem aoG(h:Qa)(base:Nat)(f:aW)(lent:List Nat)(vs:List AV)(cs:List CB)(m:List Nat):crP O h base f lent (some (vs,cs,m))=if lent.any (m.contains ·)=true then none else crU h base lent m cs (O.call f vs (cs.map CB.clean)):=abV rfl rfl
theorem ap3(h:Qa)(base:Nat)(lent m:List Nat)(cs:List CB)(v:AV)(h':Qa):crU h base lent m cs (some (.ret v,h'))=upK h lent (Si 8 (Uj m base) v) (Vm (Uj m base) m cs (h'.take m.length)) (Wx (Uj m base) base (h'.drop m.length)) .ret:=abV rfl rfl
theorem akS(h:Qa)(lent:List Nat)(v:AV)(ps ns:List Qb)(o:AV→Tj):upK h lent (some v) (some ps) (some ns) o=some (o v,(if(lent.isEmpty|| !(hasImm 8 v||(ps++ns).any Qb.hasImm))=true then []else Uk (hf h) lent)++ps++ns):=abV rfl rfl
theorem atG(st:Nat)(fl w:Bool)(rows:List (List AV)):CB.clean (.live st fl w rows)=.live st fl false rows:=abV rfl rfl
theorem atH(d:Nat)(g:HF)(b:Bool):Qn (d+1) g (.bool b)=[]:=abV rfl rfl
theorem aw3(d:Nat)(g:HF)(k:IntKind)(n:Int):Qn (d+1) g (.int k n)=[]:=abV rfl rfl
theorem apJ(d:Nat)(g:HF):Qn (d+1) g .nils=[]:=abV rfl rfl
theorem auH(d:Nat)(g:HF)(n:Nat)(fl:Bool)(rows:List (List AV)):Qn (d+1) g (.imm n fl rows)=[]:=abV rfl rfl
theorem auL(d:Nat)(g:HF)(b r o:Nat):Qn (d+1) g (.ptr b r o)=[]:=abV rfl rfl
theorem atA(d:Nat)(g:HF)(fn:Fn)(a b:List AV):Qn (d+1) g (.func fn a b)=[]:=abV rfl rfl
theorem avR(d:Nat)(g:HF)(n:Nat)(fl nn:Bool)(rows:List (List AV)):Qn (d+1) g (Rw n fl nn rows)=[]:=dF g (d:=1) (by omega) (eU 0 n fl nn rows)
theorem axI(d:Nat)(g:HF)(cs:List AV):Qn (d+1) g (.agg cs)=cs.flatMap (Qn d g):=abV rfl rfl
def lvS(b:Nat)(c:Option CB)(q:AV→List Nat)(r len:Nat):List Nat:=
 b::match c with
 |some (.live _ fl _ rows)=>if r+len≤rows.length then(if fl then []else((rows.drop r).take len).flatMap fun cs=>cs.flatMap q)else []
 |some (.frz _ fl rows)=>if r+len≤rows.length then(if fl then []else((rows.drop r).take len).flatMap fun cs=>cs.flatMap q)else []
 |_=>[]
theorem ab6(d:Nat)(h:Qa)(st b r len:Nat):Qn (d+1) (hf h) (.slr st b r len)=lvS b (h[b]?) (Qn d (hf h)) r len:=by
 have e:Qn (d+1) (hf h) (.slr st b r len)=b::(match Tu (hf h) b r len with|some (_,fl,rows)=>if fl then []else rows.flatMap fun cs=>cs.flatMap (Qn d (hf h))|none=>[]):=rfl
 rw[e]
 generalize Qn d (hf h)=q
 unfold Tu lvS
 have eh:hf h b=h[b]?:=rfl
 rw[eh]
 cases h[b]? with
 |none=>rfl
 |some c=>
  cases c with
  |live st fl w rows=>simp only;by_cases hq:r+len≤rows.length<;>simp[hq]
  |frz st fl rows=>simp only;by_cases hq:r+len≤rows.length<;>simp[hq]
  |_=>rfl
theorem aNU(b:Nat)(st:Nat)(w:Bool)(rows:List (List AV))(q:AV→List Nat)(r len:Nat):lvS b (some (.live st true w rows)) q r len=[b]:=by simp[lvS]
theorem a8H(m:List Nat)(base i:Nat):Uj m base i=if i<m.length then m.getD i base else base+(i-m.length):=abV rfl rfl
theorem ap2(d:Nat)(f:Nat→Nat)(b:Bool):Si (d+1) f (.bool b)=some (.bool b):=abV rfl rfl
theorem ax9(d:Nat)(f:Nat→Nat)(k:IntKind)(n:Int):Si (d+1) f (.int k n)=some (.int k n):=abV rfl rfl
theorem avV(d:Nat)(f:Nat→Nat)(n:Nat)(fl nn:Bool)(rows:List (List AV)):Si (d+1) f (Rw n fl nn rows)=some (Rw n fl nn rows):=Yf f (eU d n fl nn rows)
theorem ax3(d:Nat)(f:Nat→Nat)(b r o:Nat):Si (d+1) f (.ptr b r o)=some (.ptr (f b) r o):=abV rfl rfl
theorem aw8(d:Nat)(f:Nat→Nat)(st b r len:Nat):Si (d+1) f (.slr st b r len)=some (.slr st (f b) r len):=abV rfl rfl
def rnA(x:Option (List AV)):Option AV:=x.map .agg
def rnT(x:Option (List AV)):Option AV:=x.map .tup
theorem aoF(cs:List AV):rnA (some cs)=some (.agg cs):=abV rfl rfl
theorem am9(cs:List AV):rnT (some cs)=some (.tup cs):=abV rfl rfl
theorem av5(d:Nat)(f:Nat→Nat)(cs:List AV):Si (d+1) f (.agg cs)=rnA (Qw (Si d f) cs):=abV rfl rfl
theorem awB(d:Nat)(f:Nat→Nat)(cs:List AV):Si (d+1) f (.tup cs)=rnT (Qw (Si d f) cs):=abV rfl rfl
def rnG(fn:Fn)(a:List AV)(x:Option (List AV)):Option AV:=x.map fun b=>.func fn a b
def rnF(fn:Fn)(b:Option (List AV))(x:Option (List AV)):Option AV:=x.bind fun a=>rnG fn a b
theorem ajK(fn:Fn)(a b:List AV):rnG fn a (some b)=some (.func fn a b):=abV rfl rfl
theorem alT(fn:Fn)(b:Option (List AV))(a:List AV):rnF fn b (some a)=rnG fn a b:=abV rfl rfl
theorem asW(d:Nat)(f:Nat→Nat)(fn:Fn)(a b:List AV):Si (d+1) f (.func fn a b)=rnF fn (Qw (Si d f) b) (Qw (Si d f) a):=abV rfl rfl
def rbW(st:Nat)(w:Bool)(x:Option (List (List AV))):Option CB:=x.map (.live st false w)
theorem alW(st:Nat)(w:Bool)(rows:List (List AV)):rbW st w (some rows)=some (.live st false w rows):=abV rfl rfl
theorem a10(f:Nat→Nat)(st:Nat)(w:Bool)(rows:List (List AV)):Xf f (.live st true w rows)=some (.live st true w rows):=abV rfl rfl
theorem aY8(f:Nat→Nat)(st:Nat)(w:Bool)(rows:List (List AV)):Xf f (.live st false w rows)=rbW st w (Qw (Qw (Si 8 f)) rows):=abV rfl rfl
def peE(b:Nat)(c:Option CB)(x:Option (List Qb)):Option (List Qb):=c.bind fun c=>x.map fun es=>.put b c::es
def peK(f:Nat→Nat)(b:Nat)(c:CB)(same bad:Bool)(x:Option (List Qb)):Option (List Qb):=bif same then x else bif bad then none else peE b (Xf f c) x
theorem azD(f:Nat→Nat)(b:Nat)(c:CB)(bad:Bool)(x:Option (List Qb)):peK f b c true bad x=x:=abV rfl rfl
theorem awA(f:Nat→Nat):Vm f [] [] []=some []:=abV rfl rfl
theorem ao8(f:Nat→Nat)(b:Nat)(m:List Nat)(c₀ c:CB)(cs₀ cs:List CB):Vm f (b::m) (c₀::cs₀) (c::cs)=peK f b c (c₀.same c) (c.unw|| !c₀.isLive) (Vm f m cs₀ cs):=by
 conv=>lhs;unfold Vm
 unfold peK
 cases c₀.same c with
 |true=>rfl
 |false=>
  cases(c.unw|| !c₀.isLive)with
  |true=>rfl
  |false=>
   simp only[cond_false,peE]
theorem apF(a:Nat)(b c:Bool)(r:List (List AV))(st:Nat)(fl w:Bool)(rows:List (List AV)):CB.same (.live a b c r) (.live st fl w rows)= !w:=abV rfl rfl
theorem apH(st:Nat)(fl w:Bool)(rows:List (List AV)):CB.unw (.live st fl w rows)= !w:=abV rfl rfl
theorem aqI(st:Nat)(fl w:Bool)(rows:List (List AV)):CB.isLive (.live st fl w rows)=true:=abV rfl rfl
def neK(base:Nat)(c:Option CB)(x:Option (List Qb)):Option (List Qb):=c.bind fun c=>x.map fun es=>.new base c::es
theorem alM(base:Nat)(c:CB)(es:List Qb):neK base (some c) (some es)=some (.new base c::es):=abV rfl rfl
theorem ayM(f:Nat→Nat)(base:Nat):Wx f base []=some []:=abV rfl rfl
theorem ap0(f:Nat→Nat)(base:Nat)(c:CB)(cs:List CB):Wx f base (c::cs)=neK base (Xf f c) (Wx f (base+1) cs):=abV rfl rfl
theorem apC(d:Nat)(fn:Fn)(a b:List AV):hasImm (d+1) (.func fn a b)=(a.any (hasImm d)||b.any (hasImm d)):=abV rfl rfl
theorem aw6(b:Nat)(c:CB):Qb.hasImm (.new b c)=c.hasImm:=abV rfl rfl
theorem a29(st:Nat)(w:Bool)(rows:List (List AV)):CB.hasImm (.live st true w rows)=false:=abV rfl rfl
theorem a4U(st:Nat)(w:Bool)(rows:List (List AV)):CB.hasImm (.live st false w rows)=rows.any fun cs=>cs.any (Ev.hasImm 8):=abV rfl rfl
theorem ayP(h:Qa)(b r o:Nat):uT h (.ptr b r o)=some (.ptr b r o):=abV rfl rfl
theorem ar4(h:Qa)(cs:List AV):uT h (.agg cs)=rdA (Qw (Vd 11 (hf h)) cs):=abV rfl rfl
theorem ag0(l:List AV):rdA (some l)=some (.agg l):=abV rfl rfl
theorem ao3(d:Nat)(h:Qa)(b:Bool):Vd (d+1) (hf h) (.bool b)=some (.bool b):=abV rfl rfl
theorem awZ(d:Nat)(h:Qa)(k:IntKind)(n:Int):Vd (d+1) (hf h) (.int k n)=some (.int k n):=abV rfl rfl
theorem avL(d:Nat)(h:Qa)(n:Nat)(fl:Bool)(rows:List (List AV)):Vd (d+1) (hf h) (.imm n fl rows)=some (.imm n fl rows):=abV rfl rfl
theorem ayG(d:Nat)(h:Qa)(n b r len:Nat):Vd (d+1) (hf h) (.slr n b r len)=jI (Tt d (hf h)) (h[b]?) r len:=by
 have e:Vd (d+1) (hf h) (.slr n b r len)=(Tu (hf h) b r len).bind fun x=>if x.2.1=true then some (.imm x.1 true x.2.2)else(Qw (Qw (Tt d (hf h))) x.2.2).map (.imm x.1 false):=rfl
 rw[e]
 generalize Tt d (hf h)=q
 unfold Tu jI
 have eh:hf h b=h[b]?:=rfl
 rw[eh]
 cases h[b]? with
 |none=>rfl
 |some c=>
  cases c with
  |live st fl w rows=>
   simp only[rdR]
   by_cases hq:r+len≤rows.length
   ·cases fl<;>simp[hq]
   ·simp[hq]
  |frz st fl rows=>
   simp only[rdR]
   by_cases hq:r+len≤rows.length
   ·cases fl<;>simp[hq]
   ·simp[hq]
  |_=>rfl
def mfK(f:Nat)(a b:Option (List AV)):OE:=a.bind fun a=>b.bind fun b=>some (.ret (.func (.func f) a b),[])
theorem amF(f:Nat)(a b:List AV):mfK f (some a) (some b)=some (.ret (.func (.func f) a b),[]):=abV rfl rfl
theorem aIS(t:List AV)(h:Qa)(f:Nat)(a b:Array Operand):Ss O P t h (.makeFunc (.func f) a b)=mfK f (Qv t a.toList) (Qv t b.toList):=by
 rw[Ri _ _ _ rfl]
 simp only[exec,mfK]
 cases Qv t a.toList with
 |none=>rfl
 |some a=>cases Qv t b.toList<;>rfl
def msK(n:Nat)(z:AV)(base:Nat)(l c:Option AV):OE:=
 match l,c with
 |some (.int .i64 l),some (.int .i64 c)=>if 0≤l∧l≤c∧c≤2 ^ 40∧(Qe z).all AV.isCell=true then some (.ret (.slr n base 0 l.toNat),[.new base (.live n ((Qe z).all AV.flat) false (aq9 l.toNat (Qe z)))])else none
 |_,_=>none
theorem alR(n:Nat)(z:AV)(base:Nat)(l c:Int):msK n z base (some (.int .i64 l)) (some (.int .i64 c))=if 0≤l∧l≤c∧c≤2 ^ 40∧(Qe z).all AV.isCell=true then some (.ret (.slr n base 0 l.toNat),[.new base (.live n ((Qe z).all AV.flat) false (aq9 l.toNat (Qe z)))])else none:=abV rfl rfl
def msO(P:Program)(ty:TypeId)(base:Nat)(l c:Option AV):OE:=rD (l.bind fun l=>c.bind fun c=>Vq P base ty l c)
theorem ay9(t:List AV)(h:Qa)(ty:TypeId)(l c:Operand):Ss O P t h (.makeSlice ty l c)=msO P ty h.length (Qc t l) (Qc t c):=Ri _ _ _ rfl
theorem aJY{ty e:TypeId}{n b:Nat}{z:AV}(he:gX P ty=some e)(hn:Ze P e=some n)(hb:byT P e=some b)(hz:Uz P e=some z)(ok:(decide (b≤2 ^ 7)&&decide (n≠0)&&decide ((Qe z).length=n))=true)(base:Nat)(l c:Option AV):
 msO P ty base l c=msK n z base l c:=by
 simp only[asT,decide_eq_true_eq]at ok
 unfold msO msK
 cases l with
 |none=>rfl
 |some l=>
  cases c with
  |none=>cases l<;>first|rfl|(rename_i k _;cases k<;>rfl)
  |some c=>
   simp only[adA,Vq,he,hn,hb,hz]
   cases l with
   |int k l=>
    cases c with
    |int k' c=>
     cases k<;>cases k'<;>first|rfl|skip
     simp only[ok.1.1,ok.1.2,ok.2,ne_eq,not_false_eq_true,true_and]
     split<;>rfl
    |_=>cases k<;>rfl
   |_=>rfl
def srS(q:Nat)(c:Option CB)(r len:Nat):Option (Bool × List (List AV)):=
 match c with
 |some (.live st fl _ rows)=>if r+len≤rows.length∧st=q then some (fl,(rows.drop r).take len)else none
 |some (.frz st fl rows)=>if r+len≤rows.length∧st=q then some (fl,(rows.drop r).take len)else none
 |_=>none
def srK(q:Nat)(h:Qa)(x:Option AV):Option (Bool × List (List AV)):=
 match x with
 |some .nils=>some (true,[])
 |some (.imm st fl rows)=>if st=q then some (fl,rows)else none
 |some (.slr _ b r len)=>srS q (h[b]?) r len
 |_=>none
theorem akK(q st:Nat)(fl w:Bool)(rows:List (List AV))(r len:Nat):srS q (some (.live st fl w rows)) r len=if r+len≤rows.length∧st=q then some (fl,(rows.drop r).take len)else none:=abV rfl rfl
theorem an1(q:Nat)(h:Qa):srK q h (some .nils)=some (true,[]):=abV rfl rfl
theorem aeV(q:Nat)(h:Qa)(st:Nat)(fl:Bool)(rows:List (List AV)):srK q h (some (.imm st fl rows))=if st=q then some (fl,rows)else none:=abV rfl rfl
theorem afH(q:Nat)(h:Qa)(st b r len:Nat):srK q h (some (.slr st b r len))=srS q (h[b]?) r len:=abV rfl rfl
def apT(n base b r len:Nat)(nfl:Bool)(new:List (List AV))(st:Nat)(fl:Bool)(rows:List (List AV)):OE:=
 if st=n∧r+len≤rows.length∧len+new.length≤2 ^ 39 then some (.ret (.slr st base 0 (len+new.length)),[.put b .dead,.new base (.live st (fl&&nfl) false ((rows.drop r).take len++new))])else none
def apS(n base b r len:Nat)(nfl:Bool)(new:List (List AV))(c:Option CB):OE:=
 match c with
 |some (.live st fl _ rows)=>if st=n∧r+len=rows.length∧len+new.length≤2 ^ 39 then some (.ret (.slr st base 0 (len+new.length)),[.put b .dead,.new base (.live st (fl&&nfl) false (rows.drop r++new))])else apT n base b r len nfl new st fl rows
 |_=>none
theorem rW(n base b r len:Nat)(nfl:Bool)(new:List (List AV))(st:Nat)(fl w:Bool)(rows:List (List AV)):apS n base b r len nfl new (some (.live st fl w rows))=if st=n∧r+len=rows.length∧len+new.length≤2 ^ 39 then some (.ret (.slr st base 0 (len+new.length)),[.put b .dead,.new base (.live st (fl&&nfl) false (rows.drop r++new))])else apT n base b r len nfl new st fl rows:=abV rfl rfl
def apK(n:Nat)(h:Qa)(s:Option AV)(x:Option (Bool × List (List AV))):OE:=
 match s,x with
 |some .nils,some (_,[])=>some (.ret .nils,[])
 |some (.slr a b r l),some (_,[])=>some (.ret (.slr a b r l),[])
 |some (.imm a b r),some (_,[])=>some (.ret (.imm a b r),[])
 |some .nils,some (nfl,r::new)=>if(r::new).length≤2 ^ 39 then some (.ret (.slr n h.length 0 (r::new).length),[.new h.length (.live n nfl false (r::new))])else none
 |some (.slr _ b r len),some (nfl,q::new)=>apS n h.length b r len nfl (q::new) (h[b]?)
 |_,_=>none
theorem at6(n:Nat)(h:Qa)(nfl:Bool):apK n h (some .nils) (some (nfl,[]))=some (.ret .nils,[]):=abV rfl rfl
theorem avO(n:Nat)(h:Qa)(a b r l:Nat)(nfl:Bool):apK n h (some (.slr a b r l)) (some (nfl,[]))=some (.ret (.slr a b r l),[]):=abV rfl rfl
theorem wN(n:Nat)(h:Qa)(nfl:Bool)(r:List AV)(new:List (List AV)):apK n h (some .nils) (some (nfl,r::new))=if(r::new).length≤2 ^ 39 then some (.ret (.slr n h.length 0 (r::new).length),[.new h.length (.live n nfl false (r::new))])else none:=abV rfl rfl
theorem xF(n:Nat)(h:Qa)(a b r len:Nat)(nfl:Bool)(q:List AV)(new:List (List AV)):apK n h (some (.slr a b r len)) (some (nfl,q::new))=apS n h.length b r len nfl (q::new) (h[b]?):=abV rfl rfl
def apO(P:Program)(ty:TypeId)(h:Qa)(s x:Option AV):OE:=rD (s.bind fun s=>x.bind fun x=>Vo P (hf h) h.length ty s x)
theorem aaB(t:List AV)(h:Qa)(s x:Operand)(ty ty1 e1:TypeId)(hu:P.underlying ty1=some (.slice e1)):Ss O P t h (.call ⟨.builtin .append,#[s,x],#[ty,ty1]⟩)=apO P ty h (Qc t s) (Qc t x):=by
 rw[Ri _ _ _ rfl]
 simp only[exec,Qv,apO]
 cases Qc t s with
 |none=>rfl
 |some a=>
  cases Qc t x with
  |none=>rfl
  |some b=>
   simp only[adA,ahF]
   have e0:(#[ty,ty1]:Array TypeId)[0]?=some ty:=rfl
   have e1:(#[ty,ty1]:Array TypeId)[1]?=some ty1:=rfl
   simp only[e0,e1,adA,hu]
theorem vK{ty e:TypeId}{n b:Nat}{z:AV}(he:gX P ty=some e)(hn:Ze P e=some n)(hb:byT P e=some b)(hz:Uz P e=some z)(ok:(decide (b≤2 ^ 8)&&decide (n≠0)&&decide ((Qe z).length=n))=true)(h:Qa)(s x:AV)(hx:∀q,x≠.str q):
 apO P ty h (some s) (some x)=apK n h (some s) (srK n h (some x)):=by
 simp only[asT,decide_eq_true_eq]at ok
 have hbad:¬(n=0∨2 ^ 8<b∨(Qe z).length≠n):=by
  rintro(h1|h1|h1)
  ·exact ok.1.2 h1
  ·omega
  ·exact h1 ok.2
 unfold apO
 simp only[adA,Vo,he,hn,hb,hz]
 have key:∀(nfl:Bool) (new:List (List AV)) (fs:List Qu),rD (if n=0∨2 ^ 8<b∨(Qe z).length≠n then none else
  match s,new with
  |s,[]=>match s with
   | .nils| .slr _ _ _ _| .imm _ _ _=>some ⟨s,[],fs⟩
   |_=>none
  | .nils,new=>if new.length≤2 ^ 39 then some ⟨.slr n h.length 0 new.length,[.new h.length (.live n nfl false new)],fs⟩else none
  | .slr _ b r len,new=>
    match hf h b with
    |some (.live st fl _ rows)=>
     if st=n∧r+len≤rows.length∧len+new.length≤2 ^ 39 then
      some ⟨.slr st h.length 0 (len+new.length),[.put b .dead,.new h.length (.live st (fl&&nfl) false ((rows.drop r).take len++new))],.blk b::fs⟩
     else none
    |_=>none
  |_,_=>none)=apK n h (some s) (some (nfl,new)):=fun nfl new fs=>by
  rw[if_neg hbad]
  cases new with
  |nil=>cases s<;>rfl
  |cons q new=>
   cases s with
   |nils=>simp only[wN];split<;>rfl
   |slr a b r len=>
    simp only[xF]
    unfold apS
    have eh:hf h b=h[b]?:=rfl
    rw[eh]
    cases h[b]? with
    |none=>rfl
    |some c=>
     cases c with
     |live st fl w rows=>
      simp only
      by_cases h1:st=n∧r+len=rows.length∧len+(q::new).length≤2 ^ 39
      ·rw[if_pos h1,if_pos ⟨h1.1,by omega,h1.2.2⟩,axO (by simp;omega)]
       rfl
      ·rw[if_neg h1]
       unfold apT
       split<;>rfl
     |_=>rfl
   |_=>rfl
 cases x with
 |nils=>exact key true [] []
 |imm st fl rows=>
  simp only[Sl,aeV,hn,ao1.injEq]
  by_cases hq:n=st
  ·subst hq;simp only[if_true,adA];exact key fl rows []
  ·rw[if_neg hq,if_neg (fun e=>hq e.symm)]
   cases s<;>rfl
 |slr st b' r len=>
  simp only[Sl,afH,hn,Tu,srS]
  have eh:hf h b'=h[b']?:=rfl
  rw[eh]
  cases h[b']? with
  |none=>cases s<;>rfl
  |some c=>
   cases c with
   |live st fl w rows=>
    simp only
    by_cases hq:r+len≤rows.length
    ·simp only[hq,if_true,adA,true_and,ao1.injEq]
     by_cases hq2:n=st
     ·subst hq2;simp only[if_true,adA];exact key fl _ _
     ·rw[if_neg hq2,if_neg (fun e=>hq2 e.symm)];cases s<;>rfl
    ·simp only[hq,if_false,false_and];cases s<;>rfl
   |frz st fl rows=>
    simp only
    by_cases hq:r+len≤rows.length
    ·simp only[hq,if_true,adA,true_and,ao1.injEq]
     by_cases hq2:n=st
     ·subst hq2;simp only[if_true,adA];exact key fl _ _
     ·rw[if_neg hq2,if_neg (fun e=>hq2 e.symm)];cases s<;>rfl
    ·simp only[hq,if_false,false_and];cases s<;>rfl
   |_=>cases s<;>rfl
 |str q=>exact(hx q rfl).elim
 |_=>cases s<;>rfl
def rtK(Q:Tj→Qa→Prop)(x:Option (List AV × List CB × List Nat)):Prop:=
 match x with
 |some ([v],cs,_)=>Q (.ret v) cs
 |_=>False
theorem amY(Q:Tj→Qa→Prop)(v:AV)(cs:List CB)(m:List Nat):rtK Q (some ([v],cs,m))=Q (.ret v) cs:=abV rfl rfl
theorem atM{q:Nat}{vs:List AV}{h:Qa}{Q:Tj→Qa→Prop}:Rt q (some vs) h Q=rtK Q (Xj (hf h) (as3 q) [aP vs]):=by
 unfold Rt arQ
 simp only[adA,bP]
 cases hp:Xj (hf h) (as3 q) [aP vs]with
 |none=>simp[rtK]
 |some x=>
  obtain⟨ws,cs,m⟩:=x
  simp only[adA]
  match ws with
  | [v]=>
    simp only[rtK,ahF]
    exact propext ⟨fun⟨o,h',e,k⟩=>by cases e;exact k,fun k=>⟨_,_,rfl,k⟩⟩
  | []=>simp[rtK]
  |_::_::_=>simp[rtK]
theorem auB(vs:List AV)(h:Qa)(Q:Tj→Qa→Prop):Rt1 0 (some vs) h Q=rtK Q (Xj (hf h) [] [aP vs]):=atM
theorem apN(q:Nat)(vs:List AV)(h:Qa)(Q:Tj→Qa→Prop):Rt (q+1) (some vs) h Q=rtK Q (Xj (hf h) (as3 (q+1)) [aP vs]):=atM
end
end
noncomputable section
set_option maxRecDepth 100000
def EVi:=PLift.up (abT @ag3 (abT @abY (abT @arG (abT @avE (abT @as2 (abT @avC (abT @awT (abT @avA (abT @ayL (abT @ajB (abT @ajN (abT @awC (abT @auO (abT @al5 (abT @aj1 (abT @apW (abT @aoK (abT @ak2 (abT @aoX (abT @alV (abT @aoI (abT @amC (abT @ax2 (abT @ap8 (abT @alY (abT @aQ4 (abT @aC5 (abT @amE (abT @al2 (abT @aj8 @an5))))))))))))))))))))))))))))))
def EVj:=PLift.up (abT @akI (abT @aY5 (abT @akV (abT @anY (abT @aC4 (abT @bcH (abT @ajA (abT @aoG (abT @ap3 (abT @akS (abT @atG (abT @atH (abT @aw3 (abT @apJ (abT @auH (abT @auL (abT @atA (abT @avR (abT @axI (abT @ab6 (abT @aNU (abT @a8H (abT @ap2 (abT @ax9 (abT @avV (abT @ax3 (abT @aw8 @aoF)))))))))))))))))))))))))))
def EVk:=PLift.up (abT @am9 (abT @av5 (abT @awB (abT @ajK (abT @alT (abT @asW (abT @alW (abT @a10 (abT @aY8 (abT @azD (abT @awA (abT @ao8 (abT @apF (abT @apH (abT @aqI (abT @alM (abT @ayM (abT @ap0 (abT @apC (abT @aw6 (abT @a29 (abT @a4U @ayP))))))))))))))))))))))
def EVl:=PLift.up (abT @ar4 (abT @ag0 (abT @ao3 (abT @awZ (abT @avL (abT @ayG (abT @amF (abT @aIS (abT @alR (abT @ay9 (abT @akK (abT @an1 (abT @aeV (abT @afH (abT @rW (abT @at6 (abT @avO (abT @wN (abT @xF (abT @amY (abT @auB (abT @apN (abT @atB.{0,0} (abT @List.flatMap_nil.{0,0} (abT @List.isEmpty_nil.{0} (abT @List.getD_cons_zero.{0} (abT @List.range_succ (abT @List.range_zero (abT @List.contains_nil.{0} @List.contains_cons.{0})))))))))))))))))))))))))))))
def EVm:=PLift.up (abT @List.getElem?_nil.{0} (abT @ah3 (abT @vV (abT @ahG @adS))))
end
noncomputable section
theorem Yw{n:Nat}{fl nn:Bool}{rows:List (List AV)}(h:rows≠[]):Rw n fl nn rows=.imm n fl rows:=by
 cases rows with
 |nil=>exact(h rfl).elim
 |cons r rs=>rfl
theorem aoB(n:Nat)(fl:Bool)(rows:List (List AV)):Rw n fl true rows=.imm n fl rows:=by cases rows<;>rfl
section
variable {P:Program} {t e:TypeId} (hu:P.underlying t=some (.slice e))
include hu
end
def ayK(v:Option AV)(ns:Option (List Qb)):Option Xi:=v.bind fun v=>ns.map fun ns=>⟨.ret v,ns,[]⟩
theorem aiE(v:AV)(ns:List Qb):ayK (some v) (some ns)=some ⟨.ret v,ns,[]⟩:=abV rfl rfl
theorem ajU(base:Nat)(v:AV)(c:CB)(cs:List CB):ac0 base (some (.ret v,c::cs))=ayK (Si 8 (fun i=>base+i) v) (Wx (fun i=>base+i) base (c::cs)):=by
 simp only[ac0,ayK,adA,Tj.v,Tj.map]
section
variable {O:Ud}
theorem a8I(h:Qa)(f:Nat)(args:List AV):shC O h f args=if(lH args||O.md f)=true then shK h (O.call (.sh f) args (Wm h))else cr (Rz O (hf h) h.length (.fn f) args):=abV rfl rfl
end
theorem auT(b r o:Nat)(l:List AV):lH (.ptr b r o::l)=false:=abV rfl rfl
theorem au2(a b r n:Nat)(l:List AV):lH (.slr a b r n::l)=false:=abV rfl rfl
theorem aP8(b:Nat)(l:List AV):lH (.yl b::l)=true:=abV rfl rfl
theorem au7:Wm []=[]:=abV rfl rfl
theorem apY(c:CB)(h:Qa):Wm (c::h)=c.clean::Wm h:=abV rfl rfl
theorem axY(h h':Qa):Wm (h++h')=Wm h++Wm h':=List.map_append
theorem avW(h:Qa)(b:Nat):(Wm h)[b]?=(h[b]?).map CB.clean:=by simp[Wm]
theorem ax8(h:Qa):(Wm h).length=h.length:=by simp[Wm]
theorem aLK(ps:List Nat)(a b:Code)(t:List AV)(st:Xr):CB.clean (.lp ps a b t st)=.lp ps a b t st:=abV rfl rfl
def Qq(h:Qa):Bool:=h.all fun c=>c.quiet c.clean
theorem ad9:∀{h:Qa} (_:Qq h=true) (i:Nat) (l:Qa),Rf i h (Wm h++l)=some (Wh (i+h.length) l)
 | [],_,i,l=>by simp[Wm,Rf]
 |c::h,hq,i,l=>by
  simp only[Qq,List.all_cons,asT]at hq
  have ih:=ad9 (h:=h) hq.2 (i+1) l
  simp only[Wm,List.map_cons,aqT,Rf,hq.1,cond_true]at ih ⊢
  rw[ih,aoU]
  congr 2;omega
theorem uJ:∀(cs:List CB) (i:Nat) (h:Qa),Rk h (Wh i cs)=h++cs
 | [],i,h=>by simp[Wh,Rk]
 |c::cs,i,h=>by simp[Wh,Rk,Zn,uJ cs]
theorem pL(h:Qa)(o:Tj)(h':Qa):shK h (some (o,h'))=(Rf 0 h h').map fun es=>(o,es):=abV rfl rfl
def EVo:=PLift.up (abT @apD (abT @asJ (abT @asP (abT @avT (abT @axL (abT @a8D (abT @aq3 (abT @au9 (abT @aqA (abT @avB (abT @ayH @auX)))))))))))
def EVn:=PLift.up (abT @ai2 (abT @aiH (abT @aiE @ajU)))
def EVp:=PLift.up (abT @a8I (abT @auT (abT @au2 (abT @aP8 (abT @au7 (abT @apY (abT @axY (abT @avW (abT @ax8 @aLK)))))))))
end
noncomputable section
def Rl:CB→Option (Nat × Bool × List (List AV))
 | .live st fl _ rows=>some (st,fl,rows)
 | .frz st fl rows=>some (st,fl,rows)
 |_=>none
def eK(f:AV→Option (AV × List Nat)):List AV→Option (List AV × List Nat)
 | []=>some ([],[])
 |a::l=>(f a).bind fun p=>(eK f l).map fun q=>(p.1::q.1,p.2++q.2)
def Rm(f:AV→Option (AV × List Nat)):List (List AV)→Option (List (List AV) × List Nat)
 | []=>some ([],[])
 |r::rs=>(eK f r).bind fun p=>(Rm f rs).map fun q=>(p.1::q.1,p.2++q.2)
def rd:Nat→HF→AV→Option (AV × List Nat)
 |0,_,_=>none
 |d+1,g,v=>
  match v with
  | .slr st b r len=>((g b).bind Rl).bind fun z=>
     if z.1=st∧r=0∧len=z.2.2.length then
      (bif z.2.1 then some (.imm st true z.2.2,[b])else(Rm (rd d g) z.2.2).map fun q=>(.imm st false q.1,b::q.2))
     else none
  | .agg cs=>(eK (rd d g) cs).map fun q=>(.agg q.1,q.2)
  | .iface t x=>(rd d g x).map fun q=>(.iface t q.1,q.2)
  | .func fn [] []=>some (.func fn [] [],[])
  | .func _ _ _=>none
  | .tup _=>none
  | .ptr _ _ _=>none
  | .yl _=>none
  | .mapr _=>none
  | .itr _=>none
  | .imm _ _ _=>none
  | .iptr _=>none
  |v=>some (v,[])
theorem eQ{f f':AV→Option (AV × List Nat)}:∀{l:List AV} {p:List AV × List Nat},eK f l=some p→(∀x∈l,∀q,f x=some q→(∀b∈q.2,b∈p.2)→f' x=some q)→eK f' l=some p
 | [],p,h,_=>h
 |a::l,p,h,hf=>by
  simp only[eK,ac4,acG]at h ⊢
  obtain⟨q,hq,r,hr,rfl⟩:=h
  exact⟨q,hf a (adP ..) q hq (fun b hb=>aiF _ hb),r,eQ hr (fun x hx q' hq' hs=>hf x (adM _ hx) q' hq' (fun b hb=>ai3 _ (hs b hb))),rfl⟩
theorem aZ{f f':AV→Option (AV × List Nat)}:∀{l:List (List AV)} {p:List (List AV) × List Nat},Rm f l=some p→(∀r∈l,∀x∈r,∀q,f x=some q→(∀b∈q.2,b∈p.2)→f' x=some q)→Rm f' l=some p
 | [],p,h,_=>h
 |a::l,p,h,hf=>by
  simp only[Rm,ac4,acG]at h ⊢
  obtain⟨q,hq,r,hr,rfl⟩:=h
  exact⟨q,eQ hq (fun x hx q' hq' hs=>hf a (adP ..) x hx q' hq' (fun b hb=>aiF _ (hs b hb))),r,
   aZ hr (fun r' hr' x hx q' hq' hs=>hf r' (adM _ hr') x hx q' hq' (fun b hb=>ai3 _ (hs b hb))),rfl⟩
def Agr(R:List Nat)(g g':HF):Prop:=∀b∈R,∀z,(g b).bind Rl=some z→(g' b).bind Rl=some z
theorem pV{g g':HF}:∀{d:Nat} {v:AV} {p:AV × List Nat},rd d g v=some p→Agr p.2 g g'→rd d g' v=some p
 |0,v,p,h,_=>by simp[rd]at h
 |d+1,v,p,h,ha=>by
  cases v with
  |slr st b r len=>
   simp only[rd,ac4]at h ⊢
   obtain⟨z,⟨c,hc,hz⟩,h⟩:=h
   split at h
   ·rename_i hq
    have hb:b∈p.2:=by
     cases hfl:z.2.1 with
     |true=>rw[hfl]at h;simp at h;rw[←h];simp
     |false=>rw[hfl]at h;simp only[cond_false,acG]at h;obtain⟨q,_,rfl⟩:=h;simp
    have hz':=ha b hb z (by rw[hc];exact hz)
    obtain⟨c',hc',hz''⟩:=ac4.1 hz'
    refine⟨z,⟨c',hc',hz''⟩,?_⟩
    rw[if_pos hq]
    cases hfl:z.2.1 with
    |true=>rw[hfl]at h;exact h
    |false=>
     rw[hfl]at h
     simp only[cond_false,acG]at h ⊢
     obtain⟨q,hq',rfl⟩:=h
     exact⟨q,aZ hq' (fun r' _ x _ q' hx hs=>pV hx (fun b' hb'=>ha b' (adM _ (hs b' hb')))),rfl⟩
   ·cases h
  |agg cs=>
   simp only[rd,acG]at h ⊢
   obtain⟨q,hq,rfl⟩:=h
   exact⟨q,eQ hq (fun x _ q' hx hs=>pV hx (fun b hb=>ha b (hs b hb))),rfl⟩
  |iface t x=>
   simp only[rd,acG]at h ⊢
   obtain⟨q,hq,rfl⟩:=h
   exact⟨q,pV hq ha,rfl⟩
  |func fn a b=>cases a<;>cases b<;>first|exact h|(simp[rd]at h)
  |_=>first|exact h|(simp[rd]at h)
theorem ae2{g:HF}:∀{d e:Nat} {v:AV} {p:AV × List Nat},d≤e→rd d g v=some p→rd e g v=some p
 |0,e,v,p,_,h=>by simp[rd]at h
 |d+1,0,v,p,he,h=>by omega
 |d+1,e+1,v,p,he,h=>by
  have IH:∀x q,rd d g x=some q→rd e g x=some q:=fun x q hx=>ae2 (by omega) hx
  cases v with
  |slr st b r len=>
   simp only[rd,ac4]at h ⊢
   obtain⟨z,hz,h⟩:=h
   refine⟨z,hz,?_⟩
   split at h
   ·rename_i hq
    rw[if_pos hq]
    cases hfl:z.2.1 with
    |true=>rw[hfl]at h;exact h
    |false=>
     rw[hfl]at h
     simp only[cond_false,acG]at h ⊢
     obtain⟨q,hq',rfl⟩:=h
     exact⟨q,aZ hq' (fun r' _ x _ q' hx _=>IH x q' hx),rfl⟩
   ·cases h
  |agg cs=>
   simp only[rd,acG]at h ⊢
   obtain⟨q,hq,rfl⟩:=h
   exact⟨q,eQ hq (fun x _ q' hx _=>IH x q' hx),rfl⟩
  |iface t x=>
   simp only[rd,acG]at h ⊢
   obtain⟨q,hq,rfl⟩:=h
   exact⟨q,IH _ _ hq,rfl⟩
  |func fn a b=>cases a<;>cases b<;>first|exact h|(simp[rd]at h)
  |_=>first|exact h|(simp[rd]at h)
theorem kM{f:AV→Option (AV × List Nat)}{f':AV→Option AV}:∀{l:List AV} {p:List AV × List Nat},eK f l=some p→(∀x∈l,∀q,f x=some q→f' x=some q.1)→Qw f' l=some p.1
 | [],p,h,_=>by simp[eK]at h;subst h;rfl
 |a::l,p,h,hf=>by
  simp only[eK,ac4,acG]at h
  obtain⟨q,hq,r,hr,rfl⟩:=h
  simp only[Qw,hf a (adP ..) q hq,adA,kM hr (fun x hx=>hf x (adM _ hx)),ahF]
theorem nO{f:AV→Option (AV × List Nat)}{f':AV→Option AV}:∀{l:List (List AV)} {p:List (List AV) × List Nat},Rm f l=some p→(∀r∈l,∀x∈r,∀q,f x=some q→f' x=some q.1)→Qw (Qw f') l=some p.1
 | [],p,h,_=>by simp[Rm]at h;subst h;rfl
 |a::l,p,h,hf=>by
  simp only[Rm,ac4,acG]at h
  obtain⟨q,hq,r,hr,rfl⟩:=h
  simp only[Qw,kM hq (fun x hx=>hf a (adP ..) x hx),adA,nO hr (fun r' hr'=>hf r' (adM _ hr')),ahF]
theorem lC{g:HF}{b:Nat}{z:Nat × Bool × List (List AV)}(h:(g b).bind Rl=some z):Tu g b 0 z.2.2.length=some z:=by
 obtain⟨c,hc,hz⟩:=ac4.1 h
 unfold Tu
 rw[hc]
 cases c with
 |live st fl w rows=>simp[Rl]at hz;subst hz;simp
 |frz st fl rows=>simp[Rl]at hz;subst hz;simp
 |dead=>simp[Rl]at hz
 |lp=>simp[Rl]at hz
theorem oP{g:HF}:∀{d:Nat} {v:AV} {p:AV × List Nat},rd d g v=some p→Tt d g v=some p.1
 |0,v,p,h=>by simp[rd]at h
 |d+1,v,p,h=>by
  cases v with
  |slr st b r len=>
   simp only[rd,ac4]at h
   obtain⟨z,hz,h⟩:=h
   split at h
   ·rename_i hq
    obtain⟨rfl,rfl,rfl⟩:=hq
    simp only[Tt,lC (ac4.2 hz),adA]
    cases hfl:z.2.1 with
    |true=>rw[hfl]at h;simp at h;rw[←h];rfl
    |false=>
     rw[hfl]at h
     simp only[cond_false,acG]at h
     obtain⟨q,hq',rfl⟩:=h
     simp[nO hq' (fun r' _ x _ q' hx=>oP hx)]
   ·cases h
  |agg cs=>
   simp only[rd,acG]at h
   obtain⟨q,hq,rfl⟩:=h
   simp[Tt,kM hq (fun x _ q' hx=>oP hx)]
  |iface t x=>
   simp only[rd,acG]at h
   obtain⟨q,hq,rfl⟩:=h
   simp[Tt,oP hq]
  |func fn a b=>cases a<;>cases b<;>first|(simp[rd]at h;subst h;rfl)|(simp[rd]at h)
  |_=>first|(simp[rd]at h;subst h;rfl)|(simp[rd]at h)
end
noncomputable section
open Go.RowKit
section
variable {P:Program} {O:Ud} {pr:Zp}
def fnS(P:Program)(rs:List ResultVar)(x:R):Option (Tj × Qa):=
 match x with
 |some (.normal,s)|some (.ret,s)=>(aT P s rs).map fun vs=>(.ret (aP vs),s.h)
 |some (.pan v,s)=>some (.pan v,s.h)
 |_=>none
theorem auJ{f:Nat}{fn:Func}(hf:P.funcs[f]?=some fn){c:Code}(hb:fn.body=some c){args:List AV}(hl:args.length≤fn.ntmps)(h:Qa):
 evS O P f args h=fnS P fn.results.toList (Rj O P Xg c [] ⟨mk fn.ntmps (dU args),h⟩):=by
 unfold evS
 simp only[hf,hb]
 rw[akO _ _ hl]
 cases Rj O P Xg c [] ⟨mk fn.ntmps (dU args),h⟩with
 |none=>rfl
 |some x=>
  obtain⟨e,s⟩:=x
  cases e<;>rfl
def FnS(P:Program)(rs:List ResultVar)(Q:Tj→Qa→Prop)(x:R):Prop:=∃o h,fnS P rs x=some (o,h)∧Q o h
def RtS(vs:Option (List AV))(h:Qa)(Q:Tj→Qa→Prop):Prop:=
 match vs with
 |some vs=>Q (.ret (aP vs)) h
 |none=>False
theorem adE(rs:List ResultVar)(Q:Tj→Qa→Prop)(t:List AV)(h:Qa):FnS P rs Q (some (.ret,⟨t,h⟩))=RtS (aT P ⟨t,h⟩ rs) h Q:=by
 cases hr:aT P ⟨t,h⟩ rs with
 |none=>simp[FnS,fnS,RtS,hr]
 |some vs=>
  have e:fnS P rs (some (.ret,⟨t,h⟩))=some (.ret (aP vs),h):=by simp[fnS,hr]
  exact propext (Iff.intro (fun⟨o,h',e',q⟩=>by rw[e]at e';cases e';exact q) (fun q=>⟨_,_,e,q⟩))
theorem aF(rs:List ResultVar)(Q:Tj→Qa→Prop)(t:List AV)(h:Qa):FnS P rs Q (some (.normal,⟨t,h⟩))=RtS (aT P ⟨t,h⟩ rs) h Q:=by
 rw[←adE];rfl
theorem anR(vs:List AV)(h:Qa)(Q:Tj→Qa→Prop):RtS (some vs) h Q=Q (.ret (aP vs)) h:=abV rfl rfl
theorem anM{rs:List ResultVar}{Q:Tj→Qa→Prop}:¬FnS P rs Q none:=fun⟨_,_,h,_⟩=>by simp[fnS]at h
def yR(O:Ud)(f:Nat)(args:List AV)(h:Qa)(Q:Tj→Qa→Prop):Prop:=∃o h',O.call (.sh f) args h=some (o,h')∧Q o h'
theorem yR.start{f:Nat}{fn:Func}{c:Code}{args:List AV}{h:Qa}{Q:Tj→Qa→Prop}(hp:pr f=none)(hf:P.funcs[f]?=some fn)(hb:fn.body=some c)(hl:Nat.ble args.length fn.ntmps=true)
 (he:FnS P fn.results.toList Q (Rj (om P pr) P 5000 c [] ⟨mk fn.ntmps (dU args),h⟩)) (hs:pr.sh f=none:=by exact rfl):yR (om P pr) f args h Q:=by
 obtain⟨o,h',e,q⟩:=he
 exact⟨o,h',atP hp hs ((auJ hf hb (Nat.le_of_ble_eq_true hl) h).trans e),q⟩
theorem yR.eq{f:Nat}{args:List AV}{h:Qa}{o:Tj}{h':Qa}(k:yR O f args h fun o1 h1=>(o1,h1)=(o,h')):O.call (.sh f) args h=some (o,h'):=by
 obtain⟨o1,h1,e,q⟩:=k
 rw[e,q]
def ncK(x:Option AV):OE:=
 match x with
 |some (.ptr b r o)=>some (.ret (.ptr b r o),[])
 |some (.iptr cs)=>some (.ret (.iptr cs),[])
 |some (.func (.func f) a c)=>some (.ret (.func (.func f) a c),[])
 |_=>none
theorem ayB(b r o:Nat):ncK (some (.ptr b r o))=some (.ret (.ptr b r o),[]):=abV rfl rfl
theorem aAR(t:List AV)(h:Qa)(x:Operand):Ss O P t h (.nilCheck x)=ncK (Qc t x):=by
 rw[Ri _ _ _ rfl]
 simp only[exec,ncK]
 cases Qc t x with
 |none=>rfl
 |some v=>
  cases v with
  |func fn a c=>cases fn<;>rfl
  |_=>rfl
end
def EVq:=PLift.up (abT @adE (abT @aF (abT @anR (abT @ayB @aAR))))
end
noncomputable section
open Go.RowKit
section
variable {P:Program} {O:Ud}
end
def ayU(k st:Nat)(fl:Bool)(rows:List (List AV))(v:AV)(g:Qa):Prop:=
 (rows=[]∧v=.nils)∨∃b w,v=.slr st (b+k) 0 rows.length∧g[b]?=some (.live st fl w rows)
def kl(k:Nat)(v:AV)(g:Qa):Qa:=
 match v with
 | .slr _ b _ _=>g.set (b-k) .dead
 |_=>g
theorem mG(k:Nat)(v:AV)(g:Qa):(kl k v g).length=g.length:=by
 unfold kl;split<;>simp
def apE(v:AV)(st:Nat)(fl:Bool)(rows:List (List AV))(base:Nat):List Qb:=
 match v with
 | .slr _ b _ _=>[.put b .dead,.new base (.live st fl false rows)]
 |_=>[.new base (.live st fl false rows)]
theorem asV{k n:Nat}{fl:Bool}{rows:List (List AV)}{v:AV}{g:Qa}(ho:ayU k n fl rows v g){pre:Qa}(hk:pre.length=k)(l:Qa)(r:List AV)(new:List (List AV))(hl:rows.length+(new.length+1)≤549755813888):
 apK n (pre++(g++l)) (some v) (some (fl,r::new))=some (.ret (.slr n (pre++(g++l)).length 0 (rows.length+(r::new).length)),apE v n fl (rows++r::new) (pre++(g++l)).length):=by
 rcases ho with⟨rfl,rfl⟩|⟨b,w,rfl,h2⟩
 ·rw[wN,if_pos (by simp at hl ⊢;omega)]
  simp[apE]
 ·have hb:=(ahS.1 h2).1
  have hq:(pre++(g++l))[b+k]?=some (.live n fl w rows):=by
   rw[ax7 (by omega),atC (by omega)]
   rw[show b+k-pre.length=b by omega];exact h2
  rw[xF,hq,rW,if_pos ⟨rfl,by omega,by simp only[aoU];omega⟩]
  simp[apE]
theorem amT{k n:Nat}{fl:Bool}{rows:List (List AV)}{v:AV}{g:Qa}(ho:ayU k n fl rows v g){pre:Qa}(hk:pre.length=k)(l:Qa)(st:Nat)(fl':Bool)(rows':List (List AV))(base:Nat):
 Rk (pre++(g++l)) (apE v st fl' rows' base)=pre++(kl k v g++(l++[.live st fl' false rows'])):=by
 rcases ho with⟨rfl,rfl⟩|⟨b,w,rfl,h2⟩
 ·simp[apE,Rk,Zn,kl]
 ·have hb:=(ahS.1 h2).1
  simp only[apE,Rk,Zn,kl,Nat.add_sub_cancel]
  rw[List.set_append_right _ _ (by omega),show b+k-pre.length=b by omega,List.set_append_left _ _ hb]
  simp
section
variable {P:Program} (ty:TypeId)
end
theorem xG{α:Type}{f:α→Option α}:∀{l:List α},(∀x∈l,f x=some x)→Qw f l=some l
 | [],_=>rfl
 |a::l,h=>by simp only[Qw,h a (adP ..),adA,xG (fun x hx=>h x (adM _ hx)),ahF]
theorem ad2{n:Nat}{h:Qa}{nfl:Bool}{rows:List (List AV)}(hr:rows≠[])(hl:rows.length≤549755813888):apK n h (some .nils) (some (nfl,rows))=some (.ret (.slr n h.length 0 rows.length),[.new h.length (.live n nfl false rows)]):=by
 cases rows with
 |nil=>exact(hr rfl).elim
 |cons r new=>rw[wN,if_pos (by simpa using hl)]
end
noncomputable section
open Go.RowKit
section
variable {P:Program} {O:Ud} {pr:Zp}
def rnX(O:Ud)(P:Program)(n:Nat)(k:List Qk)(t:List AV)(b:Nat)(h2:Qa)(x:Option CB):R:=
 match x with
 |some (.lp _ _ _ _ .ready)=>Re (Rj O P n) k .normal ⟨t,h2.set b .dead⟩
 |some (.lp _ _ _ _ (.done .ret))=>Re (Rj O P n) k .ret ⟨t,h2.set b .dead⟩
 |some (.lp _ _ _ _ (.done (.exit i)))=>Re (Rj O P n) k (.exit i) ⟨t,h2.set b .dead⟩
 |_=>none
def rnE(O:Ud)(P:Program)(n:Nat)(k:List Qk)(t:List AV)(b:Nat)(h1:Qa)(x:OE):R:=
 match x with
 |some (.ret _,es)=>rnX O P n k t b (Rk h1 es) ((Rk h1 es)[b]?)
 |_=>none
def rnC(O:Ud)(h1:Qa)(b:Nat)(fv:Option AV):OE:=
 match fv with
 |some (.func (.func g) a c)=>cr (Ua O (hf h1) h1.length (bF g (a++[.yl b]++c)) (a++[.yl b]++c))
 |_=>none
theorem a1K(n:Nat)(k:List Qk)(t:List AV)(b:Nat)(h1:Qa)(x:Option Xi):
 (x.bind fun d=>match d.out with
   | .ret _=>
     let h2:=Rk h1 d.es
     match h2[b]? with
     |some (.lp _ _ _ _ .ready)=>Re (Rj O P n) k .normal ⟨t,h2.set b .dead⟩
     |some (.lp _ _ _ _ (.done .ret))=>Re (Rj O P n) k .ret ⟨t,h2.set b .dead⟩
     |some (.lp _ _ _ _ (.done (.exit i)))=>Re (Rj O P n) k (.exit i) ⟨t,h2.set b .dead⟩
     |_=>none
   | .pan _=>none)=rnE O P n k t b h1 (cr x):=by
 cases x with
 |none=>rfl
 |some d=>
  obtain⟨o,es,fs⟩:=d
  cases o<;>rfl
theorem auY(n:Nat)(f:Operand)(ps:Array Nat)(asg body:Code)(k:List Qk)(t:List AV)(h:Qa):
 Rj O P (n+1) (.rangeFunc f ps asg body) k ⟨t,h⟩=rnE O P n k t h.length (h++[.lp ps.toList asg body t .ready]) (rnC O (h++[.lp ps.toList asg body t .ready]) h.length (Qc t f)):=by
 simp only[Rj,rnC]
 cases Qc t f with
 |none=>rfl
 |some v=>
  simp only[adA]
  cases v with
  |func fn a c=>
   cases fn with
   |func g=>exact a1K n k t h.length _ _
   |_=>rfl
  |_=>rfl
theorem ayC(h1:Qa)(b g:Nat)(a c:List AV):rnC O h1 b (some (.func (.func g) a c))=if oV (a++[.yl b]++c)=true then shC O h1 g (a++[.yl b]++c)else cr (Rz O (hf h1) h1.length (.fn g) (a++[.yl b]++c)):=amQ h1 g _
theorem aqK(n:Nat)(k:List Qk)(t:List AV)(b:Nat)(h1:Qa)(v:AV)(es:List Qb):rnE O P n k t b h1 (some (.ret v,es))=rnX O P n k t b (Rk h1 es) ((Rk h1 es)[b]?):=abV rfl rfl
theorem aiX(n:Nat)(k:List Qk)(t:List AV)(b:Nat)(h2:Qa)(ps:List Nat)(asg body:Code)(tm:List AV):rnX O P n k t b h2 (some (.lp ps asg body tm .ready))=Re (Rj O P n) k .normal ⟨t,h2.set b .dead⟩:=abV rfl rfl
def slK(h:Qa)(b:Nat)(ok:Xr→Bool)(st:Xr)(x:Option CB):Option Qa:=
 match x with
 |some (.lp ps asg body tmps st')=>if ok st' then some (h.set b (.lp ps asg body tmps st))else none
 |_=>none
theorem aAZ(h:Qa)(b:Nat)(ok:Xr→Bool)(st:Xr):Zk h b ok st=slK h b ok st (h[b]?):=by
 unfold Zk slK
 cases h[b]? with
 |none=>rfl
 |some c=>cases c<;>rfl
theorem akF(h:Qa)(b:Nat)(st:Xr)(ps:List Nat)(asg body:Code)(tm:List AV):slK h b Xr.isReady st (some (.lp ps asg body tm .ready))=some (h.set b (.lp ps asg body tm st)):=abV rfl rfl
theorem aq2(h:Qa)(b:Nat)(st:Xr)(ps:List Nat)(asg body:Code)(tm:List AV):slK h b Xr.isBusy st (some (.lp ps asg body tm .busy))=some (h.set b (.lp ps asg body tm st)):=abV rfl rfl
def aqB(O:Ud)(P:Program)(body:Code)(t:List AV)(x:Option Qa):R:=
 match x with
 |some h1=>Rj O P 5000 body [] ⟨t,h1⟩
 |none=>none
def ajM(O:Ud)(P:Program)(b:Nat)(body:Code)(x:R):R:=
 match x with
 |some (.normal,s)=>aqB O P body s.tmps (Zk s.h b Xr.isReady .busy)
 |_=>none
def zK(r:Bool)(x:Option Qa):Option (Tj × Qa):=x.map fun h2=>(.ret (.bool r),h2)
def aiN(b:Nat)(x:R):Option (Tj × Qa):=
 match x with
 |some (.normal,s)=>zK true (Zk s.h b Xr.isBusy .ready)
 |some (.ret,s)=>zK false (Zk s.h b Xr.isBusy (.done .ret))
 |some (.exit i,s)=>zK false (Zk s.h b Xr.isBusy (.done (.exit i)))
 |_=>none
theorem agG(body:Code)(t:List AV)(h:Qa):aqB O P body t (some h)=Rj O P 5000 body [] ⟨t,h⟩:=abV rfl rfl
theorem yK(b:Nat)(body:Code)(t:List AV)(h:Qa):ajM O P b body (some (.normal,⟨t,h⟩))=aqB O P body t (Zk h b Xr.isReady .busy):=abV rfl rfl
theorem agS(r:Bool)(h:Qa):zK r (some h)=some (.ret (.bool r),h):=abV rfl rfl
theorem anA{vs:List AV}{b:Nat}{h:Qa}{ps:List Nat}{asg body:Code}{tm:List AV}{st:Xr}(hb:h[b]?=some (.lp ps asg body tm st))(hl:ps.length=vs.length):
 Yl O P (vs++[.yl b]) h=aiN b (ajM O P b body (Rj O P 5000 asg [] ⟨Zv tm ps vs,h⟩)):=by
 unfold Yl
 simp only[List.reverse_append,List.reverse_cons,List.reverse_nil,anI,aqT,List.reverse_reverse,List.length_reverse,hb,hl,if_true,Xg]
 cases Rj O P 5000 asg [] ⟨Zv tm ps vs,h⟩with
 |none=>rfl
 |some x=>
  obtain⟨e,s⟩:=x
  cases e with
  |normal=>
   simp only[adA,ajM]
   cases Zk s.h b Xr.isReady .busy with
   |none=>rfl
   |some h1=>
    simp only[adA,aqB]
    cases Rj O P 5000 body [] ⟨s.tmps,h1⟩with
    |none=>rfl
    |some y=>
     obtain⟨e,s⟩:=y
     cases e with
     |normal=>simp only[adA,Zg,aiN,zK];cases Zk s.h b Xr.isBusy .ready<;>rfl
     |ret=>simp only[adA,Zg,aiN,zK];cases Zk s.h b Xr.isBusy (.done .ret)<;>rfl
     |exit i=>simp only[adA,Zg,aiN,zK];cases Zk s.h b Xr.isBusy (.done (.exit i))<;>rfl
     |pan v=>rfl
  |_=>rfl
def RnE(b:Nat)(Q:Tj→Qa→Prop)(x:R):Prop:=∃o h',aiN b x=some (o,h')∧Q o h'
def RnQ(O:Ud)(args:List AV)(h:Qa)(Q:Tj→Qa→Prop):Prop:=∃o h',O.call .round args h=some (o,h')∧Q o h'
theorem RnQ.start{vs:List AV}{b:Nat}{h:Qa}{ps:List Nat}{asg body:Code}{tm:List AV}{st:Xr}{Q:Tj→Qa→Prop}(hb:h[b]?=some (.lp ps asg body tm st))(hl:ps.length=vs.length)
 (he:RnE b Q (ajM (om P pr) P b body (Rj (om P pr) P 5000 asg [] ⟨Zv tm ps vs,h⟩))):RnQ (om P pr) (vs++[.yl b]) h Q:=by
 obtain⟨o,h',e,q⟩:=he
 exact⟨o,h',zT ((anA hb hl).trans e),q⟩
theorem av3{C:R→Prop}{n f b:Nat}{k:List Qk}{t:List AV}{h1 h2:Qa}{args:List AV}{Q:Tj→Qa→Prop}(hq:yR O f args h2 Q)(hk:∀o h',Q o h'→C (rnE O P n k t b h1 (shK h1 (some (o,h'))))):C (rnE O P n k t b h1 (shK h1 (O.call (.sh f) args h2))):=by
 obtain⟨o,h',e,q⟩:=hq
 rw[e];exact hk o h' q
theorem aiS(b:Nat)(Q:Tj→Qa→Prop)(t:List AV)(h:Qa):RnE b Q (some (.normal,⟨t,h⟩))=∃o h',zK true (Zk h b Xr.isBusy .ready)=some (o,h')∧Q o h':=abV rfl rfl
theorem ap5(h:Qa)(f:Nat)(args:List AV):adW O h f args=if(lH args||O.md f)=true then some [.all]else ftR h args:=abV rfl rfl
theorem ajG{b:Nat}{Q:Tj→Qa→Prop}:¬RnE b Q none:=fun⟨_,_,h,_⟩=>by simp[aiN]at h
theorem aqJ(n:Nat)(t:Tm)(p:Nat)(ps:List Nat)(v:AV)(vs:List AV):Zv (mk n t) (p::ps) (v::vs)=Zv (mk n (up t p v)) ps vs:=by
 simp only[Zv,an4]
theorem awR(n:Nat)(t:Tm)(vs:List AV):Zv (mk n t) [] vs=mk n t:=by cases vs<;>rfl
end
def bV(f:Nat→Nat):Qu→Qu
 | .cells b o n=>.cells (f b) o n
 | .blk b=>.blk (f b)
 | .all=>.all
def lgF(f:Nat→Nat)(log:aU):List (List Qu × List Qu):=log.map fun x=>(x.1.map fun e=>bV f e.foot,x.2.map (bV f))
def wJ(x y:List Qu × List Qu):Bool:=x.1.any (fun f=>(y.1++y.2).any f.meets)||y.1.any (fun f=>x.2.any f.meets)
def zU(ops:List Oper)(lg:List (List Qu × List Qu)):Bool:=
 (nG ops).all fun(i,j)=>match lg[i]?,lg[j]? with
   |some x,some y=> !wJ x y
   |_,_=>false
theorem pR(f:Nat→Nat)(x y:Qu)(h:x.meets y=true):(bV f x).meets (bV f y)=true:=by
 cases x<;>cases y<;>simp_all[Qu.meets,bV]
theorem akU(f:Nat→Nat)(x y:List Qb × List Qu)(h:Ys x y=true):wJ (x.1.map fun e=>bV f e.foot,x.2.map (bV f)) (y.1.map fun e=>bV f e.foot,y.2.map (bV f))=true:=by
 simp only[Ys,wJ,ayX,ayY,ah9,ajT]at h ⊢
 rcases h with⟨a,⟨e,he,rfl⟩,b,hb,hm⟩|⟨a,⟨e,he,rfl⟩,b,hb,hm⟩
 ·refine .inl ⟨_,⟨e,he,rfl⟩,bV f b,?_,pR f _ _ hm⟩
  rcases hb with⟨e',he',rfl⟩|hb
  ·exact .inl ⟨e',he',rfl⟩
  ·exact .inr ⟨b,hb,rfl⟩
 ·exact .inr ⟨_,⟨e,he,rfl⟩,bV f b,⟨b,hb,rfl⟩,pR f _ _ hm⟩
theorem vU(f:Nat→Nat){ops:List Oper}{log:aU}(h:zU ops (lgF f log)=true):Td ops log=true:=by
 simp only[zU,Td,ai4]at h ⊢
 rintro⟨i,j⟩ hij
 have:=h (i,j) hij
 simp only[lgF,aoS]at this ⊢
 cases hi:log[i]? with
 |none=>simp[hi]at this
 |some x=>
  cases hj:log[j]? with
  |none=>simp[hi,hj]at this
  |some y=>
   simp only[hi,hj,ahF,ayZ,ay0]at this ⊢
   cases hc:Ys x y with
   |false=>rfl
   |true=>rw[akU f x y hc]at this;cases this
theorem acU(f:Nat→Nat):lgF f []=[]:=abV rfl rfl
theorem xC(f:Nat→Nat)(x:List Qb)(y:List Qu)(l:aU):lgF f ((x,y)::l)=(x.map (fun e=>bV f e.foot),y.map (bV f))::lgF f l:=abV rfl rfl
theorem rO(f:Nat→Nat)(b o n:Nat):bV f (.cells b o n)=.cells (f b) o n:=abV rfl rfl
theorem adB(f:Nat→Nat)(b:Nat):bV f (.blk b)=.blk (f b):=abV rfl rfl
theorem acF(b:Nat)(c:CB):Qb.foot (.new b c)=.blk b:=abV rfl rfl
theorem acC(b:Nat)(c:CB):Qb.foot (.put b c)=.blk b:=abV rfl rfl
theorem pE(b r o:Nat)(vs:List AV):Qb.foot (.cells b r o vs)=.cells b o vs.length:=abV rfl rfl
section
variable {P:Program} {O:Ud}
end
def EVs:=PLift.up (abT @auY (abT @ayC (abT @aqK (abT @aiX (abT @aAZ (abT @akF (abT @aq2 (abT @agG (abT @yK (abT @agS (abT @aiS (abT @aqJ (abT @ap5 @awR)))))))))))))
end
noncomputable section
open Go.RowKit
set_option maxRecDepth 100000
def EVZ:=PLift.up (abT EVa.down (abT EVb.down (abT EVc.down (abT EVd.down (abT EVe.down (abT EVf.down (abT EVg.down (abT EVh.down (abT EVi.down (abT EVj.down (abT EVk.down (abT EVl.down (abT EVm.down (abT EVn.down (abT EVo.down (abT EVp.down EVq.down))))))))))))))))
section
variable {P:Program} {O:Ud}
class NoN(C:R→Prop):Prop where
 no:¬C none
instance{q:Nat}{rs:List ResultVar}{Q:Tj→Qa→Prop}:NoN (FnE P q rs Q):=⟨an3⟩
instance{rs:List ResultVar}{Q:Tj→Qa→Prop}:NoN (FnS P rs Q):=⟨anM⟩
instance{N:Nat}{J:Tm→Qa→Prop}{Q:Ex→St→Prop}:NoN (xB N J Q):=⟨amK⟩
instance{b:Nat}{Q:Tj→Qa→Prop}:NoN (RnE b Q):=⟨ajG⟩
end
end
noncomputable section
open Go.RowKit
set_option maxRecDepth 100000
section
variable {P:Program} {O:Ud}
class Spl(r:R)(b:outParam Bool)(x y:outParam R):Prop where
 sp:∀{C:R→Prop},(b=true→C x)→(b=false→C y)→C r
instance{n:Nat}{k:List Qk}{d:Option Nat}{op:Op}{cs:List CO}{b w:Bool}{t:List AV}{h:Qa}:Spl (rcG O P n k d op cs (.bool b) w t h) b (rcG O P n k d op cs (.bool true) w t h) (rcG O P n k d op cs (.bool false) w t h):=⟨a8F⟩
instance{n:Nat}{x y:Code}{k:List Qk}{g:Bool}{s:St}:Spl (cdK O P n x y k (some (.bool g)) s) g (Rj O P n x k s) (Rj O P n y k s):=⟨aM0⟩
instance{n:Nat}{k:List Qk}{d:Option Nat}{op:Op}{cs:List CO}{b w:Bool}{t:List AV}{h:Qa}:Spl (rqG O P n k d op cs (.bool b) w t h) b (rqG O P n k d op cs (.bool true) w t h) (rqG O P n k d op cs (.bool false) w t h):=⟨aXY⟩
instance{n:Nat}{k:List Qk}{d:Option Nat}{op:Op}{cs:List CO}{b w:Bool}{t:List AV}{h:Qa}:Spl (rwG O P n k d op cs (.bool b) w t h) b (rwG O P n k d op cs (.bool true) w t h) (rwG O P n k d op cs (.bool false) w t h):=⟨azB⟩
instance{n:Nat}{k:List Qk}{ops:List Oper}{d:Option Nat}{op:Op}{cs:List CO}{b w:Bool}{t:List AV}{h:Qa}{log:aU}:Spl (rlG O P n k ops d op cs (.bool b) w t h log) b (rlG O P n k ops d op cs (.bool true) w t h log) (rlG O P n k ops d op cs (.bool false) w t h log):=⟨aZL⟩
theorem Qs{C:R→Prop}{r x y:R}{b:Bool}(h1:b=true→C x)(h2:b=false→C y)(s:Spl r b x y:=by infer_instance):C r:=s.sp h1 h2
class Drw(i:Nat)(r:R)(c:outParam Bool)(r':outParam R):Prop where
 dr:∀{C:R→Prop},¬C none→c=true→C r'→C r
instance{b:Bool}{k:R}:Drw 0 (Vh b k) b k:=⟨fun _=>atV⟩
instance{n id:Nat}{ops:Array Oper}{k:List Qk}{t:List AV}{h:Qa}:Drw 1 (Rj O P (n+1) (.region id ops true) k ⟨t,h⟩) (Yu ops.toList&&aeZ ops.toList) (rw O P n k (ops.toList.map (Vt ops.toList)) t h):=⟨fun h=>aNT h⟩
instance{n id:Nat}{ops:Array Oper}{k:List Qk}{t:List AV}{h:Qa}:Drw 2 (Rj O P (n+1) (.region id ops true) k ⟨t,h⟩) (Yu ops.toList&&aN0 ops.toList) (rq O P n k (ops.toList.map (Vt ops.toList)) t h):=⟨fun h=>azC h⟩
instance{n id:Nat}{ops:Array Oper}{k:List Qk}{t:List AV}{h:Qa}:Drw 3 (Rj O P (n+1) (.region id ops true) k ⟨t,h⟩) (Yu ops.toList) (rl O P n k ops.toList (ops.toList.map (Vt ops.toList)) t h []):=⟨fun h=>a1M h⟩
structure Dw(r r':R):Prop where
 dr:∀{C:R→Prop},¬C none→C r'→C r
theorem dg{r r':R}{c:Bool}[d:Drw 0 r c r'](h:c=true:=by kernel_rfl):Dw r r':=⟨fun n k=>d.dr n h k⟩
theorem dw(i:Nat){r r':R}{c:Bool}[d:Drw i r c r'](h:c=true:=by decide+kernel):Dw r r':=⟨fun n k=>d.dr n h k⟩
theorem fd{C:R→Prop}{r r':R}[n:NoN C](k:C r')(e:Dw r r':=by first|exact dg|exact dw 1|exact dw 2|exact dw 3):C r:=e.dr n.no k
theorem fdq{C:R→Prop}{r r':R}[n:NoN C](k:C r')(e:Dw r r':=by first|exact dw 1|exact dw 2|exact dw 3):C r:=e.dr n.no k
end
section
variable {P:Program} {O:Ud}
def Un(O:Ud)(P:Program)(n:Nat)(k:List Qk)(c:Code)(C:R→Prop):R→Prop
 |some (.normal,s)=>C (lpK O P n k (O.loop c s))
 |some (e,s)=>C (Re (Rj O P n) k e s)
 |none=>False
instance{n:Nat}{k:List Qk}{c:Code}{C:R→Prop}:NoN (Un O P n k c C):=⟨fun h=>h⟩
end
theorem aoD:IntKind.i64.wrap 1=1:=abV rfl rfl
def EE:=PLift.up (abT EVZ.down (abT @aoD (abT @Vt.eq_1 (abT @Qc.eq_1 (abT @Qc.eq_2 (abT @Qc.eq_4 (abT @Qv.eq_1 (abT @Qv.eq_2 (abT @tV.eq_3 (abT @eP.eq_1 (abT @eP.eq_2 (abT @eP.eq_4 (abT @eP.eq_5 (abT @eP.eq_6 (abT @eP.eq_8 (abT @Rk.eq_1 (abT @Rk.eq_2 (abT @Zn.eq_1 (abT @Zn.eq_2 (abT @Zn.eq_3 (abT @Xh.eq_1 (abT @Rn.eq_1 (abT @bsK.eq_1 (abT @aP.eq_1 (abT @aP.eq_2 (abT @decide_true @decide_false))))))))))))))))))))))))))
def EF:=PLift.up (abT EE.down EE.down)
def EG:=PLift.up (abT EF.down EVs.down)
end
noncomputable section
open Go.RowKit
def Cl(g:HF)(S:List Nat):Prop:=∀b∈S,∃z,(g b).bind Rl=some z∧(z.2.1=false→∃d q,d≤8∧Rm (rd d g) z.2.2=some q∧∀x∈q.2,x∈S)
theorem Cl.nil(g:HF):Cl g []:=fun _ h=>by cases h
theorem Cl.app{g:HF}{S T:List Nat}(h1:Cl g S)(h2:Cl g T):Cl g (S++T):=fun b hb=>by
 rcases ah9.1 hb with h|h
 ·obtain⟨z,k1,k2⟩:=h1 b h
  exact⟨z,k1,fun e=>by obtain⟨d,q,a1,a2,a3⟩:=k2 e;exact⟨d,q,a1,a2,fun x hx=>aiF _ (a3 x hx)⟩⟩
 ·obtain⟨z,k1,k2⟩:=h2 b h
  exact⟨z,k1,fun e=>by obtain⟨d,q,a1,a2,a3⟩:=k2 e;exact⟨d,q,a1,a2,fun x hx=>ai3 _ (a3 x hx)⟩⟩
theorem clL{g:HF}{f:AV→Option (AV × List Nat)}:∀{l:List AV} {p:List AV × List Nat},eK f l=some p→(∀x∈l,∀q,f x=some q→Cl g q.2)→Cl g p.2
 | [],p,h,_=>by simp[eK]at h;subst h;exact Cl.nil g
 |a::l,p,h,hf=>by
  simp only[eK,ac4,acG]at h
  obtain⟨q,hq,r,hr,rfl⟩:=h
  exact(hf a (adP ..) q hq).app (clL hr fun x hx=>hf x (adM _ hx))
theorem clR{g:HF}{f:AV→Option (AV × List Nat)}:∀{l:List (List AV)} {p:List (List AV) × List Nat},Rm f l=some p→(∀r∈l,∀x∈r,∀q,f x=some q→Cl g q.2)→Cl g p.2
 | [],p,h,_=>by simp[Rm]at h;subst h;exact Cl.nil g
 |a::l,p,h,hf=>by
  simp only[Rm,ac4,acG]at h
  obtain⟨q,hq,r,hr,rfl⟩:=h
  exact(clL hq (hf a (adP ..))).app (clR hr fun x hx=>hf x (adM _ hx))
theorem amH{g:HF}:∀{d:Nat} {v:AV} {p:AV × List Nat},d≤9→rd d g v=some p→Cl g p.2
 |0,v,p,_,h=>by simp[rd]at h
 |d+1,v,p,hd,h=>by
  have IH:∀x q,rd d g x=some q→Cl g q.2:=fun x q hx=>amH (by omega) hx
  cases v with
  |slr st b r len=>
   simp only[rd,ac4]at h
   obtain⟨z,hz,h⟩:=h
   have hz':(g b).bind Rl=some z:=ac4.2 hz
   split at h
   ·cases hfl:z.2.1 with
    |true=>
     rw[hfl]at h;simp at h;rw[←h]
     intro b' hb'
     simp at hb';subst hb'
     exact⟨z,hz',fun e=>by rw[hfl]at e;cases e⟩
    |false=>
     rw[hfl]at h;simp only[cond_false,acG]at h
     obtain⟨q,hq,rfl⟩:=h
     intro b' hb'
     rcases ad8.1 hb' with rfl|hb'
     ·exact⟨z,hz',fun _=>⟨d,q,by omega,hq,fun x hx=>adM _ hx⟩⟩
     ·obtain⟨z',k1,k2⟩:=clR hq (fun r _ x _=>IH x) b' hb'
      exact⟨z',k1,fun e=>by obtain⟨d',q',a1,a2,a3⟩:=k2 e;exact⟨d',q',a1,a2,fun x hx=>adM _ (a3 x hx)⟩⟩
   ·cases h
  |agg cs=>
   simp only[rd,acG]at h
   obtain⟨q,hq,rfl⟩:=h
   exact clL hq fun x _=>IH x
  |iface t x=>
   simp only[rd,acG]at h
   obtain⟨q,hq,rfl⟩:=h
   exact IH x q hq
  |func fn a b=>
   cases a<;>cases b<;>first|(simp[rd]at h;subst h;exact Cl.nil g)|(simp[rd]at h)
  |_=>first|(simp[rd]at h;subst h;exact Cl.nil g)|(simp[rd]at h)
end
end Go.Ev
namespace Go.Ev
open Go.RowKit
structure Kp(lent:List Nat)(H H1:Qa):Prop where
 len:H.length≤H1.length
 rows:∀b,b<H.length→(hf H1 b).bind Rl=(hf H b).bind Rl
 same:∀b,b<H.length→b∉lent→H1[b]?=H[b]?
end Go.Ev
namespace Go.Ev
noncomputable section
open Go.RowKit
theorem oU{g:HF}:∀{d e:Nat} {v:AV} {p:AV × List Nat},d≤e→rd d g v=some p→Vd e g v=some p.1
 |0,e,v,p,_,h=>by simp[rd]at h
 |d+1,0,v,p,he,h=>by omega
 |d+1,e+1,v,p,he,h=>by
  cases v with
  |slr st b r len=>exact oP (ae2 he h)
  |agg cs=>
   simp only[rd,acG]at h
   obtain⟨q,hq,rfl⟩:=h
   simp[Vd,kM (f':=Vd e g) hq (fun x _ q' hx=>oU (show d≤e by omega) hx)]
  |iface t x=>
   simp only[rd,acG]at h
   obtain⟨q,hq,rfl⟩:=h
   simp[Vd,oU (show d≤e by omega) hq]
  |func fn a b=>cases a<;>cases b<;>first|(simp[rd]at h;subst h;rfl)|(simp[rd]at h)
  |_=>first|(simp[rd]at h;subst h;rfl)|(simp[rd]at h)
theorem al1{f:AV→Option (AV × List Nat)}{f':AV→List Nat}:∀{l:List AV} {p:List AV × List Nat},eK f l=some p→(∀x∈l,∀q,f x=some q→∀b∈f' x,b∈q.2)→∀b∈l.flatMap f',b∈p.2
 | [],p,h,_=>fun b hb=>by simp at hb
 |a::l,p,h,hf=>fun b hb=>by
  simp only[eK,ac4,acG]at h
  obtain⟨q,hq,r,hr,rfl⟩:=h
  rw[atB]at hb
  rcases ah9.1 hb with hb|hb
  ·exact aiF _ (hf a (adP ..) q hq b hb)
  ·exact ai3 _ (al1 hr (fun x hx=>hf x (adM _ hx)) b hb)
theorem atJ{f:AV→Option (AV × List Nat)}{f':AV→List Nat}:∀{l:List (List AV)} {p:List (List AV) × List Nat},Rm f l=some p→(∀r∈l,∀x∈r,∀q,f x=some q→∀b∈f' x,b∈q.2)→∀b∈l.flatMap (fun cs=>cs.flatMap f'),b∈p.2
 | [],p,h,_=>fun b hb=>by simp at hb
 |a::l,p,h,hf=>fun b hb=>by
  simp only[Rm,ac4,acG]at h
  obtain⟨q,hq,r,hr,rfl⟩:=h
  rw[atB]at hb
  rcases ah9.1 hb with hb|hb
  ·exact aiF _ (al1 hq (hf a (adP ..)) b hb)
  ·exact ai3 _ (atJ hr (fun x hx=>hf x (adM _ hx)) b hb)
theorem jM{g:HF}:∀{e d:Nat} {v:AV} {p:AV × List Nat},rd d g v=some p→∀b∈Qn e g v,b∈p.2
 |0,d,v,p,_,b,hb=>by simp[Qn]at hb
 |e+1,0,v,p,h,b,hb=>by simp[rd]at h
 |e+1,d+1,v,p,h,b,hb=>by
  cases v with
  |slr st c r len=>
   simp only[rd,ac4]at h
   obtain⟨z,hz,h⟩:=h
   split at h
   ·rename_i hq
    obtain⟨rfl,rfl,rfl⟩:=hq
    simp only[Qn,lC (ac4.2 hz)]at hb
    cases hfl:z.2.1 with
    |true=>rw[hfl]at h hb;simp at h hb;rw[←h];simp[hb]
    |false=>
     rw[hfl]at h hb
     simp only[cond_false,acG]at h
     obtain⟨q,hq',rfl⟩:=h
     rcases ad8.1 hb with rfl|hb
     ·exact adP ..
     ·exact adM _ (atJ hq' (fun r _ x _ q' hx b hb=>jM hx b hb) b (by simpa using hb))
   ·cases h
  |agg cs=>
   simp only[rd,acG]at h
   obtain⟨q,hq,rfl⟩:=h
   exact al1 hq (fun x _ q' hx b hb=>jM hx b hb) b hb
  |iface t x=>
   simp only[rd,acG]at h
   obtain⟨q,hq,rfl⟩:=h
   exact jM hq b hb
  |_=>simp[Qn]at hb
theorem Tz{C:R→Prop}[n:NoN C]{r:R}(h:∀K:R→Prop,NoN K→(∀x,C x→K x)→K r):C r:=h C n fun _ h=>h
theorem fM{v:AV}{H:Qa}{b:Nat}(l:List CB)(hb:b<H.length)(hv:∀a c r m,v=.slr a c r m→c≠b):(kl 0 v H++l)[b]?=H[b]?:=by
 rw[atC (by rw[mG];exact hb)]
 unfold kl
 split
 ·rename_i a c r m
  rw[ay1];simpa using hv a c r m rfl
 ·rfl
theorem gK{H:Qa}{b:Nat}{z:Nat × Bool × List (List AV)}(h:(hf H b).bind Rl=some z):b<H.length:=by
 obtain⟨c,hc,_⟩:=ac4.1 h
 exact(ahS.1 hc).1
theorem dI{g g':HF}{d:Nat}{l:List AV}{p:List AV × List Nat}(h:eK (rd d g) l=some p)(ha:Agr p.2 g g'):eK (rd d g') l=some p:=
 eQ h fun _ _ _ hq hs=>pV hq fun b hb=>ha b (hs b hb)
theorem qU{g g':HF}{d:Nat}{l:List (List AV)}{p:List (List AV) × List Nat}(h:Rm (rd d g) l=some p)(ha:Agr p.2 g g'):Rm (rd d g') l=some p:=
 aZ h fun _ _ _ _ _ hq hs=>pV hq fun b hb=>ha b (hs b hb)
theorem qX{H:Qa}{d:Nat}{l:List AV}{p:List AV × List Nat}(hd:d≤9)(h:eK (rd d (hf H)) l=some p):∀b∈p.2,b<H.length:=fun b hb=>by
 obtain⟨z,hz,_⟩:=clL h (fun x _ q hx=>amH hd hx) b hb
 exact gK hz
theorem uM{H:Qa}{d:Nat}{l:List (List AV)}{p:List (List AV) × List Nat}(hd:d≤9)(h:Rm (rd d (hf H)) l=some p):∀b∈p.2,b<H.length:=fun b hb=>by
 obtain⟨z,hz,_⟩:=clR h (fun r _ x _ q hx=>amH hd hx) b hb
 exact gK hz
theorem sK{f:AV→Option (AV × List Nat)}:∀{l:List (List AV)} {p:List (List AV) × List Nat},Rm f l=some p→l.length=p.1.length
 | [],p,h=>by simp[Rm]at h;subst h;rfl
 |a::l,p,h=>by
  simp only[Rm,ac4,acG]at h
  obtain⟨q,hq,r,hr,rfl⟩:=h
  simp[sK hr]
theorem rY{f:AV→Option (AV × List Nat)}:∀{l:List (List AV)} {p:List (List AV) × List Nat} {i:Nat} {X:List AV},Rm f l=some p→p.1[i]?=some X→∃r R,l[i]?=some r∧eK f r=some (X,R)
 | [],p,i,X,h,hx=>by simp[Rm]at h;subst h;simp at hx
 |a::l,p,i,X,h,hx=>by
  simp only[Rm,ac4,acG]at h
  obtain⟨q,hq,r,hr,rfl⟩:=h
  cases i with
  |zero=>simp at hx;subst hx;exact⟨a,q.2,rfl,hq⟩
  |succ i=>simp at hx;obtain⟨r',R',k1,k2⟩:=rY hr hx;exact⟨r',R',by simpa using k1,k2⟩
theorem aeC{f:AV→Option (AV × List Nat)}:∀{l:List AV} {p:List AV × List Nat},eK f l=some p→l.length=p.1.length
 | [],p,h=>by simp[eK]at h;subst h;rfl
 |a::l,p,h=>by
  simp only[eK,ac4,acG]at h
  obtain⟨q,hq,r,hr,rfl⟩:=h
  simp[aeC hr]
theorem Xm{f:AV→Option (AV × List Nat)}{l xs:List AV}{x:AV}{R:List Nat}(h:eK f l=some (x::xs,R)):∃a l' R1 R2,l=a::l'∧f a=some (x,R1)∧eK f l'=some (xs,R2)∧R=R1++R2:=by
 cases l with
 |nil=>simp[eK]at h
 |cons a l=>
  simp only[eK,ac4,acG]at h
  obtain⟨q,hq,r,hr,he⟩:=h
  simp only[Prod.mk.injEq,List.cons.injEq]at he
  obtain⟨⟨rfl,rfl⟩,rfl⟩:=he
  exact⟨a,l,q.2,r.2,rfl,hq,hr,rfl⟩
theorem cX{f:AV→Option (AV × List Nat)}{l:List AV}{R:List Nat}(h:eK f l=some ([],R)):l=[]∧R=[]:=by
 cases l with
 |nil=>simp[eK]at h;exact⟨rfl,h⟩
 |cons a l=>have:=aeC h;simp at this
theorem ad4{g:HF}{d:Nat}{v:AV}{k:IntKind}{n:Int}{R:List Nat}(h:rd (d+1) g v=some (.int k n,R)):v=.int k n∧R=[]:=by
 cases v with
 |slr st b r len=>
  simp only[rd,ac4]at h
  obtain⟨z,_,h⟩:=h
  split at h
  ·cases hfl:z.2.1<;>rw[hfl]at h<;>simp at h
  ·cases h
 |func fn a b=>cases a<;>cases b<;>simp[rd]at h
 |int k' n'=>simp[rd]at h;exact⟨by simp[h],h.2⟩
 |agg cs=>simp[rd]at h
 |iface t x=>simp[rd]at h
 |_=>simp[rd]at h
theorem anK{g:HF}{d st:Nat}{fl nn:Bool}{v:AV}{rows:List (List AV)}{R:List Nat}(h:rd (d+1) g v=some (Rw st fl nn rows,R)):v.isCell=true∧v.flat=false:=by
 have hs:Rw st fl nn rows=.nils∨∃r,Rw st fl nn rows=.imm st fl r:=by
  cases rows with
  |nil=>cases nn with
   |true=>exact .inr ⟨_,rfl⟩
   |false=>exact .inl rfl
  |cons=>exact .inr ⟨_,rfl⟩
 generalize Rw st fl nn rows=X at h hs
 cases v with
 |func fn a b=>cases a<;>cases b<;>first|exact⟨rfl,rfl⟩|(simp[rd]at h)
 |agg cs=>simp only[rd,acG]at h;obtain⟨_,_,h⟩:=h;simp only[Prod.mk.injEq]at h;obtain⟨h,_⟩:=h;subst h;rcases hs with hs|⟨_,hs⟩<;>cases hs
 |ptr b r o=>exact⟨rfl,rfl⟩
 |yl b=>exact⟨rfl,rfl⟩
 |mapr b=>exact⟨rfl,rfl⟩
 |itr b=>exact⟨rfl,rfl⟩
 |tup cs=>simp[rd]at h
 |bool b=>simp[rd]at h;obtain⟨h,_⟩:=h;subst h;rcases hs with hs|⟨_,hs⟩<;>cases hs
 |int k n=>simp[rd]at h;obtain⟨h,_⟩:=h;subst h;rcases hs with hs|⟨_,hs⟩<;>cases hs
 |str s=>simp[rd]at h;obtain⟨h,_⟩:=h;subst h;rcases hs with hs|⟨_,hs⟩<;>cases hs
 |_=>exact⟨rfl,rfl⟩
theorem fK{g:HF}{d st:Nat}{fl nn:Bool}{v:AV}{rows:List (List AV)}{R:List Nat}(h:rd (d+1) g v=some (Rw st fl nn rows,R)):
 (v=.nils∧rows=[])∨∃b rows',v=.slr st b 0 rows.length∧(g b).bind Rl=some (st,fl,rows')∧rows'.length=rows.length∧(fl=true→rows'=rows)∧(fl=false→∃R',Rm (rd d g) rows'=some (rows,R')):=by
 have hs:(Rw st fl nn rows=.nils∧rows=[])∨Rw st fl nn rows=.imm st fl rows:=by
  cases rows with
  |nil=>cases nn with
   |true=>exact .inr rfl
   |false=>exact .inl ⟨rfl,rfl⟩
  |cons=>exact .inr rfl
 generalize Rw st fl nn rows=X at h hs
 cases v with
 |nils=>simp[rd]at h;obtain⟨rfl,_⟩:=h;rcases hs with⟨_,hs⟩|hs
        ·exact .inl ⟨rfl,hs⟩
        ·cases hs
 |slr st' b r len=>
  simp only[rd,ac4]at h
  obtain⟨z,hz,h⟩:=h
  split at h
  ·rename_i hq
   obtain⟨q1,rfl,q3⟩:=hq
   obtain⟨z1,z2,z3⟩:=z
   simp only at q1 q3 h
   subst q1
   cases z2 with
   |true=>
    simp at h
    obtain⟨rfl,_⟩:=h
    rcases hs with⟨hs,_⟩|hs
    ·cases hs
    ·cases hs
     exact .inr ⟨b,_,by rw[q3],ac4.2 hz,rfl,fun _=>rfl,fun e=>by cases e⟩
   |false=>
    simp only[cond_false,acG]at h
    obtain⟨q,hq,he⟩:=h
    simp only[Prod.mk.injEq]at he
    obtain⟨rfl,_⟩:=he
    rcases hs with⟨hs,_⟩|hs
    ·cases hs
    ·cases hs
     have hl:z3.length=q.1.length:=sK hq
     exact .inr ⟨b,z3,by rw[q3,hl],ac4.2 hz,hl,fun e=>(by cases e),fun _=>⟨q.2,hq⟩⟩
  ·cases h
 |func fn a b=>cases a<;>cases b<;>simp[rd]at h<;>(obtain⟨rfl,_⟩:=h;rcases hs with⟨hs,_⟩|hs<;>cases hs)
 |agg cs=>simp only[rd,acG]at h;obtain⟨_,_,h⟩:=h;simp only[Prod.mk.injEq]at h;obtain⟨rfl,_⟩:=h;rcases hs with⟨hs,_⟩|hs<;>cases hs
 |iface t x=>simp only[rd,acG]at h;obtain⟨_,_,h⟩:=h;simp only[Prod.mk.injEq]at h;obtain⟨rfl,_⟩:=h;rcases hs with⟨hs,_⟩|hs<;>cases hs
 |ptr b r o=>simp[rd]at h
 |yl b=>simp[rd]at h
 |mapr b=>simp[rd]at h
 |itr b=>simp[rd]at h
 |tup cs=>simp[rd]at h
 |imm=>simp[rd]at h
 |iptr=>simp[rd]at h
 |_=>simp[rd]at h;obtain⟨rfl,_⟩:=h;rcases hs with⟨hs,_⟩|hs<;>cases hs
theorem aeA{H:Qa}{b st:Nat}{fl:Bool}{rows:List (List AV)}(h:(hf H b).bind Rl=some (st,fl,rows))(i:Nat):Yr (H[b]?) i=rows[i]?:=by
 obtain⟨c,hc,hz⟩:=ac4.1 h
 rw[show H[b]?=some c from hc]
 cases c<;>simp[Rl]at hz<;>(obtain⟨_,_,rfl⟩:=hz;rfl)
theorem kL{g:HF}{d:Nat}(k:IntKind)(n:Int):rd (d+1) g (.int k n)=some (.int k n,[]):=rfl
theorem ai9{g:HF}{d st b n:Nat}{rows:List (List AV)}(h:(g b).bind Rl=some (st,true,rows))(hn:n=rows.length):rd (d+1) g (.slr st b 0 n)=some (.imm st true rows,[b]):=by
 subst hn;simp[rd,h]
theorem cA{f:AV→Option (AV × List Nat)}:eK f []=some ([],[]):=rfl
theorem Vf{f:AV→Option (AV × List Nat)}{a x:AV}{l xs:List AV}{R1 R2:List Nat}(h1:f a=some (x,R1))(h2:eK f l=some (xs,R2)):eK f (a::l)=some (x::xs,R1++R2):=by simp[eK,h1,h2]
theorem mW{f:AV→Option (AV × List Nat)}:∀{l:List (List AV)} {p:List (List AV) × List Nat} {r:List AV} {q:List AV × List Nat},Rm f l=some p→eK f r=some q→Rm f (l++[r])=some (p.1++[q.1],p.2++q.2)
 | [],p,r,q,h,hr=>by simp[Rm]at h;subst h;simp[Rm,hr]
 |a::l,p,r,q,h,hr=>by
  simp only[Rm,ac4,acG]at h
  obtain⟨q1,hq1,r1,hr1,rfl⟩:=h
  simp[Rm,hq1,mW hr1 hr]
end
noncomputable section
open Go.RowKit
section
variable {P:Program} {O:Ud}
def slx(P:Program)(ty:TypeId)(a:Option AV)(l h:Option (Option AV)):OE:=r1 (a.bind fun a=>l.bind fun l=>h.bind fun h=>iU P ty a l h)
theorem ai7(t:List AV)(h:Qa)(ty:TypeId)(x:Operand)(lo hi:Option Operand):Ss O P t h (.slice ty x lo hi none)=slx P ty (Qc t x) (mE t lo) (mE t hi):=by
 rw[Ri _ _ _ rfl]
 simp only[exec,slx]
 cases Qc t x with
 |none=>rfl
 |some a=>
  cases mE t lo with
  |none=>rfl
  |some l=>
   cases mE t hi with
   |none=>rfl
   |some h=>exact Vk _
def oS(x:Option AV):Option (Option AV):=x.map some
theorem as6(v:AV):oS (some v)=some (some v):=abV rfl rfl
theorem agH(t:List AV):mE t none=some none:=abV rfl rfl
theorem ahU(t:List AV)(x:Operand):mE t (some x)=oS (Qc t x):=abV rfl rfl
theorem ayR{ty:TypeId}{n:Nat}(hs:SlT P ty n)(fl:Bool)(rows:List (List AV))(i:Nat)(hi:i≤rows.length):slx P ty (some (.imm n fl rows)) (some none) (some (some (.int .i64 i)))=some (.ret (.imm n fl (rows.take i)),[]):=by
 obtain⟨e,h1,h2⟩:=hs
 simp only[slx,adA,iU,h1,h2,Wl]
 simp[hi,r1]
theorem auQ{ty:TypeId}{n:Nat}(hs:SlT P ty n)(fl:Bool)(rows:List (List AV))(i:Nat)(hi:i≤rows.length):slx P ty (some (.imm n fl rows)) (some (some (.int .i64 i))) (some none)=some (.ret (.imm n fl (rows.drop i)),[]):=by
 obtain⟨e,h1,h2⟩:=hs
 simp only[slx,adA,iU,h1,h2,Wl]
 simp[hi,r1,axO]
end
end
noncomputable section
set_option maxRecDepth 100000
section
variable {P:Program} {G:Nat→Option Obj}
end
section
variable {P:Program}
theorem auK{ty:TypeId}{n:Nat}(hs:SlT P ty n)(fl nn:Bool){rows:List (List AV)}{i:Nat}(hi:i<rows.length):slx P ty (some (Rw n fl nn rows)) (some none) (some (some (.int .i64 i)))=some (.ret (.imm n fl (rows.take i)),[]):=by
 cases rows with
 |nil=>simp at hi
 |cons r rs=>rw[ajD];exact ayR hs fl _ i (by omega)
end
def EVu:=PLift.up (abT @ar8 (abT @uF (abT @kB (abT @ai7 (abT @agH (abT @ahU @as6))))))
end
noncomputable section
section
variable {α:Type}
end
end
section
def Zt:Qa→Qa→Qa
 | [],h'=>h'
 |c₀::h,[]=>c₀::h
 |c₀::h,c::h'=>(bif c₀.quiet c then c₀ else c.mark)::Zt h h'
def zA(h h':Qa):Prop:=h.length≤h'.length∧∀(i:Nat) (c₀ c:CB),h[i]?=some c₀→h'[i]?=some c→c₀.quiet c=true∨c₀.isLive=true
theorem fZ:∀(h h' pre:Qa),zA h h'→∃es,Rf pre.length h h'=some es∧Rk (pre++h) es=pre++Zt h h'
 | [],h',pre,_=>⟨_,rfl,by simp[uJ,Zt]⟩
 |c₀::h,[],pre,ok=>by simp[zA]at ok
 |c₀::h,c::h',pre,ok=>by
  have ok':zA h h':=⟨by simpa using ok.1,fun i a b h1 h2=>ok.2 (i+1) a b (by simpa using h1) (by simpa using h2)⟩
  cases hq:c₀.quiet c with
  |true=>
   obtain⟨es,e1,e2⟩:=fZ h h' (pre++[c₀]) ok'
   refine⟨es,?_,?_⟩
   ·simp only[Rf,hq,cond_true]
    simpa using e1
   ·simpa [Zt,hq]using e2
  |false=>
   have hl:c₀.isLive=true:=by
    rcases ok.2 0 c₀ c rfl rfl with h|h
    ·rw[hq]at h;cases h
    ·exact h
   obtain⟨es,e1,e2⟩:=fZ h h' (pre++[c.mark]) ok'
   refine⟨.put pre.length c.mark::es,?_,?_⟩
   ·simp only[Rf,hq,hl,cond_false,cond_true]
    simp only[awV,aoU,awX]at e1
    rw[e1];rfl
   ·simp only[Rk,Zn,Zt,hq,cond_false]
    have:(pre++c₀::h).set pre.length c.mark=(pre++[c.mark])++h:=by simp
    rw[this,e2];simp
theorem dL:∀{h h':Qa},h.length≤h'.length→(Zt h h').length=h'.length
 | [],h',_=>rfl
 |c₀::h,[],hl=>by simp at hl
 |c₀::h,c::h',hl=>by simp[Zt,dL (h:=h) (h':=h') (by simpa using hl)]
theorem Zh:∀{h h':Qa} {i:Nat} {c₀ c:CB},h[i]?=some c₀→h'[i]?=some c→c₀.quiet c=true→(Zt h h')[i]?=some c₀
 | [],h',i,c₀,c,h1,_,_=>by simp at h1
 |a::h,[],i,c₀,c,_,h2,_=>by simp at h2
 |a::h,b::h',0,c₀,c,h1,h2,hq=>by
  simp at h1 h2;subst h1 h2;simp[Zt,hq]
 |a::h,b::h',i+1,c₀,c,h1,h2,hq=>by
  simp at h1 h2;simpa [Zt]using Zh h1 h2 hq
theorem fU:∀{h h':Qa} {i:Nat} {c₀ c:CB},h[i]?=some c₀→h'[i]?=some c→c₀.quiet c=false→(Zt h h')[i]?=some c.mark
 | [],h',i,c₀,c,h1,_,_=>by simp at h1
 |a::h,[],i,c₀,c,_,h2,_=>by simp at h2
 |a::h,b::h',0,c₀,c,h1,h2,hq=>by
  simp at h1 h2;subst h1 h2;simp[Zt,hq]
 |a::h,b::h',i+1,c₀,c,h1,h2,hq=>by
  simp at h1 h2;simpa [Zt]using fU h1 h2 hq
theorem kA:∀{h h':Qa} {i:Nat},h.length≤h'.length→h.length≤i→(Zt h h')[i]?=h'[i]?
 | [],h',i,_,_=>rfl
 |a::h,[],i,hl,_=>by simp at hl
 |a::h,b::h',0,_,hi=>by simp at hi
 |a::h,b::h',i+1,hl,hi=>by
  simpa [Zt]using kA (h:=h) (h':=h') (i:=i) (by simpa using hl) (by simpa using hi)
theorem Ut{h:Qa}{i:Nat}{c:CB}(hc:h[i]?=some c):(Wm h)[i]?=some c.clean:=by simp[Wm,hc]
theorem Rx(h:Qa):(Wm h).length=h.length:=by simp[Wm]
theorem ac2(c:CB):Rl c.clean=Rl c:=by cases c<;>rfl
theorem aiL(c:CB):Rl c.mark=Rl c:=by cases c<;>rfl
theorem wV{O:Ud}{H:Qa}{f:Nat}{args:List AV}{Q:Tj→Qa→Prop}(hd:oV args=true)(hm:O.md f=true)(K:yR O f args (Wm H) Q)(ok:∀o G,Q o G→zA H G):
 ∃o G es,cl O H (some (.func (.func f) [] [])) (some args)=some (o,es)∧Rk H es=Zt H G∧Q o G:=by
 obtain⟨o,G,hc,hq⟩:=K
 obtain⟨es,e1,e2⟩:=fZ H G [] (ok o G hq)
 refine⟨o,G,es,?_,by simpa using e2,hq⟩
 rw[aeU]
 simp only[anI,aoT,hd,if_true,shC,hm,aoV,hc]
 rw[pL]
 have e1':Rf 0 H G=some es:=e1
 rw[e1'];rfl
structure Xl(X:List Nat)(H H1:Qa):Prop where
 len:H.length≤H1.length
 same:∀b,b<H.length→b∉X→H1[b]?=H[b]?
theorem Xl.app(H l:Qa):Xl [] H (H++l):=⟨by simp,fun b hb _=>atC hb⟩
theorem Xl.trans{X Y:List Nat}{H H1 H2:Qa}(h1:Xl X H H1)(h2:Xl Y H1 H2):Xl (X++Y) H H2:=
 ⟨aoP h1.len h2.len,fun b hb hn=>by
   rw[h2.same b (Nat.lt_of_lt_of_le hb h1.len) (fun h=>hn (ai3 _ h)),h1.same b hb (fun h=>hn (aiF _ h))]⟩
end
noncomputable section
open Go.RowKit
def xH(f:Nat→Nat):aU→List (List Qu × List Qu)→Prop
 | [],[]=>True
 |(es,fs)::l,(w,r)::l'=>(∀e∈es,Qu.all∈w∨bV f e.foot∈w)∧(∀x∈fs,Qu.all∈r∨bV f x∈r)∧xH f l l'
 |_,_=>False
theorem xH.get{f:Nat→Nat}:∀{l:aU} {l':List (List Qu × List Qu)} {i:Nat} {y:List Qu × List Qu},xH f l l'→l'[i]?=some y→∃x,l[i]?=some x∧(∀e∈x.1,Qu.all∈y.1∨bV f e.foot∈y.1)∧(∀a∈x.2,Qu.all∈y.2∨bV f a∈y.2)
 | [],[],i,y,_,h=>by simp at h
 |(es,fs)::l,(w,r)::l',0,y,h,hy=>by simp at hy;subst hy;exact⟨_,rfl,h.1,h.2.1⟩
 |(es,fs)::l,(w,r)::l',i+1,y,h,hy=>by
  obtain⟨x,h1,h2⟩:=xH.get h.2.2 (i:=i) (by simpa using hy)
  exact⟨x,by simpa using h1,h2⟩
theorem af1(x:Qu):x.meets .all=true:=by cases x<;>rfl
theorem af4(x:Qu):Qu.meets .all x=true:=by cases x<;>rfl
theorem alF(f:Nat→Nat){ops:List Oper}{log:aU}(lg:List (List Qu × List Qu))(hc:xH f log lg)(hd:zU ops lg=true):Td ops log=true:=by
 simp only[zU,Td,ai4]at hd ⊢
 rintro⟨i,j⟩ hij
 have:=hd (i,j) hij
 simp only at this ⊢
 cases hi:lg[i]? with
 |none=>simp[hi]at this
 |some x=>
  cases hj:lg[j]? with
  |none=>simp[hi,hj]at this
  |some y=>
   obtain⟨x',a1,a2,a3⟩:=hc.get hi
   obtain⟨y',b1,b2,b3⟩:=hc.get hj
   simp only[hi,hj,a1,b1,ayZ,ay0]at this ⊢
   cases hk:Ys x' y' with
   |false=>rfl
   |true=>
    rw[←this];symm
    have mt:∀{p q:Qu} {P Q:List Qu},p.meets q=true→(Qu.all∈P∨bV f p∈P)→(Qu.all∈Q∨bV f q∈Q)→∃p'∈P,∃q'∈Q,p'.meets q'=true:=fun {p q P Q} hm hp hq=>by
     rcases hp with hp|hp<;>rcases hq with hq|hq
     ·exact⟨_,hp,_,hq,rfl⟩
     ·exact⟨_,hp,_,hq,af4 _⟩
     ·exact⟨_,hp,_,hq,af1 _⟩
     ·exact⟨_,hp,_,hq,pR f _ _ hm⟩
    simp only[Ys,wJ,ayX,ayY,ah9,ajT]at hk ⊢
    rcases hk with⟨_,⟨e,he,rfl⟩,b,hb,hm⟩|⟨_,⟨e,he,rfl⟩,b,hb,hm⟩
    ·left
     rcases hb with⟨e',he',rfl⟩|hb
     ·obtain⟨p,hp,q,hq,hpq⟩:=mt hm (a2 e he) (b2 e' he')
      exact⟨p,hp,q,.inl hq,hpq⟩
     ·obtain⟨p,hp,q,hq,hpq⟩:=mt hm (a2 e he) (b3 b hb)
      exact⟨p,hp,q,.inr hq,hpq⟩
    ·right
     obtain⟨p,hp,q,hq,hpq⟩:=mt hm (b2 e he) (a3 b hb)
     exact⟨p,hp,q,hq,hpq⟩
theorem xM(f:Nat→Nat)(lg:List (List Qu × List Qu)){C:R→Prop}{ops:List Oper}{log:aU}{k:R}(hb:zU ops lg=true)(hc:xH f log lg)(h:True→C k):C (Vh (Td ops log) k):=vS (alF f lg hc hb) h
theorem lB(f:Nat→Nat):xH f [] []=True:=rfl
theorem gJ(f:Nat→Nat)(es:List Qb)(fs:List Qu)(l:aU)(w r:List Qu)(l':List (List Qu × List Qu)):xH f ((es,fs)::l) ((w,r)::l')=((∀e∈es,Qu.all∈w∨bV f e.foot∈w)∧(∀x∈fs,Qu.all∈r∨bV f x∈r)∧xH f l l'):=rfl
theorem arU{O:Ud}{H:Qa}{f:Nat}{args:List AV}{o:Tj}{l:Qa}(hd:oV args=true)(hm:O.md f=true)(hc:O.call (.sh f) args (Wm H)=some (o,Wm H++l))(hq:Qq H=true):
 cl O H (some (.func (.func f) [] [])) (some args)=some (o,Wh H.length l):=by
 rw[aeU]
 simp only[anI,aoT,hd,if_true,shC,hm,aoV,hc]
 rw[pL,ad9 hq]
 simp
theorem aqF{O:Ud}{H:Qa}{f:Nat}{args:List AV}{o:Tj}(hd:oV args=true)(hm:O.md f=true)(hc:O.call (.sh f) args (Wm H)=some (o,Wm H))(hq:Qq H=true):
 cl O H (some (.func (.func f) [] [])) (some args)=some (o,[]):=by
 have:=arU (l:=[]) hd hm (by simpa using hc) hq
 simpa [Wh]using this
theorem iV{H:Qa}(h:∀c∈H,c.quiet c.clean=true):Qq H=true:=by simp only[Qq,ai4];exact h
theorem Vr{H:Qa}(h:Qq H=true){b:Nat}{c:CB}(hb:H[b]?=some c):c.quiet c.clean=true:=by
 simp only[Qq,ai4]at h
 exact h c (atT hb)
theorem Ul{H l:Qa}(h:Qq H=true)(hl:Qq l=true):Qq (H++l)=true:=by
 simp only[Qq,ai4,ah9]at h hl ⊢
 exact fun c hc=>hc.elim (h c) (hl c)
theorem Um{H:Qa}(h:Qq H=true)(b:Nat){c:CB}(hc:c.quiet c.clean=true):Qq (H.set b c)=true:=by
 simp only[Qq,ai4]at h ⊢
 exact fun x hx=>(List.mem_or_eq_of_mem_set hx).elim (h x) (fun e=>e▸hc)
theorem yH{c:CB}(h:c.quiet c.clean=true):c.clean.quiet c.clean.clean=true:=by cases c<;>first|rfl|exact h
theorem bX{H:Qa}(h:Qq H=true):Qq (Wm H)=true:=by
 simp only[Qq,Wm,ai4,ajT]at h ⊢
 rintro c ⟨c0,h0,rfl⟩
 exact yH (h c0 h0)
theorem rS{c:CB}(h:c.quiet c.clean=true):c.mark.quiet c.mark.clean=true:=by cases c<;>first|rfl|exact h
theorem Xn{H0 G:Qa}{X:List Nat}(hq:Qq H0=true)(K:Xl X (Wm H0) G)(hX:∀b∈X,b<H0.length∧∀c0 c,H0[b]?=some c0→G[b]?=some c→c0.isLive=true∧c0.quiet c=false):
 zA H0 G∧(Zt H0 G).length=G.length∧(∀b,H0.length≤b→(Zt H0 G)[b]?=G[b]?)∧(∀b,b<H0.length→b∉X→(Zt H0 G)[b]?=H0[b]?)∧(∀b∈X,∀c,G[b]?=some c→(Zt H0 G)[b]?=some c.mark):=by
 have hlen:H0.length≤G.length:=by have:=K.len;rwa[Rx]at this
 have old:∀b c0,H0[b]?=some c0→b∉X→G[b]?=some c0.clean:=fun b c0 h0 hb=>by
  rw[K.same b (by rw[Rx];exact(ahS.1 h0).1) hb,Ut h0]
 refine⟨⟨hlen,fun b c0 c h0 h1=>?_⟩,dL hlen,fun b hb=>kA hlen hb,fun b hb hn=>?_,fun b hb c hc=>?_⟩
 ·by_cases hb:b∈X
  ·exact .inr ((hX b hb).2 c0 c h0 h1).1
  ·rw[old b c0 h0 hb]at h1;cases h1
   exact .inl (Vr hq h0)
 ·obtain⟨c0,h0⟩:∃c,H0[b]?=some c:=⟨_,aoQ hb⟩
  rw[h0];exact Zh h0 (old b c0 h0 hn) (Vr hq h0)
 ·obtain⟨h1,h2⟩:=hX b hb
  obtain⟨c0,h0⟩:∃c,H0[b]?=some c:=⟨_,aoQ h1⟩
  exact fU h0 hc (h2 c0 c h0 hc).2
theorem gA{H0 G:Qa}{X:List Nat}(hq:Qq H0=true)(K:Xl X (Wm H0) G)(hX:∀b∈X,b<H0.length∧∀c0 c,H0[b]?=some c0→G[b]?=some c→c0.isLive=true∧c0.quiet c=false)(hg:Qq G=true):Qq (Zt H0 G)=true:=by
 obtain⟨_,k1,k2,k3,k4⟩:=Xn hq K hX
 refine iV fun c hc=>?_
 obtain⟨b,hb⟩:=atU hc
 by_cases h1:b<H0.length
 ·by_cases h2:b∈X
  ·obtain⟨c1,h3⟩:∃c,G[b]?=some c:=⟨_,aoQ (by rw[←k1];exact(ahS.1 hb).1)⟩
   rw[k4 b h2 c1 h3]at hb;cases hb
   exact rS (Vr hg h3)
  ·rw[k3 b h1 h2]at hb;exact Vr hq hb
 ·rw[k2 b (by omega)]at hb;exact Vr hg hb
theorem aiB{H0 G:Qa}{X:List Nat}(hq:Qq H0=true)(K:Xl X (Wm H0) G)(hX:∀b∈X,b<H0.length∧∀c0 c,H0[b]?=some c0→G[b]?=some c→c0.isLive=true∧c0.quiet c=false)(b:Nat):(hf (Zt H0 G) b).bind Rl=(hf G b).bind Rl:=by
 obtain⟨_,k1,k2,k3,k4⟩:=Xn hq K hX
 show((Zt H0 G)[b]?).bind Rl=(G[b]?).bind Rl
 by_cases h1:b<H0.length
 ·by_cases h2:b∈X
  ·cases h3:G[b]? with
   |none=>rw[List.getElem?_eq_none_iff]at h3;have h4:=K.len;rw[Rx]at h4;omega
   |some c1=>rw[k4 b h2 c1 h3];exact aiL c1
  ·rw[k3 b h1 h2,K.same b (by rw[Rx];exact h1) h2]
   cases h3:H0[b]? with
   |none=>simp[Wm,h3]
   |some c=>rw[Ut h3];exact(ac2 c).symm
 ·rw[k2 b (by omega)]
end
theorem Uo{h:Qa}{b:Nat}{c:CB}(e:h[b]?=some c):b<h.length:=(ahS.1 e).1
structure tM(st lo:Nat)(ov:AV)(h:Qa)(rows Q:List (List AV))(Ro:List Nat):Prop where
 own:ayU 0 st false rows ov h
 nil:rows=[]→ov=.nils
 q:Rm (rd 5 (hf h)) rows=some (Q,Ro)
 dx:∀b∈Ro,lo≤b
 dov:∀a b r n,ov=.slr a b r n→lo≤b∧b∉Ro∧b<h.length
theorem tM.none{st lo:Nat}{h:Qa}:tM st lo .nils h [] [] []:=⟨.inl ⟨rfl,rfl⟩,fun _=>rfl,rfl,by simp,fun _ _ _ _ e=>by cases e⟩
theorem tM.keep{st lo:Nat}{ov:AV}{h h':Qa}{rows Q:List (List AV)}{Ro:List Nat}(I:tM st lo ov h rows Q Ro)(hl:h.length≤h'.length)(k:∀b,lo≤b→b<h.length→h'[b]?=h[b]?):tM st lo ov h' rows Q Ro:=by
 refine⟨?_,I.nil,?_,I.dx,fun a b r n e=>?_⟩
 ·rcases I.own with h1|⟨b,w,h1,h2⟩
  ·exact .inl h1
  ·exact .inr ⟨b,w,h1,by rw[k b (by have:=(I.dov _ _ _ _ h1).1;simpa using this) (Uo h2)];exact h2⟩
 ·refine qU I.q fun j hj z hz=>?_
  show(h'[j]?).bind Rl=_
  rw[k j (I.dx j hj) (uM (by omega) I.q j hj)];exact hz
 ·obtain⟨a1,b1,c⟩:=I.dov a b r n e
  exact⟨a1,b1,by omega⟩
theorem tM.snoc{st lo:Nat}{ov:AV}{h h':Qa}{rows Q:List (List AV)}{Ro:List Nat}(I:tM st lo ov h rows Q Ro)(hl:h.length≤h'.length)(k:∀b,lo≤b→b<h.length→h'[b]?=h[b]?){r X:List AV}{R':List Nat}(hr:eK (rd 5 (hf h')) r=some (X,R'))(hR:∀b∈R',h.length≤b)(hlo:lo≤h.length)(a:CB){m n:Nat}(hm:m=h'.length+1)(hn:n=rows.length+1):
 tM st lo (.slr st m 0 n) (kl 0 ov h'++[a,.live st false false (rows++[r])]) (rows++[r]) (Q++[X]) (Ro++R'):=by
 subst hm hn
 have I':=I.keep hl k
 have lR:=uM (by omega) I.q
 have lR':=qX (by omega) hr
 have get:∀j,j<h'.length→(∀a m r n,ov=.slr a m r n→m≠j)→(kl 0 ov h'++[a,.live st false false (rows++[r])])[j]?=h'[j]?:=fun j hj ho=>fM _ hj ho
 have hlen:(kl 0 ov h').length=h'.length:=mG ..
 have hnew:(kl 0 ov h'++[a,.live st false false (rows++[r])])[h'.length+1]?=some (.live st false false (rows++[r])):=by
  rw[ax7 (by omega),hlen,show h'.length+1-h'.length=1 by omega];rfl
 have q1:Rm (rd 5 (hf (kl 0 ov h'++[a,.live st false false (rows++[r])]))) rows=some (Q,Ro):=qU I'.q fun j hj z hz=>by
  show((kl 0 ov h'++_)[j]?).bind Rl=_
  rw[get j (by have:=lR j hj;omega) fun a m r n e e2=>(I.dov a m r n e).2.1 (e2▸hj)];exact hz
 have q2:eK (rd 5 (hf (kl 0 ov h'++[a,.live st false false (rows++[r])]))) r=some (X,R'):=dI hr fun j hj z hz=>by
  show((kl 0 ov h'++_)[j]?).bind Rl=_
  rw[get j (lR' j hj) fun a m r n e e2=>by have:=(I.dov a m r n e).2.2;have:=hR j hj;omega];exact hz
 refine⟨.inr ⟨h'.length+1,false,by simp,hnew⟩,fun e=>by simp at e,?_,fun b hb=>?_,fun a b r n e=>?_⟩
 ·simpa using mW q1 q2
 ·rcases ah9.1 hb with hb|hb
  ·exact I.dx b hb
  ·have:=hR b hb;omega
 ·cases e
  refine⟨by omega,fun hb=>?_,by simp[hlen]⟩
  rcases ah9.1 hb with hb|hb
  ·have:=lR _ hb;omega
  ·have:=lR' _ hb;omega
theorem aqW(d b:Nat):Qo (d+1) (.mapr b)=false:=abV rfl rfl
theorem ar9(b:Nat):AV.isCell (.mapr b)=true:=abV rfl rfl
theorem asX(b:Nat):AV.flat (.mapr b)=false:=abV rfl rfl
theorem atD(b:Nat):Qe (.mapr b)=[.mapr b]:=abV rfl rfl
theorem asU(d:Nat)(m:List Nat)(b:Nat):Qz (d+1) m (.mapr b)=some (.mapr (place m b).1,(place m b).2):=abV rfl rfl
theorem apI(d:Nat)(g:HF)(b:Nat):Qn (d+1) g (.mapr b)=[]:=abV rfl rfl
theorem aqR(h:Qa)(b:Nat):uT h (.mapr b)=some (.mapr b):=abV rfl rfl
def Zy:=PLift.up (abT @aqW (abT @ar9 (abT @asX (abT @atD (abT @asU (abT @apI @aqR))))))
theorem pO(c:CB):c.quiet c.clean=true∨(c.clean.mark=c∧c.isLive=true):=by
 cases c with
 |lp a b d e st=>exact .inr ⟨rfl,rfl⟩
 |_=>exact .inl rfl
theorem qE:∀(cs:List CB) (i:Nat),∀e∈Wh i cs,∃b,e.foot=.blk b∧i≤b
 | [],i,e,h=>by cases h
 |c::cs,i,e,h=>by
  rcases ad8.1 h with rfl|h
  ·exact⟨i,rfl,adD _⟩
  ·obtain⟨b,h1,h2⟩:=qE cs (i+1) e h
   exact⟨b,h1,by omega⟩
theorem abP:∀{h h':Qa} {i:Nat} {es:List Qb},Rf i h h'=some es→∀e∈es,∃b,e.foot=.blk b∧(i+h.length≤b∨∃j c₀ c,b=i+j∧h[j]?=some c₀∧h'[j]?=some c∧c₀.quiet c=false)
 | [],h',i,es,hs,e,he=>by
   simp only[Rf,ao1.injEq]at hs;subst hs
   obtain⟨b,h1,h2⟩:=qE h' i e he
   exact⟨b,h1,.inl (by simpa using h2)⟩
 |c₀::h,[],i,es,hs,e,he=>by simp[Rf]at hs
 |c₀::h,c::h',i,es,hs,e,he=>by
  have up:∀{es':List Qb},Rf (i+1) h h'=some es'→e∈es'→∃b,e.foot=.blk b∧(i+(c₀::h).length≤b∨∃j c₀' c',b=i+j∧(c₀::h)[j]?=some c₀'∧(c::h')[j]?=some c'∧c₀'.quiet c'=false):=fun {es'} h1 h2=>by
   obtain⟨b,k1,k2⟩:=abP h1 e h2
   refine⟨b,k1,?_⟩
   rcases k2 with k2|⟨j,x,y,k3,k4,k5,k6⟩
   ·exact .inl (by simp;omega)
   ·exact .inr ⟨j+1,x,y,by omega,by simpa using k4,by simpa using k5,k6⟩
  unfold Rf at hs
  cases hq:c₀.quiet c with
  |true=>rw[hq]at hs;exact up hs he
  |false=>
   rw[hq]at hs
   simp only[cond_false]at hs
   cases hl:c₀.isLive with
   |false=>rw[hl]at hs;simp at hs
   |true=>
    rw[hl]at hs
    simp only[cond_true,acG]at hs
    obtain⟨es',h1,rfl⟩:=hs
    rcases ad8.1 he with rfl|he
    ·exact⟨i,rfl,.inr ⟨0,c₀,c,by simp,rfl,rfl,hq⟩⟩
    ·exact up h1 he
theorem alD{O:Ud}{H:Qa}{f:Nat}{args:List AV}{Q:Tj→Qa→Prop}(hd:oV args=true)(hm:O.md f=true)(K:yR O f args (Wm H) Q)(ok:∀o G,Q o G→zA H G):
 ∃o G es,cl O H (some (.func (.func f) [] [])) (some args)=some (o,es)∧Rk H es=Zt H G∧Rf 0 H G=some es∧Q o G:=by
 obtain⟨o,G,hc,hq⟩:=K
 obtain⟨es,e1,e2⟩:=fZ H G [] (ok o G hq)
 have e1':Rf 0 H G=some es:=e1
 refine⟨o,G,es,?_,by simpa using e2,e1',hq⟩
 rw[aeU]
 simp only[anI,aoT,hd,if_true,shC,hm,aoV,hc]
 rw[pL,e1'];rfl
theorem ajV{O:Ud}{H:Qa}{f:Nat}{args:List AV}{Q:Tj→Qa→Prop}(hd:oV args=true)(hm:O.md f=true)(K:yR O f args (Wm H) fun o G=>Q o G∧Xl [] (Wm H) G):
 ∃o G es M,cl O H (some (.func (.func f) [] [])) (some args)=some (o,es)∧Rk H es=M∧Q o G∧M.length=G.length∧H.length≤M.length∧(∀b,b<H.length→M[b]?=H[b]?)∧(∀b,H.length≤b→M[b]?=G[b]?)∧∀e∈es,∃b,e.foot=.blk b∧(H.length≤b∨∃c,H[b]?=some c∧c.quiet c.clean=false):=by
 obtain⟨o,G,es,e1,e2,e3,hq,hk⟩:=alD hd hm K fun o G ⟨_,hk⟩=>⟨by have:=hk.len;rwa[Rx]at this,fun i c₀ c h1 h2=>by
  have h3:=hk.same i (by rw[Rx];exact Uo h1) (by simp)
  rw[Ut h1,h2]at h3;cases h3
  rcases pO c₀ with h|h
  ·exact .inl h
  ·exact .inr h.2⟩
 have hl:H.length≤G.length:=by have:=hk.len;rwa[Rx]at this
 refine⟨o,G,es,Zt H G,e1,e2,hq,dL hl,by rw[dL hl];exact hl,fun b hb=>?_,fun b hb=>kA hl hb,fun e he=>?_⟩
 ·have h1:H[b]?=some H[b]:=aoQ hb
  have h2:=hk.same b (by rw[Rx];exact hb) (by simp)
  rw[Ut h1]at h2
  rcases pO H[b]with h|h
  ·rw[Zh h1 h2 h,h1]
  ·cases hqq:(H[b]).quiet (H[b]).clean with
   |true=>rw[Zh h1 h2 hqq,h1]
   |false=>rw[fU h1 h2 hqq,h.1,h1]
 ·obtain⟨b,k1,k2⟩:=abP e3 e he
  refine⟨b,k1,?_⟩
  rcases k2 with k2|⟨j,c₀,c,k3,k4,k5,k6⟩
  ·exact .inl (by omega)
  ·have h2:=hk.same j (by rw[Rx];exact Uo k4) (by simp)
   rw[Ut k4,k5]at h2
   cases h2
   exact .inr ⟨c₀,by rw[k3,Nat.zero_add];exact k4,k6⟩
theorem tM.read{st lo:Nat}{ov:AV}{h:Qa}{rows Q:List (List AV)}{Ro:List Nat}(I:tM st lo ov h rows Q Ro):∃R,rd 6 (hf h) ov=some (Rw st false false Q,R)∧(∀b∈R,lo≤b)∧R.length≤1+Ro.length:=by
 have key:∀d,Rm (rd d (hf h)) rows=some (Q,Ro)→∃R,rd (d+1) (hf h) ov=some (Rw st false false Q,R)∧(∀b∈R,lo≤b)∧R.length≤1+Ro.length:=fun d hq=>by
  rcases I.own with⟨rfl,rfl⟩|⟨b,w,rfl,hb⟩
  ·simp[Rm]at hq;obtain⟨rfl,rfl⟩:=hq;exact⟨[],by simp[rd,Rw],by simp,by simp⟩
  ·have hne:rows≠[]:=fun e=>by have:=I.nil e;cases this
   have hb':(hf h (b+0)).bind Rl=some (st,false,rows):=by show(h[b]?).bind Rl=_;rw[hb];rfl
   refine⟨(b+0)::Ro,?_,fun c hc=>?_,by simp;omega⟩
   ·simp only[rd,hb',adA,if_true,and_self,cond_false,hq,ahF]
    have hl:Q≠[]:=fun e=>by
     cases rows with
     |nil=>exact hne rfl
     |cons r rs=>
      simp only[Rm,ac4,acG]at hq
      obtain⟨_,_,_,_,hq⟩:=hq
      simp only[Prod.mk.injEq]at hq
      rw[e]at hq;cases hq.1
    cases Q with
    |nil=>exact absurd rfl hl
    |cons r rs=>rfl
   ·rcases ad8.1 hc with rfl|hc
    ·exact(I.dov _ _ _ _ rfl).1
    ·exact I.dx c hc
 exact key 5 I.q
theorem rQ{f:AV→Option (AV × List Nat)}:∀{l:List (List AV)} {p:List (List AV) × List Nat} {i:Nat} {r:List AV} {q:List AV × List Nat},Rm f l=some p→l[i]?=some r→eK f r=some q→∀b∈q.2,b∈p.2
 | [],p,i,r,q,_,h,_=>by simp at h
 |a::l,p,i,r,q,hp,hi,hq=>by
  simp only[Rm,ac4,acG]at hp
  obtain⟨x,hx,y,hy,rfl⟩:=hp
  cases i with
  |zero=>
   simp at hi;subst hi
   rw[hx]at hq;cases hq
   exact fun b hb=>aiF _ hb
  |succ i=>
   exact fun b hb=>ai3 _ (rQ hy (by simpa using hi) hq b hb)
theorem rX{g:HF}{d st b r n:Nat}{x:AV}{R:List Nat}{rows:List (List AV)}(h:rd (d+1) g (.slr st b r n)=some (x,R))(hb:(g b).bind Rl=some (st,false,rows)):∃q,Rm (rd d g) rows=some q∧R=b::q.2∧x=.imm st false q.1:=by
 simp only[rd,hb,adA,cond_false]at h
 split at h
 ·obtain⟨q,hq,h⟩:=acG.1 h
  simp only[Prod.mk.injEq]at h
  exact⟨q,hq,h.2.symm,h.1.symm⟩
 ·cases h
end Go.Ev
namespace Go.Ev
namespace Net
abbrev Edge:=Nat × Nat × Nat
inductive Zr(E:List Edge)(s:Nat):Nat→Nat→Nat→Prop
 |nil (n:Nat):Zr E s n s 0
 |fwd {n a b c k:Nat} (h:Zr E s n a k) (he:(a,b,c)∈E):Zr E s (n+1) b (k+c)
 |bwd {n a b c k:Nat} (h:Zr E s n b k) (he:(a,b,c)∈E):Zr E s (n+1) a (k+c)
def Stp(E:List Edge)(u v c:Nat):Prop:=(u,v,c)∈E∨(v,u,c)∈E
theorem Zr.step{E:List Edge}{s n u v k c:Nat}(h:Zr E s n u k)(hs:Stp E u v c):Zr E s (n+1) v (k+c):=hs.elim (fun e=>.fwd h e) (fun e=>.bwd h e)
theorem Zr.cases'{E:List Edge}{s n v k:Nat}(h:Zr E s n v k):(v=s∧k=0)∨∃m u j c,n=m+1∧Zr E s m u j∧Stp E u v c∧k=j+c:=by
 cases h with
 |nil=>exact .inl ⟨rfl,rfl⟩
 |fwd h he=>exact .inr ⟨_,_,_,_,rfl,h,.inl he,rfl⟩
 |bwd h he=>exact .inr ⟨_,_,_,_,rfl,h,.inr he,rfl⟩
theorem Zr.more{E:List Edge}{s n v k:Nat}(h:Zr E s n v k):∀{m:Nat},n≤m→Zr E s m v k:=by
 induction h with
 |nil n=>exact fun _=>.nil _
 |fwd h he ih=>
  intro m hm
  obtain⟨m,rfl⟩:∃j,m=j+1:=⟨m-1,by omega⟩
  exact .fwd (ih (by omega)) he
 |bwd h he ih=>
  intro m hm
  obtain⟨m,rfl⟩:∃j,m=j+1:=⟨m-1,by omega⟩
  exact .bwd (ih (by omega)) he
def Cst(E:List Edge)(s v k:Nat):Prop:=∃n,Zr E s n v k
theorem Cst.step{E:List Edge}{s u v k c:Nat}(h:Cst E s u k)(hs:Stp E u v c):Cst E s v (k+c):=by obtain⟨n,h⟩:=h;exact⟨_,h.step hs⟩
def nX(E:List Edge)(s v k:Nat):Prop:=Cst E s v k∧∀j,Cst E s v j→k≤j
theorem least{p:Nat→Prop}:(∃n,p n)→∃n,p n∧∀j,p j→n≤j:=fun⟨n,hn⟩=>by
 induction n using atY with
 |ind n ih=>
  by_cases h:∃j,j<n∧p j
  ·obtain⟨j,h1,h2⟩:=h;exact ih j h1 h2
  ·exact⟨n,hn,fun j hj=>Nat.le_of_not_lt fun hlt=>h ⟨j,hlt,hj⟩⟩
theorem nX.ex{E:List Edge}{s v k:Nat}(h:Cst E s v k):∃j,nX E s v j:=least ⟨k,h⟩
theorem nX.eq{E:List Edge}{s v k j:Nat}(h1:nX E s v k)(h2:nX E s v j):k=j:=Nat.le_antisymm (h1.2 j h2.1) (h2.2 k h1.1)
def dX(E:List Edge)(s n v:Nat):Prop:=∃k,nX E s v k∧Zr E s n v k
theorem dX.more{E:List Edge}{s n m v:Nat}(h:dX E s n v)(hm:n≤m):dX E s m v:=by obtain⟨k,h1,h2⟩:=h;exact⟨k,h1,h2.more hm⟩
theorem dX.prev{E:List Edge}{s n v:Nat}(h:dX E s (n+1) v):v=s∨∃u c k,dX E s n u∧nX E s u k∧Stp E u v c∧nX E s v (k+c):=by
 obtain⟨k,h1,h2⟩:=h
 rcases h2.cases' with⟨h,_⟩|⟨m,u,j,c,hm,hw,hs,rfl⟩
 ·exact .inl h
 ·cases hm
  have hl:nX E s u j:=⟨⟨_,hw⟩,fun i hi=>by have:=h1.2 _ (hi.step hs);omega⟩
  exact .inr ⟨u,c,j,⟨j,hl,hw⟩,hl,hs,h1⟩
theorem dX.next{E:List Edge}{s n u v c k:Nat}(h:dX E s n u)(hu:nX E s u k)(hs:Stp E u v c)(hv:nX E s v (k+c)):dX E s (n+1) v:=by
 obtain⟨j,h1,h2⟩:=h
 cases h1.eq hu
 exact⟨_,hv,h2.step hs⟩
theorem nX.src{E:List Edge}{s:Nat}:nX E s s 0:=⟨⟨0,.nil 0⟩,fun j _=>agF j⟩
theorem dX.src{E:List Edge}{s:Nat}(n:Nat):dX E s n s:=⟨0,nX.src,.nil n⟩
theorem dX.stable{E:List Edge}{s n:Nat}(h:∀v,dX E s (n+1) v→dX E s n v):∀m v,dX E s m v→dX E s n v
 |0,v,hv=>hv.more (agF n)
 |m+1,v,hv=>by
  rcases hv.prev with rfl|⟨u,c,k,h1,h2,h3,h4⟩
  ·exact dX.src n
  ·exact h v ((dX.stable h m u h1).next h2 h3 h4)
noncomputable def oI(p:Nat→Prop):Nat→Nat
 |0=>0
 |N+1=>oI p N+(@ite Nat (p N) (Classical.propDecidable _) 1 0)
theorem adI(p:Nat→Prop):∀N,oI p N≤N
 |0=>adD 0
 |N+1=>by
  have:=adI p N
  unfold oI
  split<;>omega
theorem xR{p q:Nat→Prop}(h:∀v,p v→q v):∀N,oI p N≤oI q N
 |0=>adD 0
 |N+1=>by
  have:=xR h N
  unfold oI
  split
  ·rename_i h1;rw[if_pos (h _ h1)];omega
  ·split<;>omega
theorem adK{p q:Nat→Prop}(h:∀v,p v→q v){v:Nat}(hq:q v)(hp:¬p v):∀{N:Nat},v<N→oI p N+1≤oI q N
 |0,hv=>by omega
 |N+1,hv=>by
  unfold oI
  by_cases e:v=N
  ·subst e
   have:=xR h v
   rw[if_neg hp,if_pos hq];omega
  ·have:=adK h hq hp (N:=N) (by omega)
   split
   ·rename_i h1;rw[if_pos (h _ h1)];omega
   ·split<;>omega
theorem aeT{p:Nat→Prop}{v:Nat}(hp:p v):∀{N:Nat},v<N→1≤oI p N
 |0,hv=>by omega
 |N+1,hv=>by
  unfold oI
  by_cases e:v=N
  ·subst e;rw[if_pos hp];omega
  ·have:=aeT hp (N:=N) (by omega);split<;>omega
theorem ar6{E:List Edge}{s N:Nat}(hs:s<N)(hE:∀a b c,(a,b,c)∈E→a<N∧b<N):∀m v,dX E s m v→dX E s (N-1) v:=by
 have lt:∀m v,dX E s m v→v<N:=fun m=>by
  induction m with
  |zero=>
   intro v ⟨k,_,h⟩
   rcases h.cases' with⟨rfl,_⟩|⟨_,_,_,_,h,_⟩
   ·exact hs
   ·cases h
  |succ m ih=>
   intro v hv
   rcases hv.prev with rfl|⟨u,c,k,h1,h2,h3,h4⟩
   ·exact hs
   ·rcases h3 with h3|h3
    ·exact(hE _ _ _ h3).2
    ·exact(hE _ _ _ h3).1
 have grow:∀n,(∃k,k≤n∧∀v,dX E s (k+1) v→dX E s k v)∨n+1≤oI (dX E s n) N:=fun n=>by
  induction n with
  |zero=>exact .inr (aeT (dX.src 0) hs)
  |succ n ih=>
   rcases ih with⟨k,h1,h2⟩|h
   ·exact .inl ⟨k,by omega,h2⟩
   ·by_cases e:∀v,dX E s (n+1) v→dX E s n v
    ·exact .inl ⟨n,by omega,e⟩
    ·obtain⟨v,hv⟩:=Classical.not_forall.1 e
     have h1:dX E s (n+1) v:=Classical.byContradiction fun h=>hv fun h'=>(h h').elim
     have h2:¬dX E s n v:=fun h=>hv fun _=>h
     have:=adK (p:=dX E s n) (q:=dX E s (n+1)) (fun v h=>h.more (Nat.le_succ n)) h1 h2 (lt _ v h1)
     exact .inr (by omega)
 intro m v hv
 rcases grow N with⟨k,h1,h2⟩|h
 ·by_cases e:k≤N-1
  ·exact(dX.stable h2 m v hv).more e
  ·
   have hk:k=N:=by omega
   rcases grow (N-1)with⟨k',h1',h2'⟩|h'
   ·exact(dX.stable h2' m v hv).more h1'
   ·exact Classical.byContradiction fun hn=>by
     have:=adK (p:=dX E s (N-1)) (q:=fun _=>True) (fun _ _=>trivial) trivial hn (lt _ v hv)
     have:=adI (fun _=>True) N
     omega
 ·have:=adI (dX E s N) N;omega
theorem nX.lvl{E:List Edge}{s N v k:Nat}(hs:s<N)(hE:∀a b c,(a,b,c)∈E→a<N∧b<N)(h:nX E s v k):dX E s (N-1) v:=by
 obtain⟨n,hw⟩:=h.1
 exact ar6 hs hE n v ⟨k,h,hw⟩
theorem Zr.le{E:List Edge}{s n v k:Nat}(hc:∀a b c,(a,b,c)∈E→c≤1)(h:Zr E s n v k):k≤n:=by
 induction h with
 |nil=>omega
 |fwd h he ih=>have:=hc _ _ _ he;omega
 |bwd h he ih=>have:=hc _ _ _ he;omega
theorem nX.le{E:List Edge}{s N v k:Nat}(hs:s<N)(hE:∀a b c,(a,b,c)∈E→a<N∧b<N)(hc:∀a b c,(a,b,c)∈E→c≤1)(h:nX E s v k):k≤N-1:=by
 obtain⟨j,h1,h2⟩:=h.lvl hs hE
 cases h1.eq h
 exact h2.le hc
def fE(E:List Edge)(s N far:Nat)(d:Nat→Nat):Prop:=∀v,v<N→(∀k,nX E s v k→d v=k)∧((∀k,¬Cst E s v k)→d v=far)
theorem ajO{E:List Edge}{s N far:Nat}{d:Nat→Nat}(h0:d s=0)(hr:∀v,v<N→d v=far∨Cst E s v (d v))(hc:∀u v c,Stp E u v c→d v≤d u+c)(hf:∀v k,nX E s v k→k<far):fE E s N far d:=fun v hv=>by
 have le:∀n v k,Zr E s n v k→d v≤k:=fun n v k h=>by
  induction h with
  |nil=>omega
  |fwd h he ih=>have:=hc _ _ _ (.inl he);omega
  |bwd h he ih=>have:=hc _ _ _ (.inr he);omega
 refine⟨fun k hk=>?_,fun h=>?_⟩
 ·obtain⟨n,hn⟩:=hk.1
  have h1:=le n v k hn
  rcases hr v hv with h|h
  ·have:=hf v k hk;omega
  ·have:=hk.2 _ h;omega
 ·rcases hr v hv with h1|h1
  ·exact h1
  ·exact(h _ h1).elim
def oJ(d:List Nat)(e:Edge):List Nat:=(d.set e.2.1 (min (d.getD e.2.1 0) (d.getD e.1 0+e.2.2))).set e.1 (min (d.getD e.1 0) (d.getD e.2.1 0+e.2.2))
def a8N(E:List Edge)(d:List Nat):List Nat:=E.foldl oJ d
def oL(E:List Edge):Nat→List Nat→List Nat
 |0,d=>d
 |n+1,d=>oL E n (a8N E d)
theorem pZ(d:List Nat)(e:Edge):(oJ d e).length=d.length:=by simp[oJ]
theorem kT{d:List Nat}{i v x:Nat}(hi:i<d.length):(d.set i x).getD v 0=if i=v then x else d.getD v 0:=by
 simp only[ay2]
 by_cases h:i=v
 ·subst h;rw[ay3 hi,if_pos rfl];rfl
 ·rw[ay1 h,if_neg h]
theorem wM{d:List Nat}{a b c:Nat}(ha:a<d.length)(hb:b<d.length)(hab:a≠b)(v:Nat):(oJ d (a,b,c)).getD v 0=if v=a then min (d.getD a 0) (d.getD b 0+c)else if v=b then min (d.getD b 0) (d.getD a 0+c)else d.getD v 0:=by
 unfold oJ
 rw[kT (by simpa using ha),kT hb]
 by_cases h1:v=a
 ·subst h1;simp
 ·rw[if_neg (fun e=>h1 e.symm),if_neg h1]
  by_cases h2:v=b
  ·subst h2;simp
  ·rw[if_neg (fun e=>h2 e.symm),if_neg h2]
structure qL(E:List Edge)(s N far:Nat)(d:List Nat):Prop where
 len:d.length=N
 src:d.getD s 0=0
 real:∀v,v<N→d.getD v 0=far∨Cst E s v (d.getD v 0)
 le:∀v,v<N→d.getD v 0≤far
theorem qL.one{E:List Edge}{s N far:Nat}{d:List Nat}(I:qL E s N far d){a b c:Nat}(he:(a,b,c)∈E)(ha:a<N)(hb:b<N)(hab:a≠b):qL E s N far (oJ d (a,b,c)):=by
 have hl:=I.len
 have at_:=fun v=>wM (d:=d) (c:=c) (by omega) (by omega) hab v
 have mn:∀u v,u<N→v<N→Stp E u v c→(min (d.getD v 0) (d.getD u 0+c)=far∨Cst E s v (min (d.getD v 0) (d.getD u 0+c))):=fun u v hu hv hs=>by
  have h1:=I.le v hv
  rcases Nat.le_total (d.getD v 0) (d.getD u 0+c)with h|h
  ·rw[Nat.min_eq_left h];exact I.real v hv
  ·rw[Nat.min_eq_right h]
   rcases I.real u hu with hh|hh
   ·left;omega
   ·exact .inr (hh.step hs)
 refine⟨by rw[pZ,hl],?_,fun v hv=>?_,fun v hv=>?_⟩
 ·rw[at_]
  have:=I.src
  split
  ·rename_i h;subst h;rw[this];simp
  ·split
   ·rename_i h;subst h;rw[this];simp
   ·exact this
 ·rw[at_]
  split
  ·rename_i h;subst h;exact mn b v hb hv (.inr he)
  ·split
   ·rename_i h;subst h;exact mn a v ha hv (.inl he)
   ·exact I.real v hv
 ·rw[at_]
  split
  ·rename_i h;subst h;have:=I.le v hv;omega
  ·split
   ·rename_i h;subst h;have:=I.le v hv;omega
   ·exact I.le v hv
def sQ(E:List Edge)(N:Nat):Prop:=∀a b c,(a,b,c)∈E→a<N∧b<N∧a≠b∧c≤1
theorem afS{d:List Nat}{a b c:Nat}(ha:a<d.length)(hb:b<d.length)(hab:a≠b)(v:Nat):(oJ d (a,b,c)).getD v 0≤d.getD v 0:=by
 rw[wM ha hb hab]
 split
 ·rename_i h;subst h;omega
 ·split
  ·rename_i h;subst h;omega
  ·exact adD _
theorem vW:∀{L:List Edge} {d:List Nat} {N:Nat},d.length=N→sQ L N→∀v,(L.foldl oJ d).getD v 0≤d.getD v 0
 | [],d,N,_,_,v=>adD _
 |(a,b,c)::L,d,N,hl,hE,v=>by
  have h:=hE a b c (adP ..)
  have h1:=vW (L:=L) (d:=oJ d (a,b,c)) (by rw[pZ,hl]) (fun a b c hm=>hE a b c (adM _ hm)) v
  have h2:=afS (d:=d) (c:=c) (by omega) (by omega) h.2.2.1 v
  rw[apA];omega
theorem aj2{E:List Edge}{s N far:Nat}:∀{L:List Edge} {d:List Nat},(∀e∈L,e∈E)→sQ E N→qL E s N far d→qL E s N far (L.foldl oJ d)
 | [],d,_,_,I=>I
 |(a,b,c)::L,d,hs,hE,I=>by
  have he:=hs _ (adP ..)
  have h:=hE a b c he
  rw[apA]
  exact aj2 (L:=L) (fun e hm=>hs e (adM _ hm)) hE (I.one he h.1 h.2.1 h.2.2.1)
theorem pU{N:Nat}:∀{L:List Edge} {d:List Nat},d.length=N→sQ L N→∀{u v c k:Nat},(u,v,c)∈L∨(v,u,c)∈L→d.getD u 0≤k→(L.foldl oJ d).getD v 0≤k+c
 | [],d,_,_,u,v,c,k,h,_=>by rcases h with h|h<;>cases h
 |(a,b,e)::L,d,hl,hE,u,v,c,k,h,hk=>by
  have q:=hE a b e (adP ..)
  have hE':sQ L N:=fun a b c hm=>hE a b c (adM _ hm)
  have hl':(oJ d (a,b,e)).length=N:=by rw[pZ,hl]
  have key:(u=a∧v=b∧c=e)∨(u=b∧v=a∧c=e)∨((u,v,c)∈L∨(v,u,c)∈L):=by
   rcases h with h|h
   ·rcases ad8.1 h with h|h
    ·cases h;exact .inl ⟨rfl,rfl,rfl⟩
    ·exact .inr (.inr (.inl h))
   ·rcases ad8.1 h with h|h
    ·cases h;exact .inr (.inl ⟨rfl,rfl,rfl⟩)
    ·exact .inr (.inr (.inr h))
  rw[apA]
  have at_:=fun v=>wM (d:=d) (c:=e) (by omega) (by omega) q.2.2.1 v
  rcases key with⟨rfl,rfl,rfl⟩|⟨rfl,rfl,rfl⟩|h
  ·have h1:=vW hl' hE' v
   rw[at_ v,if_neg (fun e=>q.2.2.1 e.symm),if_pos rfl]at h1
   omega
  ·have h1:=vW hl' hE' v
   rw[at_ v,if_pos rfl]at h1
   omega
  ·have h2:=afS (d:=d) (c:=e) (by omega) (by omega) q.2.2.1 u
   exact pU hl' hE' h (by omega)
theorem wQ{E:List Edge}{s N far:Nat}(hE:sQ E N):∀(n:Nat) {d:List Nat},qL E s N far d→qL E s N far (oL E n d)
 |0,d,I=>I
 |n+1,d,I=>wQ hE n (aj2 (fun _ h=>h) hE I)
theorem qF(E:List Edge):∀(n:Nat) (d:List Nat),oL E (n+1) d=a8N E (oL E n d)
 |0,d=>rfl
 |n+1,d=>by rw[oL,qF E n];rfl
theorem zV{E:List Edge}{s N far:Nat}(hE:sQ E N){d:List Nat}(I:qL E s N far d):∀(n:Nat) {v k:Nat},dX E s n v→nX E s v k→(oL E n d).getD v 0≤k
 |0,v,k,⟨j,h1,h2⟩,hk=>by
  rcases h2.cases' with⟨rfl,rfl⟩|⟨_,_,_,_,h,_⟩
  ·rw[oL,I.src];exact agF _
  ·cases h
 |n+1,v,k,hv,hk=>by
  rw[qF]
  have J:=wQ hE n I
  rcases hv.prev with rfl|⟨u,c,j,h1,h2,h3,h4⟩
  ·have K:=wQ hE (n+1) I
   rw[qF]at K
   rw[K.src];exact agF _
  ·cases h4.eq hk
   exact pU J.len hE h3 (zV hE I n h1 h2)
theorem ab4{E:List Edge}{s N far:Nat}(hs:s<N)(hE:sQ E N)(hf:N≤far){d:List Nat}(I:qL E s N far d){n:Nat}(hn:N-1≤n):fE E s N far (fun v=>(oL E n d).getD v 0):=fun v hv=>by
 have J:=wQ hE n I
 have hE1:∀a b c,(a,b,c)∈E→a<N∧b<N:=fun a b c h=>⟨(hE a b c h).1,(hE a b c h).2.1⟩
 have hE2:∀a b c,(a,b,c)∈E→c≤1:=fun a b c h=>(hE a b c h).2.2.2
 refine⟨fun k hk=>?_,fun h=>?_⟩
 ·have h1:=zV hE I n ((hk.lvl hs hE1).more hn) hk
  have h2:=hk.le hs hE1 hE2
  rcases J.real v hv with h|h
  ·simp only[h]at h1 ⊢;omega
  ·have:=hk.2 _ h;simp only;omega
 ·rcases J.real v hv with h1|h1
  ·exact h1
  ·exact(h _ h1).elim
end Net
end Go.Ev
namespace Go.Ev
namespace Net
structure lO(E:List Edge)(s N far:Nat)(d q:List Nat)(X:Nat→Nat→Nat→Prop):Prop where
 i:qL E s N far d
 w:∀r∈q,r<N
 tr:∀u v c,Stp E u v c→u∈q∨X u v c∨d.getD v 0≤d.getD u 0+c
def bW(E:List Edge)(r i u v c:Nat):Prop:=u=r∧∃j,i≤j∧(E[j]?=some (r,v,c)∨E[j]?=some (v,r,c))
theorem lO.take{E:List Edge}{s N far:Nat}{d q:List Nat}{r:Nat}(I:lO E s N far d (r::q) (fun _ _ _=>False)):r<N∧lO E s N far d q (bW E r 0):=by
 refine⟨I.w r (adP ..),I.i,fun u hu=>I.w u (adM _ hu),fun u v c h=>?_⟩
 rcases I.tr u v c h with h1|h1|h1
 ·rcases ad8.1 h1 with rfl|h1
  ·right;left
   refine⟨rfl,?_⟩
   rcases h with h|h
   ·obtain⟨j,hj⟩:=atU h;exact⟨j,agF j,.inl hj⟩
   ·obtain⟨j,hj⟩:=atU h;exact⟨j,agF j,.inr hj⟩
  ·exact .inl h1
 ·exact h1.elim
 ·exact .inr (.inr h1)
theorem bW.next{E:List Edge}{r i u v c:Nat}(h:bW E r i u v c):bW E r (i+1) u v c∨(u=r∧(E[i]?=some (r,v,c)∨E[i]?=some (v,r,c))):=by
 obtain⟨h1,j,h2,h3⟩:=h
 by_cases e:i=j
 ·subst e;exact .inr ⟨h1,h3⟩
 ·exact .inl ⟨h1,j,by omega,h3⟩
theorem lO.skip{E:List Edge}{s N far:Nat}{d q:List Nat}{r i a b c:Nat}(I:lO E s N far d q (bW E r i))(hi:E[i]?=some (a,b,c))(ha:r≠a)(hb:r≠b):lO E s N far d q (bW E r (i+1)):=by
 refine⟨I.i,I.w,fun u v c' h=>?_⟩
 rcases I.tr u v c' h with h1|h1|h1
 ·exact .inl h1
 ·rcases h1.next with h1|⟨_,h2|h2⟩
  ·exact .inr (.inl h1)
  ·rw[hi]at h2;cases h2;exact(ha rfl).elim
  ·rw[hi]at h2;cases h2;exact(hb rfl).elim
 ·exact .inr (.inr h1)
theorem lO.same{E:List Edge}{s N far:Nat}{d q:List Nat}{r i t c:Nat}(I:lO E s N far d q (bW E r i))(hi:E[i]?=some (r,t,c)∨E[i]?=some (t,r,c))(hn:d.getD t 0≤d.getD r 0+c):lO E s N far d q (bW E r (i+1)):=by
 refine⟨I.i,I.w,fun u v c' h=>?_⟩
 rcases I.tr u v c' h with h1|h1|h1
 ·exact .inl h1
 ·rcases h1.next with h1|⟨rfl,h2⟩
  ·exact .inr (.inl h1)
  ·right;right
   rcases hi with h3|h3<;>rcases h2 with h2|h2<;>(rw[h3]at h2;cases h2;exact hn)
 ·exact .inr (.inr h1)
theorem lO.less{E:List Edge}{s N far:Nat}{d q q':List Nat}{r i t c:Nat}(I:lO E s N far d q (bW E r i))(hr:r<N)(ht:t<N)(hrt:r≠t)(hi:E[i]?=some (r,t,c)∨E[i]?=some (t,r,c))(hn:d.getD r 0+c<d.getD t 0)(hq:∀x,x∈q'↔x=t∨x∈q):lO E s N far (d.set t (d.getD r 0+c)) q' (bW E r (i+1)):=by
 have hl:=I.i.len
 have at_:=fun v=>kT (d:=d) (v:=v) (x:=d.getD r 0+c) (show t<d.length by omega)
 have hst:Stp E r t c:=hi.elim (fun h=>.inl (atT h)) (fun h=>.inr (atT h))
 have hfar:=I.i.le t ht
 have le:∀v,(d.set t (d.getD r 0+c)).getD v 0≤d.getD v 0:=fun v=>by
  rw[at_];split
  ·rename_i h;subst h;omega
  ·exact adD _
 refine⟨⟨by simpa using hl,?_,fun v hv=>?_,fun v hv=>?_⟩,fun x hx=>?_,fun u v c' h=>?_⟩
 ·rw[at_];split
  ·rename_i h;subst h;have:=I.i.src;omega
  ·exact I.i.src
 ·rw[at_];split
  ·rename_i h;subst h
   rcases I.i.real r hr with h|h
   ·omega
   ·exact .inr (h.step hst)
  ·exact I.i.real v hv
 ·have:=le v;have:=I.i.le v hv;omega
 ·rcases(hq x).1 hx with rfl|h
  ·exact ht
  ·exact I.w x h
 ·by_cases hu:u=t
  ·exact .inl ((hq u).2 (.inl hu))
  ·have hdu:(d.set t (d.getD r 0+c)).getD u 0=d.getD u 0:=by rw[at_,if_neg (fun e=>hu e.symm)]
   rcases I.tr u v c' h with h1|h1|h1
   ·exact .inl ((hq u).2 (.inr h1))
   ·rcases h1.next with h1|⟨rfl,h2⟩
    ·exact .inr (.inl h1)
    ·right;right
     have hvt:v=t∧c'=c:=by
      rcases hi with h3|h3<;>rcases h2 with h2|h2<;>(rw[h3]at h2;cases h2;first|exact⟨rfl,rfl⟩|exact(hrt rfl).elim)
     obtain⟨rfl,rfl⟩:=hvt
     rw[hdu,at_,if_pos rfl]
     exact adD _
   ·right;right
    have:=le v
    rw[hdu];omega
theorem bW.none{E:List Edge}{r i u v c:Nat}(hi:E.length≤i):¬bW E r i u v c:=fun⟨_,j,h1,h2⟩=>by
 rw[List.getElem?_eq_none (by omega)]at h2
 rcases h2 with h2|h2<;>cases h2
theorem lO.done{E:List Edge}{s N far:Nat}{d q:List Nat}{r i:Nat}(I:lO E s N far d q (bW E r i))(hi:E.length≤i):lO E s N far d q (fun _ _ _=>False):=
 ⟨I.i,I.w,fun u v c h=>(I.tr u v c h).imp id fun h=>h.elim (fun h=>(bW.none hi h).elim) .inr⟩
theorem as7{d:List Nat}:∀{t x:Nat},t<d.length→(d.set t x).sum+d.getD t 0=d.sum+x:=by
 induction d with
 |nil=>intro t x h;simp at h
 |cons a d ih=>
  intro t x h
  cases t with
  |zero=>simp;omega
  |succ t=>
   have:=ih (t:=t) (x:=x) (by simpa using h)
   simp only[axM,List.sum_cons,List.getD_cons_succ]
   omega
theorem lM{d:List Nat}{t x:Nat}(ht:t<d.length)(hx:x<d.getD t 0):(d.set t x).sum<d.sum:=by
 have:=as7 (d:=d) (x:=x) ht
 omega
theorem lO.right{E:List Edge}{s N far:Nat}{d:List Nat}(hs:s<N)(hE:sQ E N)(hf:N≤far)(I:lO E s N far d [] (fun _ _ _=>False)):fE E s N far (fun v=>d.getD v 0):=by
 refine ajO I.i.src I.i.real (fun u v c h=>?_) fun v k hk=>?_
 ·rcases I.tr u v c h with h1|h1|h1
  ·cases h1
  ·exact h1.elim
  ·exact h1
 ·have:=hk.le hs (fun a b c h=>⟨(hE a b c h).1,(hE a b c h).2.1⟩) (fun a b c h=>(hE a b c h).2.2.2)
  omega
theorem fE.num{E:List Edge}{s N far far':Nat}{d d':Nat→Nat}(h:fE E s N far d)(h':fE E s N far' d')(hf:N≤far)(hf':N≤far')(hs:s<N)(hE:sQ E N){v:Nat}(hv:v<N):(d v=far↔d' v=far')∧(d v≠far→d v=d' v)∧(d v≠far→d v<N):=by
 have hE1:∀a b c,(a,b,c)∈E→a<N∧b<N:=fun a b c h=>⟨(hE a b c h).1,(hE a b c h).2.1⟩
 have hE2:∀a b c,(a,b,c)∈E→c≤1:=fun a b c h=>(hE a b c h).2.2.2
 by_cases e:∃k,Cst E s v k
 ·obtain⟨k,hk⟩:=e
  obtain⟨j,hj⟩:=nX.ex hk
  have h1:=(h v hv).1 j hj
  have h2:=(h' v hv).1 j hj
  have h3:=hj.le hs hE1 hE2
  rw[h1,h2]
  exact⟨⟨fun e=>by omega,fun e=>by omega⟩,fun _=>rfl,fun _=>by omega⟩
 ·have hn:∀k,¬Cst E s v k:=fun k hk=>e ⟨k,hk⟩
  have h1:=(h v hv).2 hn
  have h2:=(h' v hv).2 hn
  rw[h1,h2]
  exact⟨⟨fun _=>rfl,fun _=>rfl⟩,fun h=>(h rfl).elim,fun h=>(h rfl).elim⟩
end Net
end Go.Ev
namespace Go.Ev
namespace Net
def Zl(N s far:Nat):List Nat:=(aq9 N far).set s 0
theorem oN{N s far v:Nat}(hs:s<N)(hv:v<N):(Zl N s far).getD v 0=if s=v then 0 else far:=by
 unfold Zl
 rw[kT (by simpa using hs)]
 split
 ·rfl
 ·simp[ay2,hv]
theorem acQ{E:List Edge}{N s far:Nat}(hs:s<N):qL E s N far (Zl N s far):=by
 refine⟨by simp[Zl],by rw[oN hs hs,if_pos rfl],fun v hv=>?_,fun v hv=>?_⟩
 ·rw[oN hs hv]
  split
  ·rename_i h;subst h;exact .inr ⟨0,.nil 0⟩
  ·exact .inl rfl
 ·rw[oN hs hv];split<;>omega
theorem asR{E:List Edge}{N s far:Nat}(hs:s<N)(hE:sQ E N):lO E s N far (Zl N s far) [s] (fun _ _ _=>False):=by
 refine⟨acQ hs,fun r hr=>by simp at hr;omega,fun u v c h=>?_⟩
 have hb:u<N∧v<N:=h.elim (fun h=>⟨(hE _ _ _ h).1,(hE _ _ _ h).2.1⟩) (fun h=>⟨(hE _ _ _ h).2.1,(hE _ _ _ h).1⟩)
 by_cases e:u=s
 ·exact .inl (by simp[e])
 ·right;right
  rw[oN hs hb.1,if_neg (fun h=>e h.symm)]
  have:=(acQ (E:=E) (far:=far) hs).le v hb.2
  omega
def sW(E:List Edge)(N len:Nat):Nat:=if 1000≤(oL E N (Zl N 0 1000)).getD 1 0 then len+1 else(oL E N (Zl N 0 1000)).getD 1 0
theorem iO{E:List Edge}{N:Nat}(hN:2≤N)(hN2:N≤1000)(hE:sQ E N):fE E 0 N 1000 (fun v=>(oL E N (Zl N 0 1000)).getD v 0):=
 ab4 (by omega) hE hN2 (acQ (by omega)) (by omega)
theorem ayW{E:List Edge}{N far len:Nat}(hN:2≤N)(hN2:N≤1000)(hf:N≤far)(hE:sQ E N){d:Nat→Nat}(h:fE E 0 N far d):(if d 1=far then len+1 else d 1)=sW E N len:=by
 obtain⟨h1,h2,h3⟩:=fE.num (iO hN hN2 hE) h hN2 hf (by omega) hE (v:=1) (by omega)
 unfold sW
 by_cases e:(oL E N (Zl N 0 1000)).getD 1 0=1000
 ·rw[if_pos (h1.1 e),if_pos (by rw[e];exact adD _)]
 ·have:=h3 e
  rw[if_neg (fun h=>e (h1.2 h)),if_neg (by omega)]
  exact(h2 e).symm
end Net
end Go.Ev
namespace Go.Ev
namespace Net
end Net
end Go.Ev
namespace Go.Ev
namespace Net
theorem sQ.ends{E:List Edge}{N:Nat}(h:sQ E N):∀a b c,(a,b,c)∈E→a<N∧b<N:=fun a b c e=>⟨(h a b c e).1,(h a b c e).2.1⟩
theorem sQ.one{E:List Edge}{N:Nat}(h:sQ E N):∀a b c,(a,b,c)∈E→c≤1:=fun a b c e=>(h a b c e).2.2.2
theorem aeO{E:List Edge}{N len k:Nat}(hN:2≤N)(hN2:N≤1000)(hE:sQ E N)(h:nX E 0 1 k):sW E N len=k∧k<N:=by
 have h1:=(iO hN hN2 hE 1 (by omega)).1 k h
 have h2:=h.le (s:=0) (by omega) hE.ends hE.one
 simp only at h1
 unfold sW
 rw[h1,if_neg (by omega)]
 exact⟨rfl,by omega⟩
theorem afN{E:List Edge}{N len:Nat}(hN:2≤N)(hN2:N≤1000)(hE:sQ E N)(h:∀k,¬Cst E 0 1 k):sW E N len=len+1:=by
 have h1:=(iO hN hN2 hE 1 (by omega)).2 h
 simp only at h1
 unfold sW
 rw[h1,if_pos (adD _)]
def Tgh(E E':List Edge):Prop:=∀a b c',(a,b,c')∈E'→∃c,(a,b,c)∈E∧c≤c'
theorem Zr.tgh{E E':List Edge}(h:Tgh E E'){s n v k:Nat}(hw:Zr E' s n v k):∃k',k'≤k∧Zr E s n v k':=by
 induction hw with
 |nil n=>exact⟨0,adD _,.nil n⟩
 |fwd _ he ih=>
  obtain⟨k',h1,h2⟩:=ih
  obtain⟨c,h3,h4⟩:=h _ _ _ he
  exact⟨k'+c,by omega,.fwd h2 h3⟩
 |bwd _ he ih=>
  obtain⟨k',h1,h2⟩:=ih
  obtain⟨c,h3,h4⟩:=h _ _ _ he
  exact⟨k'+c,by omega,.bwd h2 h3⟩
def qO(E E':List Edge):Prop:=∀a b c,(a,b,c)∈E→∃c',(a,b,c')∈E'
theorem Zr.ends{E E':List Edge}(h:qO E E'){s n v k:Nat}(hw:Zr E s n v k):∃k',Zr E' s n v k':=by
 induction hw with
 |nil n=>exact⟨0,.nil n⟩
 |fwd _ he ih=>
  obtain⟨k',h2⟩:=ih
  obtain⟨c,h3⟩:=h _ _ _ he
  exact⟨k'+c,.fwd h2 h3⟩
 |bwd _ he ih=>
  obtain⟨k',h2⟩:=ih
  obtain⟨c,h3⟩:=h _ _ _ he
  exact⟨k'+c,.bwd h2 h3⟩
theorem an9{E E':List Edge}{N len:Nat}(hN:2≤N)(hN2:N≤1000)(hE:sQ E N)(hE':sQ E' N)(h:Tgh E E')(he:qO E E'):sW E N len≤sW E' N len:=by
 by_cases hp:∃k,Cst E' 0 1 k
 ·obtain⟨k,hk⟩:=hp
  obtain⟨j,hj⟩:=nX.ex hk
  obtain⟨n,hn⟩:=hj.1
  obtain⟨i,hi,hw⟩:=hn.tgh h
  obtain⟨m,hm⟩:=nX.ex (E:=E) ⟨n,hw⟩
  rw[(aeO hN hN2 hE hm).1,(aeO hN hN2 hE' hj).1]
  exact aoP (hm.2 i ⟨n,hw⟩) hi
 ·have h1:∀k,¬Cst E' 0 1 k:=fun k hk=>hp ⟨k,hk⟩
  have h2:∀k,¬Cst E 0 1 k:=fun k ⟨n,hk⟩=>by
   obtain⟨k',hk'⟩:=hk.ends he
   exact h1 k' ⟨n,hk'⟩
  rw[afN hN hN2 hE h2,afN hN hN2 hE' h1]
  exact adD _
end Net
end Go.Ev
namespace Go.Ev
namespace Net
end Net
end Go.Ev
namespace Go.Ev
namespace Net
end Net
end Go.Ev
namespace Go.Ev
structure pY(S:Type) where
 goal:S→Bool
 ops:S→List (Nat × List S)
inductive eA{S:Type}(Y:pY S):S→Nat→Prop
 |met {s:S} {k:Nat} (h:Y.goal s=true):eA Y s k
 |op {s:S} {c:Nat} {to:List S} {k k':Nat} (h:(c,to)∈Y.ops s) (ht:∀s'∈to,eA Y s' k') (hk:c+k'≤k):eA Y s k
namespace eA
variable {S:Type} {Y:pY S}
theorem mono{s:S}{k j:Nat}(h:eA Y s k)(hj:k≤j):eA Y s j:=by
 cases h with
 |met h=>exact .met h
 |op h ht hk=>exact .op h ht (by omega)
theorem le_of_stable{L:List S}{f:S→Nat}{top:Nat}(hg:∀s∈L,Y.goal s=true→f s=0)
 (hs:∀s∈L,∀c to,(c,to)∈Y.ops s→(∀s'∈to,s'∈L)∧∀m,m<top→(∀s'∈to,f s'≤m)→f s≤c+m) {s:S} {k:Nat} (h:eA Y s k):s∈L→k<top→f s≤k:=by
 induction h with
 |met h=>intro hL _;rw[hg _ hL h];exact agF _
 | @op s c to k k' h ht hk ih=>
   intro hL hkt
   obtain⟨h1,h2⟩:=hs s hL c to h
   have:=h2 k' (by omega) fun s' h'=>ih s' h' (h1 s' h') (by omega)
   omega
end eA
theorem abE{S:Type}[DecidableEq S]{L:List S}{f:S→Nat}{top b:Nat}(h:∀s∈L,f s<top→0<f s→∃s'∈L,f s'<f s∧f s≤b+f s'):∀n,∀s∈L,f s=n→n<top→n≤b*(L.filter fun s'=>decide (f s'<n)).length:=by
 intro n
 induction n using atY with
 |ind n ih=>
  intro s hs hf ht
  by_cases h0:0<n
  ·obtain⟨s',h1,h2,h3⟩:=h s hs (by omega) (by omega)
   have h4:=ih (f s') (by omega) s' h1 rfl (by omega)
   have h5:(L.filter fun x=>decide (f x<f s')).length+1≤(L.filter fun x=>decide (f x<n)).length:=by
    clear h4 ih h hs
    have gen:∀{M:List S},s'∈M→(M.filter fun x=>decide (f x<f s')).length+1≤(M.filter fun x=>decide (f x<n)).length:=fun {M}=>by
     have le:∀{M:List S},(M.filter fun x=>decide (f x<f s')).length≤(M.filter fun x=>decide (f x<n)).length:=fun {M}=>by
      induction M with
      |nil=>simp
      |cons a M ih=>
       by_cases e1:f a<f s'
       ·rw[ai5 (by simpa using e1),ai5 (by simp;omega)];simp;exact ih
       ·rw[aoR (by simpa using e1)]
        by_cases e2:f a<n
        ·rw[ai5 (by simpa using e2)];simp;omega
        ·rw[aoR (by simpa using e2)];exact ih
     induction M with
     |nil=>intro h;cases h
     |cons a M ih=>
      intro hm
      rcases ad8.1 hm with rfl|hm
      ·rw[aoR (by simp),ai5 (by simp;omega)]
       have:=le (M:=M)
       simp;omega
      ·have:=ih hm
       by_cases e1:f a<f s'
       ·rw[ai5 (by simpa using e1),ai5 (by simp;omega)];simp;exact this
       ·rw[aoR (by simpa using e1)]
        by_cases e2:f a<n
        ·rw[ai5 (by simpa using e2)];simp;omega
        ·rw[aoR (by simpa using e2)];exact this
    exact gen h1
   have:b*((L.filter fun x=>decide (f x<f s')).length+1)≤b*(L.filter fun x=>decide (f x<n)).length:=ay4 b h5
   rw[Nat.mul_add,Nat.mul_one]at this
   omega
  ·have:n=0:=by omega
   subst this;exact agF _
theorem akG{S:Type}[DecidableEq S]{L:List S}{f:S→Nat}{top b:Nat}(h:∀s∈L,f s<top→0<f s→∃s'∈L,f s'<f s∧f s≤b+f s'){s:S}(hs:s∈L)(ht:f s<top):f s≤b*L.length:=
 aoP (abE h (f s) s hs rfl ht) (ay4 b (List.length_filter_le ..))
namespace pY
variable {S:Type}
def mx(f:S→Nat)(l:List S):Nat:=l.foldl (fun m x=>max m (f x)) 0
theorem oY(f:S→Nat):∀(l:List S) (m:Nat),m≤l.foldl (fun m x=>max m (f x)) m∧(∀x∈l,f x≤l.foldl (fun m x=>max m (f x)) m)∧(l.foldl (fun m x=>max m (f x)) m=m∨∃x∈l,l.foldl (fun m x=>max m (f x)) m=f x)
 | [],m=>⟨adD _,by simp,.inl rfl⟩
 |a::l,m=>by
  obtain⟨h1,h2,h3⟩:=oY f l (max m (f a))
  simp only[apA]
  refine⟨by omega,fun x hx=>?_,?_⟩
  ·rcases ad8.1 hx with rfl|hx
   ·omega
   ·exact h2 x hx
  ·rcases h3 with h3|⟨x,hx,h3⟩
   ·by_cases hm:m≤f a
    ·exact .inr ⟨a,by simp,by rw[h3];omega⟩
    ·exact .inl (by rw[h3];omega)
   ·exact .inr ⟨x,adM _ hx,h3⟩
theorem vC{f:S→Nat}{l:List S}{x:S}(h:x∈l):f x≤mx f l:=(oY f l 0).2.1 x h
theorem vZ{f:S→Nat}{l:List S}{m:Nat}(h:∀x∈l,f x≤m):mx f l≤m:=by
 rcases(oY f l 0).2.2 with e|⟨x,hx,e⟩
 ·unfold mx;rw[e];exact agF _
 ·unfold mx;rw[e];exact h x hx
theorem a8J{f:S→Nat}{l:List S}(h:l≠[]):∃x∈l,mx f l=f x:=by
 rcases(oY f l 0).2.2 with e|⟨x,hx,e⟩
 ·obtain⟨a,ha⟩:=List.exists_mem_of_ne_nil l h
  have:=vC (f:=f) ha
  unfold mx at this
  exact⟨a,ha,by unfold mx;omega⟩
 ·exact⟨x,hx,e⟩
theorem ae7{f g:S→Nat}{l:List S}(h:∀x∈l,g x≤f x):mx g l≤mx f l:=vZ fun x hx=>aoP (h x hx) (vC hx)
variable [DecidableEq S] (Y:pY S)
structure Known(top:Nat)(L:List S)(f:S→Nat):Prop where
 ops:∀s∈L,∀o∈Y.ops s,1≤o.1∧o.1≤1000∧o.2≠[]∧∀x∈o.2,x∈L
 le:∀s∈L,f s≤top
 goal:∀s∈L,Y.goal s=true→f s=0
 got:∀s∈L,f s<top→eA Y s (f s)
 by_:∀s∈L,f s<top→Y.goal s=true∨∃o∈Y.ops s,o.1+mx f o.2≤f s
variable {Y}
theorem Known.less{top:Nat}{L:List S}{f:S→Nat}(K:Y.Known top L f){s:S}{o:Nat × List S}(ho:o∈Y.ops s)(hs:s∈L){n:Nat}(hn:n=min top (o.1+mx f o.2))(hl:n<f s):Y.Known top L (fun x=>if x=s then n else f x):=by
 have hts:=K.le s hs
 have hnt:n<top:=by omega
 have hno:n=o.1+mx f o.2:=by omega
 have dn:∀x:S,(if x=s then n else f x)≤f x:=fun x=>by
  split
  ·rename_i e;subst e;omega
  ·exact adD _
 have hx:∀x∈o.2,f x<top:=fun x h=>by have:=vC (f:=f) h;omega
 refine⟨K.ops,fun x h=>aoP (dn x) (K.le x h),fun x h hg=>?_,fun x h hlt=>?_,fun x h hlt=>?_⟩
 ·have:=K.goal x h hg
  have:=dn x
  omega
 ·by_cases e:x=s
  ·subst e
   simp only[if_true]
   refine .op (c:=o.1) (to:=o.2) ho (k':=mx f o.2) (fun y hy=>?_) (by omega)
   exact(K.got y ((K.ops _ hs o ho).2.2.2 y hy) (hx y hy)).mono (vC hy)
  ·simp only[if_neg e]at hlt ⊢
   exact K.got x h hlt
 ·by_cases e:x=s
  ·subst e
   simp only[if_true]
   exact .inr ⟨o,ho,by have:=ae7 (f:=f) (l:=o.2) fun y _=>dn y;omega⟩
  ·simp only[if_neg e]at hlt ⊢
   rcases K.by_ x h hlt with hg|⟨p,hp,hle⟩
   ·exact .inl hg
   ·exact .inr ⟨p,hp,by have:=ae7 (f:=f) (l:=p.2) fun y _=>dn y;omega⟩
theorem Known.best{top:Nat}{L:List S}{f:S→Nat}(K:Y.Known top L f)(st:∀s∈L,∀o∈Y.ops s,f s≤min top (o.1+mx f o.2)){s:S}(hs:s∈L):
 (∀k,k<top→eA Y s k→f s≤k)∧(f s<top→eA Y s (f s)∧f s≤1000*L.length)∧(f s=0→0<top→Y.goal s=true):=by
 refine⟨fun k hk hc=>eA.le_of_stable K.goal (fun s hs c to ho=>⟨(K.ops s hs _ ho).2.2.2,fun m hm h=>?_⟩) hc hs hk,fun h=>⟨K.got s hs h,akG (f:=f) (top:=top) (fun s hs hlt h0=>?_) hs h⟩,fun h0 ht=>?_⟩
 ·have h1:=st s hs _ ho
  have h2:=vZ (f:=f) h
  simp only at h1
  omega
 ·rcases K.by_ s hs hlt with hg|⟨o,ho,hle⟩
  ·have:=K.goal s hs hg;omega
  ·have h1:=st s hs o ho
   obtain⟨a1,a2,a3,a4⟩:=K.ops s hs o ho
   obtain⟨x,hx,e⟩:=a8J (f:=f) a3
   exact⟨x,a4 x hx,by omega,by omega⟩
 ·rcases K.by_ s hs (by omega)with hg|⟨o,ho,hle⟩
  ·exact hg
  ·have:=(K.ops s hs o ho).1;omega
end pY
end Go.Ev
namespace Go.Ev
theorem abH{P:Nat→Prop}(h:∃k,P k):∃k,P k∧∀j,P j→k≤j:=by
 obtain⟨k,hk⟩:=h
 induction k using atY with
 |ind k ih=>
  by_cases c:∃j,j<k∧P j
  ·obtain⟨j,h1,h2⟩:=c;exact ih j h1 h2
  ·exact⟨k,hk,fun j hj=>by
    by_cases e:j<k
    ·exact absurd ⟨j,e,hj⟩ c
    ·omega⟩
namespace pY
variable {S:Type} (Y:pY S)
noncomputable def bst(top:Nat)(s:S):Nat:=@dite Nat (∃k,eA Y s k) (Classical.propDecidable _) (fun h=>Classical.choose (abH h)) fun _=>top
variable {Y}
theorem bst_can{top:Nat}{s:S}(h:∃k,eA Y s k):eA Y s (Y.bst top s)∧∀k,eA Y s k→Y.bst top s≤k:=by
 unfold bst;rw[dif_pos h];exact Classical.choose_spec (abH h)
theorem bst_none{top:Nat}{s:S}(h:¬∃k,eA Y s k):Y.bst top s=top:=by
 unfold bst;rw[dif_neg h]
theorem bst_goal{top:Nat}{s:S}(h:Y.goal s=true):Y.bst top s=0:=by
 have:=(bst_can (top:=top) ⟨0,.met h⟩).2 0 (.met h);omega
structure Fine(Y:pY S)(top:Nat)(s:S):Prop where
 lt:(∃k,eA Y s k)→Y.bst top s<top
theorem Known.fin[DecidableEq S]{top:Nat}{L:List S}{f:S→Nat}(K:Y.Known top L f)(st:∀s∈L,∀o∈Y.ops s,f s≤min top (o.1+mx f o.2))(hb:1000*L.length+1000<top){s:S}{k:Nat}(h:eA Y s k):s∈L→f s<top:=by
 induction h with
 |met h=>intro hL;rw[K.goal _ hL h];omega
 | @op s c to k k' h ht hk ih=>
   intro hL
   obtain⟨a1,a2,a3,a4⟩:=K.ops s hL _ h
   have hm:mx f to≤1000*L.length:=vZ fun x hx=>((K.best st (a4 x hx)).2.1 (ih x hx (a4 x hx))).2
   have:=st s hL _ h
   simp only at this a2
   omega
theorem Known.bst[DecidableEq S]{top:Nat}{L:List S}{f:S→Nat}(K:Y.Known top L f)(st:∀s∈L,∀o∈Y.ops s,f s≤min top (o.1+mx f o.2))(hb:1000*L.length+1000<top){s:S}(hs:s∈L):f s=Y.bst top s∧((∃k,eA Y s k)→f s<top):=by
 by_cases h:∃k,eA Y s k
 ·obtain⟨k,hk⟩:=h
  have hf:=K.fin st hb hk hs
  obtain⟨b1,b2⟩:=bst_can (top:=top) ⟨k,hk⟩
  obtain⟨c1,c2,c3⟩:=K.best st hs
  have d1:=b2 _ (c2 hf).1
  have d2:=c1 (Y.bst top s) (by omega) b1
  exact⟨by omega,fun _=>hf⟩
 ·refine⟨?_,fun h'=>absurd h' h⟩
  rw[bst_none h]
  by_cases e:f s<top
  ·exact absurd ⟨_,K.got s hs e⟩ h
  ·have:=K.le s hs;omega
theorem avN{top:Nat}{s:S}(hs:Y.Fine top s){c:Nat}{to:List S}(h:(c,to)∈Y.ops s):Y.bst top s≤min top (c+mx (Y.bst top) to):=by
 have h1:Y.bst top s≤top:=by
  by_cases e:∃k,eA Y s k
  ·exact Nat.le_of_lt (hs.lt e)
  ·rw[bst_none e];exact adD _
 by_cases a:∀x∈to,∃k,eA Y x k
 ·have hc:eA Y s (c+mx (Y.bst top) to):=.op h (fun x hx=>(bst_can (a x hx)).1.mono (vC hx)) (adD _)
  have:=(bst_can (top:=top) ⟨_,hc⟩).2 _ hc
  omega
 ·obtain⟨x,hx⟩:=Classical.not_forall.1 a
  obtain⟨hx,hn⟩:=Classical.not_imp.1 hx
  have h2:=vC (f:=Y.bst top) hx
  rw[bst_none hn]at h2
  omega
theorem bst_op{top:Nat}{s:S}(hs:Y.Fine top s)(h:Y.bst top s<top)(hg:Y.goal s=false)(h1:∀o∈Y.ops s,1≤o.1):∃o∈Y.ops s,Y.bst top s=min top (o.1+mx (Y.bst top) o.2)∧∀x∈o.2,(∃k,eA Y x k)∧Y.bst top x<Y.bst top s:=by
 have e:∃k,eA Y s k:=Classical.byContradiction fun n=>by rw[bst_none n]at h;omega
 have hc:=(bst_can (top:=top) e).1
 generalize hb:Y.bst top s=b at *
 cases hc with
 |met h=>rw[hg]at h;cases h
 | @op _ c to _ k' ho ht hk=>
   have hx:∀x∈to,Y.bst top x≤k':=fun x hx=>(bst_can ⟨_,ht x hx⟩).2 _ (ht x hx)
   have hm:mx (Y.bst top) to≤k':=vZ hx
   have h3:=avN hs ho
   rw[hb]at h3
   have h4:=h1 _ ho
   exact⟨(c,to),ho,by simp only;omega,fun x hx'=>⟨⟨_,ht x hx'⟩,by have:=hx x hx';simp only at h4;omega⟩⟩
theorem _root_.Go.Ev.eA.sim{T:Type}{Z:pY T}(R:S→T→Prop)(hg:∀s t,R s t→Y.goal s=true→Z.goal t=true)(ho:∀s t,R s t→∀o∈Y.ops s,∃p∈Z.ops t,p.1≤o.1∧∀y∈p.2,∃x∈o.2,R x y){s:S}{k:Nat}(h:eA Y s k):∀t,R s t→eA Z t k:=by
 induction h with
 |met h=>intro t r;exact .met (hg _ _ r h)
 | @op s c to k k' h ht hk ih=>
   intro t r
   obtain⟨p,hp,h1,h2⟩:=ho _ _ r _ h
   exact .op (c:=p.1) (to:=p.2) hp (k':=k') (fun y hy=>by
    obtain⟨x,hx,rr⟩:=h2 y hy
    exact ih x hx y rr) (by simp only at h1;omega)
end pY
end Go.Ev
namespace Go.Ev
namespace Snake
theorem nodup_sub{α:Type}[DecidableEq α]:∀{l m:List α},l.Nodup→(∀x∈l,x∈m)→l.length≤m.length
 | [],_,_,_=>agF _
 |a::l,m,hn,hs=>by
  have hn':=List.nodup_cons.1 hn
  have h1:=nodup_sub (l:=l) (m:=m.erase a) hn'.2 fun x hx=>(List.mem_erase_of_ne (fun e=>hn'.1 (by rw[←e];exact hx))).2 (hs x (by simp[hx]))
  rw[List.length_erase_of_mem (hs a (by simp))]at h1
  have:=List.length_pos_of_mem (hs a (by simp))
  simp;omega
end Snake
end Go.Ev
namespace Go.Ev
noncomputable section
open Go.RowKit
def ab0(x:Int):List Int→List Int
 | []=>[x]
 |y::l=>if x≤y then x::y::l else y::ab0 x l
def pM:List Int→List Int
 | []=>[]
 |x::l=>ab0 x (pM l)
theorem mH(x:Int):∀l:List Int,(ab0 x l).Perm (x::l)
 | []=>List.Perm.refl _
 |y::l=>by
  unfold ab0
  split
  ·exact List.Perm.refl _
  ·exact((mH x l).cons y).trans (List.Perm.swap x y l)
theorem iK:∀l:List Int,(pM l).Perm l
 | []=>List.Perm.refl _
 |x::l=>(mH x _).trans ((iK l).cons x)
theorem mZ(x:Int):∀{l:List Int},l.Pairwise (· ≤·)→(ab0 x l).Pairwise (· ≤·)
 | [],_=>by simp[ab0]
 |y::l,h=>by
  rw[apU]at h
  unfold ab0
  split
  ·rename_i hxy
   refine apU.2 ⟨fun z hz=>?_,apU.2 h⟩
   rcases ad8.1 hz with rfl|hz
   ·exact hxy
   ·exact Int.le_trans hxy (h.1 z hz)
  ·rename_i hxy
   refine apU.2 ⟨fun z hz=>?_,mZ x h.2⟩
   rcases ad8.1 ((mH x l).mem_iff.1 hz)with rfl|hz
   ·omega
   ·exact h.1 z hz
theorem jS:∀l:List Int,(pM l).Pairwise (· ≤·)
 | []=>List.Pairwise.nil
 |x::l=>mZ x (jS l)
theorem anT(l:List Int):(l.mergeSort fun x y=>decide (x≤y))=pM l:=by
 have h1:=List.pairwise_mergeSort (le:=fun x y:Int=>decide (x≤y)) (by simp;omega) (by simp;omega) l
 refine List.Perm.eq_of_pairwise (le:=(· ≤·)) (fun a b _ _ h1 h2=>Int.le_antisymm h1 h2) ?_ (jS l) ((List.mergeSort_perm l _).trans (iK l).symm)
 simpa using h1
theorem afU(l:List Int):(pM l).length=l.length:=(iK l).length_eq
def rJ:List (List AV)→Option (List Int)
 | []=>some []
 | [.int .i64 n]::l=>(rJ l).map (n::·)
 |_=>none
theorem uW:∀{rows:List (List AV)} {l:List Int},rJ rows=some l→rows=l.map fun n=>[.int .i64 n]
 | [],l,h=>by simp[rJ]at h;subst h;rfl
 |r::rows,l,h=>by
  unfold rJ at h
  split at h
  ·rename_i e;cases e
  ·rename_i n l' e
   cases e
   obtain⟨l2,h2,rfl⟩:=acG.1 h
   rw[uW h2];rfl
  ·cases h
def aeQ:List AV→Qa→Option (Tj × Qa)
 | [.slr 1 b 0 len],h=>match h[b]? with
   |some (.live 1 true _ rows)=>if rows.length=len∧1≤len∧len≤549755813888 then(rJ rows).map fun zs=>(.ret (.tup []),h.set b (.live 1 true true ((pM zs).map fun n=>[.int .i64 n])))else none
   |_=>none
 |_,_=>none
section
variable {P:Program} {G:Nat→Option Obj}
theorem tC{w:World}{cb:Nat}{c:Array Value}{e:TypeId}{fz:Nat × Nat}(hk:w.heap[cb]?=some (.cells c e fz))(f:Array Value→Array Value):Go.Sort.mapBlock w cb f=setB w cb (.cells (f c) e fz):=by
 unfold Go.Sort.mapBlock setB
 congr 1
 apply Array.ext_getElem?
 intro k
 simp only[Array.getElem?_modify,Array.getElem?_setIfInBounds]
 by_cases h:cb=k
 ·subst h
  have hl:=(Array.getElem?_eq_some_iff.1 hk).1
  rw[if_pos rfl,if_pos rfl,if_pos hl,hk];rfl
 ·rw[if_neg h,if_neg h]
theorem aaS(w:World)(n:Nat):Below w.heap.size w (Go.Sort.ahead w n) where
 os:=rfl
 tape:=rfl
 output:=rfl
 size:=adD _
 block:=fun _ _=>rfl
theorem asN{f:Nat}(hen:∀args w,(callFunc f args).run P w=.ok (.enter f args) w)
 (hc:∀(blk off cap:Nat) (zs:List Int) (w:World),Go.Sort.Holds (Value.int .i64) w blk off zs.toArray→blk<w.heap.size→zs.length<4611686018427387904→
   Calls P f #[.slice (some ⟨blk,off,none⟩) zs.length cap] w fun e w'=>e=.returned (.tuple #[])∧∃n os,w'=Go.Sort.grow (Go.Sort.putRow (Value.int .i64) (Go.Sort.ahead w n) blk off (zs.mergeSort fun x y=>decide (x≤y)).toArray) os):mA P G f aeQ:=by
 intro args h out h' hp
 refine⟨hen,fun w S ρ cargs hI H dom all hargs=>?_⟩
 unfold aeQ at hp
 split at hp
 ·rename_i b len
  split at hp
  ·rename_i wr rows hg
   split at hp
   ·rename_i hl
    obtain⟨hl1,hl2,hl3⟩:=hl
    obtain⟨zs,hz,hp⟩:=acG.1 hp
    simp only[Prod.mk.injEq]at hp
    obtain⟨rfl,rfl⟩:=hp
    have hrows:=uW hz
    have hzl:zs.length=len:=by rw[←hl1,hrows];simp
    obtain⟨v,vs',e,hv,hn⟩:=hargs.cons_inv
    have:=hn.nil_inv
    subst this
    have ec:cargs=#[v]:=by apply Array.toList_inj.1;rw[e]
    subst ec
    have hbl:b<h.length:=(ahS.1 hg).1
    cases hv with
    |slrD hρ _=>have:=H.dead b hρ;rw[show hf h b=some _ from hg]at this;cases this
    | @slr _ _ _ _ cb co _ sz cap a hρ hle ha=>
      obtain⟨c,e',fz,fl',rows',k1,k2,k3,k4⟩:=H.at_ b cb co 1 sz hρ
      rcases k4 with⟨⟨wr',k4⟩,hS,hfz⟩|⟨k4,_⟩
      ·rw[show hf h b=some _ from hg]at k4
       cases k4
       rcases ha with ha|⟨rfl,hcap⟩
       ·omega
       have hco:co+len≤c.size:=by have:=k3.len;rw[hl1]at this;omega
       have hold:Go.Sort.Holds (Value.int .i64) w cb (co+0*1) zs.toArray:=fun j hj=>by
        have hj':j<zs.length:=by simpa using hj
        have hr:rows[j]?=some [AV.int .i64 zs[j]]:=by rw[hrows,aoS,aoQ hj'];rfl
        obtain⟨v,h1,h2⟩:=k3.cell j _ 0 _ hr rfl
        cases h2
        have hlt:co+j<c.size:=by omega
        refine⟨?_,uO k1 (hfz _ (by rw[←k2];omega))⟩
        rw[jP k1]
        simp only[Nat.zero_mul,aoW]
        have h1':c[co+j]?=some (Value.int .i64 zs[j]):=by simpa using h1
        rw[h1']
        simp[getElem!_pos,hj']
       rw[←hzl]
       refine(hc cb (co+0*1) cap zs w hold (H.lt hρ) (by omega)).mono fun e w' hw=>?_
       obtain⟨rfl,n,os,rfl⟩:=hw
       rw[anT]
       have hB1:=aaS w n
       have H1:=H.below hB1
       have k1':(Go.Sort.ahead w n).heap[cb]?=some (.cells c e' fz):=k1
       have hsl:=afU zs
       generalize pM zs=ys at *
       have hput:Go.Sort.putRow (Value.int .i64) (Go.Sort.ahead w n) cb (co+0*1) ys.toArray=setB (Go.Sort.ahead w n) cb (.cells (Go.Sort.putCells (Value.int .i64) (co+0*1) ys.toArray c) e' fz):=tC k1' _
       rw[hput]
       have hcs:(Go.Sort.putCells (Value.int .i64) (co+0*1) ys.toArray c).size=c.size:=by simp[Go.Sort.putCells]
       have hblk:Tf (Go.Sort.ahead w n) S ρ (Go.Sort.putCells (Value.int .i64) (co+0*1) ys.toArray c) co 1 true (ys.map fun n=>[.int .i64 n]):=by
        refine⟨by rw[hcs];simp;omega,fun r hr=>?_,fun _ r hr x hx=>?_,fun i r j x hr hx=>?_,fun r hr x hx=>?_⟩
        ·obtain⟨n,_,rfl⟩:=ajT.1 hr;rfl
        ·obtain⟨n,_,rfl⟩:=ajT.1 hr;simp at hx;subst hx;rfl
        ·rw[aoS]at hr
         obtain⟨m,hm,rfl⟩:=acG.1 hr
         have hi:i<ys.length:=(ahS.1 hm).1
         have hx':j=0∧x=.int .i64 m:=by
          cases j with
          |zero=>simp at hx;exact⟨rfl,hx.symm⟩
          |succ j=>simp at hx
         obtain⟨rfl,rfl⟩:=hx'
         refine⟨.int .i64 m,?_,.int _ _⟩
         simp only[Go.Sort.putCells,Array.getElem?_mapIdx,Nat.mul_one,aoW,Nat.zero_mul,aoW]
         rw[Array.getElem?_eq_getElem (by omega),ahF,if_pos ⟨by omega,by simp;omega⟩,show co+i-co=i by omega]
         have:ys[i]?=some m:=hm
         have h2:=ahS.1 hm
         simp[getElem!_pos,h2.1,h2.2]
        ·obtain⟨n,_,rfl⟩:=ajT.1 hr;simp at hx;subst hx;rfl
       have H2:=H1.setLive (wr:=true) hρ hS (e:=e') (fz:=fz) (by rw[hcs];exact k2) hfz ⟨_,_,_,k1'⟩ hblk
       have hs2:=Tq.setB (w:=Go.Sort.ahead w n) hρ hS ⟨_,_,_,k1'⟩ (.cells (Go.Sort.putCells (Value.int .i64) (co+0*1) ys.toArray c) e' fz)
       generalize hw2:setB (Go.Sort.ahead w n) cb (.cells (Go.Sort.putCells (Value.int .i64) (co+0*1) ys.toArray c) e' fz)=w2 at *
       have hB3:=qB (w:=w2) (adD _) os
       have H3:=H2.below hB3
       refine⟨.tuple #[],S,ρ,⟨⟨_,rfl⟩,rfl⟩,.tup rfl (fun i x v hx _=>by simp at hx),by rw[ac7 hbl];exact H3,((Tq.below H hB1).trans hs2).trans (Tq.below H2 hB3),fun b' hb'=>dom b' (by simpa using hb'),fun b' hb'=>all b' (by simpa using hb'),by simp,fun i x x' hx hx' hsm=>?_⟩
       by_cases e:i=b
       ·subst e
        rw[hg]at hx;cases hx
        rw[ay3 hbl]at hx';cases hx'
        simp[CB.same]at hsm
       ·refine⟨rfl,fun cb' co' st' sz' hb'=>?_⟩
        have hne:cb'≠cb:=fun q=>e (H.inj _ _ _ _ _ _ _ _ _ hb' (q▸hρ))
        have hl':cb'<w.heap.size:=H.lt hb'
        have hw2s:w2.heap.size=w.heap.size:=by rw[←hw2];simp[setB,Go.Sort.ahead]
        rw[hB3.block cb' (by rw[hw2s];exact hl'),←hw2,Qm hne]
        rfl
      ·rw[show hf h b=some _ from hg]at k4;cases k4
   ·cases hp
  ·cases hp
 ·cases hp
end
def xJ(fI fJ fS:Nat)(md:Nat→Bool):Zp:={ at_:=fun f=>if f=fI then some aeW else if f=fJ then some xW else none,md:=md,sh:=fun f=>if f=fS then some aeQ else none }
theorem ah7{P:Program}{G:Nat→Option Obj}{fI fJ fS:Nat}{md:Nat→Bool}(hI:mA P G fI aeW)(hJ:mA P G fJ xW)(hS:mA P G fS aeQ):vP P G (xJ fI fJ fS md):=by
 refine⟨fun f p hp=>?_,fun f p hp=>?_⟩
 ·simp only[xJ]at hp
  split at hp
  ·rename_i e;subst e;cases hp;exact hI
  ·split at hp
   ·rename_i e;subst e;cases hp;exact hJ
   ·cases hp
 ·simp only[xJ]at hp
  split at hp
  ·rename_i e;subst e;cases hp;exact hS
  ·cases hp
end
end Go.Ev
