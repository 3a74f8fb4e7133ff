/- The evaluator and its soundness. -/
import Derived.Test.YtcncggaobhbomaaGreatDoorLibD
import Derived.Sort.Grow
open And renaming intro→ad8
open Eq renaming trans→ahF
open Option renaming map_eq_some_iff→aoR,bind_eq_some_iff→aoS,bind_some→apA,map_some→aA5,some→aL1
open Nat renaming le_refl→awL,zero_le→aAO,le_trans→aHN,add_zero→aKP,strongRecOn→aTY,mul_le_mul_left→a0L
open List renaming mem_cons_of_mem→ay8,mem_cons_self→azO,mem_cons→azV,getElem?_eq_some_iff→aCG,mem_append→aCH,mem_append_left→aD5,mem_append_right→aEG,all_eq_true→aEM,filter_cons_of_pos→aEX,mem_map→aG2,nil_append→aHA,getElem?_eq_getElem→aHP,filter_cons_of_neg→aHR,getElem?_map→aI5,append_nil→aJ8,length_cons→aKE,foldl_cons→aL7,pairwise_cons→aNR,cons_append→aN3,replicate→aN4,range→aPI,flatMap_cons→aRB,getElem?_append_left→aRT,mem_of_getElem?→aSF,getElem?_of_mem→aS5,length_append→aUJ,length_nil→aUO,set_cons_succ→aUU,getElem?_append_right→aU0,any_eq_true→aU2,getElem?_set_ne→aYU,getD_eq_getElem?_getD→a0J,getElem?_set_self→a0K
open Bool renaming or_true→aKF,and_eq_true→aO4,or_eq_true→aU1,not_eq_true'→aU3,not_eq_eq_eq_not→aX6
set_option linter.unusedSimpArgs false
set_option linter.unusedVariables false
namespace Go.Ev
noncomputable section
set_option maxRecDepth 100000
def EVa:=PLift.up (ad8 @aYA (ad8 @a1Z (ad8 @a9B (ad8 @aXS (ad8 @aTR (ad8 @aVG (ad8 @aWJ (ad8 @a06 (ad8 @List.map_cons.{0,0} (ad8 @List.map_nil.{0,0} (ad8 @aA5.{0,0} (ad8 @Option.map_none.{0,0} (ad8 @List.getElem?_cons_zero.{0} (ad8 @List.getElem?_cons_succ.{0} (ad8 @apA.{0,0} (ad8 @a6K (ad8 @bbY (ad8 @bdA (ad8 @a3X (ad8 @a8W (ad8 @a6J (ad8 @a99 (ad8 @a7O (ad8 @a8X (ad8 @aYN (ad8 @bbV (ad8 @a1F (ad8 @a0R (ad8 @a4W (ad8 @a3I (ad8 @a4I (ad8 @Nat.add_assoc (ad8 @List.append_assoc.{0} @aUJ.{0})))))))))))))))))))))))))))))))))
def EVb:=PLift.up (ad8 @List.length_replicate.{0} (ad8 @List.length_map.{0,0} (ad8 @Int.natCast_nonneg (ad8 @Int.toNat_natCast (ad8 @aI5.{0,0} (ad8 @a2D (ad8 @aTV (ad8 @a3S (ad8 @a95 (ad8 @bdY (ad8 @a3N (ad8 @aWF (ad8 @aW5 (ad8 @a69 (ad8 @bdG (ad8 @bdV (ad8 @a6V (ad8 @a22 (ad8 @aOX (ad8 @aV4 (ad8 @aBS (ad8 @a0S (ad8 @aW2 (ad8 @a1I (ad8 @bcR (ad8 @ba1 (ad8 @bdC (ad8 @bcA (ad8 @bb7 (ad8 @ba6 (ad8 @bcT @bcE)))))))))))))))))))))))))))))))
def EVc:=PLift.up (ad8 @a1H (ad8 @aWV (ad8 @aVO (ad8 @a2H (ad8 @a5G (ad8 @awH (ad8 @aZZ (ad8 @aXK (ad8 @aQE (ad8 @a3Q (ad8 @baA (ad8 @aZB (ad8 @bcW (ad8 @aYW (ad8 @aVV (ad8 @aVF (ad8 @aT9 (ad8 @aE4 (ad8 @aHH (ad8 @aZI (ad8 @aJ3 (ad8 @aG7 (ad8 @aXQ (ad8 @aUS (ad8 @aRY (ad8 @aYM (ad8 @aW0 (ad8 @a2O (ad8 @a1N (ad8 @a6X (ad8 @a16 (ad8 @a67 @a25))))))))))))))))))))))))))))))))
def EVd:=PLift.up (ad8 @a6R (ad8 @baD (ad8 @a2J (ad8 @aWI (ad8 @a64 (ad8 @a39 (ad8 @a54 (ad8 @a1L (ad8 @a6Z (ad8 @a81 (ad8 @a6W (ad8 @a7N (ad8 @a8Z (ad8 @a3W (ad8 @List.all_cons.{0} (ad8 @List.all_nil.{0} (ad8 @aHA.{0} (ad8 @aJ8.{0} (ad8 @aN3.{0} (ad8 @aKE.{0} (ad8 @aUO.{0} (ad8 @List.take_succ_cons.{0} (ad8 @List.take_zero.{0} (ad8 @List.drop_succ_cons.{0} (ad8 @List.drop_zero.{0} (ad8 @List.take_nil.{0} (ad8 @List.set_cons_zero.{0} (ad8 @aUU.{0} (ad8 @a11 @a7T)))))))))))))))))))))))))))))
def EVe:=PLift.up (ad8 @a0W (ad8 @a38 (ad8 @a6G (ad8 @a7W (ad8 @baH (ad8 @a19 (ad8 @a86 (ad8 @a3O (ad8 @a3C (ad8 @a74 (ad8 @a8B (ad8 @a89 (ad8 @Bool.and_self (ad8 @Bool.and_true (ad8 @Bool.true_and (ad8 @Bool.false_and (ad8 @Bool.and_false (ad8 @aKF (ad8 @Bool.or_false (ad8 @Bool.true_or (ad8 @Bool.not_true (ad8 @Bool.not_false (ad8 @Nat.zero_add (ad8 @aKP (ad8 @Bool.false_eq_true (ad8 @true_and (ad8 @and_true (ad8 @and_self (ad8 @awL (ad8 @a85 (ad8 @a41 (ad8 @aX4 @aXI))))))))))))))))))))))))))))))))
def EVf:=PLift.up (ad8 @bcG (ad8 @bdK (ad8 @a1B (ad8 @a7K (ad8 @a8Y (ad8 @aQ0 (ad8 @aNL (ad8 @aWB (ad8 @a9O (ad8 @aQW (ad8 @a4B (ad8 @aTF (ad8 @a44 (ad8 @a93 (ad8 @bdJ (ad8 @ba0 (ad8 @aVI (ad8 @aZM (ad8 @aOW (ad8 @a8U (ad8 @aYR (ad8 @aU8 (ad8 @baG (ad8 @bcB (ad8 @a5N (ad8 @a55 (ad8 @aXV (ad8 @bb8 (ad8 @bbN (ad8 @a4Z (ad8 @a94 (ad8 @a9I (ad8 @a9G (ad8 @a77 (ad8 @a9N @bdP)))))))))))))))))))))))))))))))))))
def EVg:=PLift.up (ad8 @a2T (ad8 @aVN (ad8 @aRW (ad8 @aPZ (ad8 @a2G (ad8 @a84 (ad8 @a4H (ad8 @a7H (ad8 @a1A (ad8 @aN8 (ad8 @aZH (ad8 @aTE (ad8 @a5B (ad8 @a97 (ad8 @a9V (ad8 @a6N (ad8 @a7U (ad8 @a9K (ad8 @List.any_cons.{0} (ad8 @List.any_nil.{0} (ad8 @a7X (ad8 @aV9 (ad8 @aLV (ad8 @aJQ (ad8 @aTA (ad8 @aPR (ad8 @List.replicate_succ.{0} (ad8 @List.replicate_zero.{0} (ad8 @or_self (ad8 @ne_eq.{1} @not_true_eq_false))))))))))))))))))))))))))))))
def EVh:=PLift.up (ad8 @a9Q (ad8 @aX0 (ad8 @aYL (ad8 @aUC (ad8 @aTM (ad8 @bd2 (ad8 @aYJ @a5D)))))))
section
variable {P:Program} {O:Ea}
theorem aGF{C:R→Prop}{b:Bool}{k:R}(hb:b=true)(h:True→C k):C (Ey b k):=a5S hb (h trivial)
end
end
noncomputable section
open Go.RowKit
theorem aRX(b:Nat):place [] b=(0,[b]):=ahF rfl rfl
theorem aO9(a b:Nat)(m:List Nat):place (a::m) b=if a=b then(0,a::m)else((place m b).1+1,a::(place m b).2):=by
 unfold place
 rw[List.idxOf?_cons]
 by_cases h:a=b
 ·simp[h]
 ·simp only[h,if_false,beq_iff_eq]
  cases List.idxOf? b m<;>simp
section
variable {P:Program} {O:Ea}
theorem a1Q(d:Nat)(m:List Nat)(b:Bool):Bd (d+1) m (.bool b)=some (.bool b,m):=ahF rfl rfl
theorem a7Q(d:Nat)(m:List Nat)(k:IntKind)(n:Int):Bd (d+1) m (.int k n)=some (.int k n,m):=ahF rfl rfl
theorem a3P(d:Nat)(m:List Nat):Bd (d+1) m .nils=some (.nils,m):=ahF rfl rfl
theorem a9Y(d:Nat)(m:List Nat)(n:Nat)(fl:Bool)(rows:List (List AV)):Bd (d+1) m (.imm n fl rows)=some (.imm n fl rows,m):=ahF rfl rfl
theorem a6Y(d:Nat)(m:List Nat)(n:Nat)(fl nn:Bool)(rows:List (List AV)):Bd (d+1) m (Bt n fl nn rows)=some (Bt n fl nn rows,m):=Ho m (awH d n fl nn rows)
theorem a7L(d:Nat)(m:List Nat)(b r o:Nat):Bd (d+1) m (.ptr b r o)=some (.ptr (place m b).1 r o,(place m b).2):=ahF rfl rfl
theorem a6A(d:Nat)(m:List Nat)(st b r len:Nat):Bd (d+1) m (.slr st b r len)=some (.slr st (place m b).1 r len,(place m b).2):=ahF rfl rfl
def rfA(x:Option (List AV × List Nat)):Option (AV × List Nat):=x.map fun(cs,m)=>(.agg cs,m)
def rfT(x:Option (List AV × List Nat)):Option (AV × List Nat):=x.map fun(cs,m)=>(.tup cs,m)
theorem aVD(cs:List AV)(m:List Nat):rfA (some (cs,m))=some (.agg cs,m):=ahF rfl rfl
theorem aVX(cs:List AV)(m:List Nat):rfT (some (cs,m))=some (.tup cs,m):=ahF rfl rfl
theorem a50(d:Nat)(m:List Nat)(cs:List AV):Bd (d+1) m (.agg cs)=rfA (Bd.refL (Bd d) m cs):=ahF rfl rfl
theorem a60(d:Nat)(m:List Nat)(cs:List AV):Bd (d+1) m (.tup cs)=rfT (Bd.refL (Bd d) m cs):=ahF rfl rfl
def rfG(fn:Fn)(a:List AV)(x:Option (List AV × List Nat)):Option (AV × List Nat):=x.map fun(b,m)=>(.func fn a b,m)
def rfF(fn:Fn)(d:Nat)(b:List AV)(x:Option (List AV × List Nat)):Option (AV × List Nat):=x.bind fun(a,m)=>rfG fn a (Bd.refL (Bd d) m b)
theorem aWG(fn:Fn)(a b:List AV)(m:List Nat):rfG fn a (some (b,m))=some (.func fn a b,m):=ahF rfl rfl
theorem aVY(fn:Fn)(d:Nat)(a b:List AV)(m:List Nat):rfF fn d b (some (a,m))=rfG fn a (Bd.refL (Bd d) m b):=ahF rfl rfl
theorem a4R(d:Nat)(m:List Nat)(fn:Fn)(a b:List AV):Bd (d+1) m (.func fn a b)=rfF fn d b (Bd.refL (Bd d) m a):=ahF rfl rfl
def rfD(v:AV)(x:Option (List AV × List Nat)):Option (List AV × List Nat):=x.map fun(vs,m)=>(v::vs,m)
def rfC(f:List Nat→AV→Option (AV × List Nat))(vs:List AV)(x:Option (AV × List Nat)):Option (List AV × List Nat):=x.bind fun(v,m)=>rfD v (Bd.refL f m vs)
theorem aVS(v:AV)(vs:List AV)(m:List Nat):rfD v (some (vs,m))=some (v::vs,m):=ahF rfl rfl
theorem aU5(f:List Nat→AV→Option (AV × List Nat))(vs:List AV)(v:AV)(m:List Nat):rfC f vs (some (v,m))=rfD v (Bd.refL f m vs):=ahF rfl rfl
theorem a1Y(f:List Nat→AV→Option (AV × List Nat))(m:List Nat):Bd.refL f m []=some ([],m):=ahF rfl rfl
theorem aWA(f:List Nat→AV→Option (AV × List Nat))(m:List Nat)(v:AV)(vs:List AV):Bd.refL f m (v::vs)=rfC f vs (f m v):=ahF rfl rfl
def rrD(cs:List AV)(x:Option (List (List AV) × List Nat)):Option (List (List AV) × List Nat):=x.map fun(rs,m)=>(cs::rs,m)
def rrC(rs:List (List AV))(x:Option (List AV × List Nat)):Option (List (List AV) × List Nat):=x.bind fun(cs,m)=>rrD cs (Jn m rs)
theorem aVP(cs:List AV)(rs:List (List AV))(m:List Nat):rrD cs (some (rs,m))=some (cs::rs,m):=ahF rfl rfl
theorem aYH(rs:List (List AV))(cs:List AV)(m:List Nat):rrC rs (some (cs,m))=rrD cs (Jn m rs):=ahF rfl rfl
theorem a8V(m:List Nat):Jn m []=some ([],m):=ahF rfl rfl
theorem a2N(m:List Nat)(cs:List AV)(rs:List (List AV)):Jn m (cs::rs)=rrC rs (Bd.refL (Bd 8) m cs):=ahF rfl rfl
def rbV(st:Nat)(w:Bool)(x:Option (List (List AV) × List Nat)):Option (CB × List Nat):=x.map fun(rows,m)=>(.live st false w rows,m)
theorem aYZ(st:Nat)(w:Bool)(rows:List (List AV))(m:List Nat):rbV st w (some (rows,m))=some (.live st false w rows,m):=ahF rfl rfl
theorem bbC(m:List Nat)(st:Nat)(w:Bool)(rows:List (List AV)):aBW m (.live st true w rows)=some (.live st true w rows,m):=ahF rfl rfl
theorem baY(m:List Nat)(st:Nat)(w:Bool)(rows:List (List AV)):aBW m (.live st false w rows)=rbV st w (Jn m rows):=ahF rfl rfl
def pcE(c:CB)(x:Option (List CB × List Nat)):Option (List CB × List Nat):=x.map fun(cs,m)=>(c::cs,m)
def pcR(n:Nat)(h:Aa)(i:Nat)(x:Option (CB × List Nat)):Option (List CB × List Nat):=x.bind fun(c,m)=>pcE c (Ir n (hf h) (i+1) m)
def pcB(n:Nat)(h:Aa)(i:Nat)(m:List Nat)(x:Option CB):Option (List CB × List Nat):=x.bind fun c=>pcR n h i (aBW m c)
def pcK(n:Nat)(h:Aa)(i:Nat)(m:List Nat)(x:Option Nat):Option (List CB × List Nat):=
 match x with
 |none=>some ([],m)
 |some b=>pcB n h i m (h[b]?)
theorem aZ9(c:CB)(cs:List CB)(m:List Nat):pcE c (some (cs,m))=some (c::cs,m):=ahF rfl rfl
theorem aZE(n:Nat)(h:Aa)(i:Nat)(c:CB)(m:List Nat):pcR n h i (some (c,m))=pcE c (Ir n (hf h) (i+1) m):=ahF rfl rfl
theorem aWC(n:Nat)(h:Aa)(i:Nat)(m:List Nat)(c:CB):pcB n h i m (some c)=pcR n h i (aBW m c):=ahF rfl rfl
theorem aYX(n:Nat)(h:Aa)(i:Nat)(m:List Nat):pcK n h i m none=some ([],m):=ahF rfl rfl
theorem aXP(n:Nat)(h:Aa)(i:Nat)(m:List Nat)(b:Nat):pcK n h i m (some b)=pcB n h i m (h[b]?):=ahF rfl rfl
theorem bbF(n:Nat)(h:Aa)(i:Nat)(m:List Nat):Ir (n+1) (hf h) i m=pcK n h i m (m[i]?):=by
 unfold Ir pcK
 cases m[i]?<;>rfl
def pkB(vs:List AV)(x:Option (List CB × List Nat)):Option (List AV × List CB × List Nat):=x.map fun(cs,m)=>(vs,cs,m)
def pkA(h:Aa)(x:Option (List AV × List Nat)):Option (List AV × List CB × List Nat):=x.bind fun(vs,m)=>pkB vs (Ir 5000 (hf h) 0 m)
theorem aXE(vs:List AV)(cs:List CB)(m:List Nat):pkB vs (some (cs,m))=some (vs,cs,m):=ahF rfl rfl
theorem aZ3(h:Aa)(vs:List AV)(m:List Nat):pkA h (some (vs,m))=pkB vs (Ir 5000 (hf h) 0 m):=ahF rfl rfl
theorem bbM(h:Aa)(m:List Nat)(vs:List AV):Ib (hf h) m vs=pkA h (Bd.refL (Bd 8) m vs):=ahF rfl rfl
def upK(h:Aa)(lent:List Nat)(v:Option AV)(ps ns:Option (List Ad))(o:AV→Do):OE:=v.bind fun v=>ps.bind fun ps=>ns.bind fun ns=>
 some (o v,(if lent.isEmpty|| !(hasImm 8 v||(ps++ns).any Ad.hasImm)then []else Eg (hf h) lent)++ps++ns)
def crU(h:Aa)(base:Nat)(lent m:List Nat)(cs:List CB)(x:Option (Do × Aa)):OE:=
 match x with
 |some (.ret v,h')=>upK h lent (Ce 8 (Ee m base) v) (Fj (Ee m base) m cs (h'.take m.length)) (Hl (Ee m base) base (h'.drop m.length)) .ret
 |some (.pan v,h')=>upK h lent (Ce 8 (Ee m base) v) (Fj (Ee m base) m cs (h'.take m.length)) (Hl (Ee m base) base (h'.drop m.length)) .pan
 |none=>none
def crP(O:Ea)(h:Aa)(base:Nat)(f:Og)(lent:List Nat)(x:Option (List AV × List CB × List Nat)):OE:=x.bind fun(vs,cs,m)=>
 if lent.any (m.contains ·)then none else crU h base lent m cs (O.call f vs (cs.map CB.clean))
def crQ(O:Ea)(h:Aa)(base:Nat)(f:Og)(lent:List Nat)(x:Option (List AV)):OE:=x.bind fun vs=>crP O h base f lent (Ib (hf h) [] vs)
theorem beU(h:Aa)(base:Nat)(f:Og)(args:List AV):cr (aFG O (hf h) base f args)=crQ O h base f (args.flatMap (Ao 12 (hf h))) (Az (rdV h) args):=by
 unfold aFG Cd crQ rdV
 cases Az (Fa 12 (hf h)) args with
 |none=>rfl
 |some vs=>
  simp only[apA]
  unfold crP
  cases Ib (hf h) [] vs with
  |none=>rfl
  |some x=>
   obtain⟨vs',cs,m⟩:=x
   simp only[apA]
   split
   ·rfl
   ·cases O.call f vs' (cs.map CB.clean)with
    |none=>rfl
    |some y=>
     obtain⟨out,h'⟩:=y
     simp only[apA,Is]
     unfold crU upK
     cases out with
     |ret v=>
      simp only[Do.v]
      cases Ce 8 (Ee m base) v with
      |none=>rfl
      |some v=>
       cases Fj (Ee m base) m cs (h'.take m.length)with
       |none=>rfl
       |some ps=>cases Hl (Ee m base) base (h'.drop m.length)<;>rfl
     |pan v=>
      simp only[Do.v]
      cases Ce 8 (Ee m base) v with
      |none=>rfl
      |some v=>
       cases Fj (Ee m base) m cs (h'.take m.length)with
       |none=>rfl
       |some ps=>cases Hl (Ee m base) base (h'.drop m.length)<;>rfl
theorem aZS(h:Aa)(base:Nat)(f:Og)(lent:List Nat)(vs:List AV):crQ O h base f lent (some vs)=crP O h base f lent (Ib (hf h) [] vs):=ahF rfl rfl
theorem aYD(h:Aa)(base:Nat)(f:Og)(lent:List Nat)(vs:List AV)(cs:List CB)(m:List Nat):crP O h base f lent (some (vs,cs,m))=if lent.any (m.contains ·)=true then none else crU h base lent m cs (O.call f vs (cs.map CB.clean)):=ahF rfl rfl
theorem a4X(h:Aa)(base:Nat)(lent m:List Nat)(cs:List CB)(v:AV)(h':Aa):crU h base lent m cs (some (.ret v,h'))=upK h lent (Ce 8 (Ee m base) v) (Fj (Ee m base) m cs (h'.take m.length)) (Hl (Ee m base) base (h'.drop m.length)) .ret:=ahF rfl rfl
theorem aV5(h:Aa)(lent:List Nat)(v:AV)(ps ns:List Ad)(o:AV→Do):upK h lent (some v) (some ps) (some ns) o=some (o v,(if(lent.isEmpty|| !(hasImm 8 v||(ps++ns).any Ad.hasImm))=true then []else Eg (hf h) lent)++ps++ns):=ahF rfl rfl
theorem a00(st:Nat)(fl w:Bool)(rows:List (List AV)):CB.clean (.live st fl w rows)=.live st fl false rows:=ahF rfl rfl
theorem a1C(d:Nat)(g:HF)(b:Bool):Ao (d+1) g (.bool b)=[]:=ahF rfl rfl
theorem a6H(d:Nat)(g:HF)(k:IntKind)(n:Int):Ao (d+1) g (.int k n)=[]:=ahF rfl rfl
theorem a1T(d:Nat)(g:HF):Ao (d+1) g .nils=[]:=ahF rfl rfl
theorem a83(d:Nat)(g:HF)(n:Nat)(fl:Bool)(rows:List (List AV)):Ao (d+1) g (.imm n fl rows)=[]:=ahF rfl rfl
theorem a7F(d:Nat)(g:HF)(b r o:Nat):Ao (d+1) g (.ptr b r o)=[]:=ahF rfl rfl
theorem a5E(d:Nat)(g:HF)(fn:Fn)(a b:List AV):Ao (d+1) g (.func fn a b)=[]:=ahF rfl rfl
theorem a6P(d:Nat)(g:HF)(n:Nat)(fl nn:Bool)(rows:List (List AV)):Ao (d+1) g (Bt n fl nn rows)=[]:=af5 g (d:=1) (by omega) (awH 0 n fl nn rows)
theorem baF(d:Nat)(g:HF)(cs:List AV):Ao (d+1) g (.agg cs)=cs.flatMap (Ao d g):=ahF rfl rfl
def lvS(b:Nat)(c:Option CB)(q:AV→List Nat)(r len:Nat):List Nat:=
 b::match c with
 |some (.live _ fl _ rows)=>if r+len≤rows.length then(if fl then []else((rows.drop r).take len).flatMap fun cs=>cs.flatMap q)else []
 |some (.frz _ fl rows)=>if r+len≤rows.length then(if fl then []else((rows.drop r).take len).flatMap fun cs=>cs.flatMap q)else []
 |_=>[]
theorem aO8(d:Nat)(h:Aa)(st b r len:Nat):Ao (d+1) (hf h) (.slr st b r len)=lvS b (h[b]?) (Ao d (hf h)) r len:=by
 have e:Ao (d+1) (hf h) (.slr st b r len)=b::(match Dt (hf h) b r len with|some (_,fl,rows)=>if fl then []else rows.flatMap fun cs=>cs.flatMap (Ao d (hf h))|none=>[]):=rfl
 rw[e]
 generalize Ao d (hf h)=q
 unfold Dt lvS
 have eh:hf h b=h[b]?:=rfl
 rw[eh]
 cases h[b]? with
 |none=>rfl
 |some c=>
  cases c with
  |live st fl w rows=>simp only;by_cases hq:r+len≤rows.length<;>simp[hq]
  |frz st fl rows=>simp only;by_cases hq:r+len≤rows.length<;>simp[hq]
  |_=>rfl
theorem ba9(b:Nat)(st:Nat)(w:Bool)(rows:List (List AV))(q:AV→List Nat)(r len:Nat):lvS b (some (.live st true w rows)) q r len=[b]:=by simp[lvS]
theorem bdO(m:List Nat)(base i:Nat):Ee m base i=if i<m.length then m.getD i base else base+(i-m.length):=ahF rfl rfl
theorem a4N(d:Nat)(f:Nat→Nat)(b:Bool):Ce (d+1) f (.bool b)=some (.bool b):=ahF rfl rfl
theorem a9X(d:Nat)(f:Nat→Nat)(k:IntKind)(n:Int):Ce (d+1) f (.int k n)=some (.int k n):=ahF rfl rfl
theorem a7E(d:Nat)(f:Nat→Nat)(n:Nat)(fl nn:Bool)(rows:List (List AV)):Ce (d+1) f (Bt n fl nn rows)=some (Bt n fl nn rows):=Jd f (awH d n fl nn rows)
theorem a87(d:Nat)(f:Nat→Nat)(b r o:Nat):Ce (d+1) f (.ptr b r o)=some (.ptr (f b) r o):=ahF rfl rfl
theorem a9S(d:Nat)(f:Nat→Nat)(st b r len:Nat):Ce (d+1) f (.slr st b r len)=some (.slr st (f b) r len):=ahF rfl rfl
def rnA(x:Option (List AV)):Option AV:=x.map .agg
def rnT(x:Option (List AV)):Option AV:=x.map .tup
theorem aXF(cs:List AV):rnA (some cs)=some (.agg cs):=ahF rfl rfl
theorem aYK(cs:List AV):rnT (some cs)=some (.tup cs):=ahF rfl rfl
theorem baE(d:Nat)(f:Nat→Nat)(cs:List AV):Ce (d+1) f (.agg cs)=rnA (Az (Ce d f) cs):=ahF rfl rfl
theorem a6O(d:Nat)(f:Nat→Nat)(cs:List AV):Ce (d+1) f (.tup cs)=rnT (Az (Ce d f) cs):=ahF rfl rfl
def rnG(fn:Fn)(a:List AV)(x:Option (List AV)):Option AV:=x.map fun b=>.func fn a b
def rnF(fn:Fn)(b:Option (List AV))(x:Option (List AV)):Option AV:=x.bind fun a=>rnG fn a b
theorem aWK(fn:Fn)(a b:List AV):rnG fn a (some b)=some (.func fn a b):=ahF rfl rfl
theorem aVB(fn:Fn)(b:Option (List AV))(a:List AV):rnF fn b (some a)=rnG fn a b:=ahF rfl rfl
theorem a21(d:Nat)(f:Nat→Nat)(fn:Fn)(a b:List AV):Ce (d+1) f (.func fn a b)=rnF fn (Az (Ce d f) b) (Az (Ce d f) a):=ahF rfl rfl
def rbW(st:Nat)(w:Bool)(x:Option (List (List AV))):Option CB:=x.map (.live st false w)
theorem aU7(st:Nat)(w:Bool)(rows:List (List AV)):rbW st w (some rows)=some (.live st false w rows):=ahF rfl rfl
theorem bcK(f:Nat→Nat)(st:Nat)(w:Bool)(rows:List (List AV)):Hu f (.live st true w rows)=some (.live st true w rows):=ahF rfl rfl
theorem bd6(f:Nat→Nat)(st:Nat)(w:Bool)(rows:List (List AV)):Hu f (.live st false w rows)=rbW st w (Az (Az (Ce 8 f)) rows):=ahF rfl rfl
def peE(b:Nat)(c:Option CB)(x:Option (List Ad)):Option (List Ad):=c.bind fun c=>x.map fun es=>.put b c::es
def peK(f:Nat→Nat)(b:Nat)(c:CB)(same bad:Bool)(x:Option (List Ad)):Option (List Ad):=bif same then x else bif bad then none else peE b (Hu f c) x
theorem bbT(f:Nat→Nat)(b:Nat)(c:CB)(bad:Bool)(x:Option (List Ad)):peK f b c true bad x=x:=ahF rfl rfl
theorem a7Y(f:Nat→Nat):Fj f [] [] []=some []:=ahF rfl rfl
theorem a48(f:Nat→Nat)(b:Nat)(m:List Nat)(c₀ c:CB)(cs₀ cs:List CB):Fj f (b::m) (c₀::cs₀) (c::cs)=peK f b c (c₀.same c) (c.unw|| !c₀.isLive) (Fj f m cs₀ cs):=by
 conv=>lhs;unfold Fj
 unfold peK
 cases c₀.same c with
 |true=>rfl
 |false=>
  cases(c.unw|| !c₀.isLive)with
  |true=>rfl
  |false=>
   simp only[cond_false,peE]
theorem a2P(a:Nat)(b c:Bool)(r:List (List AV))(st:Nat)(fl w:Bool)(rows:List (List AV)):CB.same (.live a b c r) (.live st fl w rows)= !w:=ahF rfl rfl
theorem a4Y(st:Nat)(fl w:Bool)(rows:List (List AV)):CB.unw (.live st fl w rows)= !w:=ahF rfl rfl
theorem a17(st:Nat)(fl w:Bool)(rows:List (List AV)):CB.isLive (.live st fl w rows)=true:=ahF rfl rfl
def neK(base:Nat)(c:Option CB)(x:Option (List Ad)):Option (List Ad):=c.bind fun c=>x.map fun es=>.new base c::es
theorem aVJ(base:Nat)(c:CB)(es:List Ad):neK base (some c) (some es)=some (.new base c::es):=ahF rfl rfl
theorem a9L(f:Nat→Nat)(base:Nat):Hl f base []=some []:=ahF rfl rfl
theorem a1G(f:Nat→Nat)(base:Nat)(c:CB)(cs:List CB):Hl f base (c::cs)=neK base (Hu f c) (Hl f (base+1) cs):=ahF rfl rfl
theorem a0V(d:Nat)(fn:Fn)(a b:List AV):hasImm (d+1) (.func fn a b)=(a.any (hasImm d)||b.any (hasImm d)):=ahF rfl rfl
theorem a80(b:Nat)(c:CB):Ad.hasImm (.new b c)=c.hasImm:=ahF rfl rfl
theorem bcQ(st:Nat)(w:Bool)(rows:List (List AV)):CB.hasImm (.live st true w rows)=false:=ahF rfl rfl
theorem bd1(st:Nat)(w:Bool)(rows:List (List AV)):CB.hasImm (.live st false w rows)=rows.any fun cs=>cs.any (Ev.hasImm 8):=ahF rfl rfl
theorem a7M(h:Aa)(b r o:Nat):rdV h (.ptr b r o)=some (.ptr b r o):=ahF rfl rfl
theorem a27(h:Aa)(cs:List AV):rdV h (.agg cs)=rdA (Az (Fa 11 (hf h)) cs):=ahF rfl rfl
theorem aTG(l:List AV):rdA (some l)=some (.agg l):=ahF rfl rfl
theorem a4D(d:Nat)(h:Aa)(b:Bool):Fa (d+1) (hf h) (.bool b)=some (.bool b):=ahF rfl rfl
theorem a7B(d:Nat)(h:Aa)(k:IntKind)(n:Int):Fa (d+1) (hf h) (.int k n)=some (.int k n):=ahF rfl rfl
theorem a9J(d:Nat)(h:Aa)(n:Nat)(fl:Bool)(rows:List (List AV)):Fa (d+1) (hf h) (.imm n fl rows)=some (.imm n fl rows):=ahF rfl rfl
theorem a9U(d:Nat)(h:Aa)(n b r len:Nat):Fa (d+1) (hf h) (.slr n b r len)=rdS (Dq d (hf h)) (h[b]?) r len:=by
 have e:Fa (d+1) (hf h) (.slr n b r len)=(Dt (hf h) b r len).bind fun x=>if x.2.1=true then some (.imm x.1 true x.2.2)else(Az (Az (Dq d (hf h))) x.2.2).map (.imm x.1 false):=rfl
 rw[e]
 generalize Dq d (hf h)=q
 unfold Dt rdS
 have eh:hf h b=h[b]?:=rfl
 rw[eh]
 cases h[b]? with
 |none=>rfl
 |some c=>
  cases c with
  |live st fl w rows=>
   simp only[rdR]
   by_cases hq:r+len≤rows.length
   ·cases fl<;>simp[hq]
   ·simp[hq]
  |frz st fl rows=>
   simp only[rdR]
   by_cases hq:r+len≤rows.length
   ·cases fl<;>simp[hq]
   ·simp[hq]
  |_=>rfl
def mfK(f:Nat)(a b:Option (List AV)):OE:=a.bind fun a=>b.bind fun b=>some (.ret (.func (.func f) a b),[])
theorem aX5(f:Nat)(a b:List AV):mfK f (some a) (some b)=some (.ret (.func (.func f) a b),[]):=ahF rfl rfl
theorem bdQ(t:List AV)(h:Aa)(f:Nat)(a b:Array Operand):Df O P t h (.makeFunc (.func f) a b)=mfK f (Ax t a.toList) (Ax t b.toList):=by
 rw[Bi _ _ _ rfl]
 simp only[exec,mfK]
 cases Ax t a.toList with
 |none=>rfl
 |some a=>cases Ax t b.toList<;>rfl
def msK(n:Nat)(z:AV)(base:Nat)(l c:Option AV):OE:=
 match l,c with
 |some (.int .i64 l),some (.int .i64 c)=>if 0≤l∧l≤c∧c≤2 ^ 40∧(Af z).all AV.isCell=true then some (.ret (.slr n base 0 l.toNat),[.new base (.live n ((Af z).all AV.flat) false (aN4 l.toNat (Af z)))])else none
 |_,_=>none
theorem a0C(n:Nat)(z:AV)(base:Nat)(l c:Int):msK n z base (some (.int .i64 l)) (some (.int .i64 c))=if 0≤l∧l≤c∧c≤2 ^ 40∧(Af z).all AV.isCell=true then some (.ret (.slr n base 0 l.toNat),[.new base (.live n ((Af z).all AV.flat) false (aN4 l.toNat (Af z)))])else none:=ahF rfl rfl
def msO(P:Program)(ty:TypeId)(base:Nat)(l c:Option AV):OE:=rD (l.bind fun l=>c.bind fun c=>Fz P base ty l c)
theorem ba8(t:List AV)(h:Aa)(ty:TypeId)(l c:Operand):Df O P t h (.makeSlice ty l c)=msO P ty h.length (Ae t l) (Ae t c):=Bi _ _ _ rfl
theorem bb9{ty e:TypeId}{n b:Nat}{z:AV}(he:azP P ty=some e)(hn:Ks P e=some n)(hb:byT P e=some b)(hz:Ew P e=some z)(ok:(decide (b≤2 ^ 7)&&decide (n≠0)&&decide ((Af z).length=n))=true)(base:Nat)(l c:Option AV):
 msO P ty base l c=msK n z base l c:=by
 simp only[aO4,decide_eq_true_eq]at ok
 unfold msO msK
 cases l with
 |none=>rfl
 |some l=>
  cases c with
  |none=>cases l<;>first|rfl|(rename_i k _;cases k<;>rfl)
  |some c=>
   simp only[apA,Fz,he,hn,hb,hz]
   cases l with
   |int k l=>
    cases c with
    |int k' c=>
     cases k<;>cases k'<;>first|rfl|skip
     simp only[ok.1.1,ok.1.2,ok.2,ne_eq,not_false_eq_true,true_and]
     split<;>rfl
    |_=>cases k<;>rfl
   |_=>rfl
def srS(q:Nat)(c:Option CB)(r len:Nat):Option (Bool × List (List AV)):=
 match c with
 |some (.live st fl _ rows)=>if r+len≤rows.length∧st=q then some (fl,(rows.drop r).take len)else none
 |some (.frz st fl rows)=>if r+len≤rows.length∧st=q then some (fl,(rows.drop r).take len)else none
 |_=>none
def srK(q:Nat)(h:Aa)(x:Option AV):Option (Bool × List (List AV)):=
 match x with
 |some .nils=>some (true,[])
 |some (.imm st fl rows)=>if st=q then some (fl,rows)else none
 |some (.slr _ b r len)=>srS q (h[b]?) r len
 |_=>none
theorem a0D(q st:Nat)(fl w:Bool)(rows:List (List AV))(r len:Nat):srS q (some (.live st fl w rows)) r len=if r+len≤rows.length∧st=q then some (fl,(rows.drop r).take len)else none:=ahF rfl rfl
theorem aVE(q:Nat)(h:Aa):srK q h (some .nils)=some (true,[]):=ahF rfl rfl
theorem aRN(q:Nat)(h:Aa)(st:Nat)(fl:Bool)(rows:List (List AV)):srK q h (some (.imm st fl rows))=if st=q then some (fl,rows)else none:=ahF rfl rfl
theorem aQ2(q:Nat)(h:Aa)(st b r len:Nat):srK q h (some (.slr st b r len))=srS q (h[b]?) r len:=ahF rfl rfl
def apT(n base b r len:Nat)(nfl:Bool)(new:List (List AV))(st:Nat)(fl:Bool)(rows:List (List AV)):OE:=
 if st=n∧r+len≤rows.length∧len+new.length≤2 ^ 39 then some (.ret (.slr st base 0 (len+new.length)),[.put b .dead,.new base (.live st (fl&&nfl) false ((rows.drop r).take len++new))])else none
def apS(n base b r len:Nat)(nfl:Bool)(new:List (List AV))(c:Option CB):OE:=
 match c with
 |some (.live st fl _ rows)=>if st=n∧r+len=rows.length∧len+new.length≤2 ^ 39 then some (.ret (.slr st base 0 (len+new.length)),[.put b .dead,.new base (.live st (fl&&nfl) false (rows.drop r++new))])else apT n base b r len nfl new st fl rows
 |_=>none
theorem aND(n base b r len:Nat)(nfl:Bool)(new:List (List AV))(st:Nat)(fl w:Bool)(rows:List (List AV)):apS n base b r len nfl new (some (.live st fl w rows))=if st=n∧r+len=rows.length∧len+new.length≤2 ^ 39 then some (.ret (.slr st base 0 (len+new.length)),[.put b .dead,.new base (.live st (fl&&nfl) false (rows.drop r++new))])else apT n base b r len nfl new st fl rows:=ahF rfl rfl
def apK(n:Nat)(h:Aa)(s:Option AV)(x:Option (Bool × List (List AV))):OE:=
 match s,x with
 |some .nils,some (_,[])=>some (.ret .nils,[])
 |some (.slr a b r l),some (_,[])=>some (.ret (.slr a b r l),[])
 |some (.imm a b r),some (_,[])=>some (.ret (.imm a b r),[])
 |some .nils,some (nfl,r::new)=>if(r::new).length≤2 ^ 39 then some (.ret (.slr n h.length 0 (r::new).length),[.new h.length (.live n nfl false (r::new))])else none
 |some (.slr _ b r len),some (nfl,q::new)=>apS n h.length b r len nfl (q::new) (h[b]?)
 |_,_=>none
theorem a9W(n:Nat)(h:Aa)(a b r l:Nat)(nfl:Bool):apK n h (some (.slr a b r l)) (some (nfl,[]))=some (.ret (.slr a b r l),[]):=ahF rfl rfl
theorem aOY(n:Nat)(h:Aa)(nfl:Bool)(r:List AV)(new:List (List AV)):apK n h (some .nils) (some (nfl,r::new))=if(r::new).length≤2 ^ 39 then some (.ret (.slr n h.length 0 (r::new).length),[.new h.length (.live n nfl false (r::new))])else none:=ahF rfl rfl
theorem aOS(n:Nat)(h:Aa)(a b r len:Nat)(nfl:Bool)(q:List AV)(new:List (List AV)):apK n h (some (.slr a b r len)) (some (nfl,q::new))=apS n h.length b r len nfl (q::new) (h[b]?):=ahF rfl rfl
def apO(P:Program)(ty:TypeId)(h:Aa)(s x:Option AV):OE:=rD (s.bind fun s=>x.bind fun x=>Fq P (hf h) h.length ty s x)
theorem aRG(t:List AV)(h:Aa)(s x:Operand)(ty ty1 e1:TypeId)(hu:P.underlying ty1=some (.slice e1)):Df O P t h (.call ⟨.builtin .append,#[s,x],#[ty,ty1]⟩)=apO P ty h (Ae t s) (Ae t x):=by
 rw[Bi _ _ _ rfl]
 simp only[exec,Ax,apO]
 cases Ae t s with
 |none=>rfl
 |some a=>
  cases Ae t x with
  |none=>rfl
  |some b=>
   simp only[apA,aA5]
   have e0:(#[ty,ty1]:Array TypeId)[0]?=some ty:=rfl
   have e1:(#[ty,ty1]:Array TypeId)[1]?=some ty1:=rfl
   simp only[e0,e1,apA,hu]
theorem aLN{ty e:TypeId}{n b:Nat}{z:AV}(he:azP P ty=some e)(hn:Ks P e=some n)(hb:byT P e=some b)(hz:Ew P e=some z)(ok:(decide (b≤2 ^ 8)&&decide (n≠0)&&decide ((Af z).length=n))=true)(h:Aa)(s x:AV)(hx:∀q,x≠.str q):
 apO P ty h (some s) (some x)=apK n h (some s) (srK n h (some x)):=by
 simp only[aO4,decide_eq_true_eq]at ok
 have hbad:¬(n=0∨2 ^ 8<b∨(Af z).length≠n):=by
  rintro(h1|h1|h1)
  ·exact ok.1.2 h1
  ·omega
  ·exact h1 ok.2
 unfold apO
 simp only[apA,Fq,he,hn,hb,hz]
 have key:∀(nfl:Bool) (new:List (List AV)) (fs:List Aw),rD (if n=0∨2 ^ 8<b∨(Af z).length≠n then none else
  match s,new with
  |s,[]=>match s with
   | .nils| .slr _ _ _ _| .imm _ _ _=>some ⟨s,[],fs⟩
   |_=>none
  | .nils,new=>if new.length≤2 ^ 39 then some ⟨.slr n h.length 0 new.length,[.new h.length (.live n nfl false new)],fs⟩else none
  | .slr _ b r len,new=>
    match hf h b with
    |some (.live st fl _ rows)=>
     if st=n∧r+len≤rows.length∧len+new.length≤2 ^ 39 then
      some ⟨.slr st h.length 0 (len+new.length),[.put b .dead,.new h.length (.live st (fl&&nfl) false ((rows.drop r).take len++new))],.blk b::fs⟩
     else none
    |_=>none
  |_,_=>none)=apK n h (some s) (some (nfl,new)):=fun nfl new fs=>by
  rw[if_neg hbad]
  cases new with
  |nil=>cases s<;>rfl
  |cons q new=>
   cases s with
   |nils=>simp only[aOY];split<;>rfl
   |slr a b r len=>
    simp only[aOS]
    unfold apS
    have eh:hf h b=h[b]?:=rfl
    rw[eh]
    cases h[b]? with
    |none=>rfl
    |some c=>
     cases c with
     |live st fl w rows=>
      simp only
      by_cases h1:st=n∧r+len=rows.length∧len+(q::new).length≤2 ^ 39
      ·rw[if_pos h1,if_pos ⟨h1.1,by omega,h1.2.2⟩,List.take_of_length_le (by simp;omega)]
       rfl
      ·rw[if_neg h1]
       unfold apT
       split<;>rfl
     |_=>rfl
   |_=>rfl
 cases x with
 |nils=>exact key true [] []
 |imm st fl rows=>
  simp only[Ci,aRN,hn,aL1.injEq]
  by_cases hq:n=st
  ·subst hq;simp only[if_true,apA];exact key fl rows []
  ·rw[if_neg hq,if_neg (fun e=>hq e.symm)]
   cases s<;>rfl
 |slr st b' r len=>
  simp only[Ci,aQ2,hn,Dt,srS]
  have eh:hf h b'=h[b']?:=rfl
  rw[eh]
  cases h[b']? with
  |none=>cases s<;>rfl
  |some c=>
   cases c with
   |live st fl w rows=>
    simp only
    by_cases hq:r+len≤rows.length
    ·simp only[hq,if_true,apA,true_and,aL1.injEq]
     by_cases hq2:n=st
     ·subst hq2;simp only[if_true,apA];exact key fl _ _
     ·rw[if_neg hq2,if_neg (fun e=>hq2 e.symm)];cases s<;>rfl
    ·simp only[hq,if_false,false_and];cases s<;>rfl
   |frz st fl rows=>
    simp only
    by_cases hq:r+len≤rows.length
    ·simp only[hq,if_true,apA,true_and,aL1.injEq]
     by_cases hq2:n=st
     ·subst hq2;simp only[if_true,apA];exact key fl _ _
     ·rw[if_neg hq2,if_neg (fun e=>hq2 e.symm)];cases s<;>rfl
    ·simp only[hq,if_false,false_and];cases s<;>rfl
   |_=>cases s<;>rfl
 |str q=>exact(hx q rfl).elim
 |_=>cases s<;>rfl
def rtK(Q:Do→Aa→Prop)(x:Option (List AV × List CB × List Nat)):Prop:=
 match x with
 |some ([v],cs,_)=>Q (.ret v) cs
 |_=>False
theorem aV3(Q:Do→Aa→Prop)(v:AV)(cs:List CB)(m:List Nat):rtK Q (some ([v],cs,m))=Q (.ret v) cs:=ahF rfl rfl
theorem a5L{q:Nat}{vs:List AV}{h:Aa}{Q:Do→Aa→Prop}:Rt q (some vs) h Q=rtK Q (Ib (hf h) (aPI q) [Ns vs]):=by
 unfold Rt a2F
 simp only[apA,Px]
 cases hp:Ib (hf h) (aPI q) [Ns vs]with
 |none=>simp[rtK]
 |some x=>
  obtain⟨ws,cs,m⟩:=x
  simp only[apA]
  match ws with
  | [v]=>
    simp only[rtK,aA5]
    exact propext ⟨fun⟨o,h',e,k⟩=>by cases e;exact k,fun k=>⟨_,_,rfl,k⟩⟩
  | []=>simp[rtK]
  |_::_::_=>simp[rtK]
theorem a9Z(vs:List AV)(h:Aa)(Q:Do→Aa→Prop):Rt1 0 (some vs) h Q=rtK Q (Ib (hf h) [] [Ns vs]):=a5L
theorem a5C(q:Nat)(vs:List AV)(h:Aa)(Q:Do→Aa→Prop):Rt (q+1) (some vs) h Q=rtK Q (Ib (hf h) (aPI (q+1)) [Ns vs]):=a5L
end
end
noncomputable section
set_option maxRecDepth 100000
def EVi:=PLift.up (ad8 @aRX (ad8 @aO9 (ad8 @a1Q (ad8 @a7Q (ad8 @a3P (ad8 @a9Y (ad8 @a6Y (ad8 @a7L (ad8 @a6A (ad8 @aVD (ad8 @aVX (ad8 @a50 (ad8 @a60 (ad8 @aWG (ad8 @aVY (ad8 @a4R (ad8 @aVS (ad8 @aU5 (ad8 @a1Y (ad8 @aWA (ad8 @aVP (ad8 @aYH (ad8 @a8V (ad8 @a2N (ad8 @aYZ (ad8 @bbC (ad8 @baY (ad8 @aZ9 (ad8 @aZE (ad8 @aWC @aYX))))))))))))))))))))))))))))))
def EVj:=PLift.up (ad8 @aXP (ad8 @bbF (ad8 @aXE (ad8 @aZ3 (ad8 @bbM (ad8 @beU (ad8 @aZS (ad8 @aYD (ad8 @a4X (ad8 @aV5 (ad8 @a00 (ad8 @a1C (ad8 @a6H (ad8 @a1T (ad8 @a83 (ad8 @a7F (ad8 @a5E (ad8 @a6P (ad8 @baF (ad8 @aO8 (ad8 @ba9 (ad8 @bdO (ad8 @a4N (ad8 @a9X (ad8 @a7E (ad8 @a87 (ad8 @a9S @aXF)))))))))))))))))))))))))))
def EVk:=PLift.up (ad8 @aYK (ad8 @baE (ad8 @a6O (ad8 @aWK (ad8 @aVB (ad8 @a21 (ad8 @aU7 (ad8 @bcK (ad8 @bd6 (ad8 @bbT (ad8 @a7Y (ad8 @a48 (ad8 @a2P (ad8 @a4Y (ad8 @a17 (ad8 @aVJ (ad8 @a9L (ad8 @a1G (ad8 @a0V (ad8 @a80 (ad8 @bcQ (ad8 @bd1 @a7M))))))))))))))))))))))
def EVl:=PLift.up (ad8 @a27 (ad8 @aTG (ad8 @a4D (ad8 @a7B (ad8 @a9J (ad8 @a9U (ad8 @aX5 (ad8 @bdQ (ad8 @a0C (ad8 @ba8 (ad8 @a0D (ad8 @aVE (ad8 @aRN (ad8 @aQ2 (ad8 @aND (ad8 @a9W (ad8 @aOY (ad8 @aOS (ad8 @aV3 (ad8 @a9Z (ad8 @a5C (ad8 @aRB.{0,0} (ad8 @List.flatMap_nil.{0,0} (ad8 @List.isEmpty_nil.{0} (ad8 @List.getD_cons_zero.{0} (ad8 @List.range_succ (ad8 @List.range_zero (ad8 @List.contains_nil.{0} @List.contains_cons.{0}))))))))))))))))))))))))))))
def EVm:=PLift.up (ad8 @List.getElem?_nil.{0} (ad8 @aSQ (ad8 @aJW (ad8 @aSR @aOO))))
end
noncomputable section
theorem agF{n:Nat}{fl nn:Bool}{rows:List (List AV)}(h:rows≠[]):Bt n fl nn rows=.imm n fl rows:=by
 cases rows with
 |nil=>exact(h rfl).elim
 |cons r rs=>rfl
theorem aNY(n:Nat)(fl:Bool)(rows:List (List AV)):Bt n fl true rows=.imm n fl rows:=by cases rows<;>rfl
section
variable {P:Program} {t e:TypeId} (hu:P.underlying t=some (.slice e))
include hu
theorem aME(n:Nat)(fl:Bool)(rows:List (List AV)):Kz P .eql t (.imm n fl rows) .nils=some (.bool false):=by simp[Kz,Js,hu]
end
def a7A(v:Option AV)(ns:Option (List Ad)):Option Hz:=v.bind fun v=>ns.map fun ns=>⟨.ret v,ns,[]⟩
theorem aUK(v:AV)(ns:List Ad):a7A (some v) (some ns)=some ⟨.ret v,ns,[]⟩:=ahF rfl rfl
theorem aWN(base:Nat)(v:AV)(c:CB)(cs:List CB):ac0 base (some (.ret v,c::cs))=a7A (Ce 8 (fun i=>base+i) v) (Hl (fun i=>base+i) base (c::cs)):=by
 simp only[ac0,a7A,apA,Do.v,Do.map]
section
variable {O:Ea}
theorem bdN(h:Aa)(f:Nat)(args:List AV):shC O h f args=if(aBF args||O.md f)=true then shK h (O.call (.sh f) args (Gy h))else cr (Cd O (hf h) h.length (.fn f) args):=ahF rfl rfl
end
theorem a7P(b r o:Nat)(l:List AV):aBF (.ptr b r o::l)=false:=ahF rfl rfl
theorem a6S(a b r n:Nat)(l:List AV):aBF (.slr a b r n::l)=false:=ahF rfl rfl
theorem bc5(b:Nat)(l:List AV):aBF (.yl b::l)=true:=ahF rfl rfl
theorem a8K:Gy []=[]:=ahF rfl rfl
theorem a4C(c:CB)(h:Aa):Gy (c::h)=c.clean::Gy h:=ahF rfl rfl
theorem a9M(h h':Aa):Gy (h++h')=Gy h++Gy h':=List.map_append
theorem a7Z(h:Aa)(b:Nat):(Gy h)[b]?=(h[b]?).map CB.clean:=by simp[Gy]
theorem a92(h:Aa):(Gy h).length=h.length:=by simp[Gy]
theorem bdM(ps:List Nat)(a b:Code)(t:List AV)(st:Ik):CB.clean (.lp ps a b t st)=.lp ps a b t st:=ahF rfl rfl
def Ar(h:Aa):Bool:=h.all fun c=>c.quiet c.clean
theorem aQJ:∀{h:Aa} (_:Ar h=true) (i:Nat) (l:Aa),Bh i h (Gy h++l)=some (Gv (i+h.length) l)
 | [],_,i,l=>by simp[Gy,Bh]
 |c::h,hq,i,l=>by
  simp only[Ar,List.all_cons,aO4]at hq
  have ih:=aQJ (h:=h) hq.2 (i+1) l
  simp only[Gy,List.map_cons,aN3,Bh,hq.1,cond_true]at ih ⊢
  rw[ih,aKE]
  congr 2;omega
theorem aHM:∀(cs:List CB) (i:Nat) (h:Aa),Bm h (Gv i cs)=h++cs
 | [],i,h=>by simp[Gv,Bm]
 |c::cs,i,h=>by simp[Gv,Bm,Ky,aHM cs]
theorem aGH(h:Aa)(o:Do)(h':Aa):shK h (some (o,h'))=(Bh 0 h h').map fun es=>(o,es):=ahF rfl rfl
def EVo:=PLift.up (ad8 @a2M (ad8 @a33 (ad8 @a43 (ad8 @a7D (ad8 @a6E (ad8 @bd7 (ad8 @a13 (ad8 @a8O (ad8 @a3K (ad8 @a8Q (ad8 @a7I @a9P)))))))))))
def EVn:=PLift.up (ad8 @aUH (ad8 @aT7 (ad8 @aUK @aWN)))
def EVp:=PLift.up (ad8 @bdN (ad8 @a7P (ad8 @a6S (ad8 @bc5 (ad8 @a8K (ad8 @a4C (ad8 @a9M (ad8 @a7Z (ad8 @a92 @bdM)))))))))
end
noncomputable section
def Bq:CB→Option (Nat × Bool × List (List AV))
 | .live st fl _ rows=>some (st,fl,rows)
 | .frz st fl rows=>some (st,fl,rows)
 |_=>none
def rdL(f:AV→Option (AV × List Nat)):List AV→Option (List AV × List Nat)
 | []=>some ([],[])
 |a::l=>(f a).bind fun p=>(rdL f l).map fun q=>(p.1::q.1,p.2++q.2)
def Br(f:AV→Option (AV × List Nat)):List (List AV)→Option (List (List AV) × List Nat)
 | []=>some ([],[])
 |r::rs=>(rdL f r).bind fun p=>(Br f rs).map fun q=>(p.1::q.1,p.2++q.2)
def rd:Nat→HF→AV→Option (AV × List Nat)
 |0,_,_=>none
 |d+1,g,v=>
  match v with
  | .slr st b r len=>((g b).bind Bq).bind fun z=>
     if z.1=st∧r=0∧len=z.2.2.length then
      (bif z.2.1 then some (.imm st true z.2.2,[b])else(Br (rd d g) z.2.2).map fun q=>(.imm st false q.1,b::q.2))
     else none
  | .agg cs=>(rdL (rd d g) cs).map fun q=>(.agg q.1,q.2)
  | .iface t x=>(rd d g x).map fun q=>(.iface t q.1,q.2)
  | .func fn [] []=>some (.func fn [] [],[])
  | .func _ _ _=>none
  | .tup _=>none
  | .ptr _ _ _=>none
  | .yl _=>none
  | .mapr _=>none
  | .itr _=>none
  | .imm _ _ _=>none
  | .iptr _=>none
  |v=>some (v,[])
theorem asT{f f':AV→Option (AV × List Nat)}:∀{l:List AV} {p:List AV × List Nat},rdL f l=some p→(∀x∈l,∀q,f x=some q→(∀b∈q.2,b∈p.2)→f' x=some q)→rdL f' l=some p
 | [],p,h,_=>h
 |a::l,p,h,hf=>by
  simp only[rdL,aoS,aoR]at h ⊢
  obtain⟨q,hq,r,hr,rfl⟩:=h
  exact⟨q,hf a (azO ..) q hq (fun b hb=>aD5 _ hb),r,asT hr (fun x hx q' hq' hs=>hf x (ay8 _ hx) q' hq' (fun b hb=>aEG _ (hs b hb))),rfl⟩
theorem Om{f f':AV→Option (AV × List Nat)}:∀{l:List (List AV)} {p:List (List AV) × List Nat},Br f l=some p→(∀r∈l,∀x∈r,∀q,f x=some q→(∀b∈q.2,b∈p.2)→f' x=some q)→Br f' l=some p
 | [],p,h,_=>h
 |a::l,p,h,hf=>by
  simp only[Br,aoS,aoR]at h ⊢
  obtain⟨q,hq,r,hr,rfl⟩:=h
  exact⟨q,asT hq (fun x hx q' hq' hs=>hf a (azO ..) x hx q' hq' (fun b hb=>aD5 _ (hs b hb))),r,
   Om hr (fun r' hr' x hx q' hq' hs=>hf r' (ay8 _ hr') x hx q' hq' (fun b hb=>aEG _ (hs b hb))),rfl⟩
def Agr(R:List Nat)(g g':HF):Prop:=∀b∈R,∀z,(g b).bind Bq=some z→(g' b).bind Bq=some z
theorem aET{g g':HF}:∀{d:Nat} {v:AV} {p:AV × List Nat},rd d g v=some p→Agr p.2 g g'→rd d g' v=some p
 |0,v,p,h,_=>by simp[rd]at h
 |d+1,v,p,h,ha=>by
  cases v with
  |slr st b r len=>
   simp only[rd,aoS]at h ⊢
   obtain⟨z,⟨c,hc,hz⟩,h⟩:=h
   split at h
   ·rename_i hq
    have hb:b∈p.2:=by
     cases hfl:z.2.1 with
     |true=>rw[hfl]at h;simp at h;rw[←h];simp
     |false=>rw[hfl]at h;simp only[cond_false,aoR]at h;obtain⟨q,_,rfl⟩:=h;simp
    have hz':=ha b hb z (by rw[hc];exact hz)
    obtain⟨c',hc',hz''⟩:=aoS.1 hz'
    refine⟨z,⟨c',hc',hz''⟩,?_⟩
    rw[if_pos hq]
    cases hfl:z.2.1 with
    |true=>rw[hfl]at h;exact h
    |false=>
     rw[hfl]at h
     simp only[cond_false,aoR]at h ⊢
     obtain⟨q,hq',rfl⟩:=h
     exact⟨q,Om hq' (fun r' _ x _ q' hx hs=>aET hx (fun b' hb'=>ha b' (ay8 _ (hs b' hb')))),rfl⟩
   ·cases h
  |agg cs=>
   simp only[rd,aoR]at h ⊢
   obtain⟨q,hq,rfl⟩:=h
   exact⟨q,asT hq (fun x _ q' hx hs=>aET hx (fun b hb=>ha b (hs b hb))),rfl⟩
  |iface t x=>
   simp only[rd,aoR]at h ⊢
   obtain⟨q,hq,rfl⟩:=h
   exact⟨q,aET hq ha,rfl⟩
  |func fn a b=>cases a<;>cases b<;>first|exact h|(simp[rd]at h)
  |_=>first|exact h|(simp[rd]at h)
theorem aQD{g:HF}:∀{d e:Nat} {v:AV} {p:AV × List Nat},d≤e→rd d g v=some p→rd e g v=some p
 |0,e,v,p,_,h=>by simp[rd]at h
 |d+1,0,v,p,he,h=>by omega
 |d+1,e+1,v,p,he,h=>by
  have IH:∀x q,rd d g x=some q→rd e g x=some q:=fun x q hx=>aQD (by omega) hx
  cases v with
  |slr st b r len=>
   simp only[rd,aoS]at h ⊢
   obtain⟨z,hz,h⟩:=h
   refine⟨z,hz,?_⟩
   split at h
   ·rename_i hq
    rw[if_pos hq]
    cases hfl:z.2.1 with
    |true=>rw[hfl]at h;exact h
    |false=>
     rw[hfl]at h
     simp only[cond_false,aoR]at h ⊢
     obtain⟨q,hq',rfl⟩:=h
     exact⟨q,Om hq' (fun r' _ x _ q' hx _=>IH x q' hx),rfl⟩
   ·cases h
  |agg cs=>
   simp only[rd,aoR]at h ⊢
   obtain⟨q,hq,rfl⟩:=h
   exact⟨q,asT hq (fun x _ q' hx _=>IH x q' hx),rfl⟩
  |iface t x=>
   simp only[rd,aoR]at h ⊢
   obtain⟨q,hq,rfl⟩:=h
   exact⟨q,IH _ _ hq,rfl⟩
  |func fn a b=>cases a<;>cases b<;>first|exact h|(simp[rd]at h)
  |_=>first|exact h|(simp[rd]at h)
theorem aA8{f:AV→Option (AV × List Nat)}{f':AV→Option AV}:∀{l:List AV} {p:List AV × List Nat},rdL f l=some p→(∀x∈l,∀q,f x=some q→f' x=some q.1)→Az f' l=some p.1
 | [],p,h,_=>by simp[rdL]at h;subst h;rfl
 |a::l,p,h,hf=>by
  simp only[rdL,aoS,aoR]at h
  obtain⟨q,hq,r,hr,rfl⟩:=h
  simp only[Az,hf a (azO ..) q hq,apA,aA8 hr (fun x hx=>hf x (ay8 _ hx)),aA5]
theorem aDT{f:AV→Option (AV × List Nat)}{f':AV→Option AV}:∀{l:List (List AV)} {p:List (List AV) × List Nat},Br f l=some p→(∀r∈l,∀x∈r,∀q,f x=some q→f' x=some q.1)→Az (Az f') l=some p.1
 | [],p,h,_=>by simp[Br]at h;subst h;rfl
 |a::l,p,h,hf=>by
  simp only[Br,aoS,aoR]at h
  obtain⟨q,hq,r,hr,rfl⟩:=h
  simp only[Az,aA8 hq (fun x hx=>hf a (azO ..) x hx),apA,aDT hr (fun r' hr'=>hf r' (ay8 _ hr')),aA5]
theorem aBV{g:HF}{b:Nat}{z:Nat × Bool × List (List AV)}(h:(g b).bind Bq=some z):Dt g b 0 z.2.2.length=some z:=by
 obtain⟨c,hc,hz⟩:=aoS.1 h
 unfold Dt
 rw[hc]
 cases c with
 |live st fl w rows=>simp[Bq]at hz;subst hz;simp
 |frz st fl rows=>simp[Bq]at hz;subst hz;simp
 |dead=>simp[Bq]at hz
 |lp=>simp[Bq]at hz
theorem aEF{g:HF}:∀{d:Nat} {v:AV} {p:AV × List Nat},rd d g v=some p→Dq d g v=some p.1
 |0,v,p,h=>by simp[rd]at h
 |d+1,v,p,h=>by
  cases v with
  |slr st b r len=>
   simp only[rd,aoS]at h
   obtain⟨z,hz,h⟩:=h
   split at h
   ·rename_i hq
    obtain⟨rfl,rfl,rfl⟩:=hq
    simp only[Dq,aBV (aoS.2 hz),apA]
    cases hfl:z.2.1 with
    |true=>rw[hfl]at h;simp at h;rw[←h];rfl
    |false=>
     rw[hfl]at h
     simp only[cond_false,aoR]at h
     obtain⟨q,hq',rfl⟩:=h
     simp[aDT hq' (fun r' _ x _ q' hx=>aEF hx)]
   ·cases h
  |agg cs=>
   simp only[rd,aoR]at h
   obtain⟨q,hq,rfl⟩:=h
   simp[Dq,aA8 hq (fun x _ q' hx=>aEF hx)]
  |iface t x=>
   simp only[rd,aoR]at h
   obtain⟨q,hq,rfl⟩:=h
   simp[Dq,aEF hq]
  |func fn a b=>cases a<;>cases b<;>first|(simp[rd]at h;subst h;rfl)|(simp[rd]at h)
  |_=>first|(simp[rd]at h;subst h;rfl)|(simp[rd]at h)
end
noncomputable section
open Go.RowKit
section
variable {P:Program} {O:Ea} {pr:Kt}
def fnS(P:Program)(rs:List ResultVar)(x:R):Option (Do × Aa):=
 match x with
 |some (.normal,s)|some (.ret,s)=>(Oh P s rs).map fun vs=>(.ret (Ns vs),s.h)
 |some (.pan v,s)=>some (.pan v,s.h)
 |_=>none
theorem a90{f:Nat}{fn:Func}(hf:P.funcs[f]?=some fn){c:Code}(hb:fn.body=some c){args:List AV}(hl:args.length≤fn.ntmps)(h:Aa):
 evS O P f args h=fnS P fn.results.toList (Bl O P Hv c [] ⟨mk fn.ntmps (ent args),h⟩):=by
 unfold evS
 simp only[hf,hb]
 rw[aXC _ _ hl]
 cases Bl O P Hv c [] ⟨mk fn.ntmps (ent args),h⟩with
 |none=>rfl
 |some x=>
  obtain⟨e,s⟩:=x
  cases e<;>rfl
def FnS(P:Program)(rs:List ResultVar)(Q:Do→Aa→Prop)(x:R):Prop:=∃o h,fnS P rs x=some (o,h)∧Q o h
def RtS(vs:Option (List AV))(h:Aa)(Q:Do→Aa→Prop):Prop:=
 match vs with
 |some vs=>Q (.ret (Ns vs)) h
 |none=>False
theorem aOL(rs:List ResultVar)(Q:Do→Aa→Prop)(t:List AV)(h:Aa):FnS P rs Q (some (.ret,⟨t,h⟩))=RtS (Oh P ⟨t,h⟩ rs) h Q:=by
 cases hr:Oh P ⟨t,h⟩ rs with
 |none=>simp[FnS,fnS,RtS,hr]
 |some vs=>
  have e:fnS P rs (some (.ret,⟨t,h⟩))=some (.ret (Ns vs),h):=by simp[fnS,hr]
  exact propext (Iff.intro (fun⟨o,h',e',q⟩=>by rw[e]at e';cases e';exact q) (fun q=>⟨_,_,e,q⟩))
theorem Nh(rs:List ResultVar)(Q:Do→Aa→Prop)(t:List AV)(h:Aa):FnS P rs Q (some (.normal,⟨t,h⟩))=RtS (Oh P ⟨t,h⟩ rs) h Q:=by
 rw[←aOL];rfl
theorem aV7(vs:List AV)(h:Aa)(Q:Do→Aa→Prop):RtS (some vs) h Q=Q (.ret (Ns vs)) h:=ahF rfl rfl
theorem aXJ{rs:List ResultVar}{Q:Do→Aa→Prop}:¬FnS P rs Q none:=fun⟨_,_,h,_⟩=>by simp[fnS]at h
def ShQ(O:Ea)(f:Nat)(args:List AV)(h:Aa)(Q:Do→Aa→Prop):Prop:=∃o h',O.call (.sh f) args h=some (o,h')∧Q o h'
theorem ShQ.start{f:Nat}{fn:Func}{c:Code}{args:List AV}{h:Aa}{Q:Do→Aa→Prop}(hp:pr f=none)(hf:P.funcs[f]?=some fn)(hb:fn.body=some c)(hl:Nat.ble args.length fn.ntmps=true)
 (he:FnS P fn.results.toList Q (Bl (om P pr) P 5000 c [] ⟨mk fn.ntmps (ent args),h⟩)) (hs:pr.sh f=none:=by exact rfl):ShQ (om P pr) f args h Q:=by
 obtain⟨o,h',e,q⟩:=he
 exact⟨o,h',a5I hp hs ((a90 hf hb (Nat.le_of_ble_eq_true hl) h).trans e),q⟩
theorem ShQ.eq{f:Nat}{args:List AV}{h:Aa}{o:Do}{h':Aa}(k:ShQ O f args h fun o1 h1=>(o1,h1)=(o,h')):O.call (.sh f) args h=some (o,h'):=by
 obtain⟨o1,h1,e,q⟩:=k
 rw[e,q]
def ncK(x:Option AV):OE:=
 match x with
 |some (.ptr b r o)=>some (.ret (.ptr b r o),[])
 |some (.iptr cs)=>some (.ret (.iptr cs),[])
 |some (.func (.func f) a c)=>some (.ret (.func (.func f) a c),[])
 |_=>none
theorem a6T(b r o:Nat):ncK (some (.ptr b r o))=some (.ret (.ptr b r o),[]):=ahF rfl rfl
theorem bd5(t:List AV)(h:Aa)(x:Operand):Df O P t h (.nilCheck x)=ncK (Ae t x):=by
 rw[Bi _ _ _ rfl]
 simp only[exec,ncK]
 cases Ae t x with
 |none=>rfl
 |some v=>
  cases v with
  |func fn a c=>cases fn<;>rfl
  |_=>rfl
theorem bbE(t:List AV)(h:Aa)(x:Operand):ftA O P t h (.nilCheck x)=some []:=ahF rfl rfl
end
def EVq:=PLift.up (ad8 @aOL (ad8 @Nh (ad8 @aV7 (ad8 @a6T (ad8 @bd5 @bbE)))))
end
noncomputable section
open Go.RowKit
section
variable {P:Program} {O:Ea}
end
def a59(k st:Nat)(fl:Bool)(rows:List (List AV))(v:AV)(g:Aa):Prop:=
 (rows=[]∧v=.nils)∨∃b w,v=.slr st (b+k) 0 rows.length∧g[b]?=some (.live st fl w rows)
def kl(k:Nat)(v:AV)(g:Aa):Aa:=
 match v with
 | .slr _ b _ _=>g.set (b-k) .dead
 |_=>g
theorem aCY(k:Nat)(v:AV)(g:Aa):(kl k v g).length=g.length:=by
 unfold kl;split<;>simp
def apE(v:AV)(st:Nat)(fl:Bool)(rows:List (List AV))(base:Nat):List Ad:=
 match v with
 | .slr _ b _ _=>[.put b .dead,.new base (.live st fl false rows)]
 |_=>[.new base (.live st fl false rows)]
theorem a3E{k n:Nat}{fl:Bool}{rows:List (List AV)}{v:AV}{g:Aa}(ho:a59 k n fl rows v g){pre:Aa}(hk:pre.length=k)(l:Aa)(r:List AV)(new:List (List AV))(hl:rows.length+(new.length+1)≤549755813888):
 apK n (pre++(g++l)) (some v) (some (fl,r::new))=some (.ret (.slr n (pre++(g++l)).length 0 (rows.length+(r::new).length)),apE v n fl (rows++r::new) (pre++(g++l)).length):=by
 rcases ho with⟨rfl,rfl⟩|⟨b,w,rfl,h2⟩
 ·rw[aOY,if_pos (by simp at hl ⊢;omega)]
  simp[apE]
 ·have hb:=(aCG.1 h2).1
  have hq:(pre++(g++l))[b+k]?=some (.live n fl w rows):=by
   rw[aU0 (by omega),aRT (by omega)]
   rw[show b+k-pre.length=b by omega];exact h2
  rw[aOS,hq,aND,if_pos ⟨rfl,by omega,by simp only[aKE];omega⟩]
  simp[apE]
theorem aW7{k n:Nat}{fl:Bool}{rows:List (List AV)}{v:AV}{g:Aa}(ho:a59 k n fl rows v g){pre:Aa}(hk:pre.length=k)(l:Aa)(st:Nat)(fl':Bool)(rows':List (List AV))(base:Nat):
 Bm (pre++(g++l)) (apE v st fl' rows' base)=pre++(kl k v g++(l++[.live st fl' false rows'])):=by
 rcases ho with⟨rfl,rfl⟩|⟨b,w,rfl,h2⟩
 ·simp[apE,Bm,Ky,kl]
 ·have hb:=(aCG.1 h2).1
  simp only[apE,Bm,Ky,kl,Nat.add_sub_cancel]
  rw[List.set_append_right _ _ (by omega),show b+k-pre.length=b by omega,List.set_append_left _ _ hb]
  simp
section
variable {P:Program} (ty:TypeId)
end
theorem aJ7{α:Type}{f:α→Option α}:∀{l:List α},(∀x∈l,f x=some x)→Az f l=some l
 | [],_=>rfl
 |a::l,h=>by simp only[Az,h a (azO ..),apA,aJ7 (fun x hx=>h x (ay8 _ hx)),aA5]
end
noncomputable section
open Go.RowKit
section
variable {P:Program} {O:Ea} {pr:Kt}
def rnX(O:Ea)(P:Program)(n:Nat)(k:List Ak)(t:List AV)(b:Nat)(h2:Aa)(x:Option CB):R:=
 match x with
 |some (.lp _ _ _ _ .ready)=>Bg (Bl O P n) k .normal ⟨t,h2.set b .dead⟩
 |some (.lp _ _ _ _ (.done .ret))=>Bg (Bl O P n) k .ret ⟨t,h2.set b .dead⟩
 |some (.lp _ _ _ _ (.done (.exit i)))=>Bg (Bl O P n) k (.exit i) ⟨t,h2.set b .dead⟩
 |_=>none
def rnE(O:Ea)(P:Program)(n:Nat)(k:List Ak)(t:List AV)(b:Nat)(h1:Aa)(x:OE):R:=
 match x with
 |some (.ret _,es)=>rnX O P n k t b (Bm h1 es) ((Bm h1 es)[b]?)
 |_=>none
def rnC(O:Ea)(h1:Aa)(b:Nat)(fv:Option AV):OE:=
 match fv with
 |some (.func (.func g) a c)=>cr (Dv O (hf h1) h1.length (Oy g (a++[.yl b]++c)) (a++[.yl b]++c))
 |_=>none
theorem bbQ(n:Nat)(k:List Ak)(t:List AV)(b:Nat)(h1:Aa)(x:Option Hz):
 (x.bind fun d=>match d.out with
   | .ret _=>
     let h2:=Bm h1 d.es
     match h2[b]? with
     |some (.lp _ _ _ _ .ready)=>Bg (Bl O P n) k .normal ⟨t,h2.set b .dead⟩
     |some (.lp _ _ _ _ (.done .ret))=>Bg (Bl O P n) k .ret ⟨t,h2.set b .dead⟩
     |some (.lp _ _ _ _ (.done (.exit i)))=>Bg (Bl O P n) k (.exit i) ⟨t,h2.set b .dead⟩
     |_=>none
   | .pan _=>none)=rnE O P n k t b h1 (cr x):=by
 cases x with
 |none=>rfl
 |some d=>
  obtain⟨o,es,fs⟩:=d
  cases o<;>rfl
theorem baC(n:Nat)(f:Operand)(ps:Array Nat)(asg body:Code)(k:List Ak)(t:List AV)(h:Aa):
 Bl O P (n+1) (.rangeFunc f ps asg body) k ⟨t,h⟩=rnE O P n k t h.length (h++[.lp ps.toList asg body t .ready]) (rnC O (h++[.lp ps.toList asg body t .ready]) h.length (Ae t f)):=by
 simp only[Bl,rnC]
 cases Ae t f with
 |none=>rfl
 |some v=>
  simp only[apA]
  cases v with
  |func fn a c=>
   cases fn with
   |func g=>exact bbQ n k t h.length _ _
   |_=>rfl
  |_=>rfl
theorem a7G(h1:Aa)(b g:Nat)(a c:List AV):rnC O h1 b (some (.func (.func g) a c))=if hdR (a++[.yl b]++c)=true then shC O h1 g (a++[.yl b]++c)else cr (Cd O (hf h1) h1.length (.fn g) (a++[.yl b]++c)):=aYP h1 g _
theorem a3F(n:Nat)(k:List Ak)(t:List AV)(b:Nat)(h1:Aa)(v:AV)(es:List Ad):rnE O P n k t b h1 (some (.ret v,es))=rnX O P n k t b (Bm h1 es) ((Bm h1 es)[b]?):=ahF rfl rfl
theorem aRZ(n:Nat)(k:List Ak)(t:List AV)(b:Nat)(h2:Aa)(ps:List Nat)(asg body:Code)(tm:List AV):rnX O P n k t b h2 (some (.lp ps asg body tm .ready))=Bg (Bl O P n) k .normal ⟨t,h2.set b .dead⟩:=ahF rfl rfl
def slK(h:Aa)(b:Nat)(ok:Ik→Bool)(st:Ik)(x:Option CB):Option Aa:=
 match x with
 |some (.lp ps asg body tmps st')=>if ok st' then some (h.set b (.lp ps asg body tmps st))else none
 |_=>none
theorem bdF(h:Aa)(b:Nat)(ok:Ik→Bool)(st:Ik):Le h b ok st=slK h b ok st (h[b]?):=by
 unfold Le slK
 cases h[b]? with
 |none=>rfl
 |some c=>cases c<;>rfl
theorem aWH(h:Aa)(b:Nat)(st:Ik)(ps:List Nat)(asg body:Code)(tm:List AV):slK h b Ik.isReady st (some (.lp ps asg body tm .ready))=some (h.set b (.lp ps asg body tm st)):=ahF rfl rfl
theorem a0T(h:Aa)(b:Nat)(st:Ik)(ps:List Nat)(asg body:Code)(tm:List AV):slK h b Ik.isBusy st (some (.lp ps asg body tm .busy))=some (h.set b (.lp ps asg body tm st)):=ahF rfl rfl
def a08(O:Ea)(P:Program)(body:Code)(t:List AV)(x:Option Aa):R:=
 match x with
 |some h1=>Bl O P 5000 body [] ⟨t,h1⟩
 |none=>none
def aYG(O:Ea)(P:Program)(b:Nat)(body:Code)(x:R):R:=
 match x with
 |some (.normal,s)=>a08 O P body s.tmps (Le s.h b Ik.isReady .busy)
 |_=>none
def aKV(r:Bool)(x:Option Aa):Option (Do × Aa):=x.map fun h2=>(.ret (.bool r),h2)
def aSJ(b:Nat)(x:R):Option (Do × Aa):=
 match x with
 |some (.normal,s)=>aKV true (Le s.h b Ik.isBusy .ready)
 |some (.ret,s)=>aKV false (Le s.h b Ik.isBusy (.done .ret))
 |some (.exit i,s)=>aKV false (Le s.h b Ik.isBusy (.done (.exit i)))
 |_=>none
theorem aRV(body:Code)(t:List AV)(h:Aa):a08 O P body t (some h)=Bl O P 5000 body [] ⟨t,h⟩:=ahF rfl rfl
theorem aMF(b:Nat)(body:Code)(t:List AV)(h:Aa):aYG O P b body (some (.normal,⟨t,h⟩))=a08 O P body t (Le h b Ik.isReady .busy):=ahF rfl rfl
theorem aTP(r:Bool)(h:Aa):aKV r (some h)=some (.ret (.bool r),h):=ahF rfl rfl
theorem aXG{vs:List AV}{b:Nat}{h:Aa}{ps:List Nat}{asg body:Code}{tm:List AV}{st:Ik}(hb:h[b]?=some (.lp ps asg body tm st))(hl:ps.length=vs.length):
 Jm O P (vs++[.yl b]) h=aSJ b (aYG O P b body (Bl O P 5000 asg [] ⟨Lx tm ps vs,h⟩)):=by
 unfold Jm
 simp only[List.reverse_append,List.reverse_cons,List.reverse_nil,aHA,aN3,List.reverse_reverse,List.length_reverse,hb,hl,if_true,Hv]
 cases Bl O P 5000 asg [] ⟨Lx tm ps vs,h⟩with
 |none=>rfl
 |some x=>
  obtain⟨e,s⟩:=x
  cases e with
  |normal=>
   simp only[apA,aYG]
   cases Le s.h b Ik.isReady .busy with
   |none=>rfl
   |some h1=>
    simp only[apA,a08]
    cases Bl O P 5000 body [] ⟨s.tmps,h1⟩with
    |none=>rfl
    |some y=>
     obtain⟨e,s⟩:=y
     cases e with
     |normal=>simp only[apA,Ln,aSJ,aKV];cases Le s.h b Ik.isBusy .ready<;>rfl
     |ret=>simp only[apA,Ln,aSJ,aKV];cases Le s.h b Ik.isBusy (.done .ret)<;>rfl
     |exit i=>simp only[apA,Ln,aSJ,aKV];cases Le s.h b Ik.isBusy (.done (.exit i))<;>rfl
     |pan v=>rfl
  |_=>rfl
def RnE(b:Nat)(Q:Do→Aa→Prop)(x:R):Prop:=∃o h',aSJ b x=some (o,h')∧Q o h'
def RnQ(O:Ea)(args:List AV)(h:Aa)(Q:Do→Aa→Prop):Prop:=∃o h',O.call .round args h=some (o,h')∧Q o h'
theorem RnQ.start{vs:List AV}{b:Nat}{h:Aa}{ps:List Nat}{asg body:Code}{tm:List AV}{st:Ik}{Q:Do→Aa→Prop}(hb:h[b]?=some (.lp ps asg body tm st))(hl:ps.length=vs.length)
 (he:RnE b Q (aYG (om P pr) P b body (Bl (om P pr) P 5000 asg [] ⟨Lx tm ps vs,h⟩))):RnQ (om P pr) (vs++[.yl b]) h Q:=by
 obtain⟨o,h',e,q⟩:=he
 exact⟨o,h',aNJ ((aXG hb hl).trans e),q⟩
theorem a52{C:R→Prop}{n f b:Nat}{k:List Ak}{t:List AV}{h1 h2:Aa}{args:List AV}{Q:Do→Aa→Prop}(hq:ShQ O f args h2 Q)(hk:∀o h',Q o h'→C (rnE O P n k t b h1 (shK h1 (some (o,h'))))):C (rnE O P n k t b h1 (shK h1 (O.call (.sh f) args h2))):=by
 obtain⟨o,h',e,q⟩:=hq
 rw[e];exact hk o h' q
theorem aT5(b:Nat)(Q:Do→Aa→Prop)(t:List AV)(h:Aa):RnE b Q (some (.normal,⟨t,h⟩))=∃o h',aKV true (Le h b Ik.isBusy .ready)=some (o,h')∧Q o h':=ahF rfl rfl
theorem a2E(h:Aa)(f:Nat)(args:List AV):aPE O h f args=if(aBF args||O.md f)=true then some [.all]else ftR h args:=ahF rfl rfl
theorem aYE{b:Nat}{Q:Do→Aa→Prop}:¬RnE b Q none:=fun⟨_,_,h,_⟩=>by simp[aSJ]at h
theorem a24(n:Nat)(t:Tm)(p:Nat)(ps:List Nat)(v:AV)(vs:List AV):Lx (mk n t) (p::ps) (v::vs)=Lx (mk n (up t p v)) ps vs:=by
 simp only[Lx,aVA]
theorem a8A(n:Nat)(t:Tm)(vs:List AV):Lx (mk n t) [] vs=mk n t:=by cases vs<;>rfl
end
def Py(f:Nat→Nat):Aw→Aw
 | .cells b o n=>.cells (f b) o n
 | .blk b=>.blk (f b)
 | .all=>.all
def lgF(f:Nat→Nat)(log:Oe):List (List Aw × List Aw):=log.map fun x=>(x.1.map fun e=>Py f e.foot,x.2.map (Py f))
def aJI(x y:List Aw × List Aw):Bool:=x.1.any (fun f=>(y.1++y.2).any f.meets)||y.1.any (fun f=>x.2.any f.meets)
def aHQ(ops:List Oper)(lg:List (List Aw × List Aw)):Bool:=
 (aDV ops).all fun(i,j)=>match lg[i]?,lg[j]? with
   |some x,some y=> !aJI x y
   |_,_=>false
def aPG(n q:Nat)(b:Nat):Nat:=if b<q then b else b-n+1000
theorem am0{n q b:Nat}(h:b<q):aPG n q b=b:=by simp[aPG,h]
theorem aFN(f:Nat→Nat)(x y:Aw)(h:x.meets y=true):(Py f x).meets (Py f y)=true:=by
 cases x<;>cases y<;>simp_all[Aw.meets,Py]
theorem aXH(f:Nat→Nat)(x y:List Ad × List Aw)(h:Jq x y=true):aJI (x.1.map fun e=>Py f e.foot,x.2.map (Py f)) (y.1.map fun e=>Py f e.foot,y.2.map (Py f))=true:=by
 simp only[Jq,aJI,aU1,aU2,aCH,aG2]at h ⊢
 rcases h with⟨a,⟨e,he,rfl⟩,b,hb,hm⟩|⟨a,⟨e,he,rfl⟩,b,hb,hm⟩
 ·refine .inl ⟨_,⟨e,he,rfl⟩,Py f b,?_,aFN f _ _ hm⟩
  rcases hb with⟨e',he',rfl⟩|hb
  ·exact .inl ⟨e',he',rfl⟩
  ·exact .inr ⟨b,hb,rfl⟩
 ·exact .inr ⟨_,⟨e,he,rfl⟩,Py f b,⟨b,hb,rfl⟩,aFN f _ _ hm⟩
theorem aEH(f:Nat→Nat){ops:List Oper}{log:Oe}(h:aHQ ops (lgF f log)=true):Dc ops log=true:=by
 simp only[aHQ,Dc,aEM]at h ⊢
 rintro⟨i,j⟩ hij
 have:=h (i,j) hij
 simp only[lgF,aI5]at this ⊢
 cases hi:log[i]? with
 |none=>simp[hi]at this
 |some x=>
  cases hj:log[j]? with
  |none=>simp[hi,hj]at this
  |some y=>
   simp only[hi,hj,aA5,aU3,aX6]at this ⊢
   cases hc:Jq x y with
   |false=>rfl
   |true=>rw[aXH f x y hc]at this;cases this
theorem aJC(n q:Nat){C:R→Prop}{ops:List Oper}{log:Oe}{k:R}(hb:aHQ ops (lgF (aPG n q) log)=true)(h:True→C k):C (Ey (Dc ops log) k):=aGF (aEH _ hb) h
theorem aAG(f:Nat→Nat):lgF f []=[]:=ahF rfl rfl
theorem ahD(f:Nat→Nat)(x:List Ad)(y:List Aw)(l:Oe):lgF f ((x,y)::l)=(x.map (fun e=>Py f e.foot),y.map (Py f))::lgF f l:=ahF rfl rfl
theorem Nx(f:Nat→Nat)(b o n:Nat):Py f (.cells b o n)=.cells (f b) o n:=ahF rfl rfl
theorem az9(f:Nat→Nat)(b:Nat):Py f (.blk b)=.blk (f b):=ahF rfl rfl
theorem aAK(b:Nat)(c:CB):Ad.foot (.new b c)=.blk b:=ahF rfl rfl
theorem az1(b:Nat)(c:CB):Ad.foot (.put b c)=.blk b:=ahF rfl rfl
theorem Ob(b r o:Nat)(vs:List AV):Ad.foot (.cells b r o vs)=.cells b o vs.length:=ahF rfl rfl
section
variable {P:Program} {O:Ea}
end
def EVs:=PLift.up (ad8 @baC (ad8 @a7G (ad8 @a3F (ad8 @aRZ (ad8 @bdF (ad8 @aWH (ad8 @a0T (ad8 @aRV (ad8 @aMF (ad8 @aTP (ad8 @aT5 (ad8 @a24 (ad8 @a2E @a8A)))))))))))))
end
noncomputable section
open Go.RowKit
set_option maxRecDepth 100000
def EVZ:=PLift.up (ad8 EVa.down (ad8 EVb.down (ad8 EVc.down (ad8 EVd.down (ad8 EVe.down (ad8 EVf.down (ad8 EVg.down (ad8 EVh.down (ad8 EVi.down (ad8 EVj.down (ad8 EVk.down (ad8 EVl.down (ad8 EVm.down (ad8 EVn.down (ad8 EVo.down (ad8 EVp.down EVq.down))))))))))))))))
section
variable {P:Program} {O:Ea}
class NoN(C:R→Prop):Prop where
 no:¬C none
instance{q:Nat}{rs:List ResultVar}{Q:Do→Aa→Prop}:NoN (FnE P q rs Q):=⟨aYY⟩
instance{rs:List ResultVar}{Q:Do→Aa→Prop}:NoN (FnS P rs Q):=⟨aXJ⟩
instance{N:Nat}{J:Tm→Aa→Prop}{Q:Ex→St→Prop}:NoN (Rnd N J Q):=⟨aX3⟩
instance{b:Nat}{Q:Do→Aa→Prop}:NoN (RnE b Q):=⟨aYE⟩
end
end
noncomputable section
open Go.RowKit
set_option maxRecDepth 100000
section
variable {P:Program} {O:Ea}
class Spl(r:R)(b:outParam Bool)(x y:outParam R):Prop where
 sp:∀{C:R→Prop},(b=true→C x)→(b=false→C y)→C r
instance{n:Nat}{k:List Ak}{d:Option Nat}{op:Op}{cs:List CO}{b w:Bool}{t:List AV}{h:Aa}:Spl (rcG O P n k d op cs (.bool b) w t h) b (rcG O P n k d op cs (.bool true) w t h) (rcG O P n k d op cs (.bool false) w t h):=⟨bbJ⟩
instance{n:Nat}{x y:Code}{k:List Ak}{g:Bool}{s:St}:Spl (cdK O P n x y k (some (.bool g)) s) g (Bl O P n x k s) (Bl O P n y k s):=⟨bbX⟩
instance{n:Nat}{k:List Ak}{d:Option Nat}{op:Op}{cs:List CO}{b w:Bool}{t:List AV}{h:Aa}:Spl (rqG O P n k d op cs (.bool b) w t h) b (rqG O P n k d op cs (.bool true) w t h) (rqG O P n k d op cs (.bool false) w t h):=⟨bc4⟩
instance{n:Nat}{k:List Ak}{d:Option Nat}{op:Op}{cs:List CO}{b w:Bool}{t:List AV}{h:Aa}:Spl (rwG O P n k d op cs (.bool b) w t h) b (rwG O P n k d op cs (.bool true) w t h) (rwG O P n k d op cs (.bool false) w t h):=⟨bd9⟩
instance{n:Nat}{k:List Ak}{ops:List Oper}{d:Option Nat}{op:Op}{cs:List CO}{b w:Bool}{t:List AV}{h:Aa}{log:Oe}:Spl (rlG O P n k ops d op cs (.bool b) w t h log) b (rlG O P n k ops d op cs (.bool true) w t h log) (rlG O P n k ops d op cs (.bool false) w t h log):=⟨bc7⟩
theorem Au{C:R→Prop}{r x y:R}{b:Bool}(h1:b=true→C x)(h2:b=false→C y)(s:Spl r b x y:=by infer_instance):C r:=s.sp h1 h2
class Drw(i:Nat)(r:R)(c:outParam Bool)(r':outParam R):Prop where
 dr:∀{C:R→Prop},¬C none→c=true→C r'→C r
instance{b:Bool}{k:R}:Drw 0 (Ey b k) b k:=⟨fun _=>a5S⟩
instance{n id:Nat}{ops:Array Oper}{k:List Ak}{t:List AV}{h:Aa}:Drw 1 (Bl O P (n+1) (.region id ops true) k ⟨t,h⟩) (Jw ops.toList&&aQP ops.toList) (rw O P n k (ops.toList.map (Gf ops.toList)) t h):=⟨fun h=>bd0 h⟩
instance{n id:Nat}{ops:Array Oper}{k:List Ak}{t:List AV}{h:Aa}:Drw 2 (Bl O P (n+1) (.region id ops true) k ⟨t,h⟩) (Jw ops.toList&&baZ ops.toList) (rq O P n k (ops.toList.map (Gf ops.toList)) t h):=⟨fun h=>bcI h⟩
instance{n id:Nat}{ops:Array Oper}{k:List Ak}{t:List AV}{h:Aa}:Drw 3 (Bl O P (n+1) (.region id ops true) k ⟨t,h⟩) (Jw ops.toList) (rl O P n k ops.toList (ops.toList.map (Gf ops.toList)) t h []):=⟨fun h=>ba4 h⟩
structure Dw(r r':R):Prop where
 dr:∀{C:R→Prop},¬C none→C r'→C r
theorem dg{r r':R}{c:Bool}[d:Drw 0 r c r'](h:c=true:=by kernel_rfl):Dw r r':=⟨fun n k=>d.dr n h k⟩
theorem dw(i:Nat){r r':R}{c:Bool}[d:Drw i r c r'](h:c=true:=by decide+kernel):Dw r r':=⟨fun n k=>d.dr n h k⟩
theorem fd{C:R→Prop}{r r':R}[n:NoN C](k:C r')(e:Dw r r':=by first|exact dg|exact dw 1|exact dw 2|exact dw 3):C r:=e.dr n.no k
theorem fdq{C:R→Prop}{r r':R}[n:NoN C](k:C r')(e:Dw r r':=by first|exact dw 1|exact dw 2|exact dw 3):C r:=e.dr n.no k
end
section
variable {P:Program} {O:Ea}
def Un(O:Ea)(P:Program)(n:Nat)(k:List Ak)(c:Code)(C:R→Prop):R→Prop
 |some (.normal,s)=>C (lpK O P n k (O.loop c s))
 |some (e,s)=>C (Bg (Bl O P n) k e s)
 |none=>False
instance{n:Nat}{k:List Ak}{c:Code}{C:R→Prop}:NoN (Un O P n k c C):=⟨fun h=>h⟩
end
theorem aVC:IntKind.i64.wrap 1=1:=ahF rfl rfl
def EE:=PLift.up (ad8 EVZ.down (ad8 @aVC (ad8 @Gf.eq_1 (ad8 @Ae.eq_1 (ad8 @Ae.eq_2 (ad8 @Ae.eq_4 (ad8 @Ax.eq_1 (ad8 @Ax.eq_2 (ad8 @aIN.eq_3 (ad8 @awN.eq_1 (ad8 @awN.eq_2 (ad8 @awN.eq_4 (ad8 @awN.eq_5 (ad8 @awN.eq_6 (ad8 @awN.eq_8 (ad8 @Bm.eq_1 (ad8 @Bm.eq_2 (ad8 @Ky.eq_1 (ad8 @Ky.eq_2 (ad8 @Ky.eq_3 (ad8 @Hw.eq_1 (ad8 @Bo.eq_1 (ad8 @bsK.eq_1 (ad8 @Ns.eq_1 (ad8 @Ns.eq_2 (ad8 @decide_true @decide_false))))))))))))))))))))))))))
def EF:=PLift.up (ad8 EE.down EE.down)
def EG:=PLift.up (ad8 EF.down EVs.down)
end
noncomputable section
open Go.RowKit
def Cl(g:HF)(S:List Nat):Prop:=∀b∈S,∃z,(g b).bind Bq=some z∧(z.2.1=false→∃d q,d≤8∧Br (rd d g) z.2.2=some q∧∀x∈q.2,x∈S)
theorem Cl.nil(g:HF):Cl g []:=fun _ h=>by cases h
theorem Cl.app{g:HF}{S T:List Nat}(h1:Cl g S)(h2:Cl g T):Cl g (S++T):=fun b hb=>by
 rcases aCH.1 hb with h|h
 ·obtain⟨z,k1,k2⟩:=h1 b h
  exact⟨z,k1,fun e=>by obtain⟨d,q,a1,a2,a3⟩:=k2 e;exact⟨d,q,a1,a2,fun x hx=>aD5 _ (a3 x hx)⟩⟩
 ·obtain⟨z,k1,k2⟩:=h2 b h
  exact⟨z,k1,fun e=>by obtain⟨d,q,a1,a2,a3⟩:=k2 e;exact⟨d,q,a1,a2,fun x hx=>aEG _ (a3 x hx)⟩⟩
theorem clL{g:HF}{f:AV→Option (AV × List Nat)}:∀{l:List AV} {p:List AV × List Nat},rdL f l=some p→(∀x∈l,∀q,f x=some q→Cl g q.2)→Cl g p.2
 | [],p,h,_=>by simp[rdL]at h;subst h;exact Cl.nil g
 |a::l,p,h,hf=>by
  simp only[rdL,aoS,aoR]at h
  obtain⟨q,hq,r,hr,rfl⟩:=h
  exact(hf a (azO ..) q hq).app (clL hr fun x hx=>hf x (ay8 _ hx))
theorem clR{g:HF}{f:AV→Option (AV × List Nat)}:∀{l:List (List AV)} {p:List (List AV) × List Nat},Br f l=some p→(∀r∈l,∀x∈r,∀q,f x=some q→Cl g q.2)→Cl g p.2
 | [],p,h,_=>by simp[Br]at h;subst h;exact Cl.nil g
 |a::l,p,h,hf=>by
  simp only[Br,aoS,aoR]at h
  obtain⟨q,hq,r,hr,rfl⟩:=h
  exact(clL hq (hf a (azO ..))).app (clR hr fun x hx=>hf x (ay8 _ hx))
theorem aZQ{g:HF}:∀{d:Nat} {v:AV} {p:AV × List Nat},d≤9→rd d g v=some p→Cl g p.2
 |0,v,p,_,h=>by simp[rd]at h
 |d+1,v,p,hd,h=>by
  have IH:∀x q,rd d g x=some q→Cl g q.2:=fun x q hx=>aZQ (by omega) hx
  cases v with
  |slr st b r len=>
   simp only[rd,aoS]at h
   obtain⟨z,hz,h⟩:=h
   have hz':(g b).bind Bq=some z:=aoS.2 hz
   split at h
   ·cases hfl:z.2.1 with
    |true=>
     rw[hfl]at h;simp at h;rw[←h]
     intro b' hb'
     simp at hb';subst hb'
     exact⟨z,hz',fun e=>by rw[hfl]at e;cases e⟩
    |false=>
     rw[hfl]at h;simp only[cond_false,aoR]at h
     obtain⟨q,hq,rfl⟩:=h
     intro b' hb'
     rcases azV.1 hb' with rfl|hb'
     ·exact⟨z,hz',fun _=>⟨d,q,by omega,hq,fun x hx=>ay8 _ hx⟩⟩
     ·obtain⟨z',k1,k2⟩:=clR hq (fun r _ x _=>IH x) b' hb'
      exact⟨z',k1,fun e=>by obtain⟨d',q',a1,a2,a3⟩:=k2 e;exact⟨d',q',a1,a2,fun x hx=>ay8 _ (a3 x hx)⟩⟩
   ·cases h
  |agg cs=>
   simp only[rd,aoR]at h
   obtain⟨q,hq,rfl⟩:=h
   exact clL hq fun x _=>IH x
  |iface t x=>
   simp only[rd,aoR]at h
   obtain⟨q,hq,rfl⟩:=h
   exact IH x q hq
  |func fn a b=>
   cases a<;>cases b<;>first|(simp[rd]at h;subst h;exact Cl.nil g)|(simp[rd]at h)
  |_=>first|(simp[rd]at h;subst h;exact Cl.nil g)|(simp[rd]at h)
end
end Go.Ev
namespace Go.Ev
open Go.RowKit
structure Kp(lent:List Nat)(H H1:Aa):Prop where
 len:H.length≤H1.length
 rows:∀b,b<H.length→(hf H1 b).bind Bq=(hf H b).bind Bq
 same:∀b,b<H.length→b∉lent→H1[b]?=H[b]?
end Go.Ev
namespace Go.Ev
noncomputable section
open Go.RowKit
theorem aEE{g:HF}:∀{d e:Nat} {v:AV} {p:AV × List Nat},d≤e→rd d g v=some p→Fa e g v=some p.1
 |0,e,v,p,_,h=>by simp[rd]at h
 |d+1,0,v,p,he,h=>by omega
 |d+1,e+1,v,p,he,h=>by
  cases v with
  |slr st b r len=>exact aEF (aQD he h)
  |agg cs=>
   simp only[rd,aoR]at h
   obtain⟨q,hq,rfl⟩:=h
   simp[Fa,aA8 (f':=Fa e g) hq (fun x _ q' hx=>aEE (show d≤e by omega) hx)]
  |iface t x=>
   simp only[rd,aoR]at h
   obtain⟨q,hq,rfl⟩:=h
   simp[Fa,aEE (show d≤e by omega) hq]
  |func fn a b=>cases a<;>cases b<;>first|(simp[rd]at h;subst h;rfl)|(simp[rd]at h)
  |_=>first|(simp[rd]at h;subst h;rfl)|(simp[rd]at h)
theorem aZV{f:AV→Option (AV × List Nat)}{f':AV→List Nat}:∀{l:List AV} {p:List AV × List Nat},rdL f l=some p→(∀x∈l,∀q,f x=some q→∀b∈f' x,b∈q.2)→∀b∈l.flatMap f',b∈p.2
 | [],p,h,_=>fun b hb=>by simp at hb
 |a::l,p,h,hf=>fun b hb=>by
  simp only[rdL,aoS,aoR]at h
  obtain⟨q,hq,r,hr,rfl⟩:=h
  rw[aRB]at hb
  rcases aCH.1 hb with hb|hb
  ·exact aD5 _ (hf a (azO ..) q hq b hb)
  ·exact aEG _ (aZV hr (fun x hx=>hf x (ay8 _ hx)) b hb)
theorem a5X{f:AV→Option (AV × List Nat)}{f':AV→List Nat}:∀{l:List (List AV)} {p:List (List AV) × List Nat},Br f l=some p→(∀r∈l,∀x∈r,∀q,f x=some q→∀b∈f' x,b∈q.2)→∀b∈l.flatMap (fun cs=>cs.flatMap f'),b∈p.2
 | [],p,h,_=>fun b hb=>by simp at hb
 |a::l,p,h,hf=>fun b hb=>by
  simp only[Br,aoS,aoR]at h
  obtain⟨q,hq,r,hr,rfl⟩:=h
  rw[aRB]at hb
  rcases aCH.1 hb with hb|hb
  ·exact aD5 _ (aZV hq (hf a (azO ..)) b hb)
  ·exact aEG _ (a5X hr (fun x hx=>hf x (ay8 _ hx)) b hb)
theorem aBA{g:HF}:∀{e d:Nat} {v:AV} {p:AV × List Nat},rd d g v=some p→∀b∈Ao e g v,b∈p.2
 |0,d,v,p,_,b,hb=>by simp[Ao]at hb
 |e+1,0,v,p,h,b,hb=>by simp[rd]at h
 |e+1,d+1,v,p,h,b,hb=>by
  cases v with
  |slr st c r len=>
   simp only[rd,aoS]at h
   obtain⟨z,hz,h⟩:=h
   split at h
   ·rename_i hq
    obtain⟨rfl,rfl,rfl⟩:=hq
    simp only[Ao,aBV (aoS.2 hz)]at hb
    cases hfl:z.2.1 with
    |true=>rw[hfl]at h hb;simp at h hb;rw[←h];simp[hb]
    |false=>
     rw[hfl]at h hb
     simp only[cond_false,aoR]at h
     obtain⟨q,hq',rfl⟩:=h
     rcases azV.1 hb with rfl|hb
     ·exact azO ..
     ·exact ay8 _ (a5X hq' (fun r _ x _ q' hx b hb=>aBA hx b hb) b (by simpa using hb))
   ·cases h
  |agg cs=>
   simp only[rd,aoR]at h
   obtain⟨q,hq,rfl⟩:=h
   exact aZV hq (fun x _ q' hx b hb=>aBA hx b hb) b hb
  |iface t x=>
   simp only[rd,aoR]at h
   obtain⟨q,hq,rfl⟩:=h
   exact aBA hq b hb
  |_=>simp[Ao]at hb
theorem Du{C:R→Prop}[n:NoN C]{r:R}(h:∀K:R→Prop,NoN K→(∀x,C x→K x)→K r):C r:=h C n fun _ h=>h
theorem aoT{v:AV}{H:Aa}{b:Nat}(l:List CB)(hb:b<H.length)(hv:∀a c r m,v=.slr a c r m→c≠b):(kl 0 v H++l)[b]?=H[b]?:=by
 rw[aRT (by rw[aCY];exact hb)]
 unfold kl
 split
 ·rename_i a c r m
  rw[aYU];simpa using hv a c r m rfl
 ·rfl
theorem awX{H:Aa}{b:Nat}{z:Nat × Bool × List (List AV)}(h:(hf H b).bind Bq=some z):b<H.length:=by
 obtain⟨c,hc,_⟩:=aoS.1 h
 exact(aCG.1 hc).1
theorem anI{g g':HF}{d:Nat}{l:List AV}{p:List AV × List Nat}(h:rdL (rd d g) l=some p)(ha:Agr p.2 g g'):rdL (rd d g') l=some p:=
 asT h fun _ _ _ hq hs=>aET hq fun b hb=>ha b (hs b hb)
theorem aF8{g g':HF}{d:Nat}{l:List (List AV)}{p:List (List AV) × List Nat}(h:Br (rd d g) l=some p)(ha:Agr p.2 g g'):Br (rd d g') l=some p:=
 Om h fun _ _ _ _ _ hq hs=>aET hq fun b hb=>ha b (hs b hb)
theorem aGG{H:Aa}{d:Nat}{l:List AV}{p:List AV × List Nat}(hd:d≤9)(h:rdL (rd d (hf H)) l=some p):∀b∈p.2,b<H.length:=fun b hb=>by
 obtain⟨z,hz,_⟩:=clL h (fun x _ q hx=>aZQ hd hx) b hb
 exact awX hz
theorem aIP{H:Aa}{d:Nat}{l:List (List AV)}{p:List (List AV) × List Nat}(hd:d≤9)(h:Br (rd d (hf H)) l=some p):∀b∈p.2,b<H.length:=fun b hb=>by
 obtain⟨z,hz,_⟩:=clR h (fun r _ x _ q hx=>aZQ hd hx) b hb
 exact awX hz
theorem aE6{f:AV→Option (AV × List Nat)}:∀{l:List (List AV)} {p:List (List AV) × List Nat},Br f l=some p→l.length=p.1.length
 | [],p,h=>by simp[Br]at h;subst h;rfl
 |a::l,p,h=>by
  simp only[Br,aoS,aoR]at h
  obtain⟨q,hq,r,hr,rfl⟩:=h
  simp[aE6 hr]
theorem aG0{f:AV→Option (AV × List Nat)}:∀{l:List (List AV)} {p:List (List AV) × List Nat} {i:Nat} {X:List AV},Br f l=some p→p.1[i]?=some X→∃r R,l[i]?=some r∧rdL f r=some (X,R)
 | [],p,i,X,h,hx=>by simp[Br]at h;subst h;simp at hx
 |a::l,p,i,X,h,hx=>by
  simp only[Br,aoS,aoR]at h
  obtain⟨q,hq,r,hr,rfl⟩:=h
  cases i with
  |zero=>simp at hx;subst hx;exact⟨a,q.2,rfl,hq⟩
  |succ i=>simp at hx;obtain⟨r',R',k1,k2⟩:=aG0 hr hx;exact⟨r',R',by simpa using k1,k2⟩
theorem aRF{f:AV→Option (AV × List Nat)}:∀{l:List AV} {p:List AV × List Nat},rdL f l=some p→l.length=p.1.length
 | [],p,h=>by simp[rdL]at h;subst h;rfl
 |a::l,p,h=>by
  simp only[rdL,aoS,aoR]at h
  obtain⟨q,hq,r,hr,rfl⟩:=h
  simp[aRF hr]
theorem Ii{f:AV→Option (AV × List Nat)}{l xs:List AV}{x:AV}{R:List Nat}(h:rdL f l=some (x::xs,R)):∃a l' R1 R2,l=a::l'∧f a=some (x,R1)∧rdL f l'=some (xs,R2)∧R=R1++R2:=by
 cases l with
 |nil=>simp[rdL]at h
 |cons a l=>
  simp only[rdL,aoS,aoR]at h
  obtain⟨q,hq,r,hr,he⟩:=h
  simp only[Prod.mk.injEq,List.cons.injEq]at he
  obtain⟨⟨rfl,rfl⟩,rfl⟩:=he
  exact⟨a,l,q.2,r.2,rfl,hq,hr,rfl⟩
theorem ah1{f:AV→Option (AV × List Nat)}{l:List AV}{R:List Nat}(h:rdL f l=some ([],R)):l=[]∧R=[]:=by
 cases l with
 |nil=>simp[rdL]at h;exact⟨rfl,h⟩
 |cons a l=>have:=aRF h;simp at this
theorem aOQ{g:HF}{d:Nat}{v:AV}{k:IntKind}{n:Int}{R:List Nat}(h:rd (d+1) g v=some (.int k n,R)):v=.int k n∧R=[]:=by
 cases v with
 |slr st b r len=>
  simp only[rd,aoS]at h
  obtain⟨z,_,h⟩:=h
  split at h
  ·cases hfl:z.2.1<;>rw[hfl]at h<;>simp at h
  ·cases h
 |func fn a b=>cases a<;>cases b<;>simp[rd]at h
 |int k' n'=>simp[rd]at h;exact⟨by simp[h],h.2⟩
 |agg cs=>simp[rd]at h
 |iface t x=>simp[rd]at h
 |_=>simp[rd]at h
theorem a0E{g:HF}{d st:Nat}{fl nn:Bool}{v:AV}{rows:List (List AV)}{R:List Nat}(h:rd (d+1) g v=some (Bt st fl nn rows,R)):v.isCell=true∧v.flat=false:=by
 have hs:Bt st fl nn rows=.nils∨∃r,Bt st fl nn rows=.imm st fl r:=by
  cases rows with
  |nil=>cases nn with
   |true=>exact .inr ⟨_,rfl⟩
   |false=>exact .inl rfl
  |cons=>exact .inr ⟨_,rfl⟩
 generalize Bt st fl nn rows=X at h hs
 cases v with
 |func fn a b=>cases a<;>cases b<;>first|exact⟨rfl,rfl⟩|(simp[rd]at h)
 |agg cs=>simp only[rd,aoR]at h;obtain⟨_,_,h⟩:=h;simp only[Prod.mk.injEq]at h;obtain⟨h,_⟩:=h;subst h;rcases hs with hs|⟨_,hs⟩<;>cases hs
 |ptr b r o=>exact⟨rfl,rfl⟩
 |yl b=>exact⟨rfl,rfl⟩
 |mapr b=>exact⟨rfl,rfl⟩
 |itr b=>exact⟨rfl,rfl⟩
 |tup cs=>simp[rd]at h
 |bool b=>simp[rd]at h;obtain⟨h,_⟩:=h;subst h;rcases hs with hs|⟨_,hs⟩<;>cases hs
 |int k n=>simp[rd]at h;obtain⟨h,_⟩:=h;subst h;rcases hs with hs|⟨_,hs⟩<;>cases hs
 |str s=>simp[rd]at h;obtain⟨h,_⟩:=h;subst h;rcases hs with hs|⟨_,hs⟩<;>cases hs
 |_=>exact⟨rfl,rfl⟩
theorem awP{g:HF}{d st:Nat}{fl nn:Bool}{v:AV}{rows:List (List AV)}{R:List Nat}(h:rd (d+1) g v=some (Bt st fl nn rows,R)):
 (v=.nils∧rows=[])∨∃b rows',v=.slr st b 0 rows.length∧(g b).bind Bq=some (st,fl,rows')∧rows'.length=rows.length∧(fl=true→rows'=rows)∧(fl=false→∃R',Br (rd d g) rows'=some (rows,R')):=by
 have hs:(Bt st fl nn rows=.nils∧rows=[])∨Bt st fl nn rows=.imm st fl rows:=by
  cases rows with
  |nil=>cases nn with
   |true=>exact .inr rfl
   |false=>exact .inl ⟨rfl,rfl⟩
  |cons=>exact .inr rfl
 generalize Bt st fl nn rows=X at h hs
 cases v with
 |nils=>simp[rd]at h;obtain⟨rfl,_⟩:=h;rcases hs with⟨_,hs⟩|hs
        ·exact .inl ⟨rfl,hs⟩
        ·cases hs
 |slr st' b r len=>
  simp only[rd,aoS]at h
  obtain⟨z,hz,h⟩:=h
  split at h
  ·rename_i hq
   obtain⟨q1,rfl,q3⟩:=hq
   obtain⟨z1,z2,z3⟩:=z
   simp only at q1 q3 h
   subst q1
   cases z2 with
   |true=>
    simp at h
    obtain⟨rfl,_⟩:=h
    rcases hs with⟨hs,_⟩|hs
    ·cases hs
    ·cases hs
     exact .inr ⟨b,_,by rw[q3],aoS.2 hz,rfl,fun _=>rfl,fun e=>by cases e⟩
   |false=>
    simp only[cond_false,aoR]at h
    obtain⟨q,hq,he⟩:=h
    simp only[Prod.mk.injEq]at he
    obtain⟨rfl,_⟩:=he
    rcases hs with⟨hs,_⟩|hs
    ·cases hs
    ·cases hs
     have hl:z3.length=q.1.length:=aE6 hq
     exact .inr ⟨b,z3,by rw[q3,hl],aoS.2 hz,hl,fun e=>(by cases e),fun _=>⟨q.2,hq⟩⟩
  ·cases h
 |func fn a b=>cases a<;>cases b<;>simp[rd]at h<;>(obtain⟨rfl,_⟩:=h;rcases hs with⟨hs,_⟩|hs<;>cases hs)
 |agg cs=>simp only[rd,aoR]at h;obtain⟨_,_,h⟩:=h;simp only[Prod.mk.injEq]at h;obtain⟨rfl,_⟩:=h;rcases hs with⟨hs,_⟩|hs<;>cases hs
 |iface t x=>simp only[rd,aoR]at h;obtain⟨_,_,h⟩:=h;simp only[Prod.mk.injEq]at h;obtain⟨rfl,_⟩:=h;rcases hs with⟨hs,_⟩|hs<;>cases hs
 |ptr b r o=>simp[rd]at h
 |yl b=>simp[rd]at h
 |mapr b=>simp[rd]at h
 |itr b=>simp[rd]at h
 |tup cs=>simp[rd]at h
 |imm=>simp[rd]at h
 |iptr=>simp[rd]at h
 |_=>simp[rd]at h;obtain⟨rfl,_⟩:=h;rcases hs with⟨hs,_⟩|hs<;>cases hs
theorem aRQ{H:Aa}{b st:Nat}{fl:Bool}{rows:List (List AV)}(h:(hf H b).bind Bq=some (st,fl,rows))(i:Nat):Jo (H[b]?) i=rows[i]?:=by
 obtain⟨c,hc,hz⟩:=aoS.1 h
 rw[show H[b]?=some c from hc]
 cases c<;>simp[Bq]at hz<;>(obtain⟨_,_,rfl⟩:=hz;rfl)
theorem aA1{g:HF}{d:Nat}(k:IntKind)(n:Int):rd (d+1) g (.int k n)=some (.int k n,[]):=rfl
theorem aVH{g:HF}{d st b n:Nat}{rows:List (List AV)}(h:(g b).bind Bq=some (st,true,rows))(hn:n=rows.length):rd (d+1) g (.slr st b 0 n)=some (.imm st true rows,[b]):=by
 subst hn;simp[rd,h]
theorem abT{f:AV→Option (AV × List Nat)}:rdL f []=some ([],[]):=rfl
theorem Fe{f:AV→Option (AV × List Nat)}{a x:AV}{l xs:List AV}{R1 R2:List Nat}(h1:f a=some (x,R1))(h2:rdL f l=some (xs,R2)):rdL f (a::l)=some (x::xs,R1++R2):=by simp[rdL,h1,h2]
theorem aDU{f:AV→Option (AV × List Nat)}:∀{l:List (List AV)} {p:List (List AV) × List Nat} {r:List AV} {q:List AV × List Nat},Br f l=some p→rdL f r=some q→Br f (l++[r])=some (p.1++[q.1],p.2++q.2)
 | [],p,r,q,h,hr=>by simp[Br]at h;subst h;simp[Br,hr]
 |a::l,p,r,q,h,hr=>by
  simp only[Br,aoS,aoR]at h
  obtain⟨q1,hq1,r1,hr1,rfl⟩:=h
  simp[Br,hq1,aDU hr1 hr]
end
noncomputable section
open Go.RowKit
section
variable {P:Program} {O:Ea}
def slx(P:Program)(ty:TypeId)(a:Option AV)(l h:Option (Option AV)):OE:=r1 (a.bind fun a=>l.bind fun l=>h.bind fun h=>aFH P ty a l h)
theorem aV8(t:List AV)(h:Aa)(ty:TypeId)(x:Operand)(lo hi:Option Operand):Df O P t h (.slice ty x lo hi none)=slx P ty (Ae t x) (aC0 t lo) (aC0 t hi):=by
 rw[Bi _ _ _ rfl]
 simp only[exec,slx]
 cases Ae t x with
 |none=>rfl
 |some a=>
  cases aC0 t lo with
  |none=>rfl
  |some l=>
   cases aC0 t hi with
   |none=>rfl
   |some h=>exact Ff _
def oS(x:Option AV):Option (Option AV):=x.map some
theorem a1O(v:AV):oS (some v)=some (some v):=ahF rfl rfl
theorem aS3(t:List AV):aC0 t none=some none:=ahF rfl rfl
theorem aUZ(t:List AV)(x:Operand):aC0 t (some x)=oS (Ae t x):=ahF rfl rfl
end
end
noncomputable section
set_option maxRecDepth 100000
section
variable {P:Program} {G:Nat→Option Obj}
end
section
variable {P:Program}
end
def EVu:=PLift.up (ad8 @a3H (ad8 @aIE (ad8 @aAS (ad8 @aV8 (ad8 @aS3 (ad8 @aUZ @a1O))))))
end
noncomputable section
section
variable {α:Type}
end
end
section
def Lq:Aa→Aa→Aa
 | [],h'=>h'
 |c₀::h,[]=>c₀::h
 |c₀::h,c::h'=>(bif c₀.quiet c then c₀ else c.mark)::Lq h h'
def aKZ(h h':Aa):Prop:=h.length≤h'.length∧∀(i:Nat) (c₀ c:CB),h[i]?=some c₀→h'[i]?=some c→c₀.quiet c=true∨c₀.isLive=true
theorem ayI:∀(h h' pre:Aa),aKZ h h'→∃es,Bh pre.length h h'=some es∧Bm (pre++h) es=pre++Lq h h'
 | [],h',pre,_=>⟨_,rfl,by simp[aHM,Lq]⟩
 |c₀::h,[],pre,ok=>by simp[aKZ]at ok
 |c₀::h,c::h',pre,ok=>by
  have ok':aKZ h h':=⟨by simpa using ok.1,fun i a b h1 h2=>ok.2 (i+1) a b (by simpa using h1) (by simpa using h2)⟩
  cases hq:c₀.quiet c with
  |true=>
   obtain⟨es,e1,e2⟩:=ayI h h' (pre++[c₀]) ok'
   refine⟨es,?_,?_⟩
   ·simp only[Bh,hq,cond_true]
    simpa using e1
   ·simpa [Lq,hq]using e2
  |false=>
   have hl:c₀.isLive=true:=by
    rcases ok.2 0 c₀ c rfl rfl with h|h
    ·rw[hq]at h;cases h
    ·exact h
   obtain⟨es,e1,e2⟩:=ayI h h' (pre++[c.mark]) ok'
   refine⟨.put pre.length c.mark::es,?_,?_⟩
   ·simp only[Bh,hq,hl,cond_false,cond_true]
    simp only[aUJ,aKE,aUO]at e1
    rw[e1];rfl
   ·simp only[Bm,Ky,Lq,hq,cond_false]
    have:(pre++c₀::h).set pre.length c.mark=(pre++[c.mark])++h:=by simp
    rw[this,e2];simp
theorem ah9:∀{h h':Aa},h.length≤h'.length→(Lq h h').length=h'.length
 | [],h',_=>rfl
 |c₀::h,[],hl=>by simp at hl
 |c₀::h,c::h',hl=>by simp[Lq,ah9 (h:=h) (h':=h') (by simpa using hl)]
theorem Kv:∀{h h':Aa} {i:Nat} {c₀ c:CB},h[i]?=some c₀→h'[i]?=some c→c₀.quiet c=true→(Lq h h')[i]?=some c₀
 | [],h',i,c₀,c,h1,_,_=>by simp at h1
 |a::h,[],i,c₀,c,_,h2,_=>by simp at h2
 |a::h,b::h',0,c₀,c,h1,h2,hq=>by
  simp at h1 h2;subst h1 h2;simp[Lq,hq]
 |a::h,b::h',i+1,c₀,c,h1,h2,hq=>by
  simp at h1 h2;simpa [Lq]using Kv h1 h2 hq
theorem ax5:∀{h h':Aa} {i:Nat} {c₀ c:CB},h[i]?=some c₀→h'[i]?=some c→c₀.quiet c=false→(Lq h h')[i]?=some c.mark
 | [],h',i,c₀,c,h1,_,_=>by simp at h1
 |a::h,[],i,c₀,c,_,h2,_=>by simp at h2
 |a::h,b::h',0,c₀,c,h1,h2,hq=>by
  simp at h1 h2;subst h1 h2;simp[Lq,hq]
 |a::h,b::h',i+1,c₀,c,h1,h2,hq=>by
  simp at h1 h2;simpa [Lq]using ax5 h1 h2 hq
theorem aAT:∀{h h':Aa} {i:Nat},h.length≤h'.length→h.length≤i→(Lq h h')[i]?=h'[i]?
 | [],h',i,_,_=>rfl
 |a::h,[],i,hl,_=>by simp at hl
 |a::h,b::h',0,_,hi=>by simp at hi
 |a::h,b::h',i+1,hl,hi=>by
  simpa [Lq]using aAT (h:=h) (h':=h') (i:=i) (by simpa using hl) (by simpa using hi)
theorem Em{h:Aa}{i:Nat}{c:CB}(hc:h[i]?=some c):(Gy h)[i]?=some c.clean:=by simp[Gy,hc]
theorem Bz(h:Aa):(Gy h).length=h.length:=by simp[Gy]
theorem aOA(c:CB):Bq c.clean=Bq c:=by cases c<;>rfl
theorem aUR(c:CB):Bq c.mark=Bq c:=by cases c<;>rfl
theorem aJN{O:Ea}{H:Aa}{f:Nat}{args:List AV}{Q:Do→Aa→Prop}(hd:hdR args=true)(hm:O.md f=true)(K:ShQ O f args (Gy H) Q)(ok:∀o G,Q o G→aKZ H G):
 ∃o G es,cl O H (some (.func (.func f) [] [])) (some args)=some (o,es)∧Bm H es=Lq H G∧Q o G:=by
 obtain⟨o,G,hc,hq⟩:=K
 obtain⟨es,e1,e2⟩:=ayI H G [] (ok o G hq)
 refine⟨o,G,es,?_,by simpa using e2,hq⟩
 rw[aQE]
 simp only[aHA,aJ8,hd,if_true,shC,hm,aKF,hc]
 rw[aGH]
 have e1':Bh 0 H G=some es:=e1
 rw[e1'];rfl
structure Hy(X:List Nat)(H H1:Aa):Prop where
 len:H.length≤H1.length
 same:∀b,b<H.length→b∉X→H1[b]?=H[b]?
theorem Hy.app(H l:Aa):Hy [] H (H++l):=⟨by simp,fun b hb _=>aRT hb⟩
theorem Hy.trans{X Y:List Nat}{H H1 H2:Aa}(h1:Hy X H H1)(h2:Hy Y H1 H2):Hy (X++Y) H H2:=
 ⟨aHN h1.len h2.len,fun b hb hn=>by
   rw[h2.same b (Nat.lt_of_lt_of_le hb h1.len) (fun h=>hn (aEG _ h)),h1.same b hb (fun h=>hn (aD5 _ h))]⟩
end
noncomputable section
open Go.RowKit
def aJU(f:Nat→Nat):Oe→List (List Aw × List Aw)→Prop
 | [],[]=>True
 |(es,fs)::l,(w,r)::l'=>(∀e∈es,Aw.all∈w∨Py f e.foot∈w)∧(∀x∈fs,Aw.all∈r∨Py f x∈r)∧aJU f l l'
 |_,_=>False
theorem aJU.get{f:Nat→Nat}:∀{l:Oe} {l':List (List Aw × List Aw)} {i:Nat} {y:List Aw × List Aw},aJU f l l'→l'[i]?=some y→∃x,l[i]?=some x∧(∀e∈x.1,Aw.all∈y.1∨Py f e.foot∈y.1)∧(∀a∈x.2,Aw.all∈y.2∨Py f a∈y.2)
 | [],[],i,y,_,h=>by simp at h
 |(es,fs)::l,(w,r)::l',0,y,h,hy=>by simp at hy;subst hy;exact⟨_,rfl,h.1,h.2.1⟩
 |(es,fs)::l,(w,r)::l',i+1,y,h,hy=>by
  obtain⟨x,h1,h2⟩:=aJU.get h.2.2 (i:=i) (by simpa using hy)
  exact⟨x,by simpa using h1,h2⟩
theorem aUN(x:Aw):x.meets .all=true:=by cases x<;>rfl
theorem aT8(x:Aw):Aw.meets .all x=true:=by cases x<;>rfl
theorem aZF(f:Nat→Nat){ops:List Oper}{log:Oe}(lg:List (List Aw × List Aw))(hc:aJU f log lg)(hd:aHQ ops lg=true):Dc ops log=true:=by
 simp only[aHQ,Dc,aEM]at hd ⊢
 rintro⟨i,j⟩ hij
 have:=hd (i,j) hij
 simp only at this ⊢
 cases hi:lg[i]? with
 |none=>simp[hi]at this
 |some x=>
  cases hj:lg[j]? with
  |none=>simp[hi,hj]at this
  |some y=>
   obtain⟨x',a1,a2,a3⟩:=hc.get hi
   obtain⟨y',b1,b2,b3⟩:=hc.get hj
   simp only[hi,hj,a1,b1,aU3,aX6]at this ⊢
   cases hk:Jq x' y' with
   |false=>rfl
   |true=>
    rw[←this];symm
    have mt:∀{p q:Aw} {P Q:List Aw},p.meets q=true→(Aw.all∈P∨Py f p∈P)→(Aw.all∈Q∨Py f q∈Q)→∃p'∈P,∃q'∈Q,p'.meets q'=true:=fun {p q P Q} hm hp hq=>by
     rcases hp with hp|hp<;>rcases hq with hq|hq
     ·exact⟨_,hp,_,hq,rfl⟩
     ·exact⟨_,hp,_,hq,aT8 _⟩
     ·exact⟨_,hp,_,hq,aUN _⟩
     ·exact⟨_,hp,_,hq,aFN f _ _ hm⟩
    simp only[Jq,aJI,aU1,aU2,aCH,aG2]at hk ⊢
    rcases hk with⟨_,⟨e,he,rfl⟩,b,hb,hm⟩|⟨_,⟨e,he,rfl⟩,b,hb,hm⟩
    ·left
     rcases hb with⟨e',he',rfl⟩|hb
     ·obtain⟨p,hp,q,hq,hpq⟩:=mt hm (a2 e he) (b2 e' he')
      exact⟨p,hp,q,.inl hq,hpq⟩
     ·obtain⟨p,hp,q,hq,hpq⟩:=mt hm (a2 e he) (b3 b hb)
      exact⟨p,hp,q,.inr hq,hpq⟩
    ·right
     obtain⟨p,hp,q,hq,hpq⟩:=mt hm (b2 e he) (a3 b hb)
     exact⟨p,hp,q,hq,hpq⟩
theorem aJV(f:Nat→Nat)(lg:List (List Aw × List Aw)){C:R→Prop}{ops:List Oper}{log:Oe}{k:R}(hb:aHQ ops lg=true)(hc:aJU f log lg)(h:True→C k):C (Ey (Dc ops log) k):=aGF (aZF f lg hc hb) h
theorem aBO(f:Nat→Nat):aJU f [] []=True:=rfl
theorem awV(f:Nat→Nat)(es:List Ad)(fs:List Aw)(l:Oe)(w r:List Aw)(l':List (List Aw × List Aw)):aJU f ((es,fs)::l) ((w,r)::l')=((∀e∈es,Aw.all∈w∨Py f e.foot∈w)∧(∀x∈fs,Aw.all∈r∨Py f x∈r)∧aJU f l l'):=rfl
theorem a02{O:Ea}{H:Aa}{f:Nat}{args:List AV}{o:Do}{l:Aa}(hd:hdR args=true)(hm:O.md f=true)(hc:O.call (.sh f) args (Gy H)=some (o,Gy H++l))(hq:Ar H=true):
 cl O H (some (.func (.func f) [] [])) (some args)=some (o,Gv H.length l):=by
 rw[aQE]
 simp only[aHA,aJ8,hd,if_true,shC,hm,aKF,hc]
 rw[aGH,aQJ hq]
 simp
theorem a4A{O:Ea}{H:Aa}{f:Nat}{args:List AV}{o:Do}(hd:hdR args=true)(hm:O.md f=true)(hc:O.call (.sh f) args (Gy H)=some (o,Gy H))(hq:Ar H=true):
 cl O H (some (.func (.func f) [] [])) (some args)=some (o,[]):=by
 have:=a02 (l:=[]) hd hm (by simpa using hc) hq
 simpa [Gv]using this
theorem aAH{H:Aa}(h:∀c∈H,c.quiet c.clean=true):Ar H=true:=by simp only[Ar,aEM];exact h
theorem Ft{H:Aa}(h:Ar H=true){b:Nat}{c:CB}(hb:H[b]?=some c):c.quiet c.clean=true:=by
 simp only[Ar,aEM]at h
 exact h c (aSF hb)
theorem Ej{H l:Aa}(h:Ar H=true)(hl:Ar l=true):Ar (H++l)=true:=by
 simp only[Ar,aEM,aCH]at h hl ⊢
 exact fun c hc=>hc.elim (h c) (hl c)
theorem Ei{H:Aa}(h:Ar H=true)(b:Nat){c:CB}(hc:c.quiet c.clean=true):Ar (H.set b c)=true:=by
 simp only[Ar,aEM]at h ⊢
 exact fun x hx=>(List.mem_or_eq_of_mem_set hx).elim (h x) (fun e=>e▸hc)
theorem aNO{c:CB}(h:c.quiet c.clean=true):c.clean.quiet c.clean.clean=true:=by cases c<;>first|rfl|exact h
theorem abV{H:Aa}(h:Ar H=true):Ar (Gy H)=true:=by
 simp only[Ar,Gy,aEM,aG2]at h ⊢
 rintro c ⟨c0,h0,rfl⟩
 exact aNO (h c0 h0)
theorem aGE{c:CB}(h:c.quiet c.clean=true):c.mark.quiet c.mark.clean=true:=by cases c<;>first|rfl|exact h
theorem Ij{H0 G:Aa}{X:List Nat}(hq:Ar H0=true)(K:Hy X (Gy H0) G)(hX:∀b∈X,b<H0.length∧∀c0 c,H0[b]?=some c0→G[b]?=some c→c0.isLive=true∧c0.quiet c=false):
 aKZ H0 G∧(Lq H0 G).length=G.length∧(∀b,H0.length≤b→(Lq H0 G)[b]?=G[b]?)∧(∀b,b<H0.length→b∉X→(Lq H0 G)[b]?=H0[b]?)∧(∀b∈X,∀c,G[b]?=some c→(Lq H0 G)[b]?=some c.mark):=by
 have hlen:H0.length≤G.length:=by have:=K.len;rwa[Bz]at this
 have old:∀b c0,H0[b]?=some c0→b∉X→G[b]?=some c0.clean:=fun b c0 h0 hb=>by
  rw[K.same b (by rw[Bz];exact(aCG.1 h0).1) hb,Em h0]
 refine⟨⟨hlen,fun b c0 c h0 h1=>?_⟩,ah9 hlen,fun b hb=>aAT hlen hb,fun b hb hn=>?_,fun b hb c hc=>?_⟩
 ·by_cases hb:b∈X
  ·exact .inr ((hX b hb).2 c0 c h0 h1).1
  ·rw[old b c0 h0 hb]at h1;cases h1
   exact .inl (Ft hq h0)
 ·obtain⟨c0,h0⟩:∃c,H0[b]?=some c:=⟨_,aHP hb⟩
  rw[h0];exact Kv h0 (old b c0 h0 hn) (Ft hq h0)
 ·obtain⟨h1,h2⟩:=hX b hb
  obtain⟨c0,h0⟩:∃c,H0[b]?=some c:=⟨_,aHP h1⟩
  exact ax5 h0 hc (h2 c0 c h0 hc).2
theorem aw1{H0 G:Aa}{X:List Nat}(hq:Ar H0=true)(K:Hy X (Gy H0) G)(hX:∀b∈X,b<H0.length∧∀c0 c,H0[b]?=some c0→G[b]?=some c→c0.isLive=true∧c0.quiet c=false)(hg:Ar G=true):Ar (Lq H0 G)=true:=by
 obtain⟨_,k1,k2,k3,k4⟩:=Ij hq K hX
 refine aAH fun c hc=>?_
 obtain⟨b,hb⟩:=aS5 hc
 by_cases h1:b<H0.length
 ·by_cases h2:b∈X
  ·obtain⟨c1,h3⟩:∃c,G[b]?=some c:=⟨_,aHP (by rw[←k1];exact(aCG.1 hb).1)⟩
   rw[k4 b h2 c1 h3]at hb;cases hb
   exact aGE (Ft hg h3)
  ·rw[k3 b h1 h2]at hb;exact Ft hq hb
 ·rw[k2 b (by omega)]at hb;exact Ft hg hb
theorem aSA{H0 G:Aa}{X:List Nat}(hq:Ar H0=true)(K:Hy X (Gy H0) G)(hX:∀b∈X,b<H0.length∧∀c0 c,H0[b]?=some c0→G[b]?=some c→c0.isLive=true∧c0.quiet c=false)(b:Nat):(hf (Lq H0 G) b).bind Bq=(hf G b).bind Bq:=by
 obtain⟨_,k1,k2,k3,k4⟩:=Ij hq K hX
 show((Lq H0 G)[b]?).bind Bq=(G[b]?).bind Bq
 by_cases h1:b<H0.length
 ·by_cases h2:b∈X
  ·cases h3:G[b]? with
   |none=>rw[List.getElem?_eq_none_iff]at h3;have h4:=K.len;rw[Bz]at h4;omega
   |some c1=>rw[k4 b h2 c1 h3];exact aUR c1
  ·rw[k3 b h1 h2,K.same b (by rw[Bz];exact h1) h2]
   cases h3:H0[b]? with
   |none=>simp[Gy,h3]
   |some c=>rw[Em h3];exact(aOA c).symm
 ·rw[k2 b (by omega)]
end
theorem Eh{h:Aa}{b:Nat}{c:CB}(e:h[b]?=some c):b<h.length:=(aCG.1 e).1
structure LLG(st lo:Nat)(ov:AV)(h:Aa)(rows Q:List (List AV))(Ro:List Nat):Prop where
 own:a59 0 st false rows ov h
 nil:rows=[]→ov=.nils
 q:Br (rd 5 (hf h)) rows=some (Q,Ro)
 dx:∀b∈Ro,lo≤b
 dov:∀a b r n,ov=.slr a b r n→lo≤b∧b∉Ro∧b<h.length
theorem LLG.none{st lo:Nat}{h:Aa}:LLG st lo .nils h [] [] []:=⟨.inl ⟨rfl,rfl⟩,fun _=>rfl,rfl,by simp,fun _ _ _ _ e=>by cases e⟩
theorem LLG.keep{st lo:Nat}{ov:AV}{h h':Aa}{rows Q:List (List AV)}{Ro:List Nat}(I:LLG st lo ov h rows Q Ro)(hl:h.length≤h'.length)(k:∀b,lo≤b→b<h.length→h'[b]?=h[b]?):LLG st lo ov h' rows Q Ro:=by
 refine⟨?_,I.nil,?_,I.dx,fun a b r n e=>?_⟩
 ·rcases I.own with h1|⟨b,w,h1,h2⟩
  ·exact .inl h1
  ·exact .inr ⟨b,w,h1,by rw[k b (by have:=(I.dov _ _ _ _ h1).1;simpa using this) (Eh h2)];exact h2⟩
 ·refine aF8 I.q fun j hj z hz=>?_
  show(h'[j]?).bind Bq=_
  rw[k j (I.dx j hj) (aIP (by omega) I.q j hj)];exact hz
 ·obtain⟨a1,b1,c⟩:=I.dov a b r n e
  exact⟨a1,b1,by omega⟩
theorem LLG.snoc{st lo:Nat}{ov:AV}{h h':Aa}{rows Q:List (List AV)}{Ro:List Nat}(I:LLG st lo ov h rows Q Ro)(hl:h.length≤h'.length)(k:∀b,lo≤b→b<h.length→h'[b]?=h[b]?){r X:List AV}{R':List Nat}(hr:rdL (rd 5 (hf h')) r=some (X,R'))(hR:∀b∈R',h.length≤b)(hlo:lo≤h.length)(a:CB){m n:Nat}(hm:m=h'.length+1)(hn:n=rows.length+1):
 LLG st lo (.slr st m 0 n) (kl 0 ov h'++[a,.live st false false (rows++[r])]) (rows++[r]) (Q++[X]) (Ro++R'):=by
 subst hm hn
 have I':=I.keep hl k
 have lR:=aIP (by omega) I.q
 have lR':=aGG (by omega) hr
 have get:∀j,j<h'.length→(∀a m r n,ov=.slr a m r n→m≠j)→(kl 0 ov h'++[a,.live st false false (rows++[r])])[j]?=h'[j]?:=fun j hj ho=>aoT _ hj ho
 have hlen:(kl 0 ov h').length=h'.length:=aCY ..
 have hnew:(kl 0 ov h'++[a,.live st false false (rows++[r])])[h'.length+1]?=some (.live st false false (rows++[r])):=by
  rw[aU0 (by omega),hlen,show h'.length+1-h'.length=1 by omega];rfl
 have q1:Br (rd 5 (hf (kl 0 ov h'++[a,.live st false false (rows++[r])]))) rows=some (Q,Ro):=aF8 I'.q fun j hj z hz=>by
  show((kl 0 ov h'++_)[j]?).bind Bq=_
  rw[get j (by have:=lR j hj;omega) fun a m r n e e2=>(I.dov a m r n e).2.1 (e2▸hj)];exact hz
 have q2:rdL (rd 5 (hf (kl 0 ov h'++[a,.live st false false (rows++[r])]))) r=some (X,R'):=anI hr fun j hj z hz=>by
  show((kl 0 ov h'++_)[j]?).bind Bq=_
  rw[get j (lR' j hj) fun a m r n e e2=>by have:=(I.dov a m r n e).2.2;have:=hR j hj;omega];exact hz
 refine⟨.inr ⟨h'.length+1,false,by simp,hnew⟩,fun e=>by simp at e,?_,fun b hb=>?_,fun a b r n e=>?_⟩
 ·simpa using aDU q1 q2
 ·rcases aCH.1 hb with hb|hb
  ·exact I.dx b hb
  ·have:=hR b hb;omega
 ·cases e
  refine⟨by omega,fun hb=>?_,by simp[hlen]⟩
  rcases aCH.1 hb with hb|hb
  ·have:=lR _ hb;omega
  ·have:=lR' _ hb;omega
theorem a40(d b:Nat):Aq (d+1) (.mapr b)=false:=ahF rfl rfl
theorem a2B(b:Nat):AV.isCell (.mapr b)=true:=ahF rfl rfl
theorem a34(b:Nat):AV.flat (.mapr b)=false:=ahF rfl rfl
theorem a0Y(b:Nat):Af (.mapr b)=[.mapr b]:=ahF rfl rfl
theorem a4E(d:Nat)(m:List Nat)(b:Nat):Bd (d+1) m (.mapr b)=some (.mapr (place m b).1,(place m b).2):=ahF rfl rfl
theorem a2V(d:Nat)(g:HF)(b:Nat):Ao (d+1) g (.mapr b)=[]:=ahF rfl rfl
theorem a1V(h:Aa)(b:Nat):rdV h (.mapr b)=some (.mapr b):=ahF rfl rfl
def Na:=PLift.up (ad8 @a40 (ad8 @a2B (ad8 @a34 (ad8 @a0Y (ad8 @a4E (ad8 @a2V @a1V))))))
theorem aFJ(c:CB):c.quiet c.clean=true∨(c.clean.mark=c∧c.isLive=true):=by
 cases c with
 |lp a b d e st=>exact .inr ⟨rfl,rfl⟩
 |_=>exact .inl rfl
theorem aF4:∀(cs:List CB) (i:Nat),∀e∈Gv i cs,∃b,e.foot=.blk b∧i≤b
 | [],i,e,h=>by cases h
 |c::cs,i,e,h=>by
  rcases azV.1 h with rfl|h
  ·exact⟨i,rfl,awL _⟩
  ·obtain⟨b,h1,h2⟩:=aF4 cs (i+1) e h
   exact⟨b,h1,by omega⟩
theorem aK9:∀{h h':Aa} {i:Nat} {es:List Ad},Bh i h h'=some es→∀e∈es,∃b,e.foot=.blk b∧(i+h.length≤b∨∃j c₀ c,b=i+j∧h[j]?=some c₀∧h'[j]?=some c∧c₀.quiet c=false)
 | [],h',i,es,hs,e,he=>by
   simp only[Bh,aL1.injEq]at hs;subst hs
   obtain⟨b,h1,h2⟩:=aF4 h' i e he
   exact⟨b,h1,.inl (by simpa using h2)⟩
 |c₀::h,[],i,es,hs,e,he=>by simp[Bh]at hs
 |c₀::h,c::h',i,es,hs,e,he=>by
  have up:∀{es':List Ad},Bh (i+1) h h'=some es'→e∈es'→∃b,e.foot=.blk b∧(i+(c₀::h).length≤b∨∃j c₀' c',b=i+j∧(c₀::h)[j]?=some c₀'∧(c::h')[j]?=some c'∧c₀'.quiet c'=false):=fun {es'} h1 h2=>by
   obtain⟨b,k1,k2⟩:=aK9 h1 e h2
   refine⟨b,k1,?_⟩
   rcases k2 with k2|⟨j,x,y,k3,k4,k5,k6⟩
   ·exact .inl (by simp;omega)
   ·exact .inr ⟨j+1,x,y,by omega,by simpa using k4,by simpa using k5,k6⟩
  unfold Bh at hs
  cases hq:c₀.quiet c with
  |true=>rw[hq]at hs;exact up hs he
  |false=>
   rw[hq]at hs
   simp only[cond_false]at hs
   cases hl:c₀.isLive with
   |false=>rw[hl]at hs;simp at hs
   |true=>
    rw[hl]at hs
    simp only[cond_true,aoR]at hs
    obtain⟨es',h1,rfl⟩:=hs
    rcases azV.1 he with rfl|he
    ·exact⟨i,rfl,.inr ⟨0,c₀,c,by simp,rfl,rfl,hq⟩⟩
    ·exact up h1 he
theorem aZD{O:Ea}{H:Aa}{f:Nat}{args:List AV}{Q:Do→Aa→Prop}(hd:hdR args=true)(hm:O.md f=true)(K:ShQ O f args (Gy H) Q)(ok:∀o G,Q o G→aKZ H G):
 ∃o G es,cl O H (some (.func (.func f) [] [])) (some args)=some (o,es)∧Bm H es=Lq H G∧Bh 0 H G=some es∧Q o G:=by
 obtain⟨o,G,hc,hq⟩:=K
 obtain⟨es,e1,e2⟩:=ayI H G [] (ok o G hq)
 have e1':Bh 0 H G=some es:=e1
 refine⟨o,G,es,?_,by simpa using e2,e1',hq⟩
 rw[aQE]
 simp only[aHA,aJ8,hd,if_true,shC,hm,aKF,hc]
 rw[aGH,e1'];rfl
theorem aX1{O:Ea}{H:Aa}{f:Nat}{args:List AV}{Q:Do→Aa→Prop}(hd:hdR args=true)(hm:O.md f=true)(K:ShQ O f args (Gy H) fun o G=>Q o G∧Hy [] (Gy H) G):
 ∃o G es M,cl O H (some (.func (.func f) [] [])) (some args)=some (o,es)∧Bm H es=M∧Q o G∧M.length=G.length∧H.length≤M.length∧(∀b,b<H.length→M[b]?=H[b]?)∧(∀b,H.length≤b→M[b]?=G[b]?)∧∀e∈es,∃b,e.foot=.blk b∧(H.length≤b∨∃c,H[b]?=some c∧c.quiet c.clean=false):=by
 obtain⟨o,G,es,e1,e2,e3,hq,hk⟩:=aZD hd hm K fun o G ⟨_,hk⟩=>⟨by have:=hk.len;rwa[Bz]at this,fun i c₀ c h1 h2=>by
  have h3:=hk.same i (by rw[Bz];exact Eh h1) (by simp)
  rw[Em h1,h2]at h3;cases h3
  rcases aFJ c₀ with h|h
  ·exact .inl h
  ·exact .inr h.2⟩
 have hl:H.length≤G.length:=by have:=hk.len;rwa[Bz]at this
 refine⟨o,G,es,Lq H G,e1,e2,hq,ah9 hl,by rw[ah9 hl];exact hl,fun b hb=>?_,fun b hb=>aAT hl hb,fun e he=>?_⟩
 ·have h1:H[b]?=some H[b]:=aHP hb
  have h2:=hk.same b (by rw[Bz];exact hb) (by simp)
  rw[Em h1]at h2
  rcases aFJ H[b]with h|h
  ·rw[Kv h1 h2 h,h1]
  ·cases hqq:(H[b]).quiet (H[b]).clean with
   |true=>rw[Kv h1 h2 hqq,h1]
   |false=>rw[ax5 h1 h2 hqq,h.1,h1]
 ·obtain⟨b,k1,k2⟩:=aK9 e3 e he
  refine⟨b,k1,?_⟩
  rcases k2 with k2|⟨j,c₀,c,k3,k4,k5,k6⟩
  ·exact .inl (by omega)
  ·have h2:=hk.same j (by rw[Bz];exact Eh k4) (by simp)
   rw[Em k4,k5]at h2
   cases h2
   exact .inr ⟨c₀,by rw[k3,Nat.zero_add];exact k4,k6⟩
theorem LLG.read{st lo:Nat}{ov:AV}{h:Aa}{rows Q:List (List AV)}{Ro:List Nat}(I:LLG st lo ov h rows Q Ro):∃R,rd 6 (hf h) ov=some (Bt st false false Q,R)∧(∀b∈R,lo≤b)∧R.length≤1+Ro.length:=by
 have key:∀d,Br (rd d (hf h)) rows=some (Q,Ro)→∃R,rd (d+1) (hf h) ov=some (Bt st false false Q,R)∧(∀b∈R,lo≤b)∧R.length≤1+Ro.length:=fun d hq=>by
  rcases I.own with⟨rfl,rfl⟩|⟨b,w,rfl,hb⟩
  ·simp[Br]at hq;obtain⟨rfl,rfl⟩:=hq;exact⟨[],by simp[rd,Bt],by simp,by simp⟩
  ·have hne:rows≠[]:=fun e=>by have:=I.nil e;cases this
   have hb':(hf h (b+0)).bind Bq=some (st,false,rows):=by show(h[b]?).bind Bq=_;rw[hb];rfl
   refine⟨(b+0)::Ro,?_,fun c hc=>?_,by simp;omega⟩
   ·simp only[rd,hb',apA,if_true,and_self,cond_false,hq,aA5]
    have hl:Q≠[]:=fun e=>by
     cases rows with
     |nil=>exact hne rfl
     |cons r rs=>
      simp only[Br,aoS,aoR]at hq
      obtain⟨_,_,_,_,hq⟩:=hq
      simp only[Prod.mk.injEq]at hq
      rw[e]at hq;cases hq.1
    cases Q with
    |nil=>exact absurd rfl hl
    |cons r rs=>rfl
   ·rcases azV.1 hc with rfl|hc
    ·exact(I.dov _ _ _ _ rfl).1
    ·exact I.dx c hc
 exact key 5 I.q
theorem aGM{f:AV→Option (AV × List Nat)}:∀{l:List (List AV)} {p:List (List AV) × List Nat} {i:Nat} {r:List AV} {q:List AV × List Nat},Br f l=some p→l[i]?=some r→rdL f r=some q→∀b∈q.2,b∈p.2
 | [],p,i,r,q,_,h,_=>by simp at h
 |a::l,p,i,r,q,hp,hi,hq=>by
  simp only[Br,aoS,aoR]at hp
  obtain⟨x,hx,y,hy,rfl⟩:=hp
  cases i with
  |zero=>
   simp at hi;subst hi
   rw[hx]at hq;cases hq
   exact fun b hb=>aD5 _ hb
  |succ i=>
   exact fun b hb=>aEG _ (aGM hy (by simpa using hi) hq b hb)
theorem aF1{g:HF}{d st b r n:Nat}{x:AV}{R:List Nat}{rows:List (List AV)}(h:rd (d+1) g (.slr st b r n)=some (x,R))(hb:(g b).bind Bq=some (st,false,rows)):∃q,Br (rd d g) rows=some q∧R=b::q.2∧x=.imm st false q.1:=by
 simp only[rd,hb,apA,cond_false]at h
 split at h
 ·obtain⟨q,hq,h⟩:=aoR.1 h
  simp only[Prod.mk.injEq]at h
  exact⟨q,hq,h.2.symm,h.1.symm⟩
 ·cases h
end Go.Ev
namespace Go.Ev
namespace Net
abbrev Edge:=Nat × Nat × Nat
inductive Lr(E:List Edge)(s:Nat):Nat→Nat→Nat→Prop
 |nil (n:Nat):Lr E s n s 0
 |fwd {n a b c k:Nat} (h:Lr E s n a k) (he:(a,b,c)∈E):Lr E s (n+1) b (k+c)
 |bwd {n a b c k:Nat} (h:Lr E s n b k) (he:(a,b,c)∈E):Lr E s (n+1) a (k+c)
def Stp(E:List Edge)(u v c:Nat):Prop:=(u,v,c)∈E∨(v,u,c)∈E
theorem Lr.step{E:List Edge}{s n u v k c:Nat}(h:Lr E s n u k)(hs:Stp E u v c):Lr E s (n+1) v (k+c):=hs.elim (fun e=>.fwd h e) (fun e=>.bwd h e)
theorem Lr.cases'{E:List Edge}{s n v k:Nat}(h:Lr E s n v k):(v=s∧k=0)∨∃m u j c,n=m+1∧Lr E s m u j∧Stp E u v c∧k=j+c:=by
 cases h with
 |nil=>exact .inl ⟨rfl,rfl⟩
 |fwd h he=>exact .inr ⟨_,_,_,_,rfl,h,.inl he,rfl⟩
 |bwd h he=>exact .inr ⟨_,_,_,_,rfl,h,.inr he,rfl⟩
theorem Lr.more{E:List Edge}{s n v k:Nat}(h:Lr E s n v k):∀{m:Nat},n≤m→Lr E s m v k:=by
 induction h with
 |nil n=>exact fun _=>.nil _
 |fwd h he ih=>
  intro m hm
  obtain⟨m,rfl⟩:∃j,m=j+1:=⟨m-1,by omega⟩
  exact .fwd (ih (by omega)) he
 |bwd h he ih=>
  intro m hm
  obtain⟨m,rfl⟩:∃j,m=j+1:=⟨m-1,by omega⟩
  exact .bwd (ih (by omega)) he
def Cst(E:List Edge)(s v k:Nat):Prop:=∃n,Lr E s n v k
theorem Cst.step{E:List Edge}{s u v k c:Nat}(h:Cst E s u k)(hs:Stp E u v c):Cst E s v (k+c):=by obtain⟨n,h⟩:=h;exact⟨_,h.step hs⟩
def Lst(E:List Edge)(s v k:Nat):Prop:=Cst E s v k∧∀j,Cst E s v j→k≤j
theorem least{p:Nat→Prop}:(∃n,p n)→∃n,p n∧∀j,p j→n≤j:=fun⟨n,hn⟩=>by
 induction n using aTY with
 |ind n ih=>
  by_cases h:∃j,j<n∧p j
  ·obtain⟨j,h1,h2⟩:=h;exact ih j h1 h2
  ·exact⟨n,hn,fun j hj=>Nat.le_of_not_lt fun hlt=>h ⟨j,hlt,hj⟩⟩
theorem Lst.ex{E:List Edge}{s v k:Nat}(h:Cst E s v k):∃j,Lst E s v j:=least ⟨k,h⟩
theorem Lst.eq{E:List Edge}{s v k j:Nat}(h1:Lst E s v k)(h2:Lst E s v j):k=j:=Nat.le_antisymm (h1.2 j h2.1) (h2.2 k h1.1)
def Lvl(E:List Edge)(s n v:Nat):Prop:=∃k,Lst E s v k∧Lr E s n v k
theorem Lvl.more{E:List Edge}{s n m v:Nat}(h:Lvl E s n v)(hm:n≤m):Lvl E s m v:=by obtain⟨k,h1,h2⟩:=h;exact⟨k,h1,h2.more hm⟩
theorem Lvl.prev{E:List Edge}{s n v:Nat}(h:Lvl E s (n+1) v):v=s∨∃u c k,Lvl E s n u∧Lst E s u k∧Stp E u v c∧Lst E s v (k+c):=by
 obtain⟨k,h1,h2⟩:=h
 rcases h2.cases' with⟨h,_⟩|⟨m,u,j,c,hm,hw,hs,rfl⟩
 ·exact .inl h
 ·cases hm
  have hl:Lst E s u j:=⟨⟨_,hw⟩,fun i hi=>by have:=h1.2 _ (hi.step hs);omega⟩
  exact .inr ⟨u,c,j,⟨j,hl,hw⟩,hl,hs,h1⟩
theorem Lvl.next{E:List Edge}{s n u v c k:Nat}(h:Lvl E s n u)(hu:Lst E s u k)(hs:Stp E u v c)(hv:Lst E s v (k+c)):Lvl E s (n+1) v:=by
 obtain⟨j,h1,h2⟩:=h
 cases h1.eq hu
 exact⟨_,hv,h2.step hs⟩
theorem Lst.src{E:List Edge}{s:Nat}:Lst E s s 0:=⟨⟨0,.nil 0⟩,fun j _=>aAO j⟩
theorem Lvl.src{E:List Edge}{s:Nat}(n:Nat):Lvl E s n s:=⟨0,Lst.src,.nil n⟩
theorem Lvl.stable{E:List Edge}{s n:Nat}(h:∀v,Lvl E s (n+1) v→Lvl E s n v):∀m v,Lvl E s m v→Lvl E s n v
 |0,v,hv=>hv.more (aAO n)
 |m+1,v,hv=>by
  rcases hv.prev with rfl|⟨u,c,k,h1,h2,h3,h4⟩
  ·exact Lvl.src n
  ·exact h v ((Lvl.stable h m u h1).next h2 h3 h4)
noncomputable def aD9(p:Nat→Prop):Nat→Nat
 |0=>0
 |N+1=>aD9 p N+(@ite Nat (p N) (Classical.propDecidable _) 1 0)
theorem aPM(p:Nat→Prop):∀N,aD9 p N≤N
 |0=>awL 0
 |N+1=>by
  have:=aPM p N
  unfold aD9
  split<;>omega
theorem aNN{p q:Nat→Prop}(h:∀v,p v→q v):∀N,aD9 p N≤aD9 q N
 |0=>awL 0
 |N+1=>by
  have:=aNN h N
  unfold aD9
  split
  ·rename_i h1;rw[if_pos (h _ h1)];omega
  ·split<;>omega
theorem aN7{p q:Nat→Prop}(h:∀v,p v→q v){v:Nat}(hq:q v)(hp:¬p v):∀{N:Nat},v<N→aD9 p N+1≤aD9 q N
 |0,hv=>by omega
 |N+1,hv=>by
  unfold aD9
  by_cases e:v=N
  ·subst e
   have:=aNN h v
   rw[if_neg hp,if_pos hq];omega
  ·have:=aN7 h hq hp (N:=N) (by omega)
   split
   ·rename_i h1;rw[if_pos (h _ h1)];omega
   ·split<;>omega
theorem aP3{p:Nat→Prop}{v:Nat}(hp:p v):∀{N:Nat},v<N→1≤aD9 p N
 |0,hv=>by omega
 |N+1,hv=>by
  unfold aD9
  by_cases e:v=N
  ·subst e;rw[if_pos hp];omega
  ·have:=aP3 hp (N:=N) (by omega);split<;>omega
theorem a07{E:List Edge}{s N:Nat}(hs:s<N)(hE:∀a b c,(a,b,c)∈E→a<N∧b<N):∀m v,Lvl E s m v→Lvl E s (N-1) v:=by
 have lt:∀m v,Lvl E s m v→v<N:=fun m=>by
  induction m with
  |zero=>
   intro v ⟨k,_,h⟩
   rcases h.cases' with⟨rfl,_⟩|⟨_,_,_,_,h,_⟩
   ·exact hs
   ·cases h
  |succ m ih=>
   intro v hv
   rcases hv.prev with rfl|⟨u,c,k,h1,h2,h3,h4⟩
   ·exact hs
   ·rcases h3 with h3|h3
    ·exact(hE _ _ _ h3).2
    ·exact(hE _ _ _ h3).1
 have grow:∀n,(∃k,k≤n∧∀v,Lvl E s (k+1) v→Lvl E s k v)∨n+1≤aD9 (Lvl E s n) N:=fun n=>by
  induction n with
  |zero=>exact .inr (aP3 (Lvl.src 0) hs)
  |succ n ih=>
   rcases ih with⟨k,h1,h2⟩|h
   ·exact .inl ⟨k,by omega,h2⟩
   ·by_cases e:∀v,Lvl E s (n+1) v→Lvl E s n v
    ·exact .inl ⟨n,by omega,e⟩
    ·obtain⟨v,hv⟩:=Classical.not_forall.1 e
     have h1:Lvl E s (n+1) v:=Classical.byContradiction fun h=>hv fun h'=>(h h').elim
     have h2:¬Lvl E s n v:=fun h=>hv fun _=>h
     have:=aN7 (p:=Lvl E s n) (q:=Lvl E s (n+1)) (fun v h=>h.more (Nat.le_succ n)) h1 h2 (lt _ v h1)
     exact .inr (by omega)
 intro m v hv
 rcases grow N with⟨k,h1,h2⟩|h
 ·by_cases e:k≤N-1
  ·exact(Lvl.stable h2 m v hv).more e
  ·
   have hk:k=N:=by omega
   rcases grow (N-1)with⟨k',h1',h2'⟩|h'
   ·exact(Lvl.stable h2' m v hv).more h1'
   ·exact Classical.byContradiction fun hn=>by
     have:=aN7 (p:=Lvl E s (N-1)) (q:=fun _=>True) (fun _ _=>trivial) trivial hn (lt _ v hv)
     have:=aPM (fun _=>True) N
     omega
 ·have:=aPM (Lvl E s N) N;omega
theorem Lst.lvl{E:List Edge}{s N v k:Nat}(hs:s<N)(hE:∀a b c,(a,b,c)∈E→a<N∧b<N)(h:Lst E s v k):Lvl E s (N-1) v:=by
 obtain⟨n,hw⟩:=h.1
 exact a07 hs hE n v ⟨k,h,hw⟩
theorem Lr.le{E:List Edge}{s n v k:Nat}(hc:∀a b c,(a,b,c)∈E→c≤1)(h:Lr E s n v k):k≤n:=by
 induction h with
 |nil=>omega
 |fwd h he ih=>have:=hc _ _ _ he;omega
 |bwd h he ih=>have:=hc _ _ _ he;omega
theorem Lst.le{E:List Edge}{s N v k:Nat}(hs:s<N)(hE:∀a b c,(a,b,c)∈E→a<N∧b<N)(hc:∀a b c,(a,b,c)∈E→c≤1)(h:Lst E s v k):k≤N-1:=by
 obtain⟨j,h1,h2⟩:=h.lvl hs hE
 cases h1.eq h
 exact h2.le hc
def atT(E:List Edge)(s N far:Nat)(d:Nat→Nat):Prop:=∀v,v<N→(∀k,Lst E s v k→d v=k)∧((∀k,¬Cst E s v k)→d v=far)
theorem aYO{E:List Edge}{s N far:Nat}{d:Nat→Nat}(h0:d s=0)(hr:∀v,v<N→d v=far∨Cst E s v (d v))(hc:∀u v c,Stp E u v c→d v≤d u+c)(hf:∀v k,Lst E s v k→k<far):atT E s N far d:=fun v hv=>by
 have le:∀n v k,Lr E s n v k→d v≤k:=fun n v k h=>by
  induction h with
  |nil=>omega
  |fwd h he ih=>have:=hc _ _ _ (.inl he);omega
  |bwd h he ih=>have:=hc _ _ _ (.inr he);omega
 refine⟨fun k hk=>?_,fun h=>?_⟩
 ·obtain⟨n,hn⟩:=hk.1
  have h1:=le n v k hn
  rcases hr v hv with h|h
  ·have:=hf v k hk;omega
  ·have:=hk.2 _ h;omega
 ·rcases hr v hv with h1|h1
  ·exact h1
  ·exact(h _ h1).elim
def aD4(d:List Nat)(e:Edge):List Nat:=(d.set e.2.1 (min (d.getD e.2.1 0) (d.getD e.1 0+e.2.2))).set e.1 (min (d.getD e.1 0) (d.getD e.2.1 0+e.2.2))
def bb6(E:List Edge)(d:List Nat):List Nat:=E.foldl aD4 d
def aEB(E:List Edge):Nat→List Nat→List Nat
 |0,d=>d
 |n+1,d=>aEB E n (bb6 E d)
theorem aGV(d:List Nat)(e:Edge):(aD4 d e).length=d.length:=by simp[aD4]
theorem aB1{d:List Nat}{i v x:Nat}(hi:i<d.length):(d.set i x).getD v 0=if i=v then x else d.getD v 0:=by
 simp only[a0J]
 by_cases h:i=v
 ·subst h;rw[a0K hi,if_pos rfl];rfl
 ·rw[aYU h,if_neg h]
theorem aJ9{d:List Nat}{a b c:Nat}(ha:a<d.length)(hb:b<d.length)(hab:a≠b)(v:Nat):(aD4 d (a,b,c)).getD v 0=if v=a then min (d.getD a 0) (d.getD b 0+c)else if v=b then min (d.getD b 0) (d.getD a 0+c)else d.getD v 0:=by
 unfold aD4
 rw[aB1 (by simpa using ha),aB1 hb]
 by_cases h1:v=a
 ·subst h1;simp
 ·rw[if_neg (fun e=>h1 e.symm),if_neg h1]
  by_cases h2:v=b
  ·subst h2;simp
  ·rw[if_neg (fun e=>h2 e.symm),if_neg h2]
structure aGI(E:List Edge)(s N far:Nat)(d:List Nat):Prop where
 len:d.length=N
 src:d.getD s 0=0
 real:∀v,v<N→d.getD v 0=far∨Cst E s v (d.getD v 0)
 le:∀v,v<N→d.getD v 0≤far
theorem aGI.one{E:List Edge}{s N far:Nat}{d:List Nat}(I:aGI E s N far d){a b c:Nat}(he:(a,b,c)∈E)(ha:a<N)(hb:b<N)(hab:a≠b):aGI E s N far (aD4 d (a,b,c)):=by
 have hl:=I.len
 have at_:=fun v=>aJ9 (d:=d) (c:=c) (by omega) (by omega) hab v
 have mn:∀u v,u<N→v<N→Stp E u v c→(min (d.getD v 0) (d.getD u 0+c)=far∨Cst E s v (min (d.getD v 0) (d.getD u 0+c))):=fun u v hu hv hs=>by
  have h1:=I.le v hv
  rcases Nat.le_total (d.getD v 0) (d.getD u 0+c)with h|h
  ·rw[Nat.min_eq_left h];exact I.real v hv
  ·rw[Nat.min_eq_right h]
   rcases I.real u hu with hh|hh
   ·left;omega
   ·exact .inr (hh.step hs)
 refine⟨by rw[aGV,hl],?_,fun v hv=>?_,fun v hv=>?_⟩
 ·rw[at_]
  have:=I.src
  split
  ·rename_i h;subst h;rw[this];simp
  ·split
   ·rename_i h;subst h;rw[this];simp
   ·exact this
 ·rw[at_]
  split
  ·rename_i h;subst h;exact mn b v hb hv (.inr he)
  ·split
   ·rename_i h;subst h;exact mn a v ha hv (.inl he)
   ·exact I.real v hv
 ·rw[at_]
  split
  ·rename_i h;subst h;have:=I.le v hv;omega
  ·split
   ·rename_i h;subst h;have:=I.le v hv;omega
   ·exact I.le v hv
def EOk(E:List Edge)(N:Nat):Prop:=∀a b c,(a,b,c)∈E→a<N∧b<N∧a≠b∧c≤1
theorem aQS{d:List Nat}{a b c:Nat}(ha:a<d.length)(hb:b<d.length)(hab:a≠b)(v:Nat):(aD4 d (a,b,c)).getD v 0≤d.getD v 0:=by
 rw[aJ9 ha hb hab]
 split
 ·rename_i h;subst h;omega
 ·split
  ·rename_i h;subst h;omega
  ·exact awL _
theorem aJM:∀{L:List Edge} {d:List Nat} {N:Nat},d.length=N→EOk L N→∀v,(L.foldl aD4 d).getD v 0≤d.getD v 0
 | [],d,N,_,_,v=>awL _
 |(a,b,c)::L,d,N,hl,hE,v=>by
  have h:=hE a b c (azO ..)
  have h1:=aJM (L:=L) (d:=aD4 d (a,b,c)) (by rw[aGV,hl]) (fun a b c hm=>hE a b c (ay8 _ hm)) v
  have h2:=aQS (d:=d) (c:=c) (by omega) (by omega) h.2.2.1 v
  rw[aL7];omega
theorem a0I{E:List Edge}{s N far:Nat}:∀{L:List Edge} {d:List Nat},(∀e∈L,e∈E)→EOk E N→aGI E s N far d→aGI E s N far (L.foldl aD4 d)
 | [],d,_,_,I=>I
 |(a,b,c)::L,d,hs,hE,I=>by
  have he:=hs _ (azO ..)
  have h:=hE a b c he
  rw[aL7]
  exact a0I (L:=L) (fun e hm=>hs e (ay8 _ hm)) hE (I.one he h.1 h.2.1 h.2.2.1)
theorem aF0{N:Nat}:∀{L:List Edge} {d:List Nat},d.length=N→EOk L N→∀{u v c k:Nat},(u,v,c)∈L∨(v,u,c)∈L→d.getD u 0≤k→(L.foldl aD4 d).getD v 0≤k+c
 | [],d,_,_,u,v,c,k,h,_=>by rcases h with h|h<;>cases h
 |(a,b,e)::L,d,hl,hE,u,v,c,k,h,hk=>by
  have q:=hE a b e (azO ..)
  have hE':EOk L N:=fun a b c hm=>hE a b c (ay8 _ hm)
  have hl':(aD4 d (a,b,e)).length=N:=by rw[aGV,hl]
  have key:(u=a∧v=b∧c=e)∨(u=b∧v=a∧c=e)∨((u,v,c)∈L∨(v,u,c)∈L):=by
   rcases h with h|h
   ·rcases azV.1 h with h|h
    ·cases h;exact .inl ⟨rfl,rfl,rfl⟩
    ·exact .inr (.inr (.inl h))
   ·rcases azV.1 h with h|h
    ·cases h;exact .inr (.inl ⟨rfl,rfl,rfl⟩)
    ·exact .inr (.inr (.inr h))
  rw[aL7]
  have at_:=fun v=>aJ9 (d:=d) (c:=e) (by omega) (by omega) q.2.2.1 v
  rcases key with⟨rfl,rfl,rfl⟩|⟨rfl,rfl,rfl⟩|h
  ·have h1:=aJM hl' hE' v
   rw[at_ v,if_neg (fun e=>q.2.2.1 e.symm),if_pos rfl]at h1
   omega
  ·have h1:=aJM hl' hE' v
   rw[at_ v,if_pos rfl]at h1
   omega
  ·have h2:=aQS (d:=d) (c:=e) (by omega) (by omega) q.2.2.1 u
   exact aF0 hl' hE' h (by omega)
theorem aJ0{E:List Edge}{s N far:Nat}(hE:EOk E N):∀(n:Nat) {d:List Nat},aGI E s N far d→aGI E s N far (aEB E n d)
 |0,d,I=>I
 |n+1,d,I=>aJ0 hE n (a0I (fun _ h=>h) hE I)
theorem aEU(E:List Edge):∀(n:Nat) (d:List Nat),aEB E (n+1) d=bb6 E (aEB E n d)
 |0,d=>rfl
 |n+1,d=>by rw[aEB,aEU E n];rfl
theorem aMU{E:List Edge}{s N far:Nat}(hE:EOk E N){d:List Nat}(I:aGI E s N far d):∀(n:Nat) {v k:Nat},Lvl E s n v→Lst E s v k→(aEB E n d).getD v 0≤k
 |0,v,k,⟨j,h1,h2⟩,hk=>by
  rcases h2.cases' with⟨rfl,rfl⟩|⟨_,_,_,_,h,_⟩
  ·rw[aEB,I.src];exact aAO _
  ·cases h
 |n+1,v,k,hv,hk=>by
  rw[aEU]
  have J:=aJ0 hE n I
  rcases hv.prev with rfl|⟨u,c,j,h1,h2,h3,h4⟩
  ·have K:=aJ0 hE (n+1) I
   rw[aEU]at K
   rw[K.src];exact aAO _
  ·cases h4.eq hk
   exact aF0 J.len hE h3 (aMU hE I n h1 h2)
theorem aPA{E:List Edge}{s N far:Nat}(hs:s<N)(hE:EOk E N)(hf:N≤far){d:List Nat}(I:aGI E s N far d){n:Nat}(hn:N-1≤n):atT E s N far (fun v=>(aEB E n d).getD v 0):=fun v hv=>by
 have J:=aJ0 hE n I
 have hE1:∀a b c,(a,b,c)∈E→a<N∧b<N:=fun a b c h=>⟨(hE a b c h).1,(hE a b c h).2.1⟩
 have hE2:∀a b c,(a,b,c)∈E→c≤1:=fun a b c h=>(hE a b c h).2.2.2
 refine⟨fun k hk=>?_,fun h=>?_⟩
 ·have h1:=aMU hE I n ((hk.lvl hs hE1).more hn) hk
  have h2:=hk.le hs hE1 hE2
  rcases J.real v hv with h|h
  ·simp only[h]at h1 ⊢;omega
  ·have:=hk.2 _ h;simp only;omega
 ·rcases J.real v hv with h1|h1
  ·exact h1
  ·exact(h _ h1).elim
end Net
end Go.Ev
namespace Go.Ev
namespace Net
structure DqI(E:List Edge)(s N far:Nat)(d q:List Nat)(X:Nat→Nat→Nat→Prop):Prop where
 i:aGI E s N far d
 w:∀r∈q,r<N
 tr:∀u v c,Stp E u v c→u∈q∨X u v c∨d.getD v 0≤d.getD u 0+c
def adD(E:List Edge)(r i u v c:Nat):Prop:=u=r∧∃j,i≤j∧(E[j]?=some (r,v,c)∨E[j]?=some (v,r,c))
theorem DqI.take{E:List Edge}{s N far:Nat}{d q:List Nat}{r:Nat}(I:DqI E s N far d (r::q) (fun _ _ _=>False)):r<N∧DqI E s N far d q (adD E r 0):=by
 refine⟨I.w r (azO ..),I.i,fun u hu=>I.w u (ay8 _ hu),fun u v c h=>?_⟩
 rcases I.tr u v c h with h1|h1|h1
 ·rcases azV.1 h1 with rfl|h1
  ·right;left
   refine⟨rfl,?_⟩
   rcases h with h|h
   ·obtain⟨j,hj⟩:=aS5 h;exact⟨j,aAO j,.inl hj⟩
   ·obtain⟨j,hj⟩:=aS5 h;exact⟨j,aAO j,.inr hj⟩
  ·exact .inl h1
 ·exact h1.elim
 ·exact .inr (.inr h1)
theorem adD.next{E:List Edge}{r i u v c:Nat}(h:adD E r i u v c):adD E r (i+1) u v c∨(u=r∧(E[i]?=some (r,v,c)∨E[i]?=some (v,r,c))):=by
 obtain⟨h1,j,h2,h3⟩:=h
 by_cases e:i=j
 ·subst e;exact .inr ⟨h1,h3⟩
 ·exact .inl ⟨h1,j,by omega,h3⟩
theorem DqI.skip{E:List Edge}{s N far:Nat}{d q:List Nat}{r i a b c:Nat}(I:DqI E s N far d q (adD E r i))(hi:E[i]?=some (a,b,c))(ha:r≠a)(hb:r≠b):DqI E s N far d q (adD E r (i+1)):=by
 refine⟨I.i,I.w,fun u v c' h=>?_⟩
 rcases I.tr u v c' h with h1|h1|h1
 ·exact .inl h1
 ·rcases h1.next with h1|⟨_,h2|h2⟩
  ·exact .inr (.inl h1)
  ·rw[hi]at h2;cases h2;exact(ha rfl).elim
  ·rw[hi]at h2;cases h2;exact(hb rfl).elim
 ·exact .inr (.inr h1)
theorem DqI.same{E:List Edge}{s N far:Nat}{d q:List Nat}{r i t c:Nat}(I:DqI E s N far d q (adD E r i))(hi:E[i]?=some (r,t,c)∨E[i]?=some (t,r,c))(hn:d.getD t 0≤d.getD r 0+c):DqI E s N far d q (adD E r (i+1)):=by
 refine⟨I.i,I.w,fun u v c' h=>?_⟩
 rcases I.tr u v c' h with h1|h1|h1
 ·exact .inl h1
 ·rcases h1.next with h1|⟨rfl,h2⟩
  ·exact .inr (.inl h1)
  ·right;right
   rcases hi with h3|h3<;>rcases h2 with h2|h2<;>(rw[h3]at h2;cases h2;exact hn)
 ·exact .inr (.inr h1)
theorem DqI.less{E:List Edge}{s N far:Nat}{d q q':List Nat}{r i t c:Nat}(I:DqI E s N far d q (adD E r i))(hr:r<N)(ht:t<N)(hrt:r≠t)(hi:E[i]?=some (r,t,c)∨E[i]?=some (t,r,c))(hn:d.getD r 0+c<d.getD t 0)(hq:∀x,x∈q'↔x=t∨x∈q):DqI E s N far (d.set t (d.getD r 0+c)) q' (adD E r (i+1)):=by
 have hl:=I.i.len
 have at_:=fun v=>aB1 (d:=d) (v:=v) (x:=d.getD r 0+c) (show t<d.length by omega)
 have hst:Stp E r t c:=hi.elim (fun h=>.inl (aSF h)) (fun h=>.inr (aSF h))
 have hfar:=I.i.le t ht
 have le:∀v,(d.set t (d.getD r 0+c)).getD v 0≤d.getD v 0:=fun v=>by
  rw[at_];split
  ·rename_i h;subst h;omega
  ·exact awL _
 refine⟨⟨by simpa using hl,?_,fun v hv=>?_,fun v hv=>?_⟩,fun x hx=>?_,fun u v c' h=>?_⟩
 ·rw[at_];split
  ·rename_i h;subst h;have:=I.i.src;omega
  ·exact I.i.src
 ·rw[at_];split
  ·rename_i h;subst h
   rcases I.i.real r hr with h|h
   ·omega
   ·exact .inr (h.step hst)
  ·exact I.i.real v hv
 ·have:=le v;have:=I.i.le v hv;omega
 ·rcases(hq x).1 hx with rfl|h
  ·exact ht
  ·exact I.w x h
 ·by_cases hu:u=t
  ·exact .inl ((hq u).2 (.inl hu))
  ·have hdu:(d.set t (d.getD r 0+c)).getD u 0=d.getD u 0:=by rw[at_,if_neg (fun e=>hu e.symm)]
   rcases I.tr u v c' h with h1|h1|h1
   ·exact .inl ((hq u).2 (.inr h1))
   ·rcases h1.next with h1|⟨rfl,h2⟩
    ·exact .inr (.inl h1)
    ·right;right
     have hvt:v=t∧c'=c:=by
      rcases hi with h3|h3<;>rcases h2 with h2|h2<;>(rw[h3]at h2;cases h2;first|exact⟨rfl,rfl⟩|exact(hrt rfl).elim)
     obtain⟨rfl,rfl⟩:=hvt
     rw[hdu,at_,if_pos rfl]
     exact awL _
   ·right;right
    have:=le v
    rw[hdu];omega
theorem adD.none{E:List Edge}{r i u v c:Nat}(hi:E.length≤i):¬adD E r i u v c:=fun⟨_,j,h1,h2⟩=>by
 rw[List.getElem?_eq_none (by omega)]at h2
 rcases h2 with h2|h2<;>cases h2
theorem DqI.done{E:List Edge}{s N far:Nat}{d q:List Nat}{r i:Nat}(I:DqI E s N far d q (adD E r i))(hi:E.length≤i):DqI E s N far d q (fun _ _ _=>False):=
 ⟨I.i,I.w,fun u v c h=>(I.tr u v c h).imp id fun h=>h.elim (fun h=>(adD.none hi h).elim) .inr⟩
theorem a2I{d:List Nat}:∀{t x:Nat},t<d.length→(d.set t x).sum+d.getD t 0=d.sum+x:=by
 induction d with
 |nil=>intro t x h;simp at h
 |cons a d ih=>
  intro t x h
  cases t with
  |zero=>simp;omega
  |succ t=>
   have:=ih (t:=t) (x:=x) (by simpa using h)
   simp only[aUU,List.sum_cons,List.getD_cons_succ]
   omega
theorem aCE{d:List Nat}{t x:Nat}(ht:t<d.length)(hx:x<d.getD t 0):(d.set t x).sum<d.sum:=by
 have:=a2I (d:=d) (x:=x) ht
 omega
theorem DqI.right{E:List Edge}{s N far:Nat}{d:List Nat}(hs:s<N)(hE:EOk E N)(hf:N≤far)(I:DqI E s N far d [] (fun _ _ _=>False)):atT E s N far (fun v=>d.getD v 0):=by
 refine aYO I.i.src I.i.real (fun u v c h=>?_) fun v k hk=>?_
 ·rcases I.tr u v c h with h1|h1|h1
  ·cases h1
  ·exact h1.elim
  ·exact h1
 ·have:=hk.le hs (fun a b c h=>⟨(hE a b c h).1,(hE a b c h).2.1⟩) (fun a b c h=>(hE a b c h).2.2.2)
  omega
theorem atT.num{E:List Edge}{s N far far':Nat}{d d':Nat→Nat}(h:atT E s N far d)(h':atT E s N far' d')(hf:N≤far)(hf':N≤far')(hs:s<N)(hE:EOk E N){v:Nat}(hv:v<N):(d v=far↔d' v=far')∧(d v≠far→d v=d' v)∧(d v≠far→d v<N):=by
 have hE1:∀a b c,(a,b,c)∈E→a<N∧b<N:=fun a b c h=>⟨(hE a b c h).1,(hE a b c h).2.1⟩
 have hE2:∀a b c,(a,b,c)∈E→c≤1:=fun a b c h=>(hE a b c h).2.2.2
 by_cases e:∃k,Cst E s v k
 ·obtain⟨k,hk⟩:=e
  obtain⟨j,hj⟩:=Lst.ex hk
  have h1:=(h v hv).1 j hj
  have h2:=(h' v hv).1 j hj
  have h3:=hj.le hs hE1 hE2
  rw[h1,h2]
  exact⟨⟨fun e=>by omega,fun e=>by omega⟩,fun _=>rfl,fun _=>by omega⟩
 ·have hn:∀k,¬Cst E s v k:=fun k hk=>e ⟨k,hk⟩
  have h1:=(h v hv).2 hn
  have h2:=(h' v hv).2 hn
  rw[h1,h2]
  exact⟨⟨fun _=>rfl,fun _=>rfl⟩,fun h=>(h rfl).elim,fun h=>(h rfl).elim⟩
end Net
end Go.Ev
namespace Go.Ev
namespace Net
def Lo(N s far:Nat):List Nat:=(aN4 N far).set s 0
theorem aEJ{N s far v:Nat}(hs:s<N)(hv:v<N):(Lo N s far).getD v 0=if s=v then 0 else far:=by
 unfold Lo
 rw[aB1 (by simpa using hs)]
 split
 ·rfl
 ·simp[a0J,hv]
theorem aOU{E:List Edge}{N s far:Nat}(hs:s<N):aGI E s N far (Lo N s far):=by
 refine⟨by simp[Lo],by rw[aEJ hs hs,if_pos rfl],fun v hv=>?_,fun v hv=>?_⟩
 ·rw[aEJ hs hv]
  split
  ·rename_i h;subst h;exact .inr ⟨0,.nil 0⟩
  ·exact .inl rfl
 ·rw[aEJ hs hv];split<;>omega
theorem a2Y{E:List Edge}{N s far:Nat}(hs:s<N)(hE:EOk E N):DqI E s N far (Lo N s far) [s] (fun _ _ _=>False):=by
 refine⟨aOU hs,fun r hr=>by simp at hr;omega,fun u v c h=>?_⟩
 have hb:u<N∧v<N:=h.elim (fun h=>⟨(hE _ _ _ h).1,(hE _ _ _ h).2.1⟩) (fun h=>⟨(hE _ _ _ h).2.1,(hE _ _ _ h).1⟩)
 by_cases e:u=s
 ·exact .inl (by simp[e])
 ·right;right
  rw[aEJ hs hb.1,if_neg (fun h=>e h.symm)]
  have:=(aOU (E:=E) (far:=far) hs).le v hb.2
  omega
def aG8(E:List Edge)(N len:Nat):Nat:=if 1000≤(aEB E N (Lo N 0 1000)).getD 1 0 then len+1 else(aEB E N (Lo N 0 1000)).getD 1 0
theorem aAN{E:List Edge}{N:Nat}(hN:2≤N)(hN2:N≤1000)(hE:EOk E N):atT E 0 N 1000 (fun v=>(aEB E N (Lo N 0 1000)).getD v 0):=
 aPA (by omega) hE hN2 (aOU (by omega)) (by omega)
theorem a96{E:List Edge}{N far len:Nat}(hN:2≤N)(hN2:N≤1000)(hf:N≤far)(hE:EOk E N){d:Nat→Nat}(h:atT E 0 N far d):(if d 1=far then len+1 else d 1)=aG8 E N len:=by
 obtain⟨h1,h2,h3⟩:=atT.num (aAN hN hN2 hE) h hN2 hf (by omega) hE (v:=1) (by omega)
 unfold aG8
 by_cases e:(aEB E N (Lo N 0 1000)).getD 1 0=1000
 ·rw[if_pos (h1.1 e),if_pos (by rw[e];exact awL _)]
 ·have:=h3 e
  rw[if_neg (fun h=>e (h1.2 h)),if_neg (by omega)]
  exact(h2 e).symm
end Net
end Go.Ev
namespace Go.Ev
namespace Net
end Net
end Go.Ev
namespace Go.Ev
namespace Net
theorem EOk.ends{E:List Edge}{N:Nat}(h:EOk E N):∀a b c,(a,b,c)∈E→a<N∧b<N:=fun a b c e=>⟨(h a b c e).1,(h a b c e).2.1⟩
theorem EOk.one{E:List Edge}{N:Nat}(h:EOk E N):∀a b c,(a,b,c)∈E→c≤1:=fun a b c e=>(h a b c e).2.2.2
theorem aQY{E:List Edge}{N len k:Nat}(hN:2≤N)(hN2:N≤1000)(hE:EOk E N)(h:Lst E 0 1 k):aG8 E N len=k∧k<N:=by
 have h1:=(aAN hN hN2 hE 1 (by omega)).1 k h
 have h2:=h.le (s:=0) (by omega) hE.ends hE.one
 simp only at h1
 unfold aG8
 rw[h1,if_neg (by omega)]
 exact⟨rfl,by omega⟩
theorem aQB{E:List Edge}{N len:Nat}(hN:2≤N)(hN2:N≤1000)(hE:EOk E N)(h:∀k,¬Cst E 0 1 k):aG8 E N len=len+1:=by
 have h1:=(aAN hN hN2 hE 1 (by omega)).2 h
 simp only at h1
 unfold aG8
 rw[h1,if_pos (awL _)]
def Tgh(E E':List Edge):Prop:=∀a b c',(a,b,c')∈E'→∃c,(a,b,c)∈E∧c≤c'
theorem Lr.tgh{E E':List Edge}(h:Tgh E E'){s n v k:Nat}(hw:Lr E' s n v k):∃k',k'≤k∧Lr E s n v k':=by
 induction hw with
 |nil n=>exact⟨0,awL _,.nil n⟩
 |fwd _ he ih=>
  obtain⟨k',h1,h2⟩:=ih
  obtain⟨c,h3,h4⟩:=h _ _ _ he
  exact⟨k'+c,by omega,.fwd h2 h3⟩
 |bwd _ he ih=>
  obtain⟨k',h1,h2⟩:=ih
  obtain⟨c,h3,h4⟩:=h _ _ _ he
  exact⟨k'+c,by omega,.bwd h2 h3⟩
def aFS(E E':List Edge):Prop:=∀a b c,(a,b,c)∈E→∃c',(a,b,c')∈E'
theorem Lr.ends{E E':List Edge}(h:aFS E E'){s n v k:Nat}(hw:Lr E s n v k):∃k',Lr E' s n v k':=by
 induction hw with
 |nil n=>exact⟨0,.nil n⟩
 |fwd _ he ih=>
  obtain⟨k',h2⟩:=ih
  obtain⟨c,h3⟩:=h _ _ _ he
  exact⟨k'+c,.fwd h2 h3⟩
 |bwd _ he ih=>
  obtain⟨k',h2⟩:=ih
  obtain⟨c,h3⟩:=h _ _ _ he
  exact⟨k'+c,.bwd h2 h3⟩
theorem aY4{E E':List Edge}{N len:Nat}(hN:2≤N)(hN2:N≤1000)(hE:EOk E N)(hE':EOk E' N)(h:Tgh E E')(he:aFS E E'):aG8 E N len≤aG8 E' N len:=by
 by_cases hp:∃k,Cst E' 0 1 k
 ·obtain⟨k,hk⟩:=hp
  obtain⟨j,hj⟩:=Lst.ex hk
  obtain⟨n,hn⟩:=hj.1
  obtain⟨i,hi,hw⟩:=hn.tgh h
  obtain⟨m,hm⟩:=Lst.ex (E:=E) ⟨n,hw⟩
  rw[(aQY hN hN2 hE hm).1,(aQY hN hN2 hE' hj).1]
  exact aHN (hm.2 i ⟨n,hw⟩) hi
 ·have h1:∀k,¬Cst E' 0 1 k:=fun k hk=>hp ⟨k,hk⟩
  have h2:∀k,¬Cst E 0 1 k:=fun k ⟨n,hk⟩=>by
   obtain⟨k',hk'⟩:=hk.ends he
   exact h1 k' ⟨n,hk'⟩
  rw[aQB hN hN2 hE h2,aQB hN hN2 hE' h1]
  exact awL _
end Net
end Go.Ev
namespace Go.Ev
namespace Net
end Net
end Go.Ev
namespace Go.Ev
namespace Net
end Net
end Go.Ev
namespace Go.Ev
structure Sys(S:Type) where
 goal:S→Bool
 ops:S→List (Nat × List S)
inductive Can{S:Type}(Y:Sys S):S→Nat→Prop
 |met {s:S} {k:Nat} (h:Y.goal s=true):Can Y s k
 |op {s:S} {c:Nat} {to:List S} {k k':Nat} (h:(c,to)∈Y.ops s) (ht:∀s'∈to,Can Y s' k') (hk:c+k'≤k):Can Y s k
namespace Can
variable {S:Type} {Y:Sys S}
theorem mono{s:S}{k j:Nat}(h:Can Y s k)(hj:k≤j):Can Y s j:=by
 cases h with
 |met h=>exact .met h
 |op h ht hk=>exact .op h ht (by omega)
theorem le_of_stable{L:List S}{f:S→Nat}{top:Nat}(hg:∀s∈L,Y.goal s=true→f s=0)
 (hs:∀s∈L,∀c to,(c,to)∈Y.ops s→(∀s'∈to,s'∈L)∧∀m,m<top→(∀s'∈to,f s'≤m)→f s≤c+m) {s:S} {k:Nat} (h:Can Y s k):s∈L→k<top→f s≤k:=by
 induction h with
 |met h=>intro hL _;rw[hg _ hL h];exact aAO _
 | @op s c to k k' h ht hk ih=>
   intro hL hkt
   obtain⟨h1,h2⟩:=hs s hL c to h
   have:=h2 k' (by omega) fun s' h'=>ih s' h' (h1 s' h') (by omega)
   omega
end Can
theorem aKO{S:Type}[DecidableEq S]{L:List S}{f:S→Nat}{top b:Nat}(h:∀s∈L,f s<top→0<f s→∃s'∈L,f s'<f s∧f s≤b+f s'):∀n,∀s∈L,f s=n→n<top→n≤b*(L.filter fun s'=>decide (f s'<n)).length:=by
 intro n
 induction n using aTY with
 |ind n ih=>
  intro s hs hf ht
  by_cases h0:0<n
  ·obtain⟨s',h1,h2,h3⟩:=h s hs (by omega) (by omega)
   have h4:=ih (f s') (by omega) s' h1 rfl (by omega)
   have h5:(L.filter fun x=>decide (f x<f s')).length+1≤(L.filter fun x=>decide (f x<n)).length:=by
    clear h4 ih h hs
    have gen:∀{M:List S},s'∈M→(M.filter fun x=>decide (f x<f s')).length+1≤(M.filter fun x=>decide (f x<n)).length:=fun {M}=>by
     have le:∀{M:List S},(M.filter fun x=>decide (f x<f s')).length≤(M.filter fun x=>decide (f x<n)).length:=fun {M}=>by
      induction M with
      |nil=>simp
      |cons a M ih=>
       by_cases e1:f a<f s'
       ·rw[aEX (by simpa using e1),aEX (by simp;omega)];simp;exact ih
       ·rw[aHR (by simpa using e1)]
        by_cases e2:f a<n
        ·rw[aEX (by simpa using e2)];simp;omega
        ·rw[aHR (by simpa using e2)];exact ih
     induction M with
     |nil=>intro h;cases h
     |cons a M ih=>
      intro hm
      rcases azV.1 hm with rfl|hm
      ·rw[aHR (by simp),aEX (by simp;omega)]
       have:=le (M:=M)
       simp;omega
      ·have:=ih hm
       by_cases e1:f a<f s'
       ·rw[aEX (by simpa using e1),aEX (by simp;omega)];simp;exact this
       ·rw[aHR (by simpa using e1)]
        by_cases e2:f a<n
        ·rw[aEX (by simpa using e2)];simp;omega
        ·rw[aHR (by simpa using e2)];exact this
    exact gen h1
   have:b*((L.filter fun x=>decide (f x<f s')).length+1)≤b*(L.filter fun x=>decide (f x<n)).length:=a0L b h5
   rw[Nat.mul_add,Nat.mul_one]at this
   omega
  ·have:n=0:=by omega
   subst this;exact aAO _
theorem aXU{S:Type}[DecidableEq S]{L:List S}{f:S→Nat}{top b:Nat}(h:∀s∈L,f s<top→0<f s→∃s'∈L,f s'<f s∧f s≤b+f s'){s:S}(hs:s∈L)(ht:f s<top):f s≤b*L.length:=
 aHN (aKO h (f s) s hs rfl ht) (a0L b (List.length_filter_le ..))
namespace Sys
variable {S:Type}
def mx(f:S→Nat)(l:List S):Nat:=l.foldl (fun m x=>max m (f x)) 0
theorem aED(f:S→Nat):∀(l:List S) (m:Nat),m≤l.foldl (fun m x=>max m (f x)) m∧(∀x∈l,f x≤l.foldl (fun m x=>max m (f x)) m)∧(l.foldl (fun m x=>max m (f x)) m=m∨∃x∈l,l.foldl (fun m x=>max m (f x)) m=f x)
 | [],m=>⟨awL _,by simp,.inl rfl⟩
 |a::l,m=>by
  obtain⟨h1,h2,h3⟩:=aED f l (max m (f a))
  simp only[aL7]
  refine⟨by omega,fun x hx=>?_,?_⟩
  ·rcases azV.1 hx with rfl|hx
   ·omega
   ·exact h2 x hx
  ·rcases h3 with h3|⟨x,hx,h3⟩
   ·by_cases hm:m≤f a
    ·exact .inr ⟨a,by simp,by rw[h3];omega⟩
    ·exact .inl (by rw[h3];omega)
   ·exact .inr ⟨x,ay8 _ hx,h3⟩
theorem mx_le{f:S→Nat}{l:List S}{x:S}(h:x∈l):f x≤mx f l:=(aED f l 0).2.1 x h
theorem aJH{f:S→Nat}{l:List S}{m:Nat}(h:∀x∈l,f x≤m):mx f l≤m:=by
 rcases(aED f l 0).2.2 with e|⟨x,hx,e⟩
 ·unfold mx;rw[e];exact aAO _
 ·unfold mx;rw[e];exact h x hx
theorem bbG{f:S→Nat}{l:List S}(h:l≠[]):∃x∈l,mx f l=f x:=by
 rcases(aED f l 0).2.2 with e|⟨x,hx,e⟩
 ·obtain⟨a,ha⟩:=List.exists_mem_of_ne_nil l h
  have:=mx_le (f:=f) ha
  unfold mx at this
  exact⟨a,ha,by unfold mx;omega⟩
 ·exact⟨x,hx,e⟩
theorem aP9{f g:S→Nat}{l:List S}(h:∀x∈l,g x≤f x):mx g l≤mx f l:=aJH fun x hx=>aHN (h x hx) (mx_le hx)
variable [DecidableEq S] (Y:Sys S)
structure Known(top:Nat)(L:List S)(f:S→Nat):Prop where
 ops:∀s∈L,∀o∈Y.ops s,1≤o.1∧o.1≤1000∧o.2≠[]∧∀x∈o.2,x∈L
 le:∀s∈L,f s≤top
 goal:∀s∈L,Y.goal s=true→f s=0
 got:∀s∈L,f s<top→Can Y s (f s)
 by_:∀s∈L,f s<top→Y.goal s=true∨∃o∈Y.ops s,o.1+mx f o.2≤f s
variable {Y}
theorem Known.less{top:Nat}{L:List S}{f:S→Nat}(K:Y.Known top L f){s:S}{o:Nat × List S}(ho:o∈Y.ops s)(hs:s∈L){n:Nat}(hn:n=min top (o.1+mx f o.2))(hl:n<f s):Y.Known top L (fun x=>if x=s then n else f x):=by
 have hts:=K.le s hs
 have hnt:n<top:=by omega
 have hno:n=o.1+mx f o.2:=by omega
 have dn:∀x:S,(if x=s then n else f x)≤f x:=fun x=>by
  split
  ·rename_i e;subst e;omega
  ·exact awL _
 have hx:∀x∈o.2,f x<top:=fun x h=>by have:=mx_le (f:=f) h;omega
 refine⟨K.ops,fun x h=>aHN (dn x) (K.le x h),fun x h hg=>?_,fun x h hlt=>?_,fun x h hlt=>?_⟩
 ·have:=K.goal x h hg
  have:=dn x
  omega
 ·by_cases e:x=s
  ·subst e
   simp only[if_true]
   refine .op (c:=o.1) (to:=o.2) ho (k':=mx f o.2) (fun y hy=>?_) (by omega)
   exact(K.got y ((K.ops _ hs o ho).2.2.2 y hy) (hx y hy)).mono (mx_le hy)
  ·simp only[if_neg e]at hlt ⊢
   exact K.got x h hlt
 ·by_cases e:x=s
  ·subst e
   simp only[if_true]
   exact .inr ⟨o,ho,by have:=aP9 (f:=f) (l:=o.2) fun y _=>dn y;omega⟩
  ·simp only[if_neg e]at hlt ⊢
   rcases K.by_ x h hlt with hg|⟨p,hp,hle⟩
   ·exact .inl hg
   ·exact .inr ⟨p,hp,by have:=aP9 (f:=f) (l:=p.2) fun y _=>dn y;omega⟩
theorem Known.best{top:Nat}{L:List S}{f:S→Nat}(K:Y.Known top L f)(st:∀s∈L,∀o∈Y.ops s,f s≤min top (o.1+mx f o.2)){s:S}(hs:s∈L):
 (∀k,k<top→Can Y s k→f s≤k)∧(f s<top→Can Y s (f s)∧f s≤1000*L.length)∧(f s=0→0<top→Y.goal s=true):=by
 refine⟨fun k hk hc=>Can.le_of_stable K.goal (fun s hs c to ho=>⟨(K.ops s hs _ ho).2.2.2,fun m hm h=>?_⟩) hc hs hk,fun h=>⟨K.got s hs h,aXU (f:=f) (top:=top) (fun s hs hlt h0=>?_) hs h⟩,fun h0 ht=>?_⟩
 ·have h1:=st s hs _ ho
  have h2:=aJH (f:=f) h
  simp only at h1
  omega
 ·rcases K.by_ s hs hlt with hg|⟨o,ho,hle⟩
  ·have:=K.goal s hs hg;omega
  ·have h1:=st s hs o ho
   obtain⟨a1,a2,a3,a4⟩:=K.ops s hs o ho
   obtain⟨x,hx,e⟩:=bbG (f:=f) a3
   exact⟨x,a4 x hx,by omega,by omega⟩
 ·rcases K.by_ s hs (by omega)with hg|⟨o,ho,hle⟩
  ·exact hg
  ·have:=(K.ops s hs o ho).1;omega
end Sys
end Go.Ev
namespace Go.Ev
theorem aK1{P:Nat→Prop}(h:∃k,P k):∃k,P k∧∀j,P j→k≤j:=by
 obtain⟨k,hk⟩:=h
 induction k using aTY with
 |ind k ih=>
  by_cases c:∃j,j<k∧P j
  ·obtain⟨j,h1,h2⟩:=c;exact ih j h1 h2
  ·exact⟨k,hk,fun j hj=>by
    by_cases e:j<k
    ·exact absurd ⟨j,e,hj⟩ c
    ·omega⟩
namespace Sys
variable {S:Type} (Y:Sys S)
noncomputable def bst(top:Nat)(s:S):Nat:=@dite Nat (∃k,Can Y s k) (Classical.propDecidable _) (fun h=>Classical.choose (aK1 h)) fun _=>top
variable {Y}
theorem bst_can{top:Nat}{s:S}(h:∃k,Can Y s k):Can Y s (Y.bst top s)∧∀k,Can Y s k→Y.bst top s≤k:=by
 unfold bst;rw[dif_pos h];exact Classical.choose_spec (aK1 h)
theorem bst_none{top:Nat}{s:S}(h:¬∃k,Can Y s k):Y.bst top s=top:=by
 unfold bst;rw[dif_neg h]
theorem bst_goal{top:Nat}{s:S}(h:Y.goal s=true):Y.bst top s=0:=by
 have:=(bst_can (top:=top) ⟨0,.met h⟩).2 0 (.met h);omega
structure Fine(Y:Sys S)(top:Nat)(s:S):Prop where
 lt:(∃k,Can Y s k)→Y.bst top s<top
theorem Known.fin[DecidableEq S]{top:Nat}{L:List S}{f:S→Nat}(K:Y.Known top L f)(st:∀s∈L,∀o∈Y.ops s,f s≤min top (o.1+mx f o.2))(hb:1000*L.length+1000<top){s:S}{k:Nat}(h:Can Y s k):s∈L→f s<top:=by
 induction h with
 |met h=>intro hL;rw[K.goal _ hL h];omega
 | @op s c to k k' h ht hk ih=>
   intro hL
   obtain⟨a1,a2,a3,a4⟩:=K.ops s hL _ h
   have hm:mx f to≤1000*L.length:=aJH fun x hx=>((K.best st (a4 x hx)).2.1 (ih x hx (a4 x hx))).2
   have:=st s hL _ h
   simp only at this a2
   omega
theorem Known.bst[DecidableEq S]{top:Nat}{L:List S}{f:S→Nat}(K:Y.Known top L f)(st:∀s∈L,∀o∈Y.ops s,f s≤min top (o.1+mx f o.2))(hb:1000*L.length+1000<top){s:S}(hs:s∈L):f s=Y.bst top s∧((∃k,Can Y s k)→f s<top):=by
 by_cases h:∃k,Can Y s k
 ·obtain⟨k,hk⟩:=h
  have hf:=K.fin st hb hk hs
  obtain⟨b1,b2⟩:=bst_can (top:=top) ⟨k,hk⟩
  obtain⟨c1,c2,c3⟩:=K.best st hs
  have d1:=b2 _ (c2 hf).1
  have d2:=c1 (Y.bst top s) (by omega) b1
  exact⟨by omega,fun _=>hf⟩
 ·refine⟨?_,fun h'=>absurd h' h⟩
  rw[bst_none h]
  by_cases e:f s<top
  ·exact absurd ⟨_,K.got s hs e⟩ h
  ·have:=K.le s hs;omega
theorem bst_le{top:Nat}{s:S}(hs:Y.Fine top s){c:Nat}{to:List S}(h:(c,to)∈Y.ops s):Y.bst top s≤min top (c+mx (Y.bst top) to):=by
 have h1:Y.bst top s≤top:=by
  by_cases e:∃k,Can Y s k
  ·exact Nat.le_of_lt (hs.lt e)
  ·rw[bst_none e];exact awL _
 by_cases a:∀x∈to,∃k,Can Y x k
 ·have hc:Can Y s (c+mx (Y.bst top) to):=.op h (fun x hx=>(bst_can (a x hx)).1.mono (mx_le hx)) (awL _)
  have:=(bst_can (top:=top) ⟨_,hc⟩).2 _ hc
  omega
 ·obtain⟨x,hx⟩:=Classical.not_forall.1 a
  obtain⟨hx,hn⟩:=Classical.not_imp.1 hx
  have h2:=mx_le (f:=Y.bst top) hx
  rw[bst_none hn]at h2
  omega
theorem bst_op{top:Nat}{s:S}(hs:Y.Fine top s)(h:Y.bst top s<top)(hg:Y.goal s=false)(h1:∀o∈Y.ops s,1≤o.1):∃o∈Y.ops s,Y.bst top s=min top (o.1+mx (Y.bst top) o.2)∧∀x∈o.2,(∃k,Can Y x k)∧Y.bst top x<Y.bst top s:=by
 have e:∃k,Can Y s k:=Classical.byContradiction fun n=>by rw[bst_none n]at h;omega
 have hc:=(bst_can (top:=top) e).1
 generalize hb:Y.bst top s=b at *
 cases hc with
 |met h=>rw[hg]at h;cases h
 | @op _ c to _ k' ho ht hk=>
   have hx:∀x∈to,Y.bst top x≤k':=fun x hx=>(bst_can ⟨_,ht x hx⟩).2 _ (ht x hx)
   have hm:mx (Y.bst top) to≤k':=aJH hx
   have h3:=bst_le hs ho
   rw[hb]at h3
   have h4:=h1 _ ho
   exact⟨(c,to),ho,by simp only;omega,fun x hx'=>⟨⟨_,ht x hx'⟩,by have:=hx x hx';simp only at h4;omega⟩⟩
theorem bst_pos{top:Nat}{s:S}(hs:Y.Fine top s)(ht:0<top)(h1:∀o∈Y.ops s,1≤o.1):Y.bst top s=0↔Y.goal s=true:=by
 constructor
 ·intro h
  cases hg:Y.goal s with
  |true=>rfl
  |false=>
   obtain⟨o,ho,e,_⟩:=bst_op hs (by omega) hg h1
   have:=h1 o ho
   omega
 ·exact bst_goal
end Sys
end Go.Ev
namespace Go.Ev
namespace Snake
theorem nodup_sub{α:Type}[DecidableEq α]:∀{l m:List α},l.Nodup→(∀x∈l,x∈m)→l.length≤m.length
 | [],_,_,_=>aAO _
 |a::l,m,hn,hs=>by
  have hn':=List.nodup_cons.1 hn
  have h1:=nodup_sub (l:=l) (m:=m.erase a) hn'.2 fun x hx=>(List.mem_erase_of_ne (fun e=>hn'.1 (by rw[←e];exact hx))).2 (hs x (by simp[hx]))
  rw[List.length_erase_of_mem (hs a (by simp))]at h1
  have:=List.length_pos_of_mem (hs a (by simp))
  simp;omega
end Snake
end Go.Ev
namespace Go.Ev
noncomputable section
open Go.RowKit
def aOZ(x:Int):List Int→List Int
 | []=>[x]
 |y::l=>if x≤y then x::y::l else y::aOZ x l
def aEN:List Int→List Int
 | []=>[]
 |x::l=>aOZ x (aEN l)
theorem aCR(x:Int):∀l:List Int,(aOZ x l).Perm (x::l)
 | []=>List.Perm.refl _
 |y::l=>by
  unfold aOZ
  split
  ·exact List.Perm.refl _
  ·exact((aCR x l).cons y).trans (List.Perm.swap x y l)
theorem aAC:∀l:List Int,(aEN l).Perm l
 | []=>List.Perm.refl _
 |x::l=>(aCR x _).trans ((aAC l).cons x)
theorem aDQ(x:Int):∀{l:List Int},l.Pairwise (· ≤·)→(aOZ x l).Pairwise (· ≤·)
 | [],_=>by simp[aOZ]
 |y::l,h=>by
  rw[aNR]at h
  unfold aOZ
  split
  ·rename_i hxy
   refine aNR.2 ⟨fun z hz=>?_,aNR.2 h⟩
   rcases azV.1 hz with rfl|hz
   ·exact hxy
   ·exact Int.le_trans hxy (h.1 z hz)
  ·rename_i hxy
   refine aNR.2 ⟨fun z hz=>?_,aDQ x h.2⟩
   rcases azV.1 ((aCR x l).mem_iff.1 hz)with rfl|hz
   ·omega
   ·exact h.1 z hz
theorem aBH:∀l:List Int,(aEN l).Pairwise (· ≤·)
 | []=>List.Pairwise.nil
 |x::l=>aDQ x (aBH l)
theorem aZG(l:List Int):(l.mergeSort fun x y=>decide (x≤y))=aEN l:=by
 have h1:=List.pairwise_mergeSort (le:=fun x y:Int=>decide (x≤y)) (by simp;omega) (by simp;omega) l
 refine List.Perm.eq_of_pairwise (le:=(· ≤·)) (fun a b _ _ h1 h2=>Int.le_antisymm h1 h2) ?_ (aBH l) ((List.mergeSort_perm l _).trans (aAC l).symm)
 simpa using h1
theorem aTX(l:List Int):(aEN l).length=l.length:=(aAC l).length_eq
def aFW:List (List AV)→Option (List Int)
 | []=>some []
 | [.int .i64 n]::l=>(aFW l).map (n::·)
 |_=>none
theorem aHX:∀{rows:List (List AV)} {l:List Int},aFW rows=some l→rows=l.map fun n=>[.int .i64 n]
 | [],l,h=>by simp[aFW]at h;subst h;rfl
 |r::rows,l,h=>by
  unfold aFW at h
  split at h
  ·rename_i e;cases e
  ·rename_i n l' e
   cases e
   obtain⟨l2,h2,rfl⟩:=aoR.1 h
   rw[aHX h2];rfl
  ·cases h
def aQI:List AV→Aa→Option (Do × Aa)
 | [.slr 1 b 0 len],h=>match h[b]? with
   |some (.live 1 true _ rows)=>if rows.length=len∧1≤len∧len≤549755813888 then(aFW rows).map fun zs=>(.ret (.tup []),h.set b (.live 1 true true ((aEN zs).map fun n=>[.int .i64 n])))else none
   |_=>none
 |_,_=>none
section
variable {P:Program} {G:Nat→Option Obj}
theorem aHF{w:World}{cb:Nat}{c:Array Value}{e:TypeId}{fz:Nat × Nat}(hk:w.heap[cb]?=some (.cells c e fz))(f:Array Value→Array Value):Go.Sort.mapBlock w cb f=setB w cb (.cells (f c) e fz):=by
 unfold Go.Sort.mapBlock setB
 congr 1
 apply Array.ext_getElem?
 intro k
 simp only[Array.getElem?_modify,Array.getElem?_setIfInBounds]
 by_cases h:cb=k
 ·subst h
  have hl:=(Array.getElem?_eq_some_iff.1 hk).1
  rw[if_pos rfl,if_pos rfl,if_pos hl,hk];rfl
 ·rw[if_neg h,if_neg h]
theorem aK6(w:World)(n:Nat):Below w.heap.size w (Go.Sort.ahead w n) where
 os:=rfl
 tape:=rfl
 output:=rfl
 size:=awL _
 block:=fun _ _=>rfl
theorem a09{f:Nat}(hen:∀args w,(callFunc f args).run P w=.ok (.enter f args) w)
 (hc:∀(blk off cap:Nat) (zs:List Int) (w:World),Go.Sort.Holds (Value.int .i64) w blk off zs.toArray→blk<w.heap.size→zs.length<4611686018427387904→
   Calls P f #[.slice (some ⟨blk,off,none⟩) zs.length cap] w fun e w'=>e=.returned (.tuple #[])∧∃n os,w'=Go.Sort.grow (Go.Sort.putRow (Value.int .i64) (Go.Sort.ahead w n) blk off (zs.mergeSort fun x y=>decide (x≤y)).toArray) os):aC3 P G f aQI:=by
 intro args h out h' hp
 refine⟨hen,fun w S ρ cargs hI H dom all hargs=>?_⟩
 unfold aQI at hp
 split at hp
 ·rename_i b len
  split at hp
  ·rename_i wr rows hg
   split at hp
   ·rename_i hl
    obtain⟨hl1,hl2,hl3⟩:=hl
    obtain⟨zs,hz,hp⟩:=aoR.1 hp
    simp only[Prod.mk.injEq]at hp
    obtain⟨rfl,rfl⟩:=hp
    have hrows:=aHX hz
    have hzl:zs.length=len:=by rw[←hl1,hrows];simp
    obtain⟨v,vs',e,hv,hn⟩:=hargs.cons_inv
    have:=hn.nil_inv
    subst this
    have ec:cargs=#[v]:=by apply Array.toList_inj.1;rw[e]
    subst ec
    have hbl:b<h.length:=(aCG.1 hg).1
    cases hv with
    |slrD hρ _=>have:=H.dead b hρ;rw[show hf h b=some _ from hg]at this;cases this
    | @slr _ _ _ _ cb co _ sz cap a hρ hle ha=>
      obtain⟨c,e',fz,fl',rows',k1,k2,k3,k4⟩:=H.at_ b cb co 1 sz hρ
      rcases k4 with⟨⟨wr',k4⟩,hS,hfz⟩|⟨k4,_⟩
      ·rw[show hf h b=some _ from hg]at k4
       cases k4
       rcases ha with ha|⟨rfl,hcap⟩
       ·omega
       have hco:co+len≤c.size:=by have:=k3.len;rw[hl1]at this;omega
       have hold:Go.Sort.Holds (Value.int .i64) w cb (co+0*1) zs.toArray:=fun j hj=>by
        have hj':j<zs.length:=by simpa using hj
        have hr:rows[j]?=some [AV.int .i64 zs[j]]:=by rw[hrows,aI5,aHP hj'];rfl
        obtain⟨v,h1,h2⟩:=k3.cell j _ 0 _ hr rfl
        cases h2
        have hlt:co+j<c.size:=by omega
        refine⟨?_,aH8 k1 (hfz _ (by rw[←k2];omega))⟩
        rw[aA0 k1]
        simp only[Nat.zero_mul,aKP]
        have h1':c[co+j]?=some (Value.int .i64 zs[j]):=by simpa using h1
        rw[h1']
        simp[getElem!_pos,hj']
       rw[←hzl]
       refine(hc cb (co+0*1) cap zs w hold (H.lt hρ) (by omega)).mono fun e w' hw=>?_
       obtain⟨rfl,n,os,rfl⟩:=hw
       rw[aZG]
       have hB1:=aK6 w n
       have H1:=H.below hB1
       have k1':(Go.Sort.ahead w n).heap[cb]?=some (.cells c e' fz):=k1
       have hsl:=aTX zs
       generalize aEN zs=ys at *
       have hput:Go.Sort.putRow (Value.int .i64) (Go.Sort.ahead w n) cb (co+0*1) ys.toArray=setB (Go.Sort.ahead w n) cb (.cells (Go.Sort.putCells (Value.int .i64) (co+0*1) ys.toArray c) e' fz):=aHF k1' _
       rw[hput]
       have hcs:(Go.Sort.putCells (Value.int .i64) (co+0*1) ys.toArray c).size=c.size:=by simp[Go.Sort.putCells]
       have hblk:Dm (Go.Sort.ahead w n) S ρ (Go.Sort.putCells (Value.int .i64) (co+0*1) ys.toArray c) co 1 true (ys.map fun n=>[.int .i64 n]):=by
        refine⟨by rw[hcs];simp;omega,fun r hr=>?_,fun _ r hr x hx=>?_,fun i r j x hr hx=>?_,fun r hr x hx=>?_⟩
        ·obtain⟨n,_,rfl⟩:=aG2.1 hr;rfl
        ·obtain⟨n,_,rfl⟩:=aG2.1 hr;simp at hx;subst hx;rfl
        ·rw[aI5]at hr
         obtain⟨m,hm,rfl⟩:=aoR.1 hr
         have hi:i<ys.length:=(aCG.1 hm).1
         have hx':j=0∧x=.int .i64 m:=by
          cases j with
          |zero=>simp at hx;exact⟨rfl,hx.symm⟩
          |succ j=>simp at hx
         obtain⟨rfl,rfl⟩:=hx'
         refine⟨.int .i64 m,?_,.int _ _⟩
         simp only[Go.Sort.putCells,Array.getElem?_mapIdx,Nat.mul_one,aKP,Nat.zero_mul,aKP]
         rw[Array.getElem?_eq_getElem (by omega),aA5,if_pos ⟨by omega,by simp;omega⟩,show co+i-co=i by omega]
         have:ys[i]?=some m:=hm
         have h2:=aCG.1 hm
         simp[getElem!_pos,h2.1,h2.2]
        ·obtain⟨n,_,rfl⟩:=aG2.1 hr;simp at hx;subst hx;rfl
       have H2:=H1.setLive (wr:=true) hρ hS (e:=e') (fz:=fz) (by rw[hcs];exact k2) hfz ⟨_,_,_,k1'⟩ hblk
       have hs2:=Dp.setB (w:=Go.Sort.ahead w n) hρ hS ⟨_,_,_,k1'⟩ (.cells (Go.Sort.putCells (Value.int .i64) (co+0*1) ys.toArray c) e' fz)
       generalize hw2:setB (Go.Sort.ahead w n) cb (.cells (Go.Sort.putCells (Value.int .i64) (co+0*1) ys.toArray c) e' fz)=w2 at *
       have hB3:=aE7 (w:=w2) (awL _) os
       have H3:=H2.below hB3
       refine⟨.tuple #[],S,ρ,⟨⟨_,rfl⟩,rfl⟩,.tup rfl (fun i x v hx _=>by simp at hx),by rw[aPS hbl];exact H3,((Dp.below H hB1).trans hs2).trans (Dp.below H2 hB3),fun b' hb'=>dom b' (by simpa using hb'),fun b' hb'=>all b' (by simpa using hb'),by simp,fun i x x' hx hx' hsm=>?_⟩
       by_cases e:i=b
       ·subst e
        rw[hg]at hx;cases hx
        rw[a0K hbl]at hx';cases hx'
        simp[CB.same]at hsm
       ·refine⟨rfl,fun cb' co' st' sz' hb'=>?_⟩
        have hne:cb'≠cb:=fun q=>e (H.inj _ _ _ _ _ _ _ _ _ hb' (q▸hρ))
        have hl':cb'<w.heap.size:=H.lt hb'
        have hw2s:w2.heap.size=w.heap.size:=by rw[←hw2];simp[setB,Go.Sort.ahead]
        rw[hB3.block cb' (by rw[hw2s];exact hl'),←hw2,An hne]
        rfl
      ·rw[show hf h b=some _ from hg]at k4;cases k4
   ·cases hp
  ·cases hp
 ·cases hp
end
def aJO(fI fJ fS:Nat)(md:Nat→Bool):Kt:={ at_:=fun f=>if f=fI then some aQM else if f=fJ then some aK0 else none,md:=md,sh:=fun f=>if f=fS then some aQI else none }
theorem aSO{P:Program}{G:Nat→Option Obj}{fI fJ fS:Nat}{md:Nat→Bool}(hI:aC3 P G fI aQM)(hJ:aC3 P G fJ aK0)(hS:aC3 P G fS aQI):aI9 P G (aJO fI fJ fS md):=by
 refine⟨fun f p hp=>?_,fun f p hp=>?_⟩
 ·simp only[aJO]at hp
  split at hp
  ·rename_i e;subst e;cases hp;exact hI
  ·split at hp
   ·rename_i e;subst e;cases hp;exact hJ
   ·cases hp
 ·simp only[aJO]at hp
  split at hp
  ·rename_i e;subst e;cases hp;exact hS
  ·cases hp
end
end Go.Ev
