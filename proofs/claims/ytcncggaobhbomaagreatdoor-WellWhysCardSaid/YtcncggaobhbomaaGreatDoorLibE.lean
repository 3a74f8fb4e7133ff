/- The evaluator and its soundness. -/
import Derived.Test.YtcncggaobhbomaaGreatDoorLibD
open And renaming intro→abK
open Eq renaming trans→abL
open Option renaming map_eq_some_iff→abX,bind_eq_some_iff→adC,bind_some→adD,some→aoT,map_some→aoV
open List renaming mem_cons_of_mem→af5,mem_cons_self→agI,mem_append→ai5,mem_cons→aoS,mem_append_left→aoW,mem_append_right→awN,getElem?_eq_some_iff→azY,all_eq_true→az0,nil_append→aBU,getElem?_eq_getElem→aBV,append_nil→aDD,getElem?_append_left→aDG,length_cons→aD2,mem_of_getElem?→aFV,getElem?_set_ne→aHX,foldl_cons→aHY,cons_append→aIE,replicate→aJQ,range→aKO,flatMap_cons→aLA,getElem?_append_right→aLF,mem_map→aNF,getElem?_of_mem→aNO,length_append→aOA,getElem?_map→aOB,length_nil→aOK,set_cons_succ→aPZ,range_zero→aQC,any_eq_true→aQH,prefix_refl→aRX,getElem?_eq_none_iff→aTG,getElem?_set_self→aVO,getD_eq_getElem?_getD→aVP
open Nat renaming le_refl→ah1,zero_le→aA3,zero_add→aJN
open Bool renaming or_true→aEQ,and_eq_true→aJ4,false_eq_true→aQB,or_eq_true→aQD,not_eq_true'→aQR,not_eq_eq_eq_not→aQ3
set_option linter.unusedSimpArgs false
set_option linter.unusedVariables false
namespace Go.Ev
open Go.RowKit
section
variable {P:Program} {pr pr2:Me}
theorem aTC(hmd:pr2.md=pr.md)(hsh:∀f,pr2.sh f=pr.sh f)(h0:∀f,pr2 f=none→pr f=none)(h1:∀f p,pr2 f=some p→∀a h r,p a h=some r→(om P pr).call (.fn f) a h=some r):∀n,Cov (orc P pr2 n) (fun _=>om P pr)
 |0=>⟨fun h=>by simp[orc]at h,fun h=>by simp[orc]at h,fun _=>hmd.symm⟩
 |n+1=>by
  have ih:=aTC hmd hsh h0 h1 n
  have hs:=aI6 (P:=P) (pr:=pr2) ih
  rw[a4W]
  refine⟨fun {f a h r} hc=>?_,fun {c s r} hl=>?_,fun _=>hmd.symm⟩
  ·have:=(hs.call hc).const
   refine .of fun _=>?_
   cases f with
   |round=>exact aOZ this
   |fn f=>
    simp only[stepO]at this
    cases hp:pr2 f with
    |some p=>rw[hp]at this;exact h1 f p hp a h r this
    |none=>rw[hp]at this;exact bcQ (h0 f hp) this
   |sh f=>
    simp only[stepO]at this
    cases hs:pr2.sh f with
    |some p=>rw[hs]at this;exact be0 ((hsh f).symm.trans hs) this
    |none=>
     rw[hs]at this
     simp only at this
     cases hp:pr2 f with
     |some p=>rw[hp]at this;simp at this
     |none=>rw[hp]at this;exact bcC (h0 f hp) ((hsh f).symm.trans hs) this
  ·have:=(hs.loop hl).const
   refine .of fun _=>?_
   simp only[stepO,atP]at this
   cases hm:Cd (om P pr) P Is c [] s with
   |none=>rw[hm]at this;simp at this
   |some x=>
    obtain⟨e,s'⟩:=x
    rw[hm]at this
    cases e with
    |normal=>exact aBB hm this
    |exit i=>simp only[aoT.injEq]at this;subst this;exact Jm hm (by simp)
    |ret=>simp only[aoT.injEq]at this;subst this;exact Jm hm (by simp)
    |pan v=>simp only[aoT.injEq]at this;subst this;exact Jm hm (by simp)
theorem aOS(hmd:pr2.md=pr.md)(h0:∀f,pr2 f=none→pr f=none)(h1:∀f p,pr2 f=some p→∀a h r,p a h=some r→(om P pr).call (.fn f) a h=some r){n:Nat}{f:Cal}{a:List AV}{h:Aa}{r:Dt × Aa}(hc:(orc P pr2 n).call f a h=some r)(hsh:∀f,pr2.sh f=pr.sh f:=by exact fun _=>rfl):(om P pr).call f a h=some r:=
 ((aTC hmd hsh h0 h1 n).call hc).const
end
end Go.Ev
namespace Go.Ev
noncomputable section
set_option maxRecDepth 100000
def EVa:=PLift.up (abK @a4O (abK @a77 (abK @bd7 (abK @a0V (abK @aWV (abK @a1N (abK @a0M (abK @a7X (abK @List.map_cons.{0,0} (abK @List.map_nil.{0,0} (abK @aoV.{0,0} (abK @Option.map_none.{0,0} (abK @List.getElem?_cons_zero.{0} (abK @List.getElem?_cons_succ.{0} (abK @adD.{0,0} (abK @bfL (abK @biP (abK @bjM (abK @a8W (abK @bdU (abK @bh6 (abK @bdO (abK @bfS (abK @bfB (abK @a18 (abK @bj6 (abK @bkG (abK @a69 (abK @bg2 (abK @bf0 (abK @a6O (abK @aSQ (abK @a8Q (abK @a6A (abK @Nat.add_assoc (abK @List.append_assoc.{0} @aOA.{0}))))))))))))))))))))))))))))))))))))
def EVb:=PLift.up (abK @List.length_replicate.{0} (abK @List.length_map.{0,0} (abK @Int.natCast_nonneg (abK @Int.toNat_natCast (abK @aOB.{0,0} (abK @a6Q (abK @aVG (abK @a61 (abK @bf3 (abK @bkI (abK @a6T (abK @aZX (abK @a1J (abK @bdN (abK @bkB (abK @blW (abK @bfN (abK @a9Z (abK @aRN (abK @a2G (abK @aAB (abK @a85 (abK @a1P (abK @baG (abK @bjL (abK @blY (abK @bjJ (abK @bl9 (abK @bm2 (abK @bmF (abK @bmX (abK @bnJ (abK @bjV (abK @biS @bnN))))))))))))))))))))))))))))))))))
def EVc:=PLift.up (abK @a6W (abK @a0L (abK @a10 (abK @a9D (abK @a89 (abK @Px (abK @a13 (abK @a3M (abK @aM5 (abK @a6F (abK @bhM (abK @aZT (abK @blG (abK @a1Y (abK @a3D (abK @a48 (abK @aVH (abK @aF8 (abK @aH2 (abK @a3S (abK @aK9 (abK @aH3 (abK @a0T (abK @aWZ (abK @aUS (abK @a14 (abK @a39 (abK @bbD (abK @ba6 (abK @beV (abK @ba4 (abK @bgF @a9F))))))))))))))))))))))))))))))))
def EVd:=PLift.up (abK @bdR (abK @bcT (abK @a9B (abK @aZ3 (abK @bgR (abK @baZ (abK @bhH (abK @a98 (abK @beR (abK @bhF (abK @bhE (abK @bhU (abK @bc7 (abK @a7F (abK @List.all_cons.{0} (abK @List.all_nil.{0} (abK @aBU.{0} (abK @aDD.{0} (abK @aIE.{0} (abK @aD2.{0} (abK @aOK.{0} (abK @List.take_succ_cons.{0} (abK @List.take_zero.{0} (abK @List.drop_succ_cons.{0} (abK @List.drop_zero.{0} (abK @List.take_nil.{0} (abK @List.set_cons_zero.{0} (abK @aPZ.{0} (abK @a58 @bc8)))))))))))))))))))))))))))))
def EVe:=PLift.up (abK @a8A (abK @a7C (abK @bdI (abK @be6 (abK @bhN (abK @a7Y (abK @bc5 (abK @a8X (abK @a7V (abK @bcU (abK @bgL (abK @bh7 (abK @Bool.and_self (abK @Bool.and_true (abK @Bool.true_and (abK @Bool.false_and (abK @Bool.and_false (abK @aEQ (abK @Bool.or_false (abK @Bool.true_or (abK @Bool.not_true (abK @Bool.not_false (abK @aJN (abK @Nat.add_zero (abK @aQB (abK @true_and (abK @and_true (abK @and_self (abK @ah1 (abK @bcX (abK @a99 (abK @a1H @aZ1))))))))))))))))))))))))))))))))
def EVf:=PLift.up (abK @bj3 (abK @blH (abK @a7U (abK @bfA (abK @bd5 (abK @aS4 (abK @aMJ (abK @a3E (abK @bg7 (abK @aTI (abK @baF (abK @aVD (abK @a7Q (abK @bgX (abK @bj4 (abK @bi3 (abK @a4R (abK @a04 (abK @aRA (abK @bfR (abK @aYY (abK @a1R (abK @bd1 (abK @bjZ (abK @bcK (abK @bgW (abK @a0B (abK @bjY (abK @bjT (abK @a81 (abK @bhK (abK @bfG (abK @bdG (abK @bhZ (abK @bg6 @bnL)))))))))))))))))))))))))))))))))))
def EVg:=PLift.up (abK @a8N (abK @a34 (abK @aI7 (abK @aF0 (abK @a8Z (abK @bfK (abK @a7I (abK @bgZ (abK @bbL (abK @aKA (abK @a5C (abK @aUR (abK @bbB (abK @bdJ (abK @bfH (abK @bdP (abK @bgS (abK @List.any_cons.{0} (abK @List.any_nil.{0} (abK @bgI (abK @aZQ (abK @aMX (abK @aKT (abK @aXL (abK @aQ9 (abK @List.replicate_succ.{0} (abK @List.replicate_zero.{0} (abK @or_self (abK @ne_eq.{1} @not_true_eq_false)))))))))))))))))))))))))))))
def EVh:=PLift.up (abK @a2X (abK @a4D (abK @a5D (abK @aXE (abK @aWD (abK @bi7 (abK @a4J @a88)))))))
section
variable {P:Program} {O:Dx}
theorem aFE{C:R→Prop}{b:Bool}{k:R}(hb:b=true)(h:True→C k):C (Fg b k):=bcS hb (h trivial)
end
end
noncomputable section
open Go.RowKit
theorem aV3(b:Nat):place [] b=(0,[b]):=abL rfl rfl
theorem aRP(a b:Nat)(m:List Nat):place (a::m) b=if a=b then(0,a::m)else((place m b).1+1,a::(place m b).2):=by
 unfold place
 rw[List.idxOf?_cons]
 by_cases h:a=b
 ·simp[h]
 ·simp only[h,if_false,beq_iff_eq]
  cases List.idxOf? b m<;>simp
section
variable {P:Program} {O:Dx}
theorem a5W(d:Nat)(m:List Nat)(b:Bool):Bl (d+1) m (.bool b)=some (.bool b,m):=abL rfl rfl
theorem bgD(d:Nat)(m:List Nat)(k:IntKind)(n:Int):Bl (d+1) m (.int k n)=some (.int k n,m):=abL rfl rfl
theorem bbJ(d:Nat)(m:List Nat):Bl (d+1) m .nils=some (.nils,m):=abL rfl rfl
theorem bgO(d:Nat)(m:List Nat)(n:Nat)(fl:Bool)(rows:List (List AV)):Bl (d+1) m (.imm n fl rows)=some (.imm n fl rows,m):=abL rfl rfl
theorem beW(d:Nat)(m:List Nat)(n:Nat)(fl nn:Bool)(rows:List (List AV)):Bl (d+1) m (Be n fl nn rows)=some (Be n fl nn rows,m):=Im m (Px d n fl nn rows)
theorem bdX(d:Nat)(m:List Nat)(b r o:Nat):Bl (d+1) m (.ptr b r o)=some (.ptr (place m b).1 r o,(place m b).2):=abL rfl rfl
theorem bh4(d:Nat)(m:List Nat)(st b r len:Nat):Bl (d+1) m (.slr st b r len)=some (.slr st (place m b).1 r len,(place m b).2):=abL rfl rfl
def rfA(x:Option (List AV × List Nat)):Option (AV × List Nat):=x.map fun(cs,m)=>(.agg cs,m)
def rfT(x:Option (List AV × List Nat)):Option (AV × List Nat):=x.map fun(cs,m)=>(.tup cs,m)
theorem a2U(cs:List AV)(m:List Nat):rfA (some (cs,m))=some (.agg cs,m):=abL rfl rfl
theorem a0F(cs:List AV)(m:List Nat):rfT (some (cs,m))=some (.tup cs,m):=abL rfl rfl
theorem bfI(d:Nat)(m:List Nat)(cs:List AV):Bl (d+1) m (.agg cs)=rfA (Bl.refL (Bl d) m cs):=abL rfl rfl
theorem beU(d:Nat)(m:List Nat)(cs:List AV):Bl (d+1) m (.tup cs)=rfT (Bl.refL (Bl d) m cs):=abL rfl rfl
def rfG(fn:Fn)(a:List AV)(x:Option (List AV × List Nat)):Option (AV × List Nat):=x.map fun(b,m)=>(.func fn a b,m)
def rfF(fn:Fn)(d:Nat)(b:List AV)(x:Option (List AV × List Nat)):Option (AV × List Nat):=x.bind fun(a,m)=>rfG fn a (Bl.refL (Bl d) m b)
theorem a1I(fn:Fn)(a b:List AV)(m:List Nat):rfG fn a (some (b,m))=some (.func fn a b,m):=abL rfl rfl
theorem aZW(fn:Fn)(d:Nat)(a b:List AV)(m:List Nat):rfF fn d b (some (a,m))=rfG fn a (Bl.refL (Bl d) m b):=abL rfl rfl
theorem a6I(d:Nat)(m:List Nat)(fn:Fn)(a b:List AV):Bl (d+1) m (.func fn a b)=rfF fn d b (Bl.refL (Bl d) m a):=abL rfl rfl
def rfD(v:AV)(x:Option (List AV × List Nat)):Option (List AV × List Nat):=x.map fun(vs,m)=>(v::vs,m)
def rfC(f:List Nat→AV→Option (AV × List Nat))(vs:List AV)(x:Option (AV × List Nat)):Option (List AV × List Nat):=x.bind fun(v,m)=>rfD v (Bl.refL f m vs)
theorem a33(v:AV)(vs:List AV)(m:List Nat):rfD v (some (vs,m))=some (v::vs,m):=abL rfl rfl
theorem aZB(f:List Nat→AV→Option (AV × List Nat))(vs:List AV)(v:AV)(m:List Nat):rfC f vs (some (v,m))=rfD v (Bl.refL f m vs):=abL rfl rfl
theorem a9X(f:List Nat→AV→Option (AV × List Nat))(m:List Nat):Bl.refL f m []=some ([],m):=abL rfl rfl
theorem aZO(f:List Nat→AV→Option (AV × List Nat))(m:List Nat)(v:AV)(vs:List AV):Bl.refL f m (v::vs)=rfC f vs (f m v):=abL rfl rfl
def rrD(cs:List AV)(x:Option (List (List AV) × List Nat)):Option (List (List AV) × List Nat):=x.map fun(rs,m)=>(cs::rs,m)
def rrC(rs:List (List AV))(x:Option (List AV × List Nat)):Option (List (List AV) × List Nat):=x.bind fun(cs,m)=>rrD cs (Hl m rs)
theorem a1O(cs:List AV)(rs:List (List AV))(m:List Nat):rrD cs (some (rs,m))=some (cs::rs,m):=abL rfl rfl
theorem a08(rs:List (List AV))(cs:List AV)(m:List Nat):rrC rs (some (cs,m))=rrD cs (Hl m rs):=abL rfl rfl
theorem bhG(m:List Nat):Hl m []=some ([],m):=abL rfl rfl
theorem a6Z(m:List Nat)(cs:List AV)(rs:List (List AV)):Hl m (cs::rs)=rrC rs (Bl.refL (Bl 8) m cs):=abL rfl rfl
def rbV(st:Nat)(w:Bool)(x:Option (List (List AV) × List Nat)):Option (CB × List Nat):=x.map fun(rows,m)=>(.live st false w rows,m)
theorem a0Y(st:Nat)(w:Bool)(rows:List (List AV))(m:List Nat):rbV st w (some (rows,m))=some (.live st false w rows,m):=abL rfl rfl
theorem bjF(m:List Nat)(st:Nat)(w:Bool)(rows:List (List AV)):aoR m (.live st true w rows)=some (.live st true w rows,m):=abL rfl rfl
theorem bkF(m:List Nat)(st:Nat)(w:Bool)(rows:List (List AV)):aoR m (.live st false w rows)=rbV st w (Hl m rows):=abL rfl rfl
def pcE(c:CB)(x:Option (List CB × List Nat)):Option (List CB × List Nat):=x.map fun(cs,m)=>(c::cs,m)
def pcR(n:Nat)(h:Aa)(i:Nat)(x:Option (CB × List Nat)):Option (List CB × List Nat):=x.bind fun(c,m)=>pcE c (Hz n (hf h) (i+1) m)
def pcB(n:Nat)(h:Aa)(i:Nat)(m:List Nat)(x:Option CB):Option (List CB × List Nat):=x.bind fun c=>pcR n h i (aoR m c)
def pcK(n:Nat)(h:Aa)(i:Nat)(m:List Nat)(x:Option Nat):Option (List CB × List Nat):=
 match x with
 |none=>some ([],m)
 |some b=>pcB n h i m (h[b]?)
theorem aY9(c:CB)(cs:List CB)(m:List Nat):pcE c (some (cs,m))=some (c::cs,m):=abL rfl rfl
theorem a2H(n:Nat)(h:Aa)(i:Nat)(c:CB)(m:List Nat):pcR n h i (some (c,m))=pcE c (Hz n (hf h) (i+1) m):=abL rfl rfl
theorem a4A(n:Nat)(h:Aa)(i:Nat)(m:List Nat)(c:CB):pcB n h i m (some c)=pcR n h i (aoR m c):=abL rfl rfl
theorem aY1(n:Nat)(h:Aa)(i:Nat)(m:List Nat):pcK n h i m none=some ([],m):=abL rfl rfl
theorem a3N(n:Nat)(h:Aa)(i:Nat)(m:List Nat)(b:Nat):pcK n h i m (some b)=pcB n h i m (h[b]?):=abL rfl rfl
theorem blB(n:Nat)(h:Aa)(i:Nat)(m:List Nat):Hz (n+1) (hf h) i m=pcK n h i m (m[i]?):=by
 unfold Hz pcK
 cases m[i]?<;>rfl
def pkB(vs:List AV)(x:Option (List CB × List Nat)):Option (List AV × List CB × List Nat):=x.map fun(cs,m)=>(vs,cs,m)
def pkA(h:Aa)(x:Option (List AV × List Nat)):Option (List AV × List CB × List Nat):=x.bind fun(vs,m)=>pkB vs (Hz 5000 (hf h) 0 m)
theorem a0D(vs:List AV)(cs:List CB)(m:List Nat):pkB vs (some (cs,m))=some (vs,cs,m):=abL rfl rfl
theorem a16(h:Aa)(vs:List AV)(m:List Nat):pkA h (some (vs,m))=pkB vs (Hz 5000 (hf h) 0 m):=abL rfl rfl
theorem bkA(h:Aa)(m:List Nat)(vs:List AV):Iq (hf h) m vs=pkA h (Bl.refL (Bl 8) m vs):=abL rfl rfl
def upK(h:Aa)(lent:List Nat)(v:Option AV)(ps ns:Option (List Ad))(o:AV→Dt):OE:=v.bind fun v=>ps.bind fun ps=>ns.bind fun ns=>
 some (o v,(if lent.isEmpty|| !(hasImm 8 v||(ps++ns).any Ad.hasImm)then []else Dm (hf h) lent)++ps++ns)
def crU(h:Aa)(base:Nat)(lent m:List Nat)(cs:List CB)(x:Option (Dt × Aa)):OE:=
 match x with
 |some (.ret v,h')=>upK h lent (Bo 8 (Ej m base) v) (Gk (Ej m base) m cs (h'.take m.length)) (Hh (Ej m base) base (h'.drop m.length)) .ret
 |some (.pan v,h')=>upK h lent (Bo 8 (Ej m base) v) (Gk (Ej m base) m cs (h'.take m.length)) (Hh (Ej m base) base (h'.drop m.length)) .pan
 |none=>none
def crP(O:Dx)(h:Aa)(base:Nat)(f:Cal)(lent:List Nat)(x:Option (List AV × List CB × List Nat)):OE:=x.bind fun(vs,cs,m)=>
 if lent.any (m.contains ·)then none else crU h base lent m cs (O.call f vs (cs.map CB.clean))
def crQ(O:Dx)(h:Aa)(base:Nat)(f:Cal)(lent:List Nat)(x:Option (List AV)):OE:=x.bind fun vs=>crP O h base f lent (Iq (hf h) [] vs)
theorem bpA(h:Aa)(base:Nat)(f:Cal)(args:List AV):cr (aHD O (hf h) base f args)=crQ O h base f (args.flatMap (Ar 12 (hf h))) (Ap (rdV h) args):=by
 unfold aHD Cm crQ rdV
 cases Ap (Fa 12 (hf h)) args with
 |none=>rfl
 |some vs=>
  simp only[adD]
  unfold crP
  cases Iq (hf h) [] vs with
  |none=>rfl
  |some x=>
   obtain⟨vs',cs,m⟩:=x
   simp only[adD]
   split
   ·rfl
   ·cases O.call f vs' (cs.map CB.clean)with
    |none=>rfl
    |some y=>
     obtain⟨out,h'⟩:=y
     simp only[adD,Jl]
     unfold crU upK
     cases out with
     |ret v=>
      simp only[Dt.v]
      cases Bo 8 (Ej m base) v with
      |none=>rfl
      |some v=>
       cases Gk (Ej m base) m cs (h'.take m.length)with
       |none=>rfl
       |some ps=>cases Hh (Ej m base) base (h'.drop m.length)<;>rfl
     |pan v=>
      simp only[Dt.v]
      cases Bo 8 (Ej m base) v with
      |none=>rfl
      |some v=>
       cases Gk (Ej m base) m cs (h'.take m.length)with
       |none=>rfl
       |some ps=>cases Hh (Ej m base) base (h'.drop m.length)<;>rfl
theorem a2Q(h:Aa)(base:Nat)(f:Cal)(lent:List Nat)(vs:List AV):crQ O h base f lent (some vs)=crP O h base f lent (Iq (hf h) [] vs):=abL rfl rfl
theorem a2M(h:Aa)(base:Nat)(f:Cal)(lent:List Nat)(vs:List AV)(cs:List CB)(m:List Nat):crP O h base f lent (some (vs,cs,m))=if lent.any (m.contains ·)=true then none else crU h base lent m cs (O.call f vs (cs.map CB.clean)):=abL rfl rfl
theorem a7Z(h:Aa)(base:Nat)(lent m:List Nat)(cs:List CB)(v:AV)(h':Aa):crU h base lent m cs (some (.ret v,h'))=upK h lent (Bo 8 (Ej m base) v) (Gk (Ej m base) m cs (h'.take m.length)) (Hh (Ej m base) base (h'.drop m.length)) .ret:=abL rfl rfl
theorem a2Z(h:Aa)(lent:List Nat)(v:AV)(ps ns:List Ad)(o:AV→Dt):upK h lent (some v) (some ps) (some ns) o=some (o v,(if(lent.isEmpty|| !(hasImm 8 v||(ps++ns).any Ad.hasImm))=true then []else Dm (hf h) lent)++ps++ns):=abL rfl rfl
theorem a9C(st:Nat)(fl w:Bool)(rows:List (List AV)):CB.clean (.live st fl w rows)=.live st fl false rows:=abL rfl rfl
theorem a5X(d:Nat)(g:HF)(b:Bool):Ar (d+1) g (.bool b)=[]:=abL rfl rfl
theorem beO(d:Nat)(g:HF)(k:IntKind)(n:Int):Ar (d+1) g (.int k n)=[]:=abL rfl rfl
theorem a9N(d:Nat)(g:HF):Ar (d+1) g .nils=[]:=abL rfl rfl
theorem bfQ(d:Nat)(g:HF)(n:Nat)(fl:Bool)(rows:List (List AV)):Ar (d+1) g (.imm n fl rows)=[]:=abL rfl rfl
theorem bfM(d:Nat)(g:HF)(b r o:Nat):Ar (d+1) g (.ptr b r o)=[]:=abL rfl rfl
theorem a6U(d:Nat)(g:HF)(fn:Fn)(a b:List AV):Ar (d+1) g (.func fn a b)=[]:=abL rfl rfl
theorem bdZ(d:Nat)(g:HF)(n:Nat)(fl nn:Bool)(rows:List (List AV)):Ar (d+1) g (Be n fl nn rows)=[]:=Pz g (d:=1) (by omega) (Px 0 n fl nn rows)
theorem bcY(d:Nat)(g:HF)(cs:List AV):Ar (d+1) g (.agg cs)=cs.flatMap (Ar d g):=abL rfl rfl
def lvS(b:Nat)(c:Option CB)(q:AV→List Nat)(r len:Nat):List Nat:=
 b::match c with
 |some (.live _ fl _ rows)=>if r+len≤rows.length then(if fl then []else((rows.drop r).take len).flatMap fun cs=>cs.flatMap q)else []
 |some (.frz _ fl rows)=>if r+len≤rows.length then(if fl then []else((rows.drop r).take len).flatMap fun cs=>cs.flatMap q)else []
 |_=>[]
theorem aKM(d:Nat)(h:Aa)(st b r len:Nat):Ar (d+1) (hf h) (.slr st b r len)=lvS b (h[b]?) (Ar d (hf h)) r len:=by
 have e:Ar (d+1) (hf h) (.slr st b r len)=b::(match Ee (hf h) b r len with|some (_,fl,rows)=>if fl then []else rows.flatMap fun cs=>cs.flatMap (Ar d (hf h))|none=>[]):=rfl
 rw[e]
 generalize Ar d (hf h)=q
 unfold Ee lvS
 have eh:hf h b=h[b]?:=rfl
 rw[eh]
 cases h[b]? with
 |none=>rfl
 |some c=>
  cases c with
  |live st fl w rows=>simp only;by_cases hq:r+len≤rows.length<;>simp[hq]
  |frz st fl rows=>simp only;by_cases hq:r+len≤rows.length<;>simp[hq]
  |_=>rfl
theorem blA(b:Nat)(st:Nat)(w:Bool)(rows:List (List AV))(q:AV→List Nat)(r len:Nat):lvS b (some (.live st true w rows)) q r len=[b]:=by simp[lvS]
theorem bnR(m:List Nat)(base i:Nat):Ej m base i=if i<m.length then m.getD i base else base+(i-m.length):=abL rfl rfl
theorem a50(d:Nat)(f:Nat→Nat)(b:Bool):Bo (d+1) f (.bool b)=some (.bool b):=abL rfl rfl
theorem be7(d:Nat)(f:Nat→Nat)(k:IntKind)(n:Int):Bo (d+1) f (.int k n)=some (.int k n):=abL rfl rfl
theorem be9(d:Nat)(f:Nat→Nat)(n:Nat)(fl nn:Bool)(rows:List (List AV)):Bo (d+1) f (Be n fl nn rows)=some (Be n fl nn rows):=Jt f (Px d n fl nn rows)
theorem bgH(d:Nat)(f:Nat→Nat)(b r o:Nat):Bo (d+1) f (.ptr b r o)=some (.ptr (f b) r o):=abL rfl rfl
theorem bhB(d:Nat)(f:Nat→Nat)(st b r len:Nat):Bo (d+1) f (.slr st b r len)=some (.slr st (f b) r len):=abL rfl rfl
def rnA(x:Option (List AV)):Option AV:=x.map .agg
def rnT(x:Option (List AV)):Option AV:=x.map .tup
theorem a3F(cs:List AV):rnA (some cs)=some (.agg cs):=abL rfl rfl
theorem a3W(cs:List AV):rnT (some cs)=some (.tup cs):=abL rfl rfl
theorem bfF(d:Nat)(f:Nat→Nat)(cs:List AV):Bo (d+1) f (.agg cs)=rnA (Ap (Bo d f) cs):=abL rfl rfl
theorem bfO(d:Nat)(f:Nat→Nat)(cs:List AV):Bo (d+1) f (.tup cs)=rnT (Ap (Bo d f) cs):=abL rfl rfl
def rnG(fn:Fn)(a:List AV)(x:Option (List AV)):Option AV:=x.map fun b=>.func fn a b
def rnF(fn:Fn)(b:Option (List AV))(x:Option (List AV)):Option AV:=x.bind fun a=>rnG fn a b
theorem a27(fn:Fn)(a b:List AV):rnG fn a (some b)=some (.func fn a b):=abL rfl rfl
theorem a2O(fn:Fn)(b:Option (List AV))(a:List AV):rnF fn b (some a)=rnG fn a b:=abL rfl rfl
theorem a7T(d:Nat)(f:Nat→Nat)(fn:Fn)(a b:List AV):Bo (d+1) f (.func fn a b)=rnF fn (Ap (Bo d f) b) (Ap (Bo d f) a):=abL rfl rfl
def rbW(st:Nat)(w:Bool)(x:Option (List (List AV))):Option CB:=x.map (.live st false w)
theorem a19(st:Nat)(w:Bool)(rows:List (List AV)):rbW st w (some rows)=some (.live st false w rows):=abL rfl rfl
theorem biV(f:Nat→Nat)(st:Nat)(w:Bool)(rows:List (List AV)):Fb f (.live st true w rows)=some (.live st true w rows):=abL rfl rfl
theorem bnP(f:Nat→Nat)(st:Nat)(w:Bool)(rows:List (List AV)):Fb f (.live st false w rows)=rbW st w (Ap (Ap (Bo 8 f)) rows):=abL rfl rfl
def peE(b:Nat)(c:Option CB)(x:Option (List Ad)):Option (List Ad):=c.bind fun c=>x.map fun es=>.put b c::es
def peK(f:Nat→Nat)(b:Nat)(c:CB)(same bad:Bool)(x:Option (List Ad)):Option (List Ad):=bif same then x else bif bad then none else peE b (Fb f c) x
theorem bjS(f:Nat→Nat)(b:Nat)(c:CB)(bad:Bool)(x:Option (List Ad)):peK f b c true bad x=x:=abL rfl rfl
theorem be5(f:Nat→Nat):Gk f [] [] []=some []:=abL rfl rfl
theorem a8T(f:Nat→Nat)(b:Nat)(m:List Nat)(c₀ c:CB)(cs₀ cs:List CB):Gk f (b::m) (c₀::cs₀) (c::cs)=peK f b c (c₀.same c) (c.unw|| !c₀.isLive) (Gk f m cs₀ cs):=by
 conv=>lhs;unfold Gk
 unfold peK
 cases c₀.same c with
 |true=>rfl
 |false=>
  cases(c.unw|| !c₀.isLive)with
  |true=>rfl
  |false=>
   simp only[cond_false,peE]
theorem baA(a:Nat)(b c:Bool)(r:List (List AV))(st:Nat)(fl w:Bool)(rows:List (List AV)):CB.same (.live a b c r) (.live st fl w rows)= !w:=abL rfl rfl
theorem a52(st:Nat)(fl w:Bool)(rows:List (List AV)):CB.unw (.live st fl w rows)= !w:=abL rfl rfl
theorem a7J(st:Nat)(fl w:Bool)(rows:List (List AV)):CB.isLive (.live st fl w rows)=true:=abL rfl rfl
def neK(base:Nat)(c:Option CB)(x:Option (List Ad)):Option (List Ad):=c.bind fun c=>x.map fun es=>.new base c::es
theorem a4E(base:Nat)(c:CB)(es:List Ad):neK base (some c) (some es)=some (.new base c::es):=abL rfl rfl
theorem bdY(f:Nat→Nat)(base:Nat):Hh f base []=some []:=abL rfl rfl
theorem a7W(f:Nat→Nat)(base:Nat)(c:CB)(cs:List CB):Hh f base (c::cs)=neK base (Fb f c) (Hh f (base+1) cs):=abL rfl rfl
theorem a6S(d:Nat)(fn:Fn)(a b:List AV):hasImm (d+1) (.func fn a b)=(a.any (hasImm d)||b.any (hasImm d)):=abL rfl rfl
theorem beS(b:Nat)(c:CB):Ad.hasImm (.new b c)=c.hasImm:=abL rfl rfl
theorem bj5(st:Nat)(w:Bool)(rows:List (List AV)):CB.hasImm (.live st true w rows)=false:=abL rfl rfl
theorem bl8(st:Nat)(w:Bool)(rows:List (List AV)):CB.hasImm (.live st false w rows)=rows.any fun cs=>cs.any (Ev.hasImm 8):=abL rfl rfl
theorem bhV(h:Aa)(b r o:Nat):rdV h (.ptr b r o)=some (.ptr b r o):=abL rfl rfl
theorem a6L(h:Aa)(cs:List AV):rdV h (.agg cs)=rdA (Ap (Fa 11 (hf h)) cs):=abL rfl rfl
theorem aWO(l:List AV):rdA (some l)=some (.agg l):=abL rfl rfl
theorem a65(d:Nat)(h:Aa)(b:Bool):Fa (d+1) (hf h) (.bool b)=some (.bool b):=abL rfl rfl
theorem be8(d:Nat)(h:Aa)(k:IntKind)(n:Int):Fa (d+1) (hf h) (.int k n)=some (.int k n):=abL rfl rfl
theorem bhJ(d:Nat)(h:Aa)(n:Nat)(fl:Bool)(rows:List (List AV)):Fa (d+1) (hf h) (.imm n fl rows)=some (.imm n fl rows):=abL rfl rfl
theorem bhP(d:Nat)(h:Aa)(n:Nat)(fl nn:Bool)(rows:List (List AV)):Fa (d+1) (hf h) (Be n fl nn rows)=some (Be n fl nn rows):=Oy _ (d:=1) (by omega) (Px 0 n fl nn rows)
theorem bdV(d:Nat)(h:Aa)(n b r len:Nat):Fa (d+1) (hf h) (.slr n b r len)=rdS (Ea d (hf h)) (h[b]?) r len:=by
 have e:Fa (d+1) (hf h) (.slr n b r len)=(Ee (hf h) b r len).bind fun x=>if x.2.1=true then some (.imm x.1 true x.2.2)else(Ap (Ap (Ea d (hf h))) x.2.2).map (.imm x.1 false):=rfl
 rw[e]
 generalize Ea d (hf h)=q
 unfold Ee rdS
 have eh:hf h b=h[b]?:=rfl
 rw[eh]
 cases h[b]? with
 |none=>rfl
 |some c=>
  cases c with
  |live st fl w rows=>
   simp only[rdR]
   by_cases hq:r+len≤rows.length
   ·cases fl<;>simp[hq]
   ·simp[hq]
  |frz st fl rows=>
   simp only[rdR]
   by_cases hq:r+len≤rows.length
   ·cases fl<;>simp[hq]
   ·simp[hq]
  |_=>rfl
def mfK(f:Nat)(a b:Option (List AV)):OE:=a.bind fun a=>b.bind fun b=>some (.ret (.func (.func f) a b),[])
theorem a22(f:Nat)(a b:List AV):mfK f (some a) (some b)=some (.ret (.func (.func f) a b),[]):=abL rfl rfl
theorem bnX(t:List AV)(h:Aa)(f:Nat)(a b:Array Operand):Di O P t h (.makeFunc (.func f) a b)=mfK f (Bm t a.toList) (Bm t b.toList):=by
 rw[Cc _ _ _ rfl]
 simp only[exec,mfK]
 cases Bm t a.toList with
 |none=>rfl
 |some a=>cases Bm t b.toList<;>rfl
def msK(n:Nat)(z:AV)(base:Nat)(l c:Option AV):OE:=
 match l,c with
 |some (.int .i64 l),some (.int .i64 c)=>if 0≤l∧l≤c∧c≤2 ^ 40∧(Ag z).all AV.isCell=true then some (.ret (.slr n base 0 l.toNat),[.new base (.live n ((Ag z).all AV.flat) false (aJQ l.toNat (Ag z)))])else none
 |_,_=>none
theorem a2J(n:Nat)(z:AV)(base:Nat)(l c:Int):msK n z base (some (.int .i64 l)) (some (.int .i64 c))=if 0≤l∧l≤c∧c≤2 ^ 40∧(Ag z).all AV.isCell=true then some (.ret (.slr n base 0 l.toNat),[.new base (.live n ((Ag z).all AV.flat) false (aJQ l.toNat (Ag z)))])else none:=abL rfl rfl
def msO(P:Program)(ty:TypeId)(base:Nat)(l c:Option AV):OE:=rD (l.bind fun l=>c.bind fun c=>Gm P base ty l c)
theorem biT(t:List AV)(h:Aa)(ty:TypeId)(l c:Operand):Di O P t h (.makeSlice ty l c)=msO P ty h.length (Ae t l) (Ae t c):=Cc _ _ _ rfl
theorem bjC{ty e:TypeId}{n b:Nat}{z:AV}(he:axF P ty=some e)(hn:Lr P e=some n)(hb:byT P e=some b)(hz:Eu P e=some z)(ok:(decide (b≤2 ^ 7)&&decide (n≠0)&&decide ((Ag z).length=n))=true)(base:Nat)(l c:Option AV):
 msO P ty base l c=msK n z base l c:=by
 simp only[aJ4,decide_eq_true_eq]at ok
 unfold msO msK
 cases l with
 |none=>rfl
 |some l=>
  cases c with
  |none=>cases l<;>first|rfl|(rename_i k _;cases k<;>rfl)
  |some c=>
   simp only[adD,Gm,he,hn,hb,hz]
   cases l with
   |int k l=>
    cases c with
    |int k' c=>
     cases k<;>cases k'<;>first|rfl|skip
     simp only[ok.1.1,ok.1.2,ok.2,ne_eq,not_false_eq_true,true_and]
     split<;>rfl
    |_=>cases k<;>rfl
   |_=>rfl
def srS(q:Nat)(c:Option CB)(r len:Nat):Option (Bool × List (List AV)):=
 match c with
 |some (.live st fl _ rows)=>if r+len≤rows.length∧st=q then some (fl,(rows.drop r).take len)else none
 |some (.frz st fl rows)=>if r+len≤rows.length∧st=q then some (fl,(rows.drop r).take len)else none
 |_=>none
def srK(q:Nat)(h:Aa)(x:Option AV):Option (Bool × List (List AV)):=
 match x with
 |some .nils=>some (true,[])
 |some (.imm st fl rows)=>if st=q then some (fl,rows)else none
 |some (.slr _ b r len)=>srS q (h[b]?) r len
 |_=>none
theorem a2B(q st:Nat)(fl w:Bool)(rows:List (List AV))(r len:Nat):srS q (some (.live st fl w rows)) r len=if r+len≤rows.length∧st=q then some (fl,(rows.drop r).take len)else none:=abL rfl rfl
theorem aZD(q:Nat)(h:Aa):srK q h (some .nils)=some (true,[]):=abL rfl rfl
theorem aSY(q:Nat)(h:Aa)(st:Nat)(fl:Bool)(rows:List (List AV)):srK q h (some (.imm st fl rows))=if st=q then some (fl,rows)else none:=abL rfl rfl
theorem aUK(q:Nat)(h:Aa)(st b r len:Nat):srK q h (some (.slr st b r len))=srS q (h[b]?) r len:=abL rfl rfl
def apT(n base b r len:Nat)(nfl:Bool)(new:List (List AV))(st:Nat)(fl:Bool)(rows:List (List AV)):OE:=
 if st=n∧r+len≤rows.length∧len+new.length≤2 ^ 39 then some (.ret (.slr st base 0 (len+new.length)),[.put b .dead,.new base (.live st (fl&&nfl) false ((rows.drop r).take len++new))])else none
def apS(n base b r len:Nat)(nfl:Bool)(new:List (List AV))(c:Option CB):OE:=
 match c with
 |some (.live st fl _ rows)=>if st=n∧r+len=rows.length∧len+new.length≤2 ^ 39 then some (.ret (.slr st base 0 (len+new.length)),[.put b .dead,.new base (.live st (fl&&nfl) false (rows.drop r++new))])else apT n base b r len nfl new st fl rows
 |_=>none
theorem aMF(n base b r len:Nat)(nfl:Bool)(new:List (List AV))(st:Nat)(fl w:Bool)(rows:List (List AV)):apS n base b r len nfl new (some (.live st fl w rows))=if st=n∧r+len=rows.length∧len+new.length≤2 ^ 39 then some (.ret (.slr st base 0 (len+new.length)),[.put b .dead,.new base (.live st (fl&&nfl) false (rows.drop r++new))])else apT n base b r len nfl new st fl rows:=abL rfl rfl
def apK(n:Nat)(h:Aa)(s:Option AV)(x:Option (Bool × List (List AV))):OE:=
 match s,x with
 |some .nils,some (_,[])=>some (.ret .nils,[])
 |some (.slr a b r l),some (_,[])=>some (.ret (.slr a b r l),[])
 |some (.imm a b r),some (_,[])=>some (.ret (.imm a b r),[])
 |some .nils,some (nfl,r::new)=>if(r::new).length≤2 ^ 39 then some (.ret (.slr n h.length 0 (r::new).length),[.new h.length (.live n nfl false (r::new))])else none
 |some (.slr _ b r len),some (nfl,q::new)=>apS n h.length b r len nfl (q::new) (h[b]?)
 |_,_=>none
theorem bhI(n:Nat)(h:Aa)(a b r l:Nat)(nfl:Bool):apK n h (some (.slr a b r l)) (some (nfl,[]))=some (.ret (.slr a b r l),[]):=abL rfl rfl
theorem aKN(n:Nat)(h:Aa)(nfl:Bool)(r:List AV)(new:List (List AV)):apK n h (some .nils) (some (nfl,r::new))=if(r::new).length≤2 ^ 39 then some (.ret (.slr n h.length 0 (r::new).length),[.new h.length (.live n nfl false (r::new))])else none:=abL rfl rfl
theorem aR3(n:Nat)(h:Aa)(a b r len:Nat)(nfl:Bool)(q:List AV)(new:List (List AV)):apK n h (some (.slr a b r len)) (some (nfl,q::new))=apS n h.length b r len nfl (q::new) (h[b]?):=abL rfl rfl
def apO(P:Program)(ty:TypeId)(h:Aa)(s x:Option AV):OE:=rD (s.bind fun s=>x.bind fun x=>Gj P (hf h) h.length ty s x)
theorem aGF(t:List AV)(h:Aa)(s x:Operand)(ty ty1 e1:TypeId)(hu:P.underlying ty1=some (.slice e1)):Di O P t h (.call ⟨.builtin .append,#[s,x],#[ty,ty1]⟩)=apO P ty h (Ae t s) (Ae t x):=by
 rw[Cc _ _ _ rfl]
 simp only[exec,Bm,apO]
 cases Ae t s with
 |none=>rfl
 |some a=>
  cases Ae t x with
  |none=>rfl
  |some b=>
   simp only[adD,aoV]
   have e0:(#[ty,ty1]:Array TypeId)[0]?=some ty:=rfl
   have e1:(#[ty,ty1]:Array TypeId)[1]?=some ty1:=rfl
   simp only[e0,e1,adD,hu]
theorem aDP{ty e:TypeId}{n b:Nat}{z:AV}(he:axF P ty=some e)(hn:Lr P e=some n)(hb:byT P e=some b)(hz:Eu P e=some z)(ok:(decide (b≤2 ^ 8)&&decide (n≠0)&&decide ((Ag z).length=n))=true)(h:Aa)(s x:AV)(hx:∀q,x≠.str q):
 apO P ty h (some s) (some x)=apK n h (some s) (srK n h (some x)):=by
 simp only[aJ4,decide_eq_true_eq]at ok
 have hbad:¬(n=0∨2 ^ 8<b∨(Ag z).length≠n):=by
  rintro(h1|h1|h1)
  ·exact ok.1.2 h1
  ·omega
  ·exact h1 ok.2
 unfold apO
 simp only[adD,Gj,he,hn,hb,hz]
 have key:∀(nfl:Bool) (new:List (List AV)) (fs:List Bg),rD (if n=0∨2 ^ 8<b∨(Ag z).length≠n then none else
  match s,new with
  |s,[]=>match s with
   | .nils| .slr _ _ _ _| .imm _ _ _=>some ⟨s,[],fs⟩
   |_=>none
  | .nils,new=>if new.length≤2 ^ 39 then some ⟨.slr n h.length 0 new.length,[.new h.length (.live n nfl false new)],fs⟩else none
  | .slr _ b r len,new=>
    match hf h b with
    |some (.live st fl _ rows)=>
     if st=n∧r+len≤rows.length∧len+new.length≤2 ^ 39 then
      some ⟨.slr st h.length 0 (len+new.length),[.put b .dead,.new h.length (.live st (fl&&nfl) false ((rows.drop r).take len++new))],.blk b::fs⟩
     else none
    |_=>none
  |_,_=>none)=apK n h (some s) (some (nfl,new)):=fun nfl new fs=>by
  rw[if_neg hbad]
  cases new with
  |nil=>cases s<;>rfl
  |cons q new=>
   cases s with
   |nils=>simp only[aKN];split<;>rfl
   |slr a b r len=>
    simp only[aR3]
    unfold apS
    have eh:hf h b=h[b]?:=rfl
    rw[eh]
    cases h[b]? with
    |none=>rfl
    |some c=>
     cases c with
     |live st fl w rows=>
      simp only
      by_cases h1:st=n∧r+len=rows.length∧len+(q::new).length≤2 ^ 39
      ·rw[if_pos h1,if_pos ⟨h1.1,by omega,h1.2.2⟩,List.take_of_length_le (by simp;omega)]
       rfl
      ·rw[if_neg h1]
       unfold apT
       split<;>rfl
     |_=>rfl
   |_=>rfl
 cases x with
 |nils=>exact key true [] []
 |imm st fl rows=>
  simp only[Dk,aSY,hn,aoT.injEq]
  by_cases hq:n=st
  ·subst hq;simp only[if_true,adD];exact key fl rows []
  ·rw[if_neg hq,if_neg (fun e=>hq e.symm)]
   cases s<;>rfl
 |slr st b' r len=>
  simp only[Dk,aUK,hn,Ee,srS]
  have eh:hf h b'=h[b']?:=rfl
  rw[eh]
  cases h[b']? with
  |none=>cases s<;>rfl
  |some c=>
   cases c with
   |live st fl w rows=>
    simp only
    by_cases hq:r+len≤rows.length
    ·simp only[hq,if_true,adD,true_and,aoT.injEq]
     by_cases hq2:n=st
     ·subst hq2;simp only[if_true,adD];exact key fl _ _
     ·rw[if_neg hq2,if_neg (fun e=>hq2 e.symm)];cases s<;>rfl
    ·simp only[hq,if_false,false_and];cases s<;>rfl
   |frz st fl rows=>
    simp only
    by_cases hq:r+len≤rows.length
    ·simp only[hq,if_true,adD,true_and,aoT.injEq]
     by_cases hq2:n=st
     ·subst hq2;simp only[if_true,adD];exact key fl _ _
     ·rw[if_neg hq2,if_neg (fun e=>hq2 e.symm)];cases s<;>rfl
    ·simp only[hq,if_false,false_and];cases s<;>rfl
   |_=>cases s<;>rfl
 |str q=>exact(hx q rfl).elim
 |_=>cases s<;>rfl
def rtK(Q:Dt→Aa→Prop)(x:Option (List AV × List CB × List Nat)):Prop:=
 match x with
 |some ([v],cs,_)=>Q (.ret v) cs
 |_=>False
theorem a2P(Q:Dt→Aa→Prop)(v:AV)(cs:List CB)(m:List Nat):rtK Q (some ([v],cs,m))=Q (.ret v) cs:=abL rfl rfl
theorem bb6{q:Nat}{vs:List AV}{h:Aa}{Q:Dt→Aa→Prop}:Rt q (some vs) h Q=rtK Q (Iq (hf h) (aKO q) [Oj vs]):=by
 unfold Rt aYR
 simp only[adD,Nz]
 cases hp:Iq (hf h) (aKO q) [Oj vs]with
 |none=>simp[rtK]
 |some x=>
  obtain⟨ws,cs,m⟩:=x
  simp only[adD]
  match ws with
  | [v]=>
    simp only[rtK,aoV]
    exact propext ⟨fun⟨o,h',e,k⟩=>by cases e;exact k,fun k=>⟨_,_,rfl,k⟩⟩
  | []=>simp[rtK]
  |_::_::_=>simp[rtK]
theorem bg9(vs:List AV)(h:Aa)(Q:Dt→Aa→Prop):Rt1 0 (some vs) h Q=rtK Q (Iq (hf h) [] [Oj vs]):=bb6
theorem a9P(q:Nat)(vs:List AV)(h:Aa)(Q:Dt→Aa→Prop):Rt (q+1) (some vs) h Q=rtK Q (Iq (hf h) (aKO (q+1)) [Oj vs]):=bb6
end
end
noncomputable section
set_option maxRecDepth 100000
def EVi:=PLift.up (abK @aV3 (abK @aRP (abK @a5W (abK @bgD (abK @bbJ (abK @bgO (abK @beW (abK @bdX (abK @bh4 (abK @a2U (abK @a0F (abK @bfI (abK @beU (abK @a1I (abK @aZW (abK @a6I (abK @a33 (abK @aZB (abK @a9X (abK @aZO (abK @a1O (abK @a08 (abK @bhG (abK @a6Z (abK @a0Y (abK @bjF (abK @bkF (abK @aY9 (abK @a2H (abK @a4A @aY1))))))))))))))))))))))))))))))
def EVj:=PLift.up (abK @a3N (abK @blB (abK @a0D (abK @a16 (abK @bkA (abK @bpA (abK @a2Q (abK @a2M (abK @a7Z (abK @a2Z (abK @a9C (abK @a5X (abK @beO (abK @a9N (abK @bfQ (abK @bfM (abK @a6U (abK @bdZ (abK @bcY (abK @aKM (abK @blA (abK @bnR (abK @a50 (abK @be7 (abK @be9 (abK @bgH (abK @bhB @a3F)))))))))))))))))))))))))))
def EVk:=PLift.up (abK @a3W (abK @bfF (abK @bfO (abK @a27 (abK @a2O (abK @a7T (abK @a19 (abK @biV (abK @bnP (abK @bjS (abK @be5 (abK @a8T (abK @baA (abK @a52 (abK @a7J (abK @a4E (abK @bdY (abK @a7W (abK @a6S (abK @beS (abK @bj5 (abK @bl8 @bhV))))))))))))))))))))))
def EVl:=PLift.up (abK @a6L (abK @aWO (abK @a65 (abK @be8 (abK @bhJ (abK @bhP (abK @bdV (abK @a22 (abK @bnX (abK @a2J (abK @biT (abK @a2B (abK @aZD (abK @aSY (abK @aUK (abK @aMF (abK @bhI (abK @aKN (abK @aR3 (abK @a2P (abK @bg9 (abK @a9P (abK @aLA.{0,0} (abK @List.flatMap_nil.{0,0} (abK @List.isEmpty_nil.{0} (abK @List.isEmpty_cons.{0} (abK @List.getD_cons_zero.{0} (abK @List.range_succ (abK @aQC (abK @List.contains_nil.{0} @List.contains_cons.{0}))))))))))))))))))))))))))))))
def EVm:=PLift.up (abK @List.getElem?_nil.{0} (abK @aVN (abK @aLO (abK @aVX @aRV))))
end
noncomputable section
theorem Ko{n:Nat}{fl nn:Bool}{rows:List (List AV)}(h:rows≠[]):Be n fl nn rows=.imm n fl rows:=by
 cases rows with
 |nil=>exact(h rfl).elim
 |cons r rs=>rfl
theorem ajY(n:Nat)(fl:Bool)(rows:List (List AV)):Be n fl true rows=.imm n fl rows:=by cases rows<;>rfl
section
variable {P:Program} {t e:TypeId} (hu:P.underlying t=some (.slice e))
include hu
end
def bhR(v:Option AV)(ns:Option (List Ad)):Option Iu:=v.bind fun v=>ns.map fun ns=>⟨.ret v,ns,[]⟩
theorem aXF(v:AV)(ns:List Ad):bhR (some v) (some ns)=some ⟨.ret v,ns,[]⟩:=abL rfl rfl
theorem a24(base:Nat)(v:AV)(c:CB)(cs:List CB):ac0 base (some (.ret v,c::cs))=bhR (Bo 8 (fun i=>base+i) v) (Hh (fun i=>base+i) base (c::cs)):=by
 simp only[ac0,bhR,adD,Dt.v,Dt.map]
section
variable {O:Dx}
theorem biQ(h:Aa)(f:Nat)(args:List AV):shC O h f args=if(ay2 args||O.md f)=true then shK h (O.call (.sh f) args (Hn h))else cr (Cm O (hf h) h.length (.fn f) args):=abL rfl rfl
end
theorem bg4(b r o:Nat)(l:List AV):ay2 (.ptr b r o::l)=false:=abL rfl rfl
theorem bcW(a b r n:Nat)(l:List AV):ay2 (.slr a b r n::l)=false:=abL rfl rfl
theorem blC(b:Nat)(l:List AV):ay2 (.yl b::l)=true:=abL rfl rfl
theorem bhX:Hn []=[]:=abL rfl rfl
theorem bbQ(c:CB)(h:Aa):Hn (c::h)=c.clean::Hn h:=abL rfl rfl
theorem bf9(h h':Aa):Hn (h++h')=Hn h++Hn h':=List.map_append
theorem bhL(h:Aa)(b:Nat):(Hn h)[b]?=(h[b]?).map CB.clean:=by simp[Hn]
theorem bd9(h:Aa):(Hn h).length=h.length:=by simp[Hn]
theorem bnZ(ps:List Nat)(a b:Code)(t:List AV)(st:Iz):CB.clean (.lp ps a b t st)=.lp ps a b t st:=abL rfl rfl
def Ba(h:Aa):Bool:=h.all fun c=>c.quiet c.clean
theorem aS7:∀{h:Aa} (_:Ba h=true) (i:Nat) (l:Aa),Bz i h (Hn h++l)=some (Hi (i+h.length) l)
 | [],_,i,l=>by simp[Hn,Bz]
 |c::h,hq,i,l=>by
  simp only[Ba,List.all_cons,aJ4]at hq
  have ih:=aS7 (h:=h) hq.2 (i+1) l
  simp only[Hn,List.map_cons,aIE,Bz,hq.1,cond_true]at ih ⊢
  rw[ih,aD2]
  congr 2;omega
theorem aJX:∀(cs:List CB) (i:Nat) (h:Aa),Bi h (Hi i cs)=h++cs
 | [],i,h=>by simp[Hi,Bi]
 |c::cs,i,h=>by simp[Hi,Bi,Le,aJX cs]
theorem aE9(h:Aa)(o:Dt)(h':Aa):shK h (some (o,h'))=(Bz 0 h h').map fun es=>(o,es):=abL rfl rfl
def EVo:=PLift.up (abK @a82 (abK @a66 (abK @a6H (abK @bgU (abK @bdW (abK @bkC (abK @a7O (abK @bfV (abK @a8U (abK @bhO (abK @bh2 @bdF)))))))))))
def EVn:=PLift.up (abK @aUW (abK @aXC (abK @aXF @a24)))
def EVp:=PLift.up (abK @biQ (abK @bg4 (abK @bcW (abK @blC (abK @bhX (abK @bbQ (abK @bf9 (abK @bhL (abK @bd9 @bnZ)))))))))
end
noncomputable section
def Ax:CB→Option (Nat × Bool × List (List AV))
 | .live st fl _ rows=>some (st,fl,rows)
 | .frz st fl rows=>some (st,fl,rows)
 |_=>none
def rdL(f:AV→Option (AV × List Nat)):List AV→Option (List AV × List Nat)
 | []=>some ([],[])
 |a::l=>(f a).bind fun p=>(rdL f l).map fun q=>(p.1::q.1,p.2++q.2)
def Bh(f:AV→Option (AV × List Nat)):List (List AV)→Option (List (List AV) × List Nat)
 | []=>some ([],[])
 |r::rs=>(rdL f r).bind fun p=>(Bh f rs).map fun q=>(p.1::q.1,p.2++q.2)
def rd:Nat→HF→AV→Option (AV × List Nat)
 |0,_,_=>none
 |d+1,g,v=>
  match v with
  | .slr st b r len=>((g b).bind Ax).bind fun z=>
     if z.1=st∧r=0∧len=z.2.2.length then
      (bif z.2.1 then some (.imm st true z.2.2,[b])else(Bh (rd d g) z.2.2).map fun q=>(.imm st false q.1,b::q.2))
     else none
  | .agg cs=>(rdL (rd d g) cs).map fun q=>(.agg q.1,q.2)
  | .iface t x=>(rd d g x).map fun q=>(.iface t q.1,q.2)
  | .func fn [] []=>some (.func fn [] [],[])
  | .func _ _ _=>none
  | .tup _=>none
  | .ptr _ _ _=>none
  | .yl _=>none
  | .mapr _=>none
  | .itr _=>none
  | .imm _ _ _=>none
  | .iptr _=>none
  |v=>some (v,[])
theorem auQ{f f':AV→Option (AV × List Nat)}:∀{l:List AV} {p:List AV × List Nat},rdL f l=some p→(∀x∈l,∀q,f x=some q→(∀b∈q.2,b∈p.2)→f' x=some q)→rdL f' l=some p
 | [],p,h,_=>h
 |a::l,p,h,hf=>by
  simp only[rdL,adC,abX]at h ⊢
  obtain⟨q,hq,r,hr,rfl⟩:=h
  exact⟨q,hf a (agI ..) q hq (fun b hb=>aoW _ hb),r,auQ hr (fun x hx q' hq' hs=>hf x (af5 _ hx) q' hq' (fun b hb=>awN _ (hs b hb))),rfl⟩
theorem acG{f f':AV→Option (AV × List Nat)}:∀{l:List (List AV)} {p:List (List AV) × List Nat},Bh f l=some p→(∀r∈l,∀x∈r,∀q,f x=some q→(∀b∈q.2,b∈p.2)→f' x=some q)→Bh f' l=some p
 | [],p,h,_=>h
 |a::l,p,h,hf=>by
  simp only[Bh,adC,abX]at h ⊢
  obtain⟨q,hq,r,hr,rfl⟩:=h
  exact⟨q,auQ hq (fun x hx q' hq' hs=>hf a (agI ..) x hx q' hq' (fun b hb=>aoW _ (hs b hb))),r,
   acG hr (fun r' hr' x hx q' hq' hs=>hf r' (af5 _ hr') x hx q' hq' (fun b hb=>awN _ (hs b hb))),rfl⟩
def Agr(R:List Nat)(g g':HF):Prop:=∀b∈R,∀z,(g b).bind Ax=some z→(g' b).bind Ax=some z
theorem aGE{g g':HF}:∀{d:Nat} {v:AV} {p:AV × List Nat},rd d g v=some p→Agr p.2 g g'→rd d g' v=some p
 |0,v,p,h,_=>by simp[rd]at h
 |d+1,v,p,h,ha=>by
  cases v with
  |slr st b r len=>
   simp only[rd,adC]at h ⊢
   obtain⟨z,⟨c,hc,hz⟩,h⟩:=h
   split at h
   ·rename_i hq
    have hb:b∈p.2:=by
     cases hfl:z.2.1 with
     |true=>rw[hfl]at h;simp at h;rw[←h];simp
     |false=>rw[hfl]at h;simp only[cond_false,abX]at h;obtain⟨q,_,rfl⟩:=h;simp
    have hz':=ha b hb z (by rw[hc];exact hz)
    obtain⟨c',hc',hz''⟩:=adC.1 hz'
    refine⟨z,⟨c',hc',hz''⟩,?_⟩
    rw[if_pos hq]
    cases hfl:z.2.1 with
    |true=>rw[hfl]at h;exact h
    |false=>
     rw[hfl]at h
     simp only[cond_false,abX]at h ⊢
     obtain⟨q,hq',rfl⟩:=h
     exact⟨q,acG hq' (fun r' _ x _ q' hx hs=>aGE hx (fun b' hb'=>ha b' (af5 _ (hs b' hb')))),rfl⟩
   ·cases h
  |agg cs=>
   simp only[rd,abX]at h ⊢
   obtain⟨q,hq,rfl⟩:=h
   exact⟨q,auQ hq (fun x _ q' hx hs=>aGE hx (fun b hb=>ha b (hs b hb))),rfl⟩
  |iface t x=>
   simp only[rd,abX]at h ⊢
   obtain⟨q,hq,rfl⟩:=h
   exact⟨q,aGE hq ha,rfl⟩
  |func fn a b=>cases a<;>cases b<;>first|exact h|(simp[rd]at h)
  |_=>first|exact h|(simp[rd]at h)
theorem aT8{g:HF}:∀{d e:Nat} {v:AV} {p:AV × List Nat},d≤e→rd d g v=some p→rd e g v=some p
 |0,e,v,p,_,h=>by simp[rd]at h
 |d+1,0,v,p,he,h=>by omega
 |d+1,e+1,v,p,he,h=>by
  have IH:∀x q,rd d g x=some q→rd e g x=some q:=fun x q hx=>aT8 (by omega) hx
  cases v with
  |slr st b r len=>
   simp only[rd,adC]at h ⊢
   obtain⟨z,hz,h⟩:=h
   refine⟨z,hz,?_⟩
   split at h
   ·rename_i hq
    rw[if_pos hq]
    cases hfl:z.2.1 with
    |true=>rw[hfl]at h;exact h
    |false=>
     rw[hfl]at h
     simp only[cond_false,abX]at h ⊢
     obtain⟨q,hq',rfl⟩:=h
     exact⟨q,acG hq' (fun r' _ x _ q' hx _=>IH x q' hx),rfl⟩
   ·cases h
  |agg cs=>
   simp only[rd,abX]at h ⊢
   obtain⟨q,hq,rfl⟩:=h
   exact⟨q,auQ hq (fun x _ q' hx _=>IH x q' hx),rfl⟩
  |iface t x=>
   simp only[rd,abX]at h ⊢
   obtain⟨q,hq,rfl⟩:=h
   exact⟨q,IH _ _ hq,rfl⟩
  |func fn a b=>cases a<;>cases b<;>first|exact h|(simp[rd]at h)
  |_=>first|exact h|(simp[rd]at h)
theorem aBC{f:AV→Option (AV × List Nat)}{f':AV→Option AV}:∀{l:List AV} {p:List AV × List Nat},rdL f l=some p→(∀x∈l,∀q,f x=some q→f' x=some q.1)→Ap f' l=some p.1
 | [],p,h,_=>by simp[rdL]at h;subst h;rfl
 |a::l,p,h,hf=>by
  simp only[rdL,adC,abX]at h
  obtain⟨q,hq,r,hr,rfl⟩:=h
  simp only[Ap,hf a (agI ..) q hq,adD,aBC hr (fun x hx=>hf x (af5 _ hx)),aoV]
theorem aDJ{f:AV→Option (AV × List Nat)}{f':AV→Option AV}:∀{l:List (List AV)} {p:List (List AV) × List Nat},Bh f l=some p→(∀r∈l,∀x∈r,∀q,f x=some q→f' x=some q.1)→Ap (Ap f') l=some p.1
 | [],p,h,_=>by simp[Bh]at h;subst h;rfl
 |a::l,p,h,hf=>by
  simp only[Bh,adC,abX]at h
  obtain⟨q,hq,r,hr,rfl⟩:=h
  simp only[Ap,aBC hq (fun x hx=>hf a (agI ..) x hx),adD,aDJ hr (fun r' hr'=>hf r' (af5 _ hr')),aoV]
theorem aBS{g:HF}{b:Nat}{z:Nat × Bool × List (List AV)}(h:(g b).bind Ax=some z):Ee g b 0 z.2.2.length=some z:=by
 obtain⟨c,hc,hz⟩:=adC.1 h
 unfold Ee
 rw[hc]
 cases c with
 |live st fl w rows=>simp[Ax]at hz;subst hz;simp
 |frz st fl rows=>simp[Ax]at hz;subst hz;simp
 |dead=>simp[Ax]at hz
 |lp=>simp[Ax]at hz
theorem aEO{g:HF}:∀{d:Nat} {v:AV} {p:AV × List Nat},rd d g v=some p→Ea d g v=some p.1
 |0,v,p,h=>by simp[rd]at h
 |d+1,v,p,h=>by
  cases v with
  |slr st b r len=>
   simp only[rd,adC]at h
   obtain⟨z,hz,h⟩:=h
   split at h
   ·rename_i hq
    obtain⟨rfl,rfl,rfl⟩:=hq
    simp only[Ea,aBS (adC.2 hz),adD]
    cases hfl:z.2.1 with
    |true=>rw[hfl]at h;simp at h;rw[←h];rfl
    |false=>
     rw[hfl]at h
     simp only[cond_false,abX]at h
     obtain⟨q,hq',rfl⟩:=h
     simp[aDJ hq' (fun r' _ x _ q' hx=>aEO hx)]
   ·cases h
  |agg cs=>
   simp only[rd,abX]at h
   obtain⟨q,hq,rfl⟩:=h
   simp[Ea,aBC hq (fun x _ q' hx=>aEO hx)]
  |iface t x=>
   simp only[rd,abX]at h
   obtain⟨q,hq,rfl⟩:=h
   simp[Ea,aEO hq]
  |func fn a b=>cases a<;>cases b<;>first|(simp[rd]at h;subst h;rfl)|(simp[rd]at h)
  |_=>first|(simp[rd]at h;subst h;rfl)|(simp[rd]at h)
def Fo:Nat→(Nat→Option Nat)→AV→Option AV
 |0,_,_=>none
 |d+1,F,v=>
  match v with
  | .ptr b r o=>(F b).map fun b=>.ptr b r o
  | .slr st b r len=>(F b).map fun b=>.slr st b r len
  | .agg cs=>(Ap (Fo d F) cs).map .agg
  | .tup cs=>(Ap (Fo d F) cs).map .tup
  | .iface t x=>(Fo d F x).map (.iface t)
  | .func fn a b=>(Ap (Fo d F) a).bind fun a=>(Ap (Fo d F) b).map fun b=>.func fn a b
  | .yl b=>(F b).map .yl
  | .mapr b=>(F b).map .mapr
  | .itr b=>(F b).map .itr
  |v=>some v
def bh0(F:Nat→Option Nat)(g' g:HF):Prop:=∀i b,F i=some b→∀z,(g b).bind Ax=some z→
 ∃rows',(g' i).bind Ax=some (z.1,z.2.1,rows')∧(z.2.1=true→rows'=z.2.2)∧(z.2.1=false→Ap (Ap (Fo 8 F)) rows'=some z.2.2)
theorem adQ{α β:Type}{f:α→Option β}:∀{l:List α} {r:List β},Ap f l=some r→l.length=r.length
 | [],r,h=>by simp[Ap]at h;subst h;rfl
 |a::l,r,h=>by
  simp only[Ap,adC,abX]at h
  obtain⟨b,_,bs,h2,rfl⟩:=h
  simp[adQ h2]
theorem aKC{f f':AV→Option (AV × List Nat)}{F:AV→Option AV}{Z:Nat→Prop}:∀{l l':List AV} {p:List AV × List Nat},Ap F l'=some l→rdL f l=some p→
 (∀x' x q,F x'=some x→f x=some q→∃R',f' x'=some (q.1,R')∧R'.length=q.2.length∧∀i∈R',Z i)→∃R',rdL f' l'=some (p.1,R')∧R'.length=p.2.length∧∀i∈R',Z i
 |l,[],p,ho,h,_=>by
  simp[Ap]at ho;subst ho
  simp[rdL]at h;subst h
  exact⟨[],rfl,rfl,fun i h=>by cases h⟩
 |l,a'::l',p,ho,h,hf=>by
  simp only[Ap,adC,abX]at ho
  obtain⟨a,ha,l1,hl1,rfl⟩:=ho
  simp only[rdL,adC,abX]at h
  obtain⟨q,hq,r,hr,rfl⟩:=h
  obtain⟨R1,e1,e2,z1⟩:=hf a' a q ha hq
  obtain⟨R2,e3,e4,z2⟩:=aKC hl1 hr hf
  exact⟨R1++R2,by simp[rdL,e1,e3],by simp[e2,e4],fun i hi=>(ai5.1 hi).elim (z1 i) (z2 i)⟩
theorem aFI{f f':AV→Option (AV × List Nat)}{F:AV→Option AV}{Z:Nat→Prop}:∀{l l':List (List AV)} {p:List (List AV) × List Nat},Ap (Ap F) l'=some l→Bh f l=some p→
 (∀x' x q,F x'=some x→f x=some q→∃R',f' x'=some (q.1,R')∧R'.length=q.2.length∧∀i∈R',Z i)→∃R',Bh f' l'=some (p.1,R')∧R'.length=p.2.length∧∀i∈R',Z i
 |l,[],p,ho,h,_=>by
  simp[Ap]at ho;subst ho
  simp[Bh]at h;subst h
  exact⟨[],rfl,rfl,fun i h=>by cases h⟩
 |l,a'::l',p,ho,h,hf=>by
  simp only[Ap,adC,abX]at ho
  obtain⟨a,ha,l1,hl1,rfl⟩:=ho
  simp only[Bh,adC,abX]at h
  obtain⟨q,hq,r,hr,rfl⟩:=h
  obtain⟨R1,e1,e2,z1⟩:=aKC ha hq hf
  obtain⟨R2,e3,e4,z2⟩:=aFI hl1 hr hf
  exact⟨R1++R2,by simp[Bh,e1,e3],by simp[e2,e4],fun i hi=>(ai5.1 hi).elim (z1 i) (z2 i)⟩
theorem aRL{F:Nat→Option Nat}{g' g:HF}(H:bh0 F g' g):∀{d e:Nat} {x' x:AV} {p:AV × List Nat},Fo e F x'=some x→rd d g x=some p→∃R',rd d g' x'=some (p.1,R')∧R'.length=p.2.length∧∀i∈R',∃b,F i=some b
 |0,e,x',x,p,_,h=>by simp[rd]at h
 |d+1,0,x',x,p,hx,_=>by simp[Fo]at hx
 |d+1,e+1,x',x,p,hx,h=>by
  have IH:∀e x' x q,Fo e F x'=some x→rd d g x=some q→∃R',rd d g' x'=some (q.1,R')∧R'.length=q.2.length∧∀i∈R',∃b,F i=some b:=fun e x' x q h1 h2=>aRL H h1 h2
  cases x' with
  |slr st i r len=>
   simp only[Fo,abX]at hx
   obtain⟨b,hb,rfl⟩:=hx
   simp only[rd,adC]at h
   obtain⟨z,hz,h⟩:=h
   split at h
   ·rename_i hq
    obtain⟨rows',k1,k2,k3⟩:=H i b hb z (adC.2 hz)
    simp only[rd,k1,adD]
    cases hfl:z.2.1 with
    |true=>
     rw[hfl]at h;simp at h
     rw[if_pos ⟨hq.1,hq.2.1,by rw[k2 hfl];exact hq.2.2⟩,←h,k2 hfl]
     exact⟨[i],rfl,rfl,fun j hj=>by simp at hj;subst hj;exact⟨b,hb⟩⟩
    |false=>
     rw[hfl]at h
     simp only[cond_false,abX]at h
     obtain⟨q,hq',rfl⟩:=h
     have hl:=adQ (k3 hfl)
     rw[if_pos ⟨hq.1,hq.2.1,by rw[hl];exact hq.2.2⟩]
     obtain⟨R',e1,e2,z1⟩:=aFI (f':=rd d g') (k3 hfl) hq' (fun x' x q h1 h2=>IH 8 x' x q h1 h2)
     exact⟨i::R',by simp[e1],by simp[e2],fun j hj=>(aoS.1 hj).elim (fun e=>e▸⟨b,hb⟩) (z1 j)⟩
   ·cases h
  |agg cs=>
   simp only[Fo,abX]at hx
   obtain⟨cs',hcs,rfl⟩:=hx
   simp only[rd,abX]at h
   obtain⟨q,hq,rfl⟩:=h
   obtain⟨R',e1,e2,z1⟩:=aKC (f':=rd d g') hcs hq (fun x' x q h1 h2=>IH e x' x q h1 h2)
   exact⟨R',by simp[rd,e1],e2,z1⟩
  |iface t y=>
   simp only[Fo,abX]at hx
   obtain⟨y',hy,rfl⟩:=hx
   simp only[rd,abX]at h
   obtain⟨q,hq,rfl⟩:=h
   obtain⟨R',e1,e2,z1⟩:=IH e _ _ q hy hq
   exact⟨R',by simp[rd,e1],e2,z1⟩
  |func fn a b=>
   simp only[Fo,adC,abX]at hx
   obtain⟨a1,ha,b1,hb,rfl⟩:=hx
   have la:=adQ ha
   have lb:=adQ hb
   cases a1 with
   |cons=>simp[rd]at h
   |nil=>
    cases b1 with
    |cons=>simp[rd]at h
    |nil=>
     simp at la lb
     obtain rfl:=la
     obtain rfl:=lb
     simp[rd]at h;subst h
     exact⟨[],rfl,rfl,fun i h=>by cases h⟩
  |ptr b r o=>
   simp only[Fo,abX]at hx
   obtain⟨b,hb,rfl⟩:=hx
   simp[rd]at h
  |tup cs=>
   simp only[Fo,abX]at hx
   obtain⟨b,hb,rfl⟩:=hx
   simp[rd]at h
  |yl b=>
   simp only[Fo,abX]at hx
   obtain⟨b,hb,rfl⟩:=hx
   simp[rd]at h
  |mapr b=>
   simp only[Fo,abX]at hx
   obtain⟨b,hb,rfl⟩:=hx
   simp[rd]at h
  |itr b=>
   simp only[Fo,abX]at hx
   obtain⟨b,hb,rfl⟩:=hx
   simp[rd]at h
  |imm=>simp[Fo]at hx;subst hx;simp[rd]at h
  |iptr=>simp[Fo]at hx;subst hx;simp[rd]at h
  |_=>simp[Fo]at hx;subst hx;simp[rd]at h;subst h;exact⟨[],rfl,rfl,fun i h=>by cases h⟩
end
noncomputable section
open Go.RowKit
section
variable {P:Program} {O:Dx} {pr:Me}
def fnS(P:Program)(rs:List ResultVar)(x:R):Option (Dt × Aa):=
 match x with
 |some (.normal,s)|some (.ret,s)=>(abY P s rs).map fun vs=>(.ret (Oj vs),s.h)
 |some (.pan v,s)=>some (.pan v,s.h)
 |_=>none
theorem bdS{f:Nat}{fn:Func}(hf:P.funcs[f]?=some fn){c:Code}(hb:fn.body=some c){args:List AV}(hl:args.length≤fn.ntmps)(h:Aa):
 evS O P f args h=fnS P fn.results.toList (Cd O P Is c [] ⟨mk fn.ntmps (Lx args),h⟩):=by
 unfold evS
 simp only[hf,hb]
 rw[a5K _ _ hl]
 cases Cd O P Is c [] ⟨mk fn.ntmps (Lx args),h⟩with
 |none=>rfl
 |some x=>
  obtain⟨e,s⟩:=x
  cases e<;>rfl
def FnS(P:Program)(rs:List ResultVar)(Q:Dt→Aa→Prop)(x:R):Prop:=∃o h,fnS P rs x=some (o,h)∧Q o h
def RtS(vs:Option (List AV))(h:Aa)(Q:Dt→Aa→Prop):Prop:=
 match vs with
 |some vs=>Q (.ret (Oj vs)) h
 |none=>False
theorem aSJ(rs:List ResultVar)(Q:Dt→Aa→Prop)(t:List AV)(h:Aa):FnS P rs Q (some (.ret,⟨t,h⟩))=RtS (abY P ⟨t,h⟩ rs) h Q:=by
 cases hr:abY P ⟨t,h⟩ rs with
 |none=>simp[FnS,fnS,RtS,hr]
 |some vs=>
  have e:fnS P rs (some (.ret,⟨t,h⟩))=some (.ret (Oj vs),h):=by simp[fnS,hr]
  exact propext (Iff.intro (fun⟨o,h',e',q⟩=>by rw[e]at e';cases e';exact q) (fun q=>⟨_,_,e,q⟩))
theorem Pj(rs:List ResultVar)(Q:Dt→Aa→Prop)(t:List AV)(h:Aa):FnS P rs Q (some (.normal,⟨t,h⟩))=RtS (abY P ⟨t,h⟩ rs) h Q:=by
 rw[←aSJ];rfl
theorem a07(vs:List AV)(h:Aa)(Q:Dt→Aa→Prop):RtS (some vs) h Q=Q (.ret (Oj vs)) h:=abL rfl rfl
theorem a1E{rs:List ResultVar}{Q:Dt→Aa→Prop}:¬FnS P rs Q none:=fun⟨_,_,h,_⟩=>by simp[fnS]at h
def ShQ(O:Dx)(f:Nat)(args:List AV)(h:Aa)(Q:Dt→Aa→Prop):Prop:=∃o h',O.call (.sh f) args h=some (o,h')∧Q o h'
theorem ShQ.start{f:Nat}{fn:Func}{c:Code}{args:List AV}{h:Aa}{Q:Dt→Aa→Prop}(hp:pr f=none)(hf:P.funcs[f]?=some fn)(hb:fn.body=some c)(hl:Nat.ble args.length fn.ntmps=true)
 (he:FnS P fn.results.toList Q (Cd (om P pr) P 5000 c [] ⟨mk fn.ntmps (Lx args),h⟩)) (hs:pr.sh f=none:=by exact rfl):ShQ (om P pr) f args h Q:=by
 obtain⟨o,h',e,q⟩:=he
 exact⟨o,h',bcC hp hs ((bdS hf hb (Nat.le_of_ble_eq_true hl) h).trans e),q⟩
theorem ShQ.eq{f:Nat}{args:List AV}{h:Aa}{o:Dt}{h':Aa}(k:ShQ O f args h fun o1 h1=>(o1,h1)=(o,h')):O.call (.sh f) args h=some (o,h'):=by
 obtain⟨o1,h1,e,q⟩:=k
 rw[e,q]
def ncK(x:Option AV):OE:=
 match x with
 |some (.ptr b r o)=>some (.ret (.ptr b r o),[])
 |some (.iptr cs)=>some (.ret (.iptr cs),[])
 |some (.func (.func f) a c)=>some (.ret (.func (.func f) a c),[])
 |_=>none
theorem bc6(b r o:Nat):ncK (some (.ptr b r o))=some (.ret (.ptr b r o),[]):=abL rfl rfl
theorem bj7(t:List AV)(h:Aa)(x:Operand):Di O P t h (.nilCheck x)=ncK (Ae t x):=by
 rw[Cc _ _ _ rfl]
 simp only[exec,ncK]
 cases Ae t x with
 |none=>rfl
 |some v=>
  cases v with
  |func fn a c=>cases fn<;>rfl
  |_=>rfl
end
def EVq:=PLift.up (abK @aSJ (abK @Pj (abK @a07 (abK @bc6 @bj7))))
end
noncomputable section
open Go.RowKit
section
variable {P:Program} {O:Dx}
end
def baD(k st:Nat)(fl:Bool)(rows:List (List AV))(v:AV)(g:Aa):Prop:=
 (rows=[]∧v=.nils)∨∃b w,v=.slr st (b+k) 0 rows.length∧g[b]?=some (.live st fl w rows)
def kl(k:Nat)(v:AV)(g:Aa):Aa:=
 match v with
 | .slr _ b _ _=>g.set (b-k) .dead
 |_=>g
theorem awA(k:Nat)(v:AV)(g:Aa):(kl k v g).length=g.length:=by
 unfold kl;split<;>simp
def apE(v:AV)(st:Nat)(fl:Bool)(rows:List (List AV))(base:Nat):List Ad:=
 match v with
 | .slr _ b _ _=>[.put b .dead,.new base (.live st fl false rows)]
 |_=>[.new base (.live st fl false rows)]
theorem aTL{k n:Nat}{fl:Bool}{rows:List (List AV)}{v:AV}{g:Aa}(ho:baD k n fl rows v g){pre:Aa}(hk:pre.length=k)(l:Aa)(r:List AV)(new:List (List AV))(hl:rows.length+(new.length+1)≤549755813888):
 apK n (pre++(g++l)) (some v) (some (fl,r::new))=some (.ret (.slr n (pre++(g++l)).length 0 (rows.length+(r::new).length)),apE v n fl (rows++r::new) (pre++(g++l)).length):=by
 rcases ho with⟨rfl,rfl⟩|⟨b,w,rfl,h2⟩
 ·rw[aKN,if_pos (by simp at hl ⊢;omega)]
  simp[apE]
 ·have hb:=(azY.1 h2).1
  have hq:(pre++(g++l))[b+k]?=some (.live n fl w rows):=by
   rw[aLF (by omega),aDG (by omega)]
   rw[show b+k-pre.length=b by omega];exact h2
  rw[aR3,hq,aMF,if_pos ⟨rfl,by omega,by simp only[aD2];omega⟩]
  simp[apE]
theorem aOL{k n:Nat}{fl:Bool}{rows:List (List AV)}{v:AV}{g:Aa}(ho:baD k n fl rows v g){pre:Aa}(hk:pre.length=k)(l:Aa)(st:Nat)(fl':Bool)(rows':List (List AV))(base:Nat):
 Bi (pre++(g++l)) (apE v st fl' rows' base)=pre++(kl k v g++(l++[.live st fl' false rows'])):=by
 rcases ho with⟨rfl,rfl⟩|⟨b,w,rfl,h2⟩
 ·simp[apE,Bi,Le,kl]
 ·have hb:=(azY.1 h2).1
  simp only[apE,Bi,Le,kl,Nat.add_sub_cancel]
  rw[List.set_append_right _ _ (by omega),show b+k-pre.length=b by omega,List.set_append_left _ _ hb]
  simp
def pkd(O:Dx)(f:Nat)(args:List AV):Prop:=hdR args=true→(ay2 args||O.md f)=false
theorem bhD{O:Dx}{f:Nat}{args:List AV}(h:hdR args=false):pkd O f args:=fun k=>by rw[h]at k;cases k
theorem bd0{O:Dx}{h:Aa}{f:Nat}{args:List AV}(hd:pkd O f args):cl O h (some (.func (.func f) [] [])) (some args)=cr (Cm O (hf h) h.length (.fn f) args):=by
 rw[aM5]
 simp only[aBU,aDD]
 split
 ·rename_i hh
  unfold shC
  rw[hd hh];simp only[aQB,if_false]
 ·rfl
section
variable {P:Program} (ty:TypeId)
end
theorem aJ9{α:Type}{f:α→Option α}:∀{l:List α},(∀x∈l,f x=some x)→Ap f l=some l
 | [],_=>rfl
 |a::l,h=>by simp only[Ap,h a (agI ..),adD,aJ9 (fun x hx=>h x (af5 _ hx)),aoV]
theorem a3U{n:Nat}{h:Aa}{nfl:Bool}{rows:List (List AV)}(hr:rows≠[])(hl:rows.length≤549755813888):apK n h (some .nils) (some (nfl,rows))=some (.ret (.slr n h.length 0 rows.length),[.new h.length (.live n nfl false rows)]):=by
 cases rows with
 |nil=>exact(hr rfl).elim
 |cons r new=>rw[aKN,if_pos (by simpa using hl)]
end
noncomputable section
open Go.RowKit
section
variable {P:Program} {O:Dx} {pr:Me}
def rnX(O:Dx)(P:Program)(n:Nat)(k:List Ak)(t:List AV)(b:Nat)(h2:Aa)(x:Option CB):R:=
 match x with
 |some (.lp _ _ _ _ .ready)=>Bw (Cd O P n) k .normal ⟨t,h2.set b .dead⟩
 |some (.lp _ _ _ _ (.done .ret))=>Bw (Cd O P n) k .ret ⟨t,h2.set b .dead⟩
 |some (.lp _ _ _ _ (.done (.exit i)))=>Bw (Cd O P n) k (.exit i) ⟨t,h2.set b .dead⟩
 |_=>none
def rnE(O:Dx)(P:Program)(n:Nat)(k:List Ak)(t:List AV)(b:Nat)(h1:Aa)(x:OE):R:=
 match x with
 |some (.ret _,es)=>rnX O P n k t b (Bi h1 es) ((Bi h1 es)[b]?)
 |_=>none
def rnC(O:Dx)(h1:Aa)(b:Nat)(fv:Option AV):OE:=
 match fv with
 |some (.func (.func g) a c)=>cr (Eg O (hf h1) h1.length (ac4 g (a++[.yl b]++c)) (a++[.yl b]++c))
 |_=>none
theorem bk7(n:Nat)(k:List Ak)(t:List AV)(b:Nat)(h1:Aa)(x:Option Iu):
 (x.bind fun d=>match d.out with
   | .ret _=>
     let h2:=Bi h1 d.es
     match h2[b]? with
     |some (.lp _ _ _ _ .ready)=>Bw (Cd O P n) k .normal ⟨t,h2.set b .dead⟩
     |some (.lp _ _ _ _ (.done .ret))=>Bw (Cd O P n) k .ret ⟨t,h2.set b .dead⟩
     |some (.lp _ _ _ _ (.done (.exit i)))=>Bw (Cd O P n) k (.exit i) ⟨t,h2.set b .dead⟩
     |_=>none
   | .pan _=>none)=rnE O P n k t b h1 (cr x):=by
 cases x with
 |none=>rfl
 |some d=>
  obtain⟨o,es,fs⟩:=d
  cases o<;>rfl
theorem beA(n:Nat)(f:Operand)(ps:Array Nat)(asg body:Code)(k:List Ak)(t:List AV)(h:Aa):
 Cd O P (n+1) (.rangeFunc f ps asg body) k ⟨t,h⟩=rnE O P n k t h.length (h++[.lp ps.toList asg body t .ready]) (rnC O (h++[.lp ps.toList asg body t .ready]) h.length (Ae t f)):=by
 simp only[Cd,rnC]
 cases Ae t f with
 |none=>rfl
 |some v=>
  simp only[adD]
  cases v with
  |func fn a c=>
   cases fn with
   |func g=>exact bk7 n k t h.length _ _
   |_=>rfl
  |_=>rfl
theorem bg3(h1:Aa)(b g:Nat)(a c:List AV):rnC O h1 b (some (.func (.func g) a c))=if hdR (a++[.yl b]++c)=true then shC O h1 g (a++[.yl b]++c)else cr (Cm O (hf h1) h1.length (.fn g) (a++[.yl b]++c)):=a2K h1 g _
theorem a7R(n:Nat)(k:List Ak)(t:List AV)(b:Nat)(h1:Aa)(v:AV)(es:List Ad):rnE O P n k t b h1 (some (.ret v,es))=rnX O P n k t b (Bi h1 es) ((Bi h1 es)[b]?):=abL rfl rfl
theorem aU8(n:Nat)(k:List Ak)(t:List AV)(b:Nat)(h2:Aa)(ps:List Nat)(asg body:Code)(tm:List AV):rnX O P n k t b h2 (some (.lp ps asg body tm .ready))=Bw (Cd O P n) k .normal ⟨t,h2.set b .dead⟩:=abL rfl rfl
def slK(h:Aa)(b:Nat)(ok:Iz→Bool)(st:Iz)(x:Option CB):Option Aa:=
 match x with
 |some (.lp ps asg body tmps st')=>if ok st' then some (h.set b (.lp ps asg body tmps st))else none
 |_=>none
theorem bk6(h:Aa)(b:Nat)(ok:Iz→Bool)(st:Iz):Nr h b ok st=slK h b ok st (h[b]?):=by
 unfold Nr slK
 cases h[b]? with
 |none=>rfl
 |some c=>cases c<;>rfl
theorem a4M(h:Aa)(b:Nat)(st:Iz)(ps:List Nat)(asg body:Code)(tm:List AV):slK h b Iz.isReady st (some (.lp ps asg body tm .ready))=some (h.set b (.lp ps asg body tm st)):=abL rfl rfl
theorem a56(h:Aa)(b:Nat)(st:Iz)(ps:List Nat)(asg body:Code)(tm:List AV):slK h b Iz.isBusy st (some (.lp ps asg body tm .busy))=some (h.set b (.lp ps asg body tm st)):=abL rfl rfl
def bbS(O:Dx)(P:Program)(body:Code)(t:List AV)(x:Option Aa):R:=
 match x with
 |some h1=>Cd O P 5000 body [] ⟨t,h1⟩
 |none=>none
def aZE(O:Dx)(P:Program)(b:Nat)(body:Code)(x:R):R:=
 match x with
 |some (.normal,s)=>bbS O P body s.tmps (Nr s.h b Iz.isReady .busy)
 |_=>none
def aMV(r:Bool)(x:Option Aa):Option (Dt × Aa):=x.map fun h2=>(.ret (.bool r),h2)
def aXH(b:Nat)(x:R):Option (Dt × Aa):=
 match x with
 |some (.normal,s)=>aMV true (Nr s.h b Iz.isBusy .ready)
 |some (.ret,s)=>aMV false (Nr s.h b Iz.isBusy (.done .ret))
 |some (.exit i,s)=>aMV false (Nr s.h b Iz.isBusy (.done (.exit i)))
 |_=>none
theorem aVM(body:Code)(t:List AV)(h:Aa):bbS O P body t (some h)=Cd O P 5000 body [] ⟨t,h⟩:=abL rfl rfl
theorem aN1(b:Nat)(body:Code)(t:List AV)(h:Aa):aZE O P b body (some (.normal,⟨t,h⟩))=bbS O P body t (Nr h b Iz.isReady .busy):=abL rfl rfl
theorem aWF(r:Bool)(h:Aa):aMV r (some h)=some (.ret (.bool r),h):=abL rfl rfl
theorem a0S{vs:List AV}{b:Nat}{h:Aa}{ps:List Nat}{asg body:Code}{tm:List AV}{st:Iz}(hb:h[b]?=some (.lp ps asg body tm st))(hl:ps.length=vs.length):
 Kw O P (vs++[.yl b]) h=aXH b (aZE O P b body (Cd O P 5000 asg [] ⟨Of tm ps vs,h⟩)):=by
 unfold Kw
 simp only[List.reverse_append,List.reverse_cons,List.reverse_nil,aBU,aIE,List.reverse_reverse,List.length_reverse,hb,hl,if_true,Is]
 cases Cd O P 5000 asg [] ⟨Of tm ps vs,h⟩with
 |none=>rfl
 |some x=>
  obtain⟨e,s⟩:=x
  cases e with
  |normal=>
   simp only[adD,aZE]
   cases Nr s.h b Iz.isReady .busy with
   |none=>rfl
   |some h1=>
    simp only[adD,bbS]
    cases Cd O P 5000 body [] ⟨s.tmps,h1⟩with
    |none=>rfl
    |some y=>
     obtain⟨e,s⟩:=y
     cases e with
     |normal=>simp only[adD,Nx,aXH,aMV];cases Nr s.h b Iz.isBusy .ready<;>rfl
     |ret=>simp only[adD,Nx,aXH,aMV];cases Nr s.h b Iz.isBusy (.done .ret)<;>rfl
     |exit i=>simp only[adD,Nx,aXH,aMV];cases Nr s.h b Iz.isBusy (.done (.exit i))<;>rfl
     |pan v=>rfl
  |_=>rfl
def RnE(b:Nat)(Q:Dt→Aa→Prop)(x:R):Prop:=∃o h',aXH b x=some (o,h')∧Q o h'
def RnQ(O:Dx)(args:List AV)(h:Aa)(Q:Dt→Aa→Prop):Prop:=∃o h',O.call .round args h=some (o,h')∧Q o h'
theorem RnQ.start{vs:List AV}{b:Nat}{h:Aa}{ps:List Nat}{asg body:Code}{tm:List AV}{st:Iz}{Q:Dt→Aa→Prop}(hb:h[b]?=some (.lp ps asg body tm st))(hl:ps.length=vs.length)
 (he:RnE b Q (aZE (om P pr) P b body (Cd (om P pr) P 5000 asg [] ⟨Of tm ps vs,h⟩))):RnQ (om P pr) (vs++[.yl b]) h Q:=by
 obtain⟨o,h',e,q⟩:=he
 exact⟨o,h',aOZ ((a0S hb hl).trans e),q⟩
theorem beX{C:R→Prop}{n f b:Nat}{k:List Ak}{t:List AV}{h1 h2:Aa}{args:List AV}{Q:Dt→Aa→Prop}(hq:ShQ O f args h2 Q)(hk:∀o h',Q o h'→C (rnE O P n k t b h1 (shK h1 (some (o,h'))))):C (rnE O P n k t b h1 (shK h1 (O.call (.sh f) args h2))):=by
 obtain⟨o,h',e,q⟩:=hq
 rw[e];exact hk o h' q
theorem aVC(b:Nat)(Q:Dt→Aa→Prop)(t:List AV)(h:Aa):RnE b Q (some (.normal,⟨t,h⟩))=∃o h',aMV true (Nr h b Iz.isBusy .ready)=some (o,h')∧Q o h':=abL rfl rfl
theorem a9E(h:Aa)(f:Nat)(args:List AV):aQ6 O h f args=if(ay2 args||O.md f)=true then some [.all]else ftR h args:=abL rfl rfl
theorem a2L{b:Nat}{Q:Dt→Aa→Prop}:¬RnE b Q none:=fun⟨_,_,h,_⟩=>by simp[aXH]at h
theorem a9J(n:Nat)(t:Tm)(p:Nat)(ps:List Nat)(v:AV)(vs:List AV):Of (mk n t) (p::ps) (v::vs)=Of (mk n (up t p v)) ps vs:=by
 simp only[Of,a3L]
theorem bfJ(n:Nat)(t:Tm)(vs:List AV):Of (mk n t) [] vs=mk n t:=by cases vs<;>rfl
end
def mfF(f:Nat→Nat):Bg→Bg
 | .cells b o n=>.cells (f b) o n
 | .blk b=>.blk (f b)
 | .all=>.all
def lgF(f:Nat→Nat)(log:Log):List (List Bg × List Bg):=log.map fun x=>(x.1.map fun e=>mfF f e.foot,x.2.map (mfF f))
def aL0(x y:List Bg × List Bg):Bool:=x.1.any (fun f=>(y.1++y.2).any f.meets)||y.1.any (fun f=>x.2.any f.meets)
def aJF(ops:List Oper)(lg:List (List Bg × List Bg)):Bool:=
 (aC1 ops).all fun(i,j)=>match lg[i]?,lg[j]? with
   |some x,some y=> !aL0 x y
   |_,_=>false
def aHL(n q:Nat)(b:Nat):Nat:=if b<q then b else b-n+1000
theorem acZ{n q b:Nat}(h:b<q):aHL n q b=b:=by simp[aHL,h]
theorem aHA(f:Nat→Nat)(x y:Bg)(h:x.meets y=true):(mfF f x).meets (mfF f y)=true:=by
 cases x<;>cases y<;>simp_all[Bg.meets,mfF]
theorem a5A(f:Nat→Nat)(x y:List Ad × List Bg)(h:Lh x y=true):aL0 (x.1.map fun e=>mfF f e.foot,x.2.map (mfF f)) (y.1.map fun e=>mfF f e.foot,y.2.map (mfF f))=true:=by
 simp only[Lh,aL0,aQD,aQH,ai5,aNF]at h ⊢
 rcases h with⟨a,⟨e,he,rfl⟩,b,hb,hm⟩|⟨a,⟨e,he,rfl⟩,b,hb,hm⟩
 ·refine .inl ⟨_,⟨e,he,rfl⟩,mfF f b,?_,aHA f _ _ hm⟩
  rcases hb with⟨e',he',rfl⟩|hb
  ·exact .inl ⟨e',he',rfl⟩
  ·exact .inr ⟨b,hb,rfl⟩
 ·exact .inr ⟨_,⟨e,he,rfl⟩,mfF f b,⟨b,hb,rfl⟩,aHA f _ _ hm⟩
theorem aER(f:Nat→Nat){ops:List Oper}{log:Log}(h:aJF ops (lgF f log)=true):Dn ops log=true:=by
 simp only[aJF,Dn,az0]at h ⊢
 rintro⟨i,j⟩ hij
 have:=h (i,j) hij
 simp only[lgF,aOB]at this ⊢
 cases hi:log[i]? with
 |none=>simp[hi]at this
 |some x=>
  cases hj:log[j]? with
  |none=>simp[hi,hj]at this
  |some y=>
   simp only[hi,hj,aoV,aQR,aQ3]at this ⊢
   cases hc:Lh x y with
   |false=>rfl
   |true=>rw[a5A f x y hc]at this;cases this
theorem aHI(n q:Nat){C:R→Prop}{ops:List Oper}{log:Log}{k:R}(hb:aJF ops (lgF (aHL n q) log)=true)(h:True→C k):C (Fg (Dn ops log) k):=aFE (aER _ hb) h
theorem atB(f:Nat→Nat):lgF f []=[]:=abL rfl rfl
theorem aeG(f:Nat→Nat)(x:List Ad)(y:List Bg)(l:Log):lgF f ((x,y)::l)=(x.map (fun e=>mfF f e.foot),y.map (mfF f))::lgF f l:=abL rfl rfl
theorem Nj(f:Nat→Nat)(b o n:Nat):mfF f (.cells b o n)=.cells (f b) o n:=abL rfl rfl
theorem at6(f:Nat→Nat)(b:Nat):mfF f (.blk b)=.blk (f b):=abL rfl rfl
theorem as4(b:Nat)(c:CB):Ad.foot (.new b c)=.blk b:=abL rfl rfl
theorem aq3(b:Nat)(c:CB):Ad.foot (.put b c)=.blk b:=abL rfl rfl
theorem Nq(b r o:Nat)(vs:List AV):Ad.foot (.cells b r o vs)=.cells b o vs.length:=abL rfl rfl
section
variable {P:Program} {O:Dx}
end
def EVs:=PLift.up (abK @beA (abK @bg3 (abK @a7R (abK @aU8 (abK @bk6 (abK @a4M (abK @a56 (abK @aVM (abK @aN1 (abK @aWF (abK @aVC (abK @a9J (abK @a9E @bfJ)))))))))))))
end
noncomputable section
open Go.RowKit
set_option maxRecDepth 100000
def EVZ:=PLift.up (abK EVa.down (abK EVb.down (abK EVc.down (abK EVd.down (abK EVe.down (abK EVf.down (abK EVg.down (abK EVh.down (abK EVi.down (abK EVj.down (abK EVk.down (abK EVl.down (abK EVm.down (abK EVn.down (abK EVo.down (abK EVp.down EVq.down))))))))))))))))
section
variable {P:Program} {O:Dx}
class NoN(C:R→Prop):Prop where
 no:¬C none
instance{q:Nat}{rs:List ResultVar}{Q:Dt→Aa→Prop}:NoN (FnE P q rs Q):=⟨a3P⟩
instance{rs:List ResultVar}{Q:Dt→Aa→Prop}:NoN (FnS P rs Q):=⟨a1E⟩
instance{N:Nat}{J:Tm→Aa→Prop}{Q:Ex→St→Prop}:NoN (Rnd N J Q):=⟨aZ7⟩
instance{b:Nat}{Q:Dt→Aa→Prop}:NoN (RnE b Q):=⟨a2L⟩
end
end
noncomputable section
open Go.RowKit
set_option maxRecDepth 100000
section
variable {P:Program} {O:Dx}
class Spl(r:R)(b:outParam Bool)(x y:outParam R):Prop where
 sp:∀{C:R→Prop},(b=true→C x)→(b=false→C y)→C r
instance{n:Nat}{k:List Ak}{d:Option Nat}{op:Op}{cs:List CO}{b w:Bool}{t:List AV}{h:Aa}:Spl (rcG O P n k d op cs (.bool b) w t h) b (rcG O P n k d op cs (.bool true) w t h) (rcG O P n k d op cs (.bool false) w t h):=⟨bl7⟩
instance{n:Nat}{x y:Code}{k:List Ak}{g:Bool}{s:St}:Spl (cdK O P n x y k (some (.bool g)) s) g (Cd O P n x k s) (Cd O P n y k s):=⟨bjI⟩
instance{n:Nat}{k:List Ak}{d:Option Nat}{op:Op}{cs:List CO}{b w:Bool}{t:List AV}{h:Aa}:Spl (rqG O P n k d op cs (.bool b) w t h) b (rqG O P n k d op cs (.bool true) w t h) (rqG O P n k d op cs (.bool false) w t h):=⟨bjH⟩
instance{n:Nat}{k:List Ak}{d:Option Nat}{op:Op}{cs:List CO}{b w:Bool}{t:List AV}{h:Aa}:Spl (rwG O P n k d op cs (.bool b) w t h) b (rwG O P n k d op cs (.bool true) w t h) (rwG O P n k d op cs (.bool false) w t h):=⟨bjN⟩
instance{n:Nat}{k:List Ak}{ops:List Oper}{d:Option Nat}{op:Op}{cs:List CO}{b w:Bool}{t:List AV}{h:Aa}{log:Log}:Spl (rlG O P n k ops d op cs (.bool b) w t h log) b (rlG O P n k ops d op cs (.bool true) w t h log) (rlG O P n k ops d op cs (.bool false) w t h log):=⟨bi5⟩
theorem An{C:R→Prop}{r x y:R}{b:Bool}(h1:b=true→C x)(h2:b=false→C y)(s:Spl r b x y:=by infer_instance):C r:=s.sp h1 h2
class Drw(i:Nat)(r:R)(c:outParam Bool)(r':outParam R):Prop where
 dr:∀{C:R→Prop},¬C none→c=true→C r'→C r
instance{b:Bool}{k:R}:Drw 0 (Fg b k) b k:=⟨fun _=>bcS⟩
instance{n id:Nat}{ops:Array Oper}{k:List Ak}{t:List AV}{h:Aa}:Drw 1 (Cd O P (n+1) (.region id ops true) k ⟨t,h⟩) (Ls ops.toList&&aTT ops.toList) (rw O P n k (ops.toList.map (Gs ops.toList)) t h):=⟨fun h=>bjR h⟩
instance{n id:Nat}{ops:Array Oper}{k:List Ak}{t:List AV}{h:Aa}:Drw 2 (Cd O P (n+1) (.region id ops true) k ⟨t,h⟩) (Ls ops.toList&&bnV ops.toList) (rq O P n k (ops.toList.map (Gs ops.toList)) t h):=⟨fun h=>blJ h⟩
instance{n id:Nat}{ops:Array Oper}{k:List Ak}{t:List AV}{h:Aa}:Drw 3 (Cd O P (n+1) (.region id ops true) k ⟨t,h⟩) (Ls ops.toList) (rl O P n k ops.toList (ops.toList.map (Gs ops.toList)) t h []):=⟨fun h=>bj2 h⟩
structure Dw(r r':R):Prop where
 dr:∀{C:R→Prop},¬C none→C r'→C r
theorem dg{r r':R}{c:Bool}[d:Drw 0 r c r'](h:c=true:=by kernel_rfl):Dw r r':=⟨fun n k=>d.dr n h k⟩
theorem dw(i:Nat){r r':R}{c:Bool}[d:Drw i r c r'](h:c=true:=by decide+kernel):Dw r r':=⟨fun n k=>d.dr n h k⟩
theorem fd{C:R→Prop}{r r':R}[n:NoN C](k:C r')(e:Dw r r':=by first|exact dg|exact dw 1|exact dw 2|exact dw 3):C r:=e.dr n.no k
theorem fdl{C:R→Prop}{r r':R}[n:NoN C](k:C r')(e:Dw r r':=by first|exact dg|exact dw 1|exact dw 3):C r:=e.dr n.no k
theorem fdq{C:R→Prop}{r r':R}[n:NoN C](k:C r')(e:Dw r r':=by first|exact dw 1|exact dw 2|exact dw 3):C r:=e.dr n.no k
end
section
variable {P:Program} {O:Dx}
def Un(O:Dx)(P:Program)(n:Nat)(k:List Ak)(c:Code)(C:R→Prop):R→Prop
 |some (.normal,s)=>C (lpK O P n k (O.loop c s))
 |some (e,s)=>C (Bw (Cd O P n) k e s)
 |none=>False
instance{n:Nat}{k:List Ak}{c:Code}{C:R→Prop}:NoN (Un O P n k c C):=⟨fun h=>h⟩
end
theorem a4X:IntKind.i64.wrap 1=1:=abL rfl rfl
def EE:=PLift.up (abK EVZ.down (abK @a4X (abK @Gs.eq_1 (abK @Ae.eq_1 (abK @Ae.eq_2 (abK @Ae.eq_4 (abK @Bm.eq_1 (abK @Bm.eq_2 (abK @aIV.eq_3 (abK @atC.eq_1 (abK @atC.eq_2 (abK @atC.eq_4 (abK @atC.eq_5 (abK @atC.eq_6 (abK @atC.eq_8 (abK @Bi.eq_1 (abK @Bi.eq_2 (abK @Le.eq_1 (abK @Le.eq_2 (abK @Le.eq_3 (abK @It.eq_1 (abK @Cf.eq_1 (abK @bsK.eq_1 (abK @Oj.eq_1 (abK @Oj.eq_2 (abK @decide_true @decide_false))))))))))))))))))))))))))
def EF:=PLift.up (abK EE.down EE.down)
def EG:=PLift.up (abK EF.down EVs.down)
end
noncomputable section
open Go.RowKit
def On(m:List Nat)(F:Nat→Option Nat):Prop:=∀i b,m[i]?=some b→F i=some b
theorem On.mono{m m':List Nat}{F:Nat→Option Nat}(h:On m' F)(hp:m <+:m'):On m F:=fun _ _ hi=>h _ _ (Lj hp hi)
structure Gd(m m' R:List Nat):Prop where
 pre:m <+:m'
 nd:m.Nodup→m'.Nodup
 sub:∀b∈m',b∈m∨b∈R
theorem Gd.refl(m R:List Nat):Gd m m R:=⟨aRX _,id,fun _ h=>.inl h⟩
theorem Gd.trans{m m1 m2 R1 R2 R:List Nat}(h1:Gd m m1 R1)(h2:Gd m1 m2 R2)(k1:∀b∈R1,b∈R)(k2:∀b∈R2,b∈R):Gd m m2 R:=
 ⟨h1.pre.trans h2.pre,fun h=>h2.nd (h1.nd h),fun b hb=>(h2.sub b hb).elim (fun h=>(h1.sub b h).imp id (k1 b)) (fun h=>.inr (k2 b h))⟩
theorem aZ4(m:List Nat)(b:Nat){R:List Nat}(hb:b∈R):Gd m (place m b).2 R:=by
 refine⟨(Ik m b).2.1,(Ik m b).2.2,fun x hx=>?_⟩
 unfold place at hx
 split at hx
 ·exact .inl hx
 ·rcases ai5.1 hx with h|h
  ·exact .inl h
  ·simp at h;subst h;exact .inr hb
def Sp(e:Nat)(x:AV)(R:List Nat):Prop:=∀m,∃x' m',Bl e m x=some (x',m')∧Gd m m' R∧∀F,On m' F→Fo e F x'=some x
def SpL(e:Nat)(l:List AV)(R:List Nat):Prop:=∀m,∃l' m',Bl.refL (Bl e) m l=some (l',m')∧Gd m m' R∧∀F,On m' F→Ap (Fo e F) l'=some l
def SpR(l:List (List AV))(R:List Nat):Prop:=∀m,∃l' m',Hl m l=some (l',m')∧Gd m m' R∧∀F,On m' F→Ap (Ap (Fo 8 F)) l'=some l
theorem spL{f:AV→Option (AV × List Nat)}{e:Nat}:∀{l:List AV} {p:List AV × List Nat},rdL f l=some p→(∀x∈l,∀q,f x=some q→Sp e x q.2)→SpL e l p.2
 | [],p,h,_=>fun m=>⟨[],m,rfl,Gd.refl _ _,fun _ _=>rfl⟩
 |a::l,p,h,hf=>fun m=>by
  simp only[rdL,adC,abX]at h
  obtain⟨q,hq,r,hr,rfl⟩:=h
  obtain⟨x',m1,e1,g1,k1⟩:=hf a (agI ..) q hq m
  obtain⟨l',m2,e2,g2,k2⟩:=spL hr (fun x hx=>hf x (af5 _ hx)) m1
  refine⟨x'::l',m2,by simp[Bl.refL,e1,e2],g1.trans g2 (fun _ h=>aoW _ h) (fun _ h=>awN _ h),fun F hF=>?_⟩
  simp[Ap,k1 F (hF.mono g2.pre),k2 F hF]
theorem spR{f:AV→Option (AV × List Nat)}:∀{l:List (List AV)} {p:List (List AV) × List Nat},Bh f l=some p→(∀r∈l,∀x∈r,∀q,f x=some q→Sp 8 x q.2)→SpR l p.2
 | [],p,h,_=>fun m=>⟨[],m,rfl,Gd.refl _ _,fun _ _=>rfl⟩
 |a::l,p,h,hf=>fun m=>by
  simp only[Bh,adC,abX]at h
  obtain⟨q,hq,r,hr,rfl⟩:=h
  obtain⟨x',m1,e1,g1,k1⟩:=spL hq (hf a (agI ..)) m
  obtain⟨l',m2,e2,g2,k2⟩:=spR hr (fun x hx=>hf x (af5 _ hx)) m1
  refine⟨x'::l',m2,by simp[Hl,e1,e2],g1.trans g2 (fun _ h=>aoW _ h) (fun _ h=>awN _ h),fun F hF=>?_⟩
  simp[Ap,k1 F (hF.mono g2.pre),k2 F hF]
theorem sp{g:HF}:∀{d e:Nat} {v:AV} {p:AV × List Nat},d≤e→rd d g v=some p→Sp e v p.2
 |0,e,v,p,_,h=>by simp[rd]at h
 |d+1,0,v,p,he,h=>by omega
 |d+1,e+1,v,p,he,h=>by
  have IH:∀x q,rd d g x=some q→Sp e x q.2:=fun x q hx=>sp (by omega) hx
  intro m
  cases v with
  |slr st b r len=>
   simp only[rd,adC]at h
   obtain⟨z,_,h⟩:=h
   split at h
   ·have hb:b∈p.2:=by
     cases hfl:z.2.1 with
     |true=>rw[hfl]at h;simp at h;rw[←h];simp
     |false=>rw[hfl]at h;simp only[cond_false,abX]at h;obtain⟨q,_,rfl⟩:=h;simp
    exact⟨_,_,rfl,aZ4 m b hb,fun F hF=>by simp[Fo,hF _ _ (Ik m b).1]⟩
   ·cases h
  |agg cs=>
   simp only[rd,abX]at h
   obtain⟨q,hq,rfl⟩:=h
   obtain⟨l',m1,e1,g1,k1⟩:=spL hq (fun x _=>IH x) m
   exact⟨.agg l',m1,by simp[Bl,e1],g1,fun F hF=>by simp[Fo,k1 F hF]⟩
  |iface t x=>
   simp only[rd,abX]at h
   obtain⟨q,hq,rfl⟩:=h
   obtain⟨l',m1,e1,g1,k1⟩:=IH x q hq m
   exact⟨.iface t l',m1,by simp[Bl,e1],g1,fun F hF=>by simp[Fo,k1 F hF]⟩
  |func fn a b=>
   cases a with
   |cons=>simp[rd]at h
   |nil=>
    cases b with
    |cons=>simp[rd]at h
    |nil=>exact⟨_,m,rfl,Gd.refl _ _,fun _ _=>rfl⟩
  |ptr b r o=>simp[rd]at h
  |tup cs=>simp[rd]at h
  |yl b=>simp[rd]at h
  |mapr b=>simp[rd]at h
  |itr b=>simp[rd]at h
  |imm=>simp[rd]at h
  |iptr=>simp[rd]at h
  |_=>exact⟨_,m,rfl,Gd.refl _ _,fun _ _=>rfl⟩
def Cl(g:HF)(S:List Nat):Prop:=∀b∈S,∃z,(g b).bind Ax=some z∧(z.2.1=false→∃d q,d≤8∧Bh (rd d g) z.2.2=some q∧∀x∈q.2,x∈S)
theorem Cl.nil(g:HF):Cl g []:=fun _ h=>by cases h
theorem Cl.app{g:HF}{S T:List Nat}(h1:Cl g S)(h2:Cl g T):Cl g (S++T):=fun b hb=>by
 rcases ai5.1 hb with h|h
 ·obtain⟨z,k1,k2⟩:=h1 b h
  exact⟨z,k1,fun e=>by obtain⟨d,q,a1,a2,a3⟩:=k2 e;exact⟨d,q,a1,a2,fun x hx=>aoW _ (a3 x hx)⟩⟩
 ·obtain⟨z,k1,k2⟩:=h2 b h
  exact⟨z,k1,fun e=>by obtain⟨d,q,a1,a2,a3⟩:=k2 e;exact⟨d,q,a1,a2,fun x hx=>awN _ (a3 x hx)⟩⟩
theorem clL{g:HF}{f:AV→Option (AV × List Nat)}:∀{l:List AV} {p:List AV × List Nat},rdL f l=some p→(∀x∈l,∀q,f x=some q→Cl g q.2)→Cl g p.2
 | [],p,h,_=>by simp[rdL]at h;subst h;exact Cl.nil g
 |a::l,p,h,hf=>by
  simp only[rdL,adC,abX]at h
  obtain⟨q,hq,r,hr,rfl⟩:=h
  exact(hf a (agI ..) q hq).app (clL hr fun x hx=>hf x (af5 _ hx))
theorem clR{g:HF}{f:AV→Option (AV × List Nat)}:∀{l:List (List AV)} {p:List (List AV) × List Nat},Bh f l=some p→(∀r∈l,∀x∈r,∀q,f x=some q→Cl g q.2)→Cl g p.2
 | [],p,h,_=>by simp[Bh]at h;subst h;exact Cl.nil g
 |a::l,p,h,hf=>by
  simp only[Bh,adC,abX]at h
  obtain⟨q,hq,r,hr,rfl⟩:=h
  exact(clL hq (hf a (agI ..))).app (clR hr fun x hx=>hf x (af5 _ hx))
theorem aT9{g:HF}:∀{d:Nat} {v:AV} {p:AV × List Nat},d≤9→rd d g v=some p→Cl g p.2
 |0,v,p,_,h=>by simp[rd]at h
 |d+1,v,p,hd,h=>by
  have IH:∀x q,rd d g x=some q→Cl g q.2:=fun x q hx=>aT9 (by omega) hx
  cases v with
  |slr st b r len=>
   simp only[rd,adC]at h
   obtain⟨z,hz,h⟩:=h
   have hz':(g b).bind Ax=some z:=adC.2 hz
   split at h
   ·cases hfl:z.2.1 with
    |true=>
     rw[hfl]at h;simp at h;rw[←h]
     intro b' hb'
     simp at hb';subst hb'
     exact⟨z,hz',fun e=>by rw[hfl]at e;cases e⟩
    |false=>
     rw[hfl]at h;simp only[cond_false,abX]at h
     obtain⟨q,hq,rfl⟩:=h
     intro b' hb'
     rcases aoS.1 hb' with rfl|hb'
     ·exact⟨z,hz',fun _=>⟨d,q,by omega,hq,fun x hx=>af5 _ hx⟩⟩
     ·obtain⟨z',k1,k2⟩:=clR hq (fun r _ x _=>IH x) b' hb'
      exact⟨z',k1,fun e=>by obtain⟨d',q',a1,a2,a3⟩:=k2 e;exact⟨d',q',a1,a2,fun x hx=>af5 _ (a3 x hx)⟩⟩
   ·cases h
  |agg cs=>
   simp only[rd,abX]at h
   obtain⟨q,hq,rfl⟩:=h
   exact clL hq fun x _=>IH x
  |iface t x=>
   simp only[rd,abX]at h
   obtain⟨q,hq,rfl⟩:=h
   exact IH x q hq
  |func fn a b=>
   cases a<;>cases b<;>first|(simp[rd]at h;subst h;exact Cl.nil g)|(simp[rd]at h)
  |_=>first|(simp[rd]at h;subst h;exact Cl.nil g)|(simp[rd]at h)
theorem aBX{F:Nat→Option Nat}(f:Nat→Nat):∀{e:Nat} {x' x:AV},Fo e F x'=some x→∃y,Bo e f x'=some y
 |0,x',x,h=>by simp[Fo]at h
 |e+1,x',x,h=>by
  have L:∀{l l1:List AV},Ap (Fo e F) l=some l1→∃y,Ap (Bo e f) l=some y:=fun {l}=>by
   induction l with
   |nil=>exact fun _=>⟨[],rfl⟩
   |cons a l ih=>
    intro l1 h
    simp only[Ap,adC,abX]at h
    obtain⟨b,hb,c,hc,_⟩:=h
    obtain⟨y,hy⟩:=aBX f hb
    obtain⟨ys,hys⟩:=ih hc
    exact⟨y::ys,by simp[Ap,hy,hys]⟩
  cases x' with
  |agg cs=>simp only[Fo,abX]at h;obtain⟨_,h,_⟩:=h;obtain⟨y,hy⟩:=L h;exact⟨.agg y,by simp[Bo,hy]⟩
  |tup cs=>simp only[Fo,abX]at h;obtain⟨_,h,_⟩:=h;obtain⟨y,hy⟩:=L h;exact⟨.tup y,by simp[Bo,hy]⟩
  |iface t x=>simp only[Fo,abX]at h;obtain⟨_,h,_⟩:=h;obtain⟨y,hy⟩:=aBX f h;exact⟨.iface t y,by simp[Bo,hy]⟩
  |func fn a b=>
   simp only[Fo,adC,abX]at h
   obtain⟨_,h1,_,h2,_⟩:=h
   obtain⟨y,hy⟩:=L h1
   obtain⟨y2,hy2⟩:=L h2
   exact⟨.func fn y y2,by simp[Bo,hy,hy2]⟩
  |_=>exact⟨_,rfl⟩
theorem aKZ{α β γ:Type}{f:α→Option β}{f':α→Option γ}(H:∀a b,f a=some b→∃c,f' a=some c):∀{l:List α} {r:List β},Ap f l=some r→∃s,Ap f' l=some s
 | [],_,_=>⟨[],rfl⟩
 |a::l,r,h=>by
  simp only[Ap,adC,abX]at h
  obtain⟨b,hb,c,hc,_⟩:=h
  obtain⟨y,hy⟩:=H a b hb
  obtain⟨ys,hys⟩:=aKZ H hc
  exact⟨y::ys,by simp[Ap,hy,hys]⟩
def Stn(F:Nat→Option Nat)(c':CB)(z:Nat × Bool × List (List AV)):Prop:=
 ∃rows',Ax c'=some (z.1,z.2.1,rows')∧(z.2.1=true→rows'=z.2.2)∧(z.2.1=false→Ap (Ap (Fo 8 F)) rows'=some z.2.2)
def Rnm(c:CB):Prop:=∀f,∃c',Fb f c=some c'
theorem spB{g:HF}{S:List Nat}(H:Cl g S){b:Nat}(hb:b∈S)(m:List Nat):∃c c' m' z,g b=some c∧Ax c=some z∧aoR m c=some (c',m')∧Gd m m' S∧(∀F,On m' F→Stn F c' z)∧Rnm c':=by
 obtain⟨z,hz,hc⟩:=H b hb
 obtain⟨c,k1,k2⟩:=adC.1 hz
 have R:∀rows,z.2.1=false→rows=z.2.2→∃l' m',Hl m rows=some (l',m')∧Gd m m' S∧∀F,On m' F→Ap (Ap (Fo 8 F)) l'=some rows:=fun rows e er=>by
  obtain⟨d,q,a1,a2,a3⟩:=hc e
  obtain⟨l',m',e1,g1,e2⟩:=spR (er▸a2) (fun r _ x _ q hx=>sp a1 hx) m
  exact⟨l',m',e1,⟨g1.pre,g1.nd,fun x hx=>(g1.sub x hx).imp id (a3 x)⟩,e2⟩
 have R2:∀l' rows m',(∀F,On m' F→Ap (Ap (Fo 8 F)) l'=some rows)→∀f,∃y,Ap (Ap (Bo 8 f)) l'=some y:=fun l' rows m' h f=>
  aKZ (fun a b hab=>aKZ (fun a b hab=>aBX f hab) hab) (h (fun i=>m'[i]?) (fun _ _ h=>h))
 cases c with
 |live st fl w rows=>
  simp[Ax]at k2;subst k2
  cases fl with
  |true=>exact⟨_,_,m,_,k1,rfl,rfl,Gd.refl _ _,fun F _=>⟨rows,rfl,fun _=>rfl,fun e=>by cases e⟩,fun f=>⟨_,rfl⟩⟩
  |false=>
   obtain⟨l',m',e1,g1,e2⟩:=R rows rfl rfl
   refine⟨_,.live st false w l',m',_,k1,rfl,by simp[aoR,e1],g1,fun F hF=>⟨l',rfl,fun e=>(by cases e),fun _=>e2 F hF⟩,fun f=>?_⟩
   obtain⟨y,hy⟩:=R2 l' rows m' e2 f
   exact⟨.live st false w y,by simp[Fb,hy]⟩
 |frz st fl rows=>
  simp[Ax]at k2;subst k2
  cases fl with
  |true=>exact⟨_,_,m,_,k1,rfl,rfl,Gd.refl _ _,fun F _=>⟨rows,rfl,fun _=>rfl,fun e=>by cases e⟩,fun f=>⟨_,rfl⟩⟩
  |false=>
   obtain⟨l',m',e1,g1,e2⟩:=R rows rfl rfl
   refine⟨_,.frz st false l',m',_,k1,rfl,by simp[aoR,e1],g1,fun F hF=>⟨l',rfl,fun e=>(by cases e),fun _=>e2 F hF⟩,fun f=>?_⟩
   obtain⟨y,hy⟩:=R2 l' rows m' e2 f
   exact⟨.frz st false y,by simp[Fb,hy]⟩
 |dead=>simp[Ax]at k2
 |lp=>simp[Ax]at k2
theorem a36{S:List Nat}:∀{m:List Nat},m.Nodup→(∀b∈m,b∈S)→m.length≤S.length:=by
 induction S with
 |nil=>intro m _ h;cases m with
  |nil=>simp
  |cons a m=>exact absurd (h a (agI ..)) (by simp)
 |cons s S ih=>
  intro m hn h
  have h2:=ih (m:=m.erase s) (hn.erase s) (fun b hb=>by
   have hb':=List.mem_of_mem_erase hb
   rcases aoS.1 (h b hb')with rfl|h'
   ·exact absurd hb (hn.not_mem_erase)
   ·exact h')
  have h3:m.length≤(m.erase s).length+1:=by
   by_cases hs:s∈m
   ·rw[List.length_erase_of_mem hs];omega
   ·rw[List.erase_of_not_mem hs];omega
  simp;omega
theorem spC{g:HF}{S:List Nat}(H:Cl g S):∀(n i:Nat) (m:List Nat),m.Nodup→(∀b∈m,b∈S)→S.length<n+i→i≤m.length→
 ∃cs m',Hz n g i m=some (cs,m')∧m <+:m'∧m'.Nodup∧(∀b∈m',b∈S)∧i+cs.length=m'.length∧(∀c∈cs,Rnm c)∧
  ∀F,On m' F→∀j c',cs[j]?=some c'→∃b z,m'[i+j]?=some b∧(g b).bind Ax=some z∧Stn F c' z
 |0,i,m,hn,hs,hl,hi=>by have:=a36 hn hs;omega
 |n+1,i,m,hn,hs,hl,hi=>by
  unfold Hz
  cases hm:m[i]? with
  |none=>
   have:m.length≤i:=aTG.1 hm
   exact⟨[],m,rfl,aRX _,hn,hs,by simp;omega,(fun c hc=>by cases hc),fun F _ j c' hj=>by simp at hj⟩
  |some b=>
   have hlt:=(azY.1 hm).1
   obtain⟨c,c',m1,z,k1,k2,k3,g1,k4,k5⟩:=spB H (hs b (aFV hm)) m
   obtain⟨cs,m',e1,p1,p2,p3,p4,p5,p6⟩:=spC H n (i+1) m1 (g1.nd hn) (fun b hb=>(g1.sub b hb).elim (hs b) id) (by omega) (by have:=g1.pre.length_le;omega)
   refine⟨c'::cs,m',by simp[k1,k3,e1],g1.pre.trans p1,p2,p3,by simp;omega,fun x hx=>?_,fun F hF j x hj=>?_⟩
   ·rcases aoS.1 hx with rfl|hx
    ·exact k5
    ·exact p5 x hx
   ·cases j with
    |zero=>
     simp at hj;subst hj
     exact⟨b,z,Lj (g1.pre.trans p1) (by simpa using hm),by rw[k1];exact k2,k4 F (hF.mono p1)⟩
    |succ j=>
     simp at hj
     obtain⟨b',z',a1,a2,a3⟩:=p6 F hF j x hj
     exact⟨b',z',by rw[←a1];congr 1;omega,a2,a3⟩
theorem be1{h:Aa}{v:AV}{R:List Nat}(hs:Sp 8 v R)(hc:Cl (hf h) R)(hR:R.length<5000):
 ∃v' cs F,Nz 0 v h=some (v',cs)∧bh0 F (hf cs) (hf h)∧Fo 8 F v'=some v∧∀c∈cs,Rnm c:=by
 obtain⟨v',m,e1,g1,k1⟩:=hs []
 have hm:∀b∈m,b∈R:=fun b hb=>(g1.sub b hb).elim (fun h=>by cases h) id
 obtain⟨cs,m',e2,p1,p2,p3,p4,p5,p6⟩:=spC hc 5000 0 m (g1.nd List.nodup_nil) hm (by omega) (aA3 _)
 refine⟨v',cs,fun i=>m'[i]?,by simp[Nz,Iq,Bl.refL,e1,e2,aQC],fun i b hi z hz=>?_,k1 _ (fun _ _ h=>Lj p1 h),p5⟩
 have hlt:=(azY.1 hi).1
 obtain⟨b',z',a1,a2,rows',a3,a4,a5⟩:=p6 (fun i=>m'[i]?) (fun _ _ h=>h) i _ (aBV (by omega))
 rw[aJN]at a1
 have hbb:b=b':=by have hi':m'[i]?=some b:=hi;rw[hi']at a1;cases a1;rfl
 subst hbb
 rw[hz]at a2;cases a2
 exact⟨rows',by show(cs[i]?).bind Ax=_;rw[aBV (by omega)];exact a3,a4,a5⟩
end
end Go.Ev
namespace Go.Ev
open Go.RowKit
theorem aiC{f:Nat→Nat}{F:Nat→Option Nat}(hF:∀b,F (f b)=some b):∀{e:Nat} {x x1:AV},Bo e f x=some x1→Fo e F x1=some x
 |0,x,x1,h=>by simp[Bo]at h
 |e+1,x,x1,h=>by
  have L:∀{l l1:List AV},Ap (Bo e f) l=some l1→Ap (Fo e F) l1=some l:=fun {l}=>by
   induction l with
   |nil=>intro l1 h;simp[Ap]at h;subst h;rfl
   |cons a l ih=>
    intro l1 h
    simp only[Ap,adC,abX]at h
    obtain⟨b,hb,c,hc,rfl⟩:=h
    simp[Ap,aiC hF hb,ih hc]
  cases x with
  |agg cs=>simp only[Bo,abX]at h;obtain⟨_,h,rfl⟩:=h;simp[Fo,L h]
  |tup cs=>simp only[Bo,abX]at h;obtain⟨_,h,rfl⟩:=h;simp[Fo,L h]
  |iface t x=>simp only[Bo,abX]at h;obtain⟨_,h,rfl⟩:=h;simp[Fo,aiC hF h]
  |func fn a b=>
   simp only[Bo,adC,abX]at h
   obtain⟨_,h1,_,h2,rfl⟩:=h
   simp[Fo,L h1,L h2]
  |_=>simp only[Bo,aoT.injEq]at h;subst h;simp[Fo,hF]
theorem aj8{α β:Type}{f:α→Option β}{f':β→Option α}(H:∀a b,f a=some b→f' b=some a):∀{l:List α} {r:List β},Ap f l=some r→Ap f' r=some l
 | [],r,h=>by simp[Ap]at h;subst h;rfl
 |a::l,r,h=>by
  simp only[Ap,adC,abX]at h
  obtain⟨b,hb,c,hc,rfl⟩:=h
  simp[Ap,H a b hb,aj8 H hc]
theorem aP7{f:Nat→Nat}:∀{cs:List CB} (_:∀c∈cs,Rnm c) (base:Nat),∃ns cs1,Hh f base cs=some ns∧(∀G,Bi G ns=G++cs1)∧Ap (Fb f) cs=some cs1
 | [],_,base=>⟨[],[],rfl,fun G=>by simp[Bi],rfl⟩
 |c::cs,h,base=>by
  obtain⟨c1,e1⟩:=h c (agI ..) f
  obtain⟨ns,cs1,e2,e3,e4⟩:=aP7 (f:=f) (cs:=cs) (fun c hc=>h c (af5 _ hc)) (base+1)
  exact⟨.new base c1::ns,c1::cs1,by simp[Hh,e1,e2],fun G=>by simp[Bi,Le,e3],by simp[Ap,e1,e4]⟩
theorem a0Z{f:Nat→Nat}{F:Nat→Option Nat}(hF:∀b,F (f b)=some b){c c1:CB}(h:Fb f c=some c1){z:Nat × Bool × List (List AV)}(hz:Ax c=some z):Stn F c1 z:=by
 cases c with
 |live st fl w rows=>
  simp[Ax]at hz;subst hz
  cases fl with
  |true=>simp[Fb]at h;subst h;exact⟨rows,rfl,fun _=>rfl,fun e=>by cases e⟩
  |false=>
   simp only[Fb,abX]at h
   obtain⟨r,hr,rfl⟩:=h
   exact⟨r,rfl,fun e=>(by cases e),fun _=>aj8 (fun a b hab=>aj8 (fun a b hab=>aiC hF hab) hab) hr⟩
 |frz st fl rows=>
  simp[Ax]at hz;subst hz
  cases fl with
  |true=>simp[Fb]at h;subst h;exact⟨rows,rfl,fun _=>rfl,fun e=>by cases e⟩
  |false=>
   simp only[Fb,abX]at h
   obtain⟨r,hr,rfl⟩:=h
   exact⟨r,rfl,fun e=>(by cases e),fun _=>aj8 (fun a b hab=>aj8 (fun a b hab=>aiC hF hab) hab) hr⟩
 |dead=>simp[Ax]at hz
 |lp=>simp[Ax]at hz
structure Kp(lent:List Nat)(H H1:Aa):Prop where
 len:H.length≤H1.length
 rows:∀b,b<H.length→(hf H1 b).bind Ax=(hf H b).bind Ax
 same:∀b,b<H.length→b∉lent→H1[b]?=H[b]?
theorem aLG{H:Aa}:∀(l:List Nat) (G:Aa),G.length=H.length→(∀b,(hf G b).bind Ax=(hf H b).bind Ax)→
 (Bi G (Dm (hf H) l)).length=H.length∧(∀b,(hf (Bi G (Dm (hf H) l)) b).bind Ax=(hf H b).bind Ax)∧∀b,b∉l→(Bi G (Dm (hf H) l))[b]?=G[b]?
 | [],G,h1,h2=>⟨h1,h2,fun _ _=>rfl⟩
 |a::l,G,h1,h2=>by
  unfold Dm
  have other:∀b,b∉a::l→b∉l:=fun b hb h=>hb (af5 _ h)
  split
  ·rename_i st fl w rows ha
   have hlt:a<G.length:=by rw[h1];exact(azY.1 ha).1
   obtain⟨k1,k2,k3⟩:=aLG (H:=H) l (G.set a (.frz st fl rows)) (by simp[h1]) (fun b=>by
    by_cases hb:a=b
    ·subst hb
     show((G.set a _)[a]?).bind Ax=_
     rw[aVO hlt,ha];rfl
    ·show((G.set a _)[b]?).bind Ax=_
     rw[aHX hb];exact h2 b)
   refine⟨k1,k2,fun b hb=>?_⟩
   show(Bi (G.set a _) _)[b]?=_
   rw[k3 b (other b hb),aHX (fun e=>hb (by rw[←e];exact agI ..))]
  ·obtain⟨k1,k2,k3⟩:=aLG l G h1 h2
   exact⟨k1,k2,fun b hb=>k3 b (other b hb)⟩
theorem ba0{O:Dx}{H:Aa}{f:Nat}{args vs:List AV}{v:AV}{h':Aa}(hh:pkd O f args)(ha:Ap (rdV H) args=some vs)(hp:vs.all (Aw 8)=true)
 (hc:O.call (.fn f) vs []=some (.ret v,h')) (h1:∀f,∃y,Bo 8 f v=some y) (h2:∀c∈h',Rnm c):
 ∃v1 es H1 F,cl O H (some (.func (.func f) [] [])) (some args)=some (.ret v1,es)∧Bi H es=H1∧bh0 F (hf H1) (hf h')∧Fo 8 F v1=some v∧Kp (args.flatMap (Ar 12 (hf H))) H H1∧∀i b,F i=some b→H.length≤i:=by
 obtain⟨v1,e1⟩:=h1 (fun i=>H.length+i)
 obtain⟨ns,cs1,e2,e3,e4⟩:=aP7 (f:=fun i=>H.length+i) h2 H.length
 generalize hFF:(fun i=>if H.length≤i then some (i-H.length)else none:Nat→Option Nat)=F
 have hF:∀b,F (H.length+b)=some b:=fun b=>by rw[←hFF];simp
 have key:∃fz:List Ad,cl O H (some (.func (.func f) [] [])) (some args)=some (.ret v1,fz++ns)∧(fz=[]∨fz=Dm (hf H) (args.flatMap (Ar 12 (hf H)))):=by
  rw[bd0 hh,bb8 ha hp,hc]
  refine⟨_,by simp only[crR,adD,Dt.v,e1,e2,aoV,Dt.map];rfl,?_⟩
  split
  ·exact .inl rfl
  ·exact .inr rfl
 obtain⟨fz,ec,hfz⟩:=key
 have hK:(Bi H fz).length=H.length∧(∀b,(hf (Bi H fz) b).bind Ax=(hf H b).bind Ax)∧∀b,b∉args.flatMap (Ar 12 (hf H))→(Bi H fz)[b]?=H[b]?:=by
  rcases hfz with rfl|rfl
  ·exact⟨rfl,fun _=>rfl,fun _ _=>rfl⟩
  ·exact aLG _ H rfl (fun _=>rfl)
 obtain⟨k1,k2,k3⟩:=hK
 have hap:Bi H (fz++ns)=Bi H fz++cs1:=by rw[avM,e3]
 refine⟨v1,_,_,F,ec,hap,fun i b hi z hz=>?_,aiC hF e1,⟨by simp[k1],fun b hb=>?_,fun b hb hl=>?_⟩,fun i b hi=>?_⟩
 ·rw[←hFF]at hi;simp only at hi
  split at hi
  ·rename_i hle
   simp only[aoT.injEq]at hi
   obtain⟨c,hcc,hcz⟩:=adC.1 hz
   obtain⟨c1,g1,g2⟩:=Pm e4 (show h'[b]?=some c from hcc)
   obtain⟨rows',r1,r2,r3⟩:=a0Z hF g2 hcz
   refine⟨rows',?_,r2,r3⟩
   show((Bi H fz++cs1)[i]?).bind Ax=_
   rw[aLF (by omega),k1,hi,g1]
   exact r1
  ·cases hi
 ·rw[←k2 b]
  show((Bi H fz++cs1)[b]?).bind Ax=_
  rw[aDG (by omega)];rfl
 ·rw[aDG (by omega)];exact k3 b hl
 ·rw[←hFF]at hi;simp only at hi
  split at hi
  ·assumption
  ·cases hi
end Go.Ev
namespace Go.Ev
noncomputable section
open Go.RowKit
theorem fdx{C:R→Prop}{r r':R}[n:NoN C](k:C r')(e:Dw r r':=by first|exact dw 1|exact dw 3):C r:=e.dr n.no k
theorem aKS{g:HF}(f:Nat→Nat):∀{d e:Nat} {v:AV} {p:AV × List Nat},d≤e→rd d g v=some p→∃y,Bo e f v=some y
 |0,e,v,p,_,h=>by simp[rd]at h
 |d+1,0,v,p,he,h=>by omega
 |d+1,e+1,v,p,he,h=>by
  have L:∀{l:List AV} {q:List AV × List Nat},rdL (rd d g) l=some q→∃y,Ap (Bo e f) l=some y:=fun {l}=>by
   induction l with
   |nil=>exact fun _=>⟨[],rfl⟩
   |cons a l ih=>
    intro q h
    simp only[rdL,adC,abX]at h
    obtain⟨b,hb,c,hc,_⟩:=h
    obtain⟨y,hy⟩:=aKS f (show d≤e by omega) hb
    obtain⟨ys,hys⟩:=ih hc
    exact⟨y::ys,by simp[Ap,hy,hys]⟩
  cases v with
  |agg cs=>simp only[rd,abX]at h;obtain⟨_,h,_⟩:=h;obtain⟨y,hy⟩:=L h;exact⟨.agg y,by simp[Bo,hy]⟩
  |iface t x=>simp only[rd,abX]at h;obtain⟨_,h,_⟩:=h;obtain⟨y,hy⟩:=aKS f (show d≤e by omega) h;exact⟨.iface t y,by simp[Bo,hy]⟩
  |func fn a b=>
   cases a<;>cases b<;>first|exact⟨_,rfl⟩|(simp[rd]at h)
  |tup cs=>simp[rd]at h
  |_=>exact⟨_,rfl⟩
theorem aAW{g:HF}:∀{d e:Nat} {v:AV} {p:AV × List Nat},d≤e→rd d g v=some p→Fa e g v=some p.1
 |0,e,v,p,_,h=>by simp[rd]at h
 |d+1,0,v,p,he,h=>by omega
 |d+1,e+1,v,p,he,h=>by
  cases v with
  |slr st b r len=>exact aEO (aT8 he h)
  |agg cs=>
   simp only[rd,abX]at h
   obtain⟨q,hq,rfl⟩:=h
   simp[Fa,aBC (f':=Fa e g) hq (fun x _ q' hx=>aAW (show d≤e by omega) hx)]
  |iface t x=>
   simp only[rd,abX]at h
   obtain⟨q,hq,rfl⟩:=h
   simp[Fa,aAW (show d≤e by omega) hq]
  |func fn a b=>cases a<;>cases b<;>first|(simp[rd]at h;subst h;rfl)|(simp[rd]at h)
  |_=>first|(simp[rd]at h;subst h;rfl)|(simp[rd]at h)
theorem a1K{f:AV→Option (AV × List Nat)}{f':AV→List Nat}:∀{l:List AV} {p:List AV × List Nat},rdL f l=some p→(∀x∈l,∀q,f x=some q→∀b∈f' x,b∈q.2)→∀b∈l.flatMap f',b∈p.2
 | [],p,h,_=>fun b hb=>by simp at hb
 |a::l,p,h,hf=>fun b hb=>by
  simp only[rdL,adC,abX]at h
  obtain⟨q,hq,r,hr,rfl⟩:=h
  rw[aLA]at hb
  rcases ai5.1 hb with hb|hb
  ·exact aoW _ (hf a (agI ..) q hq b hb)
  ·exact awN _ (a1K hr (fun x hx=>hf x (af5 _ hx)) b hb)
theorem bbU{f:AV→Option (AV × List Nat)}{f':AV→List Nat}:∀{l:List (List AV)} {p:List (List AV) × List Nat},Bh f l=some p→(∀r∈l,∀x∈r,∀q,f x=some q→∀b∈f' x,b∈q.2)→∀b∈l.flatMap (fun cs=>cs.flatMap f'),b∈p.2
 | [],p,h,_=>fun b hb=>by simp at hb
 |a::l,p,h,hf=>fun b hb=>by
  simp only[Bh,adC,abX]at h
  obtain⟨q,hq,r,hr,rfl⟩:=h
  rw[aLA]at hb
  rcases ai5.1 hb with hb|hb
  ·exact aoW _ (a1K hq (hf a (agI ..)) b hb)
  ·exact awN _ (bbU hr (fun x hx=>hf x (af5 _ hx)) b hb)
theorem aEK{g:HF}:∀{e d:Nat} {v:AV} {p:AV × List Nat},rd d g v=some p→∀b∈Ar e g v,b∈p.2
 |0,d,v,p,_,b,hb=>by simp[Ar]at hb
 |e+1,0,v,p,h,b,hb=>by simp[rd]at h
 |e+1,d+1,v,p,h,b,hb=>by
  cases v with
  |slr st c r len=>
   simp only[rd,adC]at h
   obtain⟨z,hz,h⟩:=h
   split at h
   ·rename_i hq
    obtain⟨rfl,rfl,rfl⟩:=hq
    simp only[Ar,aBS (adC.2 hz)]at hb
    cases hfl:z.2.1 with
    |true=>rw[hfl]at h hb;simp at h hb;rw[←h];simp[hb]
    |false=>
     rw[hfl]at h hb
     simp only[cond_false,abX]at h
     obtain⟨q,hq',rfl⟩:=h
     rcases aoS.1 hb with rfl|hb
     ·exact agI ..
     ·exact af5 _ (bbU hq' (fun r _ x _ q' hx b hb=>aEK hx b hb) b (by simpa using hb))
   ·cases h
  |agg cs=>
   simp only[rd,abX]at h
   obtain⟨q,hq,rfl⟩:=h
   exact a1K hq (fun x _ q' hx b hb=>aEK hx b hb) b hb
  |iface t x=>
   simp only[rd,abX]at h
   obtain⟨q,hq,rfl⟩:=h
   exact aEK hq b hb
  |_=>simp[Ar]at hb
def RdV(O:Dx)(f:Nat)(vs:List AV)(x:AV)(k:Nat):Prop:=
 ∃v h' R,O.call (.fn f) vs []=some (.ret v,h')∧rd 6 (hf h') v=some (x,R)∧R.length≤k∧∀c∈h',Rnm c
theorem RdV.cl{O:Dx}{f:Nat}{vs:List AV}{x:AV}{k:Nat}(K:RdV O f vs x k){H:Aa}{args:List AV}(hh:pkd O f args)(ha:Ap (rdV H) args=some vs)(hp:vs.all (Aw 8)=true):
 ∃v es H1 R,cl O H (some (.func (.func f) [] [])) (some args)=some (.ret v,es)∧Bi H es=H1∧Kp (args.flatMap (Ar 12 (hf H))) H H1∧rd 6 (hf H1) v=some (x,R)∧R.length≤k∧∀b∈R,H.length≤b:=by
 obtain⟨v,h',R,hc,hr,hk,hn⟩:=K
 obtain⟨v1,es,H1,F,e1,e2,e3,e4,e5,e6⟩:=ba0 hh ha hp hc (fun f=>aKS f (show 6≤8 by omega) hr) hn
 obtain⟨R',k1,k2,k3⟩:=aRL e3 e4 hr
 exact⟨v1,es,H1,R',e1,e2,e5,k1,by rw[k2];exact hk,fun b hb=>by obtain⟨c,hc⟩:=k3 b hb;exact e6 b c hc⟩
theorem aY8{h:Aa}{v x:AV}{R:List Nat}{Q:Dt→Aa→Prop}(h1:rd 6 (hf h) v=some (x,R))(hR:R.length<5000)
 (q:∀v' h' R',rd 6 (hf h') v'=some (x,R')→R'.length=R.length→(∀c∈h',Rnm c)→Q (.ret v') h'):Rt 0 (some [v]) h Q:=by
 obtain⟨v',cs,F,e1,e2,e3,e4⟩:=be1 (sp (e:=8) (by omega) h1) (aT9 (by omega) h1) hR
 obtain⟨R',k1,k2,_⟩:=aRL e2 e3 h1
 exact⟨_,_,by simp[aYR,Oj,e1],q _ _ _ k1 k2 e4⟩
theorem Ed{C:R→Prop}[n:NoN C]{r:R}(h:∀K:R→Prop,NoN K→(∀x,C x→K x)→K r):C r:=h C n fun _ h=>h
theorem ai3{v:AV}{H:Aa}{b:Nat}(l:List CB)(hb:b<H.length)(hv:∀a c r m,v=.slr a c r m→c≠b):(kl 0 v H++l)[b]?=H[b]?:=by
 rw[aDG (by rw[awA];exact hb)]
 unfold kl
 split
 ·rename_i a c r m
  rw[aHX];simpa using hv a c r m rfl
 ·rfl
theorem aAD{H:Aa}{b:Nat}{z:Nat × Bool × List (List AV)}(h:(hf H b).bind Ax=some z):b<H.length:=by
 obtain⟨c,hc,_⟩:=adC.1 h
 exact(azY.1 hc).1
theorem av6{g g':HF}{d:Nat}{l:List AV}{p:List AV × List Nat}(h:rdL (rd d g) l=some p)(ha:Agr p.2 g g'):rdL (rd d g') l=some p:=
 auQ h fun _ _ _ hq hs=>aGE hq fun b hb=>ha b (hs b hb)
theorem aGO{g g':HF}{d:Nat}{l:List (List AV)}{p:List (List AV) × List Nat}(h:Bh (rd d g) l=some p)(ha:Agr p.2 g g'):Bh (rd d g') l=some p:=
 acG h fun _ _ _ _ _ hq hs=>aGE hq fun b hb=>ha b (hs b hb)
theorem aLQ{H:Aa}{d:Nat}{l:List AV}{p:List AV × List Nat}(hd:d≤9)(h:rdL (rd d (hf H)) l=some p):∀b∈p.2,b<H.length:=fun b hb=>by
 obtain⟨z,hz,_⟩:=clL h (fun x _ q hx=>aT9 hd hx) b hb
 exact aAD hz
theorem aI8{H:Aa}{d:Nat}{l:List (List AV)}{p:List (List AV) × List Nat}(hd:d≤9)(h:Bh (rd d (hf H)) l=some p):∀b∈p.2,b<H.length:=fun b hb=>by
 obtain⟨z,hz,_⟩:=clR h (fun r _ x _ q hx=>aT9 hd hx) b hb
 exact aAD hz
theorem aHO{f:AV→Option (AV × List Nat)}:∀{l:List (List AV)} {p:List (List AV) × List Nat},Bh f l=some p→l.length=p.1.length
 | [],p,h=>by simp[Bh]at h;subst h;rfl
 |a::l,p,h=>by
  simp only[Bh,adC,abX]at h
  obtain⟨q,hq,r,hr,rfl⟩:=h
  simp[aHO hr]
theorem azJ{f:AV→Option (AV × List Nat)}:∀{l:List (List AV)} {p:List (List AV) × List Nat} {i:Nat} {X:List AV},Bh f l=some p→p.1[i]?=some X→∃r R,l[i]?=some r∧rdL f r=some (X,R)
 | [],p,i,X,h,hx=>by simp[Bh]at h;subst h;simp at hx
 |a::l,p,i,X,h,hx=>by
  simp only[Bh,adC,abX]at h
  obtain⟨q,hq,r,hr,rfl⟩:=h
  cases i with
  |zero=>simp at hx;subst hx;exact⟨a,q.2,rfl,hq⟩
  |succ i=>simp at hx;obtain⟨r',R',k1,k2⟩:=azJ hr hx;exact⟨r',R',by simpa using k1,k2⟩
theorem aTP{f:AV→Option (AV × List Nat)}:∀{l:List AV} {p:List AV × List Nat},rdL f l=some p→l.length=p.1.length
 | [],p,h=>by simp[rdL]at h;subst h;rfl
 |a::l,p,h=>by
  simp only[rdL,adC,abX]at h
  obtain⟨q,hq,r,hr,rfl⟩:=h
  simp[aTP hr]
theorem Jd{f:AV→Option (AV × List Nat)}{l xs:List AV}{x:AV}{R:List Nat}(h:rdL f l=some (x::xs,R)):∃a l' R1 R2,l=a::l'∧f a=some (x,R1)∧rdL f l'=some (xs,R2)∧R=R1++R2:=by
 cases l with
 |nil=>simp[rdL]at h
 |cons a l=>
  simp only[rdL,adC,abX]at h
  obtain⟨q,hq,r,hr,he⟩:=h
  simp only[Prod.mk.injEq,List.cons.injEq]at he
  obtain⟨⟨rfl,rfl⟩,rfl⟩:=he
  exact⟨a,l,q.2,r.2,rfl,hq,hr,rfl⟩
theorem akZ{f:AV→Option (AV × List Nat)}{l:List AV}{R:List Nat}(h:rdL f l=some ([],R)):l=[]∧R=[]:=by
 cases l with
 |nil=>simp[rdL]at h;exact⟨rfl,h⟩
 |cons a l=>have:=aTP h;simp at this
theorem aQG{g:HF}{d:Nat}{v:AV}{k:IntKind}{n:Int}{R:List Nat}(h:rd (d+1) g v=some (.int k n,R)):v=.int k n∧R=[]:=by
 cases v with
 |slr st b r len=>
  simp only[rd,adC]at h
  obtain⟨z,_,h⟩:=h
  split at h
  ·cases hfl:z.2.1<;>rw[hfl]at h<;>simp at h
  ·cases h
 |func fn a b=>cases a<;>cases b<;>simp[rd]at h
 |int k' n'=>simp[rd]at h;exact⟨by simp[h],h.2⟩
 |agg cs=>simp[rd]at h
 |iface t x=>simp[rd]at h
 |_=>simp[rd]at h
theorem a4V{g:HF}{d st:Nat}{fl nn:Bool}{v:AV}{rows:List (List AV)}{R:List Nat}(h:rd (d+1) g v=some (Be st fl nn rows,R)):v.isCell=true∧v.flat=false:=by
 have hs:Be st fl nn rows=.nils∨∃r,Be st fl nn rows=.imm st fl r:=by
  cases rows with
  |nil=>cases nn with
   |true=>exact .inr ⟨_,rfl⟩
   |false=>exact .inl rfl
  |cons=>exact .inr ⟨_,rfl⟩
 generalize Be st fl nn rows=X at h hs
 cases v with
 |func fn a b=>cases a<;>cases b<;>first|exact⟨rfl,rfl⟩|(simp[rd]at h)
 |agg cs=>simp only[rd,abX]at h;obtain⟨_,_,h⟩:=h;simp only[Prod.mk.injEq]at h;obtain⟨h,_⟩:=h;subst h;rcases hs with hs|⟨_,hs⟩<;>cases hs
 |ptr b r o=>exact⟨rfl,rfl⟩
 |yl b=>exact⟨rfl,rfl⟩
 |mapr b=>exact⟨rfl,rfl⟩
 |itr b=>exact⟨rfl,rfl⟩
 |tup cs=>simp[rd]at h
 |bool b=>simp[rd]at h;obtain⟨h,_⟩:=h;subst h;rcases hs with hs|⟨_,hs⟩<;>cases hs
 |int k n=>simp[rd]at h;obtain⟨h,_⟩:=h;subst h;rcases hs with hs|⟨_,hs⟩<;>cases hs
 |str s=>simp[rd]at h;obtain⟨h,_⟩:=h;subst h;rcases hs with hs|⟨_,hs⟩<;>cases hs
 |_=>exact⟨rfl,rfl⟩
theorem ai0{g:HF}{d st:Nat}{fl nn:Bool}{v:AV}{rows:List (List AV)}{R:List Nat}(h:rd (d+1) g v=some (Be st fl nn rows,R)):
 (v=.nils∧rows=[])∨∃b rows',v=.slr st b 0 rows.length∧(g b).bind Ax=some (st,fl,rows')∧rows'.length=rows.length∧(fl=true→rows'=rows)∧(fl=false→∃R',Bh (rd d g) rows'=some (rows,R')):=by
 have hs:(Be st fl nn rows=.nils∧rows=[])∨Be st fl nn rows=.imm st fl rows:=by
  cases rows with
  |nil=>cases nn with
   |true=>exact .inr rfl
   |false=>exact .inl ⟨rfl,rfl⟩
  |cons=>exact .inr rfl
 generalize Be st fl nn rows=X at h hs
 cases v with
 |nils=>simp[rd]at h;obtain⟨rfl,_⟩:=h;rcases hs with⟨_,hs⟩|hs
        ·exact .inl ⟨rfl,hs⟩
        ·cases hs
 |slr st' b r len=>
  simp only[rd,adC]at h
  obtain⟨z,hz,h⟩:=h
  split at h
  ·rename_i hq
   obtain⟨q1,rfl,q3⟩:=hq
   obtain⟨z1,z2,z3⟩:=z
   simp only at q1 q3 h
   subst q1
   cases z2 with
   |true=>
    simp at h
    obtain⟨rfl,_⟩:=h
    rcases hs with⟨hs,_⟩|hs
    ·cases hs
    ·cases hs
     exact .inr ⟨b,_,by rw[q3],adC.2 hz,rfl,fun _=>rfl,fun e=>by cases e⟩
   |false=>
    simp only[cond_false,abX]at h
    obtain⟨q,hq,he⟩:=h
    simp only[Prod.mk.injEq]at he
    obtain⟨rfl,_⟩:=he
    rcases hs with⟨hs,_⟩|hs
    ·cases hs
    ·cases hs
     have hl:z3.length=q.1.length:=aHO hq
     exact .inr ⟨b,z3,by rw[q3,hl],adC.2 hz,hl,fun e=>(by cases e),fun _=>⟨q.2,hq⟩⟩
  ·cases h
 |func fn a b=>cases a<;>cases b<;>simp[rd]at h<;>(obtain⟨rfl,_⟩:=h;rcases hs with⟨hs,_⟩|hs<;>cases hs)
 |agg cs=>simp only[rd,abX]at h;obtain⟨_,_,h⟩:=h;simp only[Prod.mk.injEq]at h;obtain⟨rfl,_⟩:=h;rcases hs with⟨hs,_⟩|hs<;>cases hs
 |iface t x=>simp only[rd,abX]at h;obtain⟨_,_,h⟩:=h;simp only[Prod.mk.injEq]at h;obtain⟨rfl,_⟩:=h;rcases hs with⟨hs,_⟩|hs<;>cases hs
 |ptr b r o=>simp[rd]at h
 |yl b=>simp[rd]at h
 |mapr b=>simp[rd]at h
 |itr b=>simp[rd]at h
 |tup cs=>simp[rd]at h
 |imm=>simp[rd]at h
 |iptr=>simp[rd]at h
 |_=>simp[rd]at h;obtain⟨rfl,_⟩:=h;rcases hs with⟨hs,_⟩|hs<;>cases hs
theorem aED{H:Aa}{b st:Nat}{fl:Bool}{rows:List (List AV)}(h:(hf H b).bind Ax=some (st,fl,rows))(i:Nat):Jk (H[b]?) i=rows[i]?:=by
 obtain⟨c,hc,hz⟩:=adC.1 h
 rw[show H[b]?=some c from hc]
 cases c<;>simp[Ax]at hz<;>(obtain⟨_,_,rfl⟩:=hz;rfl)
theorem aAS{g:HF}{d:Nat}(k:IntKind)(n:Int):rd (d+1) g (.int k n)=some (.int k n,[]):=rfl
theorem aTE{g:HF}{d st b n:Nat}{rows:List (List AV)}(h:(g b).bind Ax=some (st,true,rows))(hn:n=rows.length):rd (d+1) g (.slr st b 0 n)=some (.imm st true rows,[b]):=by
 subst hn;simp[rd,h]
theorem aoP{f:AV→Option (AV × List Nat)}:rdL f []=some ([],[]):=rfl
theorem Gl{f:AV→Option (AV × List Nat)}{a x:AV}{l xs:List AV}{R1 R2:List Nat}(h1:f a=some (x,R1))(h2:rdL f l=some (xs,R2)):rdL f (a::l)=some (x::xs,R1++R2):=by simp[rdL,h1,h2]
theorem bhS{x:Option (List AV)}{vs:List AV}{h:Aa}{Q:Dt→Aa→Prop}(hx:x=some vs)(k:Rt 0 (some vs) h Q):Rt 0 x h Q:=hx▸k
theorem RdV.of{O:Dx}{f:Nat}{vs:List AV}{x:AV}{k:Nat}(h:ClQ O f vs [] fun o h'=>∃v R,o=.ret v∧rd 6 (hf h') v=some (x,R)∧R.length≤k∧∀c∈h',Rnm c):RdV O f vs x k:=by
 obtain⟨o,h',e,v,R,rfl,k1,k2,k3⟩:=h
 exact⟨v,h',R,e,k1,k2,k3⟩
theorem aDL{f:AV→Option (AV × List Nat)}:∀{l:List (List AV)} {p:List (List AV) × List Nat} {r:List AV} {q:List AV × List Nat},Bh f l=some p→rdL f r=some q→Bh f (l++[r])=some (p.1++[q.1],p.2++q.2)
 | [],p,r,q,h,hr=>by simp[Bh]at h;subst h;simp[Bh,hr]
 |a::l,p,r,q,h,hr=>by
  simp only[Bh,adC,abX]at h
  obtain⟨q1,hq1,r1,hr1,rfl⟩:=h
  simp[Bh,hq1,aDL hr1 hr]
end
noncomputable section
open Go.RowKit
section
variable {P:Program} {O:Dx}
def slx(P:Program)(ty:TypeId)(a:Option AV)(l h:Option (Option AV)):OE:=r1 (a.bind fun a=>l.bind fun l=>h.bind fun h=>aBZ P ty a l h)
theorem aZP(t:List AV)(h:Aa)(ty:TypeId)(x:Operand)(lo hi:Option Operand):Di O P t h (.slice ty x lo hi none)=slx P ty (Ae t x) (aBY t lo) (aBY t hi):=by
 rw[Cc _ _ _ rfl]
 simp only[exec,slx]
 cases Ae t x with
 |none=>rfl
 |some a=>
  cases aBY t lo with
  |none=>rfl
  |some l=>
   cases aBY t hi with
   |none=>rfl
   |some h=>exact Fz _
def oS(x:Option AV):Option (Option AV):=x.map some
theorem a7A(v:AV):oS (some v)=some (some v):=abL rfl rfl
theorem aXR(t:List AV):aBY t none=some none:=abL rfl rfl
theorem aWR(t:List AV)(x:Operand):aBY t (some x)=oS (Ae t x):=abL rfl rfl
end
end
noncomputable section
set_option maxRecDepth 100000
section
variable {P:Program} {G:Nat→Option Obj}
end
section
variable {P:Program}
end
def EVu:=PLift.up (abK @a7H (abK @aJS (abK @az9 (abK @aZP (abK @aXR (abK @aWR @a7A))))))
end
noncomputable section
section
variable {α:Type}
end
end
section
def Ob:Aa→Aa→Aa
 | [],h'=>h'
 |c₀::h,[]=>c₀::h
 |c₀::h,c::h'=>(bif c₀.quiet c then c₀ else c.mark)::Ob h h'
def aO8(h h':Aa):Prop:=h.length≤h'.length∧∀(i:Nat) (c₀ c:CB),h[i]?=some c₀→h'[i]?=some c→c₀.quiet c=true∨c₀.isLive=true
theorem av0:∀(h h' pre:Aa),aO8 h h'→∃es,Bz pre.length h h'=some es∧Bi (pre++h) es=pre++Ob h h'
 | [],h',pre,_=>⟨_,rfl,by simp[aJX,Ob]⟩
 |c₀::h,[],pre,ok=>by simp[aO8]at ok
 |c₀::h,c::h',pre,ok=>by
  have ok':aO8 h h':=⟨by simpa using ok.1,fun i a b h1 h2=>ok.2 (i+1) a b (by simpa using h1) (by simpa using h2)⟩
  cases hq:c₀.quiet c with
  |true=>
   obtain⟨es,e1,e2⟩:=av0 h h' (pre++[c₀]) ok'
   refine⟨es,?_,?_⟩
   ·simp only[Bz,hq,cond_true]
    simpa using e1
   ·simpa [Ob,hq]using e2
  |false=>
   have hl:c₀.isLive=true:=by
    rcases ok.2 0 c₀ c rfl rfl with h|h
    ·rw[hq]at h;cases h
    ·exact h
   obtain⟨es,e1,e2⟩:=av0 h h' (pre++[c.mark]) ok'
   refine⟨.put pre.length c.mark::es,?_,?_⟩
   ·simp only[Bz,hq,hl,cond_false,cond_true]
    simp only[aOA,aD2,aOK]at e1
    rw[e1];rfl
   ·simp only[Bi,Le,Ob,hq,cond_false]
    have:(pre++c₀::h).set pre.length c.mark=(pre++[c.mark])++h:=by simp
    rw[this,e2];simp
theorem am8:∀{h h':Aa},h.length≤h'.length→(Ob h h').length=h'.length
 | [],h',_=>rfl
 |c₀::h,[],hl=>by simp at hl
 |c₀::h,c::h',hl=>by simp[Ob,am8 (h:=h) (h':=h') (by simpa using hl)]
theorem Nk:∀{h h':Aa} {i:Nat} {c₀ c:CB},h[i]?=some c₀→h'[i]?=some c→c₀.quiet c=true→(Ob h h')[i]?=some c₀
 | [],h',i,c₀,c,h1,_,_=>by simp at h1
 |a::h,[],i,c₀,c,_,h2,_=>by simp at h2
 |a::h,b::h',0,c₀,c,h1,h2,hq=>by
  simp at h1 h2;subst h1 h2;simp[Ob,hq]
 |a::h,b::h',i+1,c₀,c,h1,h2,hq=>by
  simp at h1 h2;simpa [Ob]using Nk h1 h2 hq
theorem awJ:∀{h h':Aa} {i:Nat} {c₀ c:CB},h[i]?=some c₀→h'[i]?=some c→c₀.quiet c=false→(Ob h h')[i]?=some c.mark
 | [],h',i,c₀,c,h1,_,_=>by simp at h1
 |a::h,[],i,c₀,c,_,h2,_=>by simp at h2
 |a::h,b::h',0,c₀,c,h1,h2,hq=>by
  simp at h1 h2;subst h1 h2;simp[Ob,hq]
 |a::h,b::h',i+1,c₀,c,h1,h2,hq=>by
  simp at h1 h2;simpa [Ob]using awJ h1 h2 hq
theorem aAY:∀{h h':Aa} {i:Nat},h.length≤h'.length→h.length≤i→(Ob h h')[i]?=h'[i]?
 | [],h',i,_,_=>rfl
 |a::h,[],i,hl,_=>by simp at hl
 |a::h,b::h',0,_,hi=>by simp at hi
 |a::h,b::h',i+1,hl,hi=>by
  simpa [Ob]using aAY (h:=h) (h':=h') (i:=i) (by simpa using hl) (by simpa using hi)
theorem Es{h:Aa}{i:Nat}{c:CB}(hc:h[i]?=some c):(Hn h)[i]?=some c.clean:=by simp[Hn,hc]
theorem Cj(h:Aa):(Hn h).length=h.length:=by simp[Hn]
theorem aRD(c:CB):Ax c.clean=Ax c:=by cases c<;>rfl
theorem aVQ(c:CB):Ax c.mark=Ax c:=by cases c<;>rfl
theorem aLR{O:Dx}{H:Aa}{f:Nat}{args:List AV}{Q:Dt→Aa→Prop}(hd:hdR args=true)(hm:O.md f=true)(K:ShQ O f args (Hn H) Q)(ok:∀o G,Q o G→aO8 H G):
 ∃o G es,cl O H (some (.func (.func f) [] [])) (some args)=some (o,es)∧Bi H es=Ob H G∧Q o G:=by
 obtain⟨o,G,hc,hq⟩:=K
 obtain⟨es,e1,e2⟩:=av0 H G [] (ok o G hq)
 refine⟨o,G,es,?_,by simpa using e2,hq⟩
 rw[aM5]
 simp only[aBU,aDD,hd,if_true,shC,hm,aEQ,hc]
 rw[aE9]
 have e1':Bz 0 H G=some es:=e1
 rw[e1'];rfl
structure Iw(X:List Nat)(H H1:Aa):Prop where
 len:H.length≤H1.length
 same:∀b,b<H.length→b∉X→H1[b]?=H[b]?
theorem Iw.app(H l:Aa):Iw [] H (H++l):=⟨by simp,fun b hb _=>aDG hb⟩
theorem Iw.trans{X Y:List Nat}{H H1 H2:Aa}(h1:Iw X H H1)(h2:Iw Y H1 H2):Iw (X++Y) H H2:=
 ⟨Nat.le_trans h1.len h2.len,fun b hb hn=>by
   rw[h2.same b (Nat.lt_of_lt_of_le hb h1.len) (fun h=>hn (awN _ h)),h1.same b hb (fun h=>hn (aoW _ h))]⟩
end
noncomputable section
open Go.RowKit
def aL4(f:Nat→Nat):Log→List (List Bg × List Bg)→Prop
 | [],[]=>True
 |(es,fs)::l,(w,r)::l'=>(∀e∈es,Bg.all∈w∨mfF f e.foot∈w)∧(∀x∈fs,Bg.all∈r∨mfF f x∈r)∧aL4 f l l'
 |_,_=>False
theorem aL4.get{f:Nat→Nat}:∀{l:Log} {l':List (List Bg × List Bg)} {i:Nat} {y:List Bg × List Bg},aL4 f l l'→l'[i]?=some y→∃x,l[i]?=some x∧(∀e∈x.1,Bg.all∈y.1∨mfF f e.foot∈y.1)∧(∀a∈x.2,Bg.all∈y.2∨mfF f a∈y.2)
 | [],[],i,y,_,h=>by simp at h
 |(es,fs)::l,(w,r)::l',0,y,h,hy=>by simp at hy;subst hy;exact⟨_,rfl,h.1,h.2.1⟩
 |(es,fs)::l,(w,r)::l',i+1,y,h,hy=>by
  obtain⟨x,h1,h2⟩:=aL4.get h.2.2 (i:=i) (by simpa using hy)
  exact⟨x,by simpa using h1,h2⟩
theorem aW3(x:Bg):x.meets .all=true:=by cases x<;>rfl
theorem aVU(x:Bg):Bg.meets .all x=true:=by cases x<;>rfl
theorem aZ9(f:Nat→Nat){ops:List Oper}{log:Log}(lg:List (List Bg × List Bg))(hc:aL4 f log lg)(hd:aJF ops lg=true):Dn ops log=true:=by
 simp only[aJF,Dn,az0]at hd ⊢
 rintro⟨i,j⟩ hij
 have:=hd (i,j) hij
 simp only at this ⊢
 cases hi:lg[i]? with
 |none=>simp[hi]at this
 |some x=>
  cases hj:lg[j]? with
  |none=>simp[hi,hj]at this
  |some y=>
   obtain⟨x',a1,a2,a3⟩:=hc.get hi
   obtain⟨y',b1,b2,b3⟩:=hc.get hj
   simp only[hi,hj,a1,b1,aQR,aQ3]at this ⊢
   cases hk:Lh x' y' with
   |false=>rfl
   |true=>
    rw[←this];symm
    have mt:∀{p q:Bg} {P Q:List Bg},p.meets q=true→(Bg.all∈P∨mfF f p∈P)→(Bg.all∈Q∨mfF f q∈Q)→∃p'∈P,∃q'∈Q,p'.meets q'=true:=fun {p q P Q} hm hp hq=>by
     rcases hp with hp|hp<;>rcases hq with hq|hq
     ·exact⟨_,hp,_,hq,rfl⟩
     ·exact⟨_,hp,_,hq,aVU _⟩
     ·exact⟨_,hp,_,hq,aW3 _⟩
     ·exact⟨_,hp,_,hq,aHA f _ _ hm⟩
    simp only[Lh,aL0,aQD,aQH,ai5,aNF]at hk ⊢
    rcases hk with⟨_,⟨e,he,rfl⟩,b,hb,hm⟩|⟨_,⟨e,he,rfl⟩,b,hb,hm⟩
    ·left
     rcases hb with⟨e',he',rfl⟩|hb
     ·obtain⟨p,hp,q,hq,hpq⟩:=mt hm (a2 e he) (b2 e' he')
      exact⟨p,hp,q,.inl hq,hpq⟩
     ·obtain⟨p,hp,q,hq,hpq⟩:=mt hm (a2 e he) (b3 b hb)
      exact⟨p,hp,q,.inr hq,hpq⟩
    ·right
     obtain⟨p,hp,q,hq,hpq⟩:=mt hm (b2 e he) (a3 b hb)
     exact⟨p,hp,q,hq,hpq⟩
theorem aQX(f:Nat→Nat)(lg:List (List Bg × List Bg)){C:R→Prop}{ops:List Oper}{log:Log}{k:R}(hb:aJF ops lg=true)(hc:aL4 f log lg)(h:True→C k):C (Fg (Dn ops log) k):=aFE (aZ9 f lg hc hb) h
theorem aES(f:Nat→Nat):aL4 f [] []=True:=rfl
theorem aB2(f:Nat→Nat)(es:List Ad)(fs:List Bg)(l:Log)(w r:List Bg)(l':List (List Bg × List Bg)):aL4 f ((es,fs)::l) ((w,r)::l')=((∀e∈es,Bg.all∈w∨mfF f e.foot∈w)∧(∀x∈fs,Bg.all∈r∨mfF f x∈r)∧aL4 f l l'):=rfl
theorem a5Z{O:Dx}{H:Aa}{f:Nat}{args:List AV}{o:Dt}{l:Aa}(hd:hdR args=true)(hm:O.md f=true)(hc:O.call (.sh f) args (Hn H)=some (o,Hn H++l))(hq:Ba H=true):
 cl O H (some (.func (.func f) [] [])) (some args)=some (o,Hi H.length l):=by
 rw[aM5]
 simp only[aBU,aDD,hd,if_true,shC,hm,aEQ,hc]
 rw[aE9,aS7 hq]
 simp
theorem a6V{O:Dx}{H:Aa}{f:Nat}{args:List AV}{o:Dt}(hd:hdR args=true)(hm:O.md f=true)(hc:O.call (.sh f) args (Hn H)=some (o,Hn H))(hq:Ba H=true):
 cl O H (some (.func (.func f) [] [])) (some args)=some (o,[]):=by
 have:=a5Z (l:=[]) hd hm (by simpa using hc) hq
 simpa [Hi]using this
theorem azT{H:Aa}(h:∀c∈H,c.quiet c.clean=true):Ba H=true:=by simp only[Ba,az0];exact h
theorem Gn{H:Aa}(h:Ba H=true){b:Nat}{c:CB}(hb:H[b]?=some c):c.quiet c.clean=true:=by
 simp only[Ba,az0]at h
 exact h c (aFV hb)
theorem En{H l:Aa}(h:Ba H=true)(hl:Ba l=true):Ba (H++l)=true:=by
 simp only[Ba,az0,ai5]at h hl ⊢
 exact fun c hc=>hc.elim (h c) (hl c)
theorem Eo{H:Aa}(h:Ba H=true)(b:Nat){c:CB}(hc:c.quiet c.clean=true):Ba (H.set b c)=true:=by
 simp only[Ba,az0]at h ⊢
 exact fun x hx=>(List.mem_or_eq_of_mem_set hx).elim (h x) (fun e=>e▸hc)
theorem aP6{c:CB}(h:c.quiet c.clean=true):c.clean.quiet c.clean.clean=true:=by cases c<;>first|rfl|exact h
theorem aiH{H:Aa}(h:Ba H=true):Ba (Hn H)=true:=by
 simp only[Ba,Hn,az0,aNF]at h ⊢
 rintro c ⟨c0,h0,rfl⟩
 exact aP6 (h c0 h0)
theorem aFL{c:CB}(h:c.quiet c.clean=true):c.mark.quiet c.mark.clean=true:=by cases c<;>first|rfl|exact h
theorem Jb{H0 G:Aa}{X:List Nat}(hq:Ba H0=true)(K:Iw X (Hn H0) G)(hX:∀b∈X,b<H0.length∧∀c0 c,H0[b]?=some c0→G[b]?=some c→c0.isLive=true∧c0.quiet c=false):
 aO8 H0 G∧(Ob H0 G).length=G.length∧(∀b,H0.length≤b→(Ob H0 G)[b]?=G[b]?)∧(∀b,b<H0.length→b∉X→(Ob H0 G)[b]?=H0[b]?)∧(∀b∈X,∀c,G[b]?=some c→(Ob H0 G)[b]?=some c.mark):=by
 have hlen:H0.length≤G.length:=by have:=K.len;rwa[Cj]at this
 have old:∀b c0,H0[b]?=some c0→b∉X→G[b]?=some c0.clean:=fun b c0 h0 hb=>by
  rw[K.same b (by rw[Cj];exact(azY.1 h0).1) hb,Es h0]
 refine⟨⟨hlen,fun b c0 c h0 h1=>?_⟩,am8 hlen,fun b hb=>aAY hlen hb,fun b hb hn=>?_,fun b hb c hc=>?_⟩
 ·by_cases hb:b∈X
  ·exact .inr ((hX b hb).2 c0 c h0 h1).1
  ·rw[old b c0 h0 hb]at h1;cases h1
   exact .inl (Gn hq h0)
 ·obtain⟨c0,h0⟩:∃c,H0[b]?=some c:=⟨_,aBV hb⟩
  rw[h0];exact Nk h0 (old b c0 h0 hn) (Gn hq h0)
 ·obtain⟨h1,h2⟩:=hX b hb
  obtain⟨c0,h0⟩:∃c,H0[b]?=some c:=⟨_,aBV h1⟩
  exact awJ h0 hc (h2 c0 c h0 hc).2
theorem awB{H0 G:Aa}{X:List Nat}(hq:Ba H0=true)(K:Iw X (Hn H0) G)(hX:∀b∈X,b<H0.length∧∀c0 c,H0[b]?=some c0→G[b]?=some c→c0.isLive=true∧c0.quiet c=false)(hg:Ba G=true):Ba (Ob H0 G)=true:=by
 obtain⟨_,k1,k2,k3,k4⟩:=Jb hq K hX
 refine azT fun c hc=>?_
 obtain⟨b,hb⟩:=aNO hc
 by_cases h1:b<H0.length
 ·by_cases h2:b∈X
  ·obtain⟨c1,h3⟩:∃c,G[b]?=some c:=⟨_,aBV (by rw[←k1];exact(azY.1 hb).1)⟩
   rw[k4 b h2 c1 h3]at hb;cases hb
   exact aFL (Gn hg h3)
  ·rw[k3 b h1 h2]at hb;exact Gn hq hb
 ·rw[k2 b (by omega)]at hb;exact Gn hg hb
theorem aUV{H0 G:Aa}{X:List Nat}(hq:Ba H0=true)(K:Iw X (Hn H0) G)(hX:∀b∈X,b<H0.length∧∀c0 c,H0[b]?=some c0→G[b]?=some c→c0.isLive=true∧c0.quiet c=false)(b:Nat):(hf (Ob H0 G) b).bind Ax=(hf G b).bind Ax:=by
 obtain⟨_,k1,k2,k3,k4⟩:=Jb hq K hX
 show((Ob H0 G)[b]?).bind Ax=(G[b]?).bind Ax
 by_cases h1:b<H0.length
 ·by_cases h2:b∈X
  ·cases h3:G[b]? with
   |none=>rw[aTG]at h3;have h4:=K.len;rw[Cj]at h4;omega
   |some c1=>rw[k4 b h2 c1 h3];exact aVQ c1
  ·rw[k3 b h1 h2,K.same b (by rw[Cj];exact h1) h2]
   cases h3:H0[b]? with
   |none=>simp[Hn,h3]
   |some c=>rw[Es h3];exact(aRD c).symm
 ·rw[k2 b (by omega)]
end
theorem Ce{h:Aa}{b:Nat}{c:CB}(e:h[b]?=some c):b<h.length:=(azY.1 e).1
structure LLG(st lo:Nat)(ov:AV)(h:Aa)(rows Q:List (List AV))(Ro:List Nat):Prop where
 own:baD 0 st false rows ov h
 nil:rows=[]→ov=.nils
 q:Bh (rd 5 (hf h)) rows=some (Q,Ro)
 dx:∀b∈Ro,lo≤b
 dov:∀a b r n,ov=.slr a b r n→lo≤b∧b∉Ro∧b<h.length
theorem LLG.none{st lo:Nat}{h:Aa}:LLG st lo .nils h [] [] []:=⟨.inl ⟨rfl,rfl⟩,fun _=>rfl,rfl,by simp,fun _ _ _ _ e=>by cases e⟩
theorem LLG.keep{st lo:Nat}{ov:AV}{h h':Aa}{rows Q:List (List AV)}{Ro:List Nat}(I:LLG st lo ov h rows Q Ro)(hl:h.length≤h'.length)(k:∀b,lo≤b→b<h.length→h'[b]?=h[b]?):LLG st lo ov h' rows Q Ro:=by
 refine⟨?_,I.nil,?_,I.dx,fun a b r n e=>?_⟩
 ·rcases I.own with h1|⟨b,w,h1,h2⟩
  ·exact .inl h1
  ·exact .inr ⟨b,w,h1,by rw[k b (by have:=(I.dov _ _ _ _ h1).1;simpa using this) (Ce h2)];exact h2⟩
 ·refine aGO I.q fun j hj z hz=>?_
  show(h'[j]?).bind Ax=_
  rw[k j (I.dx j hj) (aI8 (by omega) I.q j hj)];exact hz
 ·obtain⟨a1,b1,c⟩:=I.dov a b r n e
  exact⟨a1,b1,by omega⟩
theorem LLG.snoc{st lo:Nat}{ov:AV}{h h':Aa}{rows Q:List (List AV)}{Ro:List Nat}(I:LLG st lo ov h rows Q Ro)(hl:h.length≤h'.length)(k:∀b,lo≤b→b<h.length→h'[b]?=h[b]?){r X:List AV}{R':List Nat}(hr:rdL (rd 5 (hf h')) r=some (X,R'))(hR:∀b∈R',h.length≤b)(hlo:lo≤h.length)(a:CB){m n:Nat}(hm:m=h'.length+1)(hn:n=rows.length+1):
 LLG st lo (.slr st m 0 n) (kl 0 ov h'++[a,.live st false false (rows++[r])]) (rows++[r]) (Q++[X]) (Ro++R'):=by
 subst hm hn
 have I':=I.keep hl k
 have lR:=aI8 (by omega) I.q
 have lR':=aLQ (by omega) hr
 have get:∀j,j<h'.length→(∀a m r n,ov=.slr a m r n→m≠j)→(kl 0 ov h'++[a,.live st false false (rows++[r])])[j]?=h'[j]?:=fun j hj ho=>ai3 _ hj ho
 have hlen:(kl 0 ov h').length=h'.length:=awA ..
 have hnew:(kl 0 ov h'++[a,.live st false false (rows++[r])])[h'.length+1]?=some (.live st false false (rows++[r])):=by
  rw[aLF (by omega),hlen,show h'.length+1-h'.length=1 by omega];rfl
 have q1:Bh (rd 5 (hf (kl 0 ov h'++[a,.live st false false (rows++[r])]))) rows=some (Q,Ro):=aGO I'.q fun j hj z hz=>by
  show((kl 0 ov h'++_)[j]?).bind Ax=_
  rw[get j (by have:=lR j hj;omega) fun a m r n e e2=>(I.dov a m r n e).2.1 (e2▸hj)];exact hz
 have q2:rdL (rd 5 (hf (kl 0 ov h'++[a,.live st false false (rows++[r])]))) r=some (X,R'):=av6 hr fun j hj z hz=>by
  show((kl 0 ov h'++_)[j]?).bind Ax=_
  rw[get j (lR' j hj) fun a m r n e e2=>by have:=(I.dov a m r n e).2.2;have:=hR j hj;omega];exact hz
 refine⟨.inr ⟨h'.length+1,false,by simp,hnew⟩,fun e=>by simp at e,?_,fun b hb=>?_,fun a b r n e=>?_⟩
 ·simpa using aDL q1 q2
 ·rcases ai5.1 hb with hb|hb
  ·exact I.dx b hb
  ·have:=hR b hb;omega
 ·cases e
  refine⟨by omega,fun hb=>?_,by simp[hlen]⟩
  rcases ai5.1 hb with hb|hb
  ·have:=lR _ hb;omega
  ·have:=lR' _ hb;omega
theorem a9Y(d b:Nat):Aw (d+1) (.mapr b)=false:=abL rfl rfl
theorem a9M(b:Nat):AV.isCell (.mapr b)=true:=abL rfl rfl
theorem a8R(b:Nat):AV.flat (.mapr b)=false:=abL rfl rfl
theorem bbM(b:Nat):Ag (.mapr b)=[.mapr b]:=abL rfl rfl
theorem a7E(d:Nat)(m:List Nat)(b:Nat):Bl (d+1) m (.mapr b)=some (.mapr (place m b).1,(place m b).2):=abL rfl rfl
theorem a6E(d:Nat)(g:HF)(b:Nat):Ar (d+1) g (.mapr b)=[]:=abL rfl rfl
theorem bbF(h:Aa)(b:Nat):rdV h (.mapr b)=some (.mapr b):=abL rfl rfl
def awQ:=PLift.up (abK @a9Y (abK @a9M (abK @a8R (abK @bbM (abK @a7E (abK @a6E @bbF))))))
theorem aGU(c:CB):c.quiet c.clean=true∨(c.clean.mark=c∧c.isLive=true):=by
 cases c with
 |lp a b d e st=>exact .inr ⟨rfl,rfl⟩
 |_=>exact .inl rfl
theorem aHU:∀(cs:List CB) (i:Nat),∀e∈Hi i cs,∃b,e.foot=.blk b∧i≤b
 | [],i,e,h=>by cases h
 |c::cs,i,e,h=>by
  rcases aoS.1 h with rfl|h
  ·exact⟨i,rfl,ah1 _⟩
  ·obtain⟨b,h1,h2⟩:=aHU cs (i+1) e h
   exact⟨b,h1,by omega⟩
theorem aML:∀{h h':Aa} {i:Nat} {es:List Ad},Bz i h h'=some es→∀e∈es,∃b,e.foot=.blk b∧(i+h.length≤b∨∃j c₀ c,b=i+j∧h[j]?=some c₀∧h'[j]?=some c∧c₀.quiet c=false)
 | [],h',i,es,hs,e,he=>by
   simp only[Bz,aoT.injEq]at hs;subst hs
   obtain⟨b,h1,h2⟩:=aHU h' i e he
   exact⟨b,h1,.inl (by simpa using h2)⟩
 |c₀::h,[],i,es,hs,e,he=>by simp[Bz]at hs
 |c₀::h,c::h',i,es,hs,e,he=>by
  have up:∀{es':List Ad},Bz (i+1) h h'=some es'→e∈es'→∃b,e.foot=.blk b∧(i+(c₀::h).length≤b∨∃j c₀' c',b=i+j∧(c₀::h)[j]?=some c₀'∧(c::h')[j]?=some c'∧c₀'.quiet c'=false):=fun {es'} h1 h2=>by
   obtain⟨b,k1,k2⟩:=aML h1 e h2
   refine⟨b,k1,?_⟩
   rcases k2 with k2|⟨j,x,y,k3,k4,k5,k6⟩
   ·exact .inl (by simp;omega)
   ·exact .inr ⟨j+1,x,y,by omega,by simpa using k4,by simpa using k5,k6⟩
  unfold Bz at hs
  cases hq:c₀.quiet c with
  |true=>rw[hq]at hs;exact up hs he
  |false=>
   rw[hq]at hs
   simp only[cond_false]at hs
   cases hl:c₀.isLive with
   |false=>rw[hl]at hs;simp at hs
   |true=>
    rw[hl]at hs
    simp only[cond_true,abX]at hs
    obtain⟨es',h1,rfl⟩:=hs
    rcases aoS.1 he with rfl|he
    ·exact⟨i,rfl,.inr ⟨0,c₀,c,by simp,rfl,rfl,hq⟩⟩
    ·exact up h1 he
theorem a3G{O:Dx}{H:Aa}{f:Nat}{args:List AV}{Q:Dt→Aa→Prop}(hd:hdR args=true)(hm:O.md f=true)(K:ShQ O f args (Hn H) Q)(ok:∀o G,Q o G→aO8 H G):
 ∃o G es,cl O H (some (.func (.func f) [] [])) (some args)=some (o,es)∧Bi H es=Ob H G∧Bz 0 H G=some es∧Q o G:=by
 obtain⟨o,G,hc,hq⟩:=K
 obtain⟨es,e1,e2⟩:=av0 H G [] (ok o G hq)
 have e1':Bz 0 H G=some es:=e1
 refine⟨o,G,es,?_,by simpa using e2,e1',hq⟩
 rw[aM5]
 simp only[aBU,aDD,hd,if_true,shC,hm,aEQ,hc]
 rw[aE9,e1'];rfl
theorem a1U{O:Dx}{H:Aa}{f:Nat}{args:List AV}{Q:Dt→Aa→Prop}(hd:hdR args=true)(hm:O.md f=true)(K:ShQ O f args (Hn H) fun o G=>Q o G∧Iw [] (Hn H) G):
 ∃o G es M,cl O H (some (.func (.func f) [] [])) (some args)=some (o,es)∧Bi H es=M∧Q o G∧M.length=G.length∧H.length≤M.length∧(∀b,b<H.length→M[b]?=H[b]?)∧(∀b,H.length≤b→M[b]?=G[b]?)∧∀e∈es,∃b,e.foot=.blk b∧(H.length≤b∨∃c,H[b]?=some c∧c.quiet c.clean=false):=by
 obtain⟨o,G,es,e1,e2,e3,hq,hk⟩:=a3G hd hm K fun o G ⟨_,hk⟩=>⟨by have:=hk.len;rwa[Cj]at this,fun i c₀ c h1 h2=>by
  have h3:=hk.same i (by rw[Cj];exact Ce h1) (by simp)
  rw[Es h1,h2]at h3;cases h3
  rcases aGU c₀ with h|h
  ·exact .inl h
  ·exact .inr h.2⟩
 have hl:H.length≤G.length:=by have:=hk.len;rwa[Cj]at this
 refine⟨o,G,es,Ob H G,e1,e2,hq,am8 hl,by rw[am8 hl];exact hl,fun b hb=>?_,fun b hb=>aAY hl hb,fun e he=>?_⟩
 ·have h1:H[b]?=some H[b]:=aBV hb
  have h2:=hk.same b (by rw[Cj];exact hb) (by simp)
  rw[Es h1]at h2
  rcases aGU H[b]with h|h
  ·rw[Nk h1 h2 h,h1]
  ·cases hqq:(H[b]).quiet (H[b]).clean with
   |true=>rw[Nk h1 h2 hqq,h1]
   |false=>rw[awJ h1 h2 hqq,h.1,h1]
 ·obtain⟨b,k1,k2⟩:=aML e3 e he
  refine⟨b,k1,?_⟩
  rcases k2 with k2|⟨j,c₀,c,k3,k4,k5,k6⟩
  ·exact .inl (by omega)
  ·have h2:=hk.same j (by rw[Cj];exact Ce k4) (by simp)
   rw[Es k4,k5]at h2
   cases h2
   exact .inr ⟨c₀,by rw[k3,aJN];exact k4,k6⟩
theorem LLG.read{st lo:Nat}{ov:AV}{h:Aa}{rows Q:List (List AV)}{Ro:List Nat}(I:LLG st lo ov h rows Q Ro):∃R,rd 6 (hf h) ov=some (Be st false false Q,R)∧(∀b∈R,lo≤b)∧R.length≤1+Ro.length:=by
 have key:∀d,Bh (rd d (hf h)) rows=some (Q,Ro)→∃R,rd (d+1) (hf h) ov=some (Be st false false Q,R)∧(∀b∈R,lo≤b)∧R.length≤1+Ro.length:=fun d hq=>by
  rcases I.own with⟨rfl,rfl⟩|⟨b,w,rfl,hb⟩
  ·simp[Bh]at hq;obtain⟨rfl,rfl⟩:=hq;exact⟨[],by simp[rd,Be],by simp,by simp⟩
  ·have hne:rows≠[]:=fun e=>by have:=I.nil e;cases this
   have hb':(hf h (b+0)).bind Ax=some (st,false,rows):=by show(h[b]?).bind Ax=_;rw[hb];rfl
   refine⟨(b+0)::Ro,?_,fun c hc=>?_,by simp;omega⟩
   ·simp only[rd,hb',adD,if_true,and_self,cond_false,hq,aoV]
    have hl:Q≠[]:=fun e=>by
     cases rows with
     |nil=>exact hne rfl
     |cons r rs=>
      simp only[Bh,adC,abX]at hq
      obtain⟨_,_,_,_,hq⟩:=hq
      simp only[Prod.mk.injEq]at hq
      rw[e]at hq;cases hq.1
    cases Q with
    |nil=>exact absurd rfl hl
    |cons r rs=>rfl
   ·rcases aoS.1 hc with rfl|hc
    ·exact(I.dov _ _ _ _ rfl).1
    ·exact I.dx c hc
 exact key 5 I.q
theorem aG3{f:AV→Option (AV × List Nat)}:∀{l:List (List AV)} {p:List (List AV) × List Nat} {i:Nat} {r:List AV} {q:List AV × List Nat},Bh f l=some p→l[i]?=some r→rdL f r=some q→∀b∈q.2,b∈p.2
 | [],p,i,r,q,_,h,_=>by simp at h
 |a::l,p,i,r,q,hp,hi,hq=>by
  simp only[Bh,adC,abX]at hp
  obtain⟨x,hx,y,hy,rfl⟩:=hp
  cases i with
  |zero=>
   simp at hi;subst hi
   rw[hx]at hq;cases hq
   exact fun b hb=>aoW _ hb
  |succ i=>
   exact fun b hb=>awN _ (aG3 hy (by simpa using hi) hq b hb)
theorem aHJ{g:HF}{d st b r n:Nat}{x:AV}{R:List Nat}{rows:List (List AV)}(h:rd (d+1) g (.slr st b r n)=some (x,R))(hb:(g b).bind Ax=some (st,false,rows)):∃q,Bh (rd d g) rows=some q∧R=b::q.2∧x=.imm st false q.1:=by
 simp only[rd,hb,adD,cond_false]at h
 split at h
 ·obtain⟨q,hq,h⟩:=abX.1 h
  simp only[Prod.mk.injEq]at h
  exact⟨q,hq,h.2.symm,h.1.symm⟩
 ·cases h
end Go.Ev
namespace Go.Ev
namespace Net
abbrev Edge:=Nat × Nat × Nat
inductive Oa(E:List Edge)(s:Nat):Nat→Nat→Nat→Prop
 |nil (n:Nat):Oa E s n s 0
 |fwd {n a b c k:Nat} (h:Oa E s n a k) (he:(a,b,c)∈E):Oa E s (n+1) b (k+c)
 |bwd {n a b c k:Nat} (h:Oa E s n b k) (he:(a,b,c)∈E):Oa E s (n+1) a (k+c)
def Stp(E:List Edge)(u v c:Nat):Prop:=(u,v,c)∈E∨(v,u,c)∈E
theorem Oa.step{E:List Edge}{s n u v k c:Nat}(h:Oa E s n u k)(hs:Stp E u v c):Oa E s (n+1) v (k+c):=hs.elim (fun e=>.fwd h e) (fun e=>.bwd h e)
theorem Oa.cases'{E:List Edge}{s n v k:Nat}(h:Oa E s n v k):(v=s∧k=0)∨∃m u j c,n=m+1∧Oa E s m u j∧Stp E u v c∧k=j+c:=by
 cases h with
 |nil=>exact .inl ⟨rfl,rfl⟩
 |fwd h he=>exact .inr ⟨_,_,_,_,rfl,h,.inl he,rfl⟩
 |bwd h he=>exact .inr ⟨_,_,_,_,rfl,h,.inr he,rfl⟩
theorem Oa.more{E:List Edge}{s n v k:Nat}(h:Oa E s n v k):∀{m:Nat},n≤m→Oa E s m v k:=by
 induction h with
 |nil n=>exact fun _=>.nil _
 |fwd h he ih=>
  intro m hm
  obtain⟨m,rfl⟩:∃j,m=j+1:=⟨m-1,by omega⟩
  exact .fwd (ih (by omega)) he
 |bwd h he ih=>
  intro m hm
  obtain⟨m,rfl⟩:∃j,m=j+1:=⟨m-1,by omega⟩
  exact .bwd (ih (by omega)) he
def Cst(E:List Edge)(s v k:Nat):Prop:=∃n,Oa E s n v k
theorem Cst.step{E:List Edge}{s u v k c:Nat}(h:Cst E s u k)(hs:Stp E u v c):Cst E s v (k+c):=by obtain⟨n,h⟩:=h;exact⟨_,h.step hs⟩
def Lst(E:List Edge)(s v k:Nat):Prop:=Cst E s v k∧∀j,Cst E s v j→k≤j
theorem least{p:Nat→Prop}:(∃n,p n)→∃n,p n∧∀j,p j→n≤j:=fun⟨n,hn⟩=>by
 induction n using Nat.strongRecOn with
 |ind n ih=>
  by_cases h:∃j,j<n∧p j
  ·obtain⟨j,h1,h2⟩:=h;exact ih j h1 h2
  ·exact⟨n,hn,fun j hj=>Nat.le_of_not_lt fun hlt=>h ⟨j,hlt,hj⟩⟩
theorem Lst.ex{E:List Edge}{s v k:Nat}(h:Cst E s v k):∃j,Lst E s v j:=least ⟨k,h⟩
theorem Lst.eq{E:List Edge}{s v k j:Nat}(h1:Lst E s v k)(h2:Lst E s v j):k=j:=Nat.le_antisymm (h1.2 j h2.1) (h2.2 k h1.1)
def Lvl(E:List Edge)(s n v:Nat):Prop:=∃k,Lst E s v k∧Oa E s n v k
theorem Lvl.more{E:List Edge}{s n m v:Nat}(h:Lvl E s n v)(hm:n≤m):Lvl E s m v:=by obtain⟨k,h1,h2⟩:=h;exact⟨k,h1,h2.more hm⟩
theorem Lvl.prev{E:List Edge}{s n v:Nat}(h:Lvl E s (n+1) v):v=s∨∃u c k,Lvl E s n u∧Lst E s u k∧Stp E u v c∧Lst E s v (k+c):=by
 obtain⟨k,h1,h2⟩:=h
 rcases h2.cases' with⟨h,_⟩|⟨m,u,j,c,hm,hw,hs,rfl⟩
 ·exact .inl h
 ·cases hm
  have hl:Lst E s u j:=⟨⟨_,hw⟩,fun i hi=>by have:=h1.2 _ (hi.step hs);omega⟩
  exact .inr ⟨u,c,j,⟨j,hl,hw⟩,hl,hs,h1⟩
theorem Lvl.next{E:List Edge}{s n u v c k:Nat}(h:Lvl E s n u)(hu:Lst E s u k)(hs:Stp E u v c)(hv:Lst E s v (k+c)):Lvl E s (n+1) v:=by
 obtain⟨j,h1,h2⟩:=h
 cases h1.eq hu
 exact⟨_,hv,h2.step hs⟩
theorem Lst.src{E:List Edge}{s:Nat}:Lst E s s 0:=⟨⟨0,.nil 0⟩,fun j _=>aA3 j⟩
theorem Lvl.src{E:List Edge}{s:Nat}(n:Nat):Lvl E s n s:=⟨0,Lst.src,.nil n⟩
theorem Lvl.stable{E:List Edge}{s n:Nat}(h:∀v,Lvl E s (n+1) v→Lvl E s n v):∀m v,Lvl E s m v→Lvl E s n v
 |0,v,hv=>hv.more (aA3 n)
 |m+1,v,hv=>by
  rcases hv.prev with rfl|⟨u,c,k,h1,h2,h3,h4⟩
  ·exact Lvl.src n
  ·exact h v ((Lvl.stable h m u h1).next h2 h3 h4)
noncomputable def aD7(p:Nat→Prop):Nat→Nat
 |0=>0
 |N+1=>aD7 p N+(@ite Nat (p N) (Classical.propDecidable _) 1 0)
theorem aQ8(p:Nat→Prop):∀N,aD7 p N≤N
 |0=>ah1 0
 |N+1=>by
  have:=aQ8 p N
  unfold aD7
  split<;>omega
theorem aOP{p q:Nat→Prop}(h:∀v,p v→q v):∀N,aD7 p N≤aD7 q N
 |0=>ah1 0
 |N+1=>by
  have:=aOP h N
  unfold aD7
  split
  ·rename_i h1;rw[if_pos (h _ h1)];omega
  ·split<;>omega
theorem aQ1{p q:Nat→Prop}(h:∀v,p v→q v){v:Nat}(hq:q v)(hp:¬p v):∀{N:Nat},v<N→aD7 p N+1≤aD7 q N
 |0,hv=>by omega
 |N+1,hv=>by
  unfold aD7
  by_cases e:v=N
  ·subst e
   have:=aOP h v
   rw[if_neg hp,if_pos hq];omega
  ·have:=aQ1 h hq hp (N:=N) (by omega)
   split
   ·rename_i h1;rw[if_pos (h _ h1)];omega
   ·split<;>omega
theorem aTJ{p:Nat→Prop}{v:Nat}(hp:p v):∀{N:Nat},v<N→1≤aD7 p N
 |0,hv=>by omega
 |N+1,hv=>by
  unfold aD7
  by_cases e:v=N
  ·subst e;rw[if_pos hp];omega
  ·have:=aTJ hp (N:=N) (by omega);split<;>omega
theorem baY{E:List Edge}{s N:Nat}(hs:s<N)(hE:∀a b c,(a,b,c)∈E→a<N∧b<N):∀m v,Lvl E s m v→Lvl E s (N-1) v:=by
 have lt:∀m v,Lvl E s m v→v<N:=fun m=>by
  induction m with
  |zero=>
   intro v ⟨k,_,h⟩
   rcases h.cases' with⟨rfl,_⟩|⟨_,_,_,_,h,_⟩
   ·exact hs
   ·cases h
  |succ m ih=>
   intro v hv
   rcases hv.prev with rfl|⟨u,c,k,h1,h2,h3,h4⟩
   ·exact hs
   ·rcases h3 with h3|h3
    ·exact(hE _ _ _ h3).2
    ·exact(hE _ _ _ h3).1
 have grow:∀n,(∃k,k≤n∧∀v,Lvl E s (k+1) v→Lvl E s k v)∨n+1≤aD7 (Lvl E s n) N:=fun n=>by
  induction n with
  |zero=>exact .inr (aTJ (Lvl.src 0) hs)
  |succ n ih=>
   rcases ih with⟨k,h1,h2⟩|h
   ·exact .inl ⟨k,by omega,h2⟩
   ·by_cases e:∀v,Lvl E s (n+1) v→Lvl E s n v
    ·exact .inl ⟨n,by omega,e⟩
    ·obtain⟨v,hv⟩:=Classical.not_forall.1 e
     have h1:Lvl E s (n+1) v:=Classical.byContradiction fun h=>hv fun h'=>(h h').elim
     have h2:¬Lvl E s n v:=fun h=>hv fun _=>h
     have:=aQ1 (p:=Lvl E s n) (q:=Lvl E s (n+1)) (fun v h=>h.more (Nat.le_succ n)) h1 h2 (lt _ v h1)
     exact .inr (by omega)
 intro m v hv
 rcases grow N with⟨k,h1,h2⟩|h
 ·by_cases e:k≤N-1
  ·exact(Lvl.stable h2 m v hv).more e
  ·
   have hk:k=N:=by omega
   rcases grow (N-1)with⟨k',h1',h2'⟩|h'
   ·exact(Lvl.stable h2' m v hv).more h1'
   ·exact Classical.byContradiction fun hn=>by
     have:=aQ1 (p:=Lvl E s (N-1)) (q:=fun _=>True) (fun _ _=>trivial) trivial hn (lt _ v hv)
     have:=aQ8 (fun _=>True) N
     omega
 ·have:=aQ8 (Lvl E s N) N;omega
theorem Lst.lvl{E:List Edge}{s N v k:Nat}(hs:s<N)(hE:∀a b c,(a,b,c)∈E→a<N∧b<N)(h:Lst E s v k):Lvl E s (N-1) v:=by
 obtain⟨n,hw⟩:=h.1
 exact baY hs hE n v ⟨k,h,hw⟩
theorem Oa.le{E:List Edge}{s n v k:Nat}(hc:∀a b c,(a,b,c)∈E→c≤1)(h:Oa E s n v k):k≤n:=by
 induction h with
 |nil=>omega
 |fwd h he ih=>have:=hc _ _ _ he;omega
 |bwd h he ih=>have:=hc _ _ _ he;omega
theorem Lst.le{E:List Edge}{s N v k:Nat}(hs:s<N)(hE:∀a b c,(a,b,c)∈E→a<N∧b<N)(hc:∀a b c,(a,b,c)∈E→c≤1)(h:Lst E s v k):k≤N-1:=by
 obtain⟨j,h1,h2⟩:=h.lvl hs hE
 cases h1.eq h
 exact h2.le hc
def avW(E:List Edge)(s N far:Nat)(d:Nat→Nat):Prop:=∀v,v<N→(∀k,Lst E s v k→d v=k)∧((∀k,¬Cst E s v k)→d v=far)
theorem aYS{E:List Edge}{s N far:Nat}{d:Nat→Nat}(h0:d s=0)(hr:∀v,v<N→d v=far∨Cst E s v (d v))(hc:∀u v c,Stp E u v c→d v≤d u+c)(hf:∀v k,Lst E s v k→k<far):avW E s N far d:=fun v hv=>by
 have le:∀n v k,Oa E s n v k→d v≤k:=fun n v k h=>by
  induction h with
  |nil=>omega
  |fwd h he ih=>have:=hc _ _ _ (.inl he);omega
  |bwd h he ih=>have:=hc _ _ _ (.inr he);omega
 refine⟨fun k hk=>?_,fun h=>?_⟩
 ·obtain⟨n,hn⟩:=hk.1
  have h1:=le n v k hn
  rcases hr v hv with h|h
  ·have:=hf v k hk;omega
  ·have:=hk.2 _ h;omega
 ·rcases hr v hv with h1|h1
  ·exact h1
  ·exact(h _ h1).elim
def alC(d:List Nat)(e:Edge):List Nat:=(d.set e.2.1 (min (d.getD e.2.1 0) (d.getD e.1 0+e.2.2))).set e.1 (min (d.getD e.1 0) (d.getD e.2.1 0+e.2.2))
def a97(E:List Edge)(d:List Nat):List Nat:=E.foldl alC d
def abM(E:List Edge):Nat→List Nat→List Nat
 |0,d=>d
 |n+1,d=>abM E n (a97 E d)
theorem aAM(d:List Nat)(e:Edge):(alC d e).length=d.length:=by simp[alC]
theorem aOH:∀(E:List Edge) (d:List Nat),(E.foldl alC d).length=d.length
 | [],d=>rfl
 |e::E,d=>by rw[aHY,aOH E,aAM]
theorem a0I(E:List Edge)(d:List Nat):(a97 E d).length=d.length:=aOH E d
theorem aFC(E:List Edge):∀n d,(abM E n d).length=d.length
 |0,d=>rfl
 |n+1,d=>by rw[abM,aFC E n,a0I]
theorem aAN{d:List Nat}{i v x:Nat}(hi:i<d.length):(d.set i x).getD v 0=if i=v then x else d.getD v 0:=by
 simp only[aVP]
 by_cases h:i=v
 ·subst h;rw[aVO hi,if_pos rfl];rfl
 ·rw[aHX h,if_neg h]
theorem aL2{d:List Nat}{a b c:Nat}(ha:a<d.length)(hb:b<d.length)(hab:a≠b)(v:Nat):(alC d (a,b,c)).getD v 0=if v=a then min (d.getD a 0) (d.getD b 0+c)else if v=b then min (d.getD b 0) (d.getD a 0+c)else d.getD v 0:=by
 unfold alC
 rw[aAN (by simpa using ha),aAN hb]
 by_cases h1:v=a
 ·subst h1;simp
 ·rw[if_neg (fun e=>h1 e.symm),if_neg h1]
  by_cases h2:v=b
  ·subst h2;simp
  ·rw[if_neg (fun e=>h2 e.symm),if_neg h2]
structure aFN(E:List Edge)(s N far:Nat)(d:List Nat):Prop where
 len:d.length=N
 src:d.getD s 0=0
 real:∀v,v<N→d.getD v 0=far∨Cst E s v (d.getD v 0)
 le:∀v,v<N→d.getD v 0≤far
theorem aFN.one{E:List Edge}{s N far:Nat}{d:List Nat}(I:aFN E s N far d){a b c:Nat}(he:(a,b,c)∈E)(ha:a<N)(hb:b<N)(hab:a≠b):aFN E s N far (alC d (a,b,c)):=by
 have hl:=I.len
 have at_:=fun v=>aL2 (d:=d) (c:=c) (by omega) (by omega) hab v
 have mn:∀u v,u<N→v<N→Stp E u v c→(min (d.getD v 0) (d.getD u 0+c)=far∨Cst E s v (min (d.getD v 0) (d.getD u 0+c))):=fun u v hu hv hs=>by
  have h1:=I.le v hv
  rcases Nat.le_total (d.getD v 0) (d.getD u 0+c)with h|h
  ·rw[Nat.min_eq_left h];exact I.real v hv
  ·rw[Nat.min_eq_right h]
   rcases I.real u hu with hh|hh
   ·left;omega
   ·exact .inr (hh.step hs)
 refine⟨by rw[aAM,hl],?_,fun v hv=>?_,fun v hv=>?_⟩
 ·rw[at_]
  have:=I.src
  split
  ·rename_i h;subst h;rw[this];simp
  ·split
   ·rename_i h;subst h;rw[this];simp
   ·exact this
 ·rw[at_]
  split
  ·rename_i h;subst h;exact mn b v hb hv (.inr he)
  ·split
   ·rename_i h;subst h;exact mn a v ha hv (.inl he)
   ·exact I.real v hv
 ·rw[at_]
  split
  ·rename_i h;subst h;have:=I.le v hv;omega
  ·split
   ·rename_i h;subst h;have:=I.le v hv;omega
   ·exact I.le v hv
def EOk(E:List Edge)(N:Nat):Prop:=∀a b c,(a,b,c)∈E→a<N∧b<N∧a≠b∧c≤1
theorem aS9{d:List Nat}{a b c:Nat}(ha:a<d.length)(hb:b<d.length)(hab:a≠b)(v:Nat):(alC d (a,b,c)).getD v 0≤d.getD v 0:=by
 rw[aL2 ha hb hab]
 split
 ·rename_i h;subst h;omega
 ·split
  ·rename_i h;subst h;omega
  ·exact ah1 _
theorem aLP:∀{L:List Edge} {d:List Nat} {N:Nat},d.length=N→EOk L N→∀v,(L.foldl alC d).getD v 0≤d.getD v 0
 | [],d,N,_,_,v=>ah1 _
 |(a,b,c)::L,d,N,hl,hE,v=>by
  have h:=hE a b c (agI ..)
  have h1:=aLP (L:=L) (d:=alC d (a,b,c)) (by rw[aAM,hl]) (fun a b c hm=>hE a b c (af5 _ hm)) v
  have h2:=aS9 (d:=d) (c:=c) (by omega) (by omega) h.2.2.1 v
  rw[aHY];omega
theorem aSK{E:List Edge}{s N far:Nat}:∀{L:List Edge} {d:List Nat},(∀e∈L,e∈E)→EOk E N→aFN E s N far d→aFN E s N far (L.foldl alC d)
 | [],d,_,_,I=>I
 |(a,b,c)::L,d,hs,hE,I=>by
  have he:=hs _ (agI ..)
  have h:=hE a b c he
  rw[aHY]
  exact aSK (L:=L) (fun e hm=>hs e (af5 _ hm)) hE (I.one he h.1 h.2.1 h.2.2.1)
theorem aET{N:Nat}:∀{L:List Edge} {d:List Nat},d.length=N→EOk L N→∀{u v c k:Nat},(u,v,c)∈L∨(v,u,c)∈L→d.getD u 0≤k→(L.foldl alC d).getD v 0≤k+c
 | [],d,_,_,u,v,c,k,h,_=>by rcases h with h|h<;>cases h
 |(a,b,e)::L,d,hl,hE,u,v,c,k,h,hk=>by
  have q:=hE a b e (agI ..)
  have hE':EOk L N:=fun a b c hm=>hE a b c (af5 _ hm)
  have hl':(alC d (a,b,e)).length=N:=by rw[aAM,hl]
  have key:(u=a∧v=b∧c=e)∨(u=b∧v=a∧c=e)∨((u,v,c)∈L∨(v,u,c)∈L):=by
   rcases h with h|h
   ·rcases aoS.1 h with h|h
    ·cases h;exact .inl ⟨rfl,rfl,rfl⟩
    ·exact .inr (.inr (.inl h))
   ·rcases aoS.1 h with h|h
    ·cases h;exact .inr (.inl ⟨rfl,rfl,rfl⟩)
    ·exact .inr (.inr (.inr h))
  rw[aHY]
  have at_:=fun v=>aL2 (d:=d) (c:=e) (by omega) (by omega) q.2.2.1 v
  rcases key with⟨rfl,rfl,rfl⟩|⟨rfl,rfl,rfl⟩|h
  ·have h1:=aLP hl' hE' v
   rw[at_ v,if_neg (fun e=>q.2.2.1 e.symm),if_pos rfl]at h1
   omega
  ·have h1:=aLP hl' hE' v
   rw[at_ v,if_pos rfl]at h1
   omega
  ·have h2:=aS9 (d:=d) (c:=e) (by omega) (by omega) q.2.2.1 u
   exact aET hl' hE' h (by omega)
theorem aF9{E:List Edge}{s N far:Nat}(hE:EOk E N):∀(n:Nat) {d:List Nat},aFN E s N far d→aFN E s N far (abM E n d)
 |0,d,I=>I
 |n+1,d,I=>aF9 hE n (aSK (fun _ h=>h) hE I)
theorem aBK(E:List Edge):∀(n:Nat) (d:List Nat),abM E (n+1) d=a97 E (abM E n d)
 |0,d=>rfl
 |n+1,d=>by rw[abM,aBK E n];rfl
theorem aNG{E:List Edge}{s N far:Nat}(hE:EOk E N){d:List Nat}(I:aFN E s N far d):∀(n:Nat) {v k:Nat},Lvl E s n v→Lst E s v k→(abM E n d).getD v 0≤k
 |0,v,k,⟨j,h1,h2⟩,hk=>by
  rcases h2.cases' with⟨rfl,rfl⟩|⟨_,_,_,_,h,_⟩
  ·rw[abM,I.src];exact aA3 _
  ·cases h
 |n+1,v,k,hv,hk=>by
  rw[aBK]
  have J:=aF9 hE n I
  rcases hv.prev with rfl|⟨u,c,j,h1,h2,h3,h4⟩
  ·have K:=aF9 hE (n+1) I
   rw[aBK]at K
   rw[K.src];exact aA3 _
  ·cases h4.eq hk
   exact aET J.len hE h3 (aNG hE I n h1 h2)
theorem aQT{E:List Edge}{s N far:Nat}(hs:s<N)(hE:EOk E N)(hf:N≤far){d:List Nat}(I:aFN E s N far d){n:Nat}(hn:N-1≤n):avW E s N far (fun v=>(abM E n d).getD v 0):=fun v hv=>by
 have J:=aF9 hE n I
 have hE1:∀a b c,(a,b,c)∈E→a<N∧b<N:=fun a b c h=>⟨(hE a b c h).1,(hE a b c h).2.1⟩
 have hE2:∀a b c,(a,b,c)∈E→c≤1:=fun a b c h=>(hE a b c h).2.2.2
 refine⟨fun k hk=>?_,fun h=>?_⟩
 ·have h1:=aNG hE I n ((hk.lvl hs hE1).more hn) hk
  have h2:=hk.le hs hE1 hE2
  rcases J.real v hv with h|h
  ·simp only[h]at h1 ⊢;omega
  ·have:=hk.2 _ h;simp only;omega
 ·rcases J.real v hv with h1|h1
  ·exact h1
  ·exact(h _ h1).elim
end Net
end Go.Ev
namespace Go.Ev
namespace Net
structure DqI(E:List Edge)(s N far:Nat)(d q:List Nat)(X:Nat→Nat→Nat→Prop):Prop where
 i:aFN E s N far d
 w:∀r∈q,r<N
 tr:∀u v c,Stp E u v c→u∈q∨X u v c∨d.getD v 0≤d.getD u 0+c
def ahX(E:List Edge)(r i u v c:Nat):Prop:=u=r∧∃j,i≤j∧(E[j]?=some (r,v,c)∨E[j]?=some (v,r,c))
theorem DqI.take{E:List Edge}{s N far:Nat}{d q:List Nat}{r:Nat}(I:DqI E s N far d (r::q) (fun _ _ _=>False)):r<N∧DqI E s N far d q (ahX E r 0):=by
 refine⟨I.w r (agI ..),I.i,fun u hu=>I.w u (af5 _ hu),fun u v c h=>?_⟩
 rcases I.tr u v c h with h1|h1|h1
 ·rcases aoS.1 h1 with rfl|h1
  ·right;left
   refine⟨rfl,?_⟩
   rcases h with h|h
   ·obtain⟨j,hj⟩:=aNO h;exact⟨j,aA3 j,.inl hj⟩
   ·obtain⟨j,hj⟩:=aNO h;exact⟨j,aA3 j,.inr hj⟩
  ·exact .inl h1
 ·exact h1.elim
 ·exact .inr (.inr h1)
theorem ahX.next{E:List Edge}{r i u v c:Nat}(h:ahX E r i u v c):ahX E r (i+1) u v c∨(u=r∧(E[i]?=some (r,v,c)∨E[i]?=some (v,r,c))):=by
 obtain⟨h1,j,h2,h3⟩:=h
 by_cases e:i=j
 ·subst e;exact .inr ⟨h1,h3⟩
 ·exact .inl ⟨h1,j,by omega,h3⟩
theorem DqI.skip{E:List Edge}{s N far:Nat}{d q:List Nat}{r i a b c:Nat}(I:DqI E s N far d q (ahX E r i))(hi:E[i]?=some (a,b,c))(ha:r≠a)(hb:r≠b):DqI E s N far d q (ahX E r (i+1)):=by
 refine⟨I.i,I.w,fun u v c' h=>?_⟩
 rcases I.tr u v c' h with h1|h1|h1
 ·exact .inl h1
 ·rcases h1.next with h1|⟨_,h2|h2⟩
  ·exact .inr (.inl h1)
  ·rw[hi]at h2;cases h2;exact(ha rfl).elim
  ·rw[hi]at h2;cases h2;exact(hb rfl).elim
 ·exact .inr (.inr h1)
theorem DqI.same{E:List Edge}{s N far:Nat}{d q:List Nat}{r i t c:Nat}(I:DqI E s N far d q (ahX E r i))(hi:E[i]?=some (r,t,c)∨E[i]?=some (t,r,c))(hn:d.getD t 0≤d.getD r 0+c):DqI E s N far d q (ahX E r (i+1)):=by
 refine⟨I.i,I.w,fun u v c' h=>?_⟩
 rcases I.tr u v c' h with h1|h1|h1
 ·exact .inl h1
 ·rcases h1.next with h1|⟨rfl,h2⟩
  ·exact .inr (.inl h1)
  ·right;right
   rcases hi with h3|h3<;>rcases h2 with h2|h2<;>(rw[h3]at h2;cases h2;exact hn)
 ·exact .inr (.inr h1)
theorem DqI.less{E:List Edge}{s N far:Nat}{d q q':List Nat}{r i t c:Nat}(I:DqI E s N far d q (ahX E r i))(hr:r<N)(ht:t<N)(hrt:r≠t)(hi:E[i]?=some (r,t,c)∨E[i]?=some (t,r,c))(hn:d.getD r 0+c<d.getD t 0)(hq:∀x,x∈q'↔x=t∨x∈q):DqI E s N far (d.set t (d.getD r 0+c)) q' (ahX E r (i+1)):=by
 have hl:=I.i.len
 have at_:=fun v=>aAN (d:=d) (v:=v) (x:=d.getD r 0+c) (show t<d.length by omega)
 have hst:Stp E r t c:=hi.elim (fun h=>.inl (aFV h)) (fun h=>.inr (aFV h))
 have hfar:=I.i.le t ht
 have le:∀v,(d.set t (d.getD r 0+c)).getD v 0≤d.getD v 0:=fun v=>by
  rw[at_];split
  ·rename_i h;subst h;omega
  ·exact ah1 _
 refine⟨⟨by simpa using hl,?_,fun v hv=>?_,fun v hv=>?_⟩,fun x hx=>?_,fun u v c' h=>?_⟩
 ·rw[at_];split
  ·rename_i h;subst h;have:=I.i.src;omega
  ·exact I.i.src
 ·rw[at_];split
  ·rename_i h;subst h
   rcases I.i.real r hr with h|h
   ·omega
   ·exact .inr (h.step hst)
  ·exact I.i.real v hv
 ·have:=le v;have:=I.i.le v hv;omega
 ·rcases(hq x).1 hx with rfl|h
  ·exact ht
  ·exact I.w x h
 ·by_cases hu:u=t
  ·exact .inl ((hq u).2 (.inl hu))
  ·have hdu:(d.set t (d.getD r 0+c)).getD u 0=d.getD u 0:=by rw[at_,if_neg (fun e=>hu e.symm)]
   rcases I.tr u v c' h with h1|h1|h1
   ·exact .inl ((hq u).2 (.inr h1))
   ·rcases h1.next with h1|⟨rfl,h2⟩
    ·exact .inr (.inl h1)
    ·right;right
     have hvt:v=t∧c'=c:=by
      rcases hi with h3|h3<;>rcases h2 with h2|h2<;>(rw[h3]at h2;cases h2;first|exact⟨rfl,rfl⟩|exact(hrt rfl).elim)
     obtain⟨rfl,rfl⟩:=hvt
     rw[hdu,at_,if_pos rfl]
     exact ah1 _
   ·right;right
    have:=le v
    rw[hdu];omega
theorem ahX.none{E:List Edge}{r i u v c:Nat}(hi:E.length≤i):¬ahX E r i u v c:=fun⟨_,j,h1,h2⟩=>by
 rw[List.getElem?_eq_none (by omega)]at h2
 rcases h2 with h2|h2<;>cases h2
theorem DqI.done{E:List Edge}{s N far:Nat}{d q:List Nat}{r i:Nat}(I:DqI E s N far d q (ahX E r i))(hi:E.length≤i):DqI E s N far d q (fun _ _ _=>False):=
 ⟨I.i,I.w,fun u v c h=>(I.tr u v c h).imp id fun h=>h.elim (fun h=>(ahX.none hi h).elim) .inr⟩
theorem a9G{d:List Nat}:∀{t x:Nat},t<d.length→(d.set t x).sum+d.getD t 0=d.sum+x:=by
 induction d with
 |nil=>intro t x h;simp at h
 |cons a d ih=>
  intro t x h
  cases t with
  |zero=>simp;omega
  |succ t=>
   have:=ih (t:=t) (x:=x) (by simpa using h)
   simp only[aPZ,List.sum_cons,List.getD_cons_succ]
   omega
theorem aAK{d:List Nat}{t x:Nat}(ht:t<d.length)(hx:x<d.getD t 0):(d.set t x).sum<d.sum:=by
 have:=a9G (d:=d) (x:=x) ht
 omega
theorem DqI.right{E:List Edge}{s N far:Nat}{d:List Nat}(hs:s<N)(hE:EOk E N)(hf:N≤far)(I:DqI E s N far d [] (fun _ _ _=>False)):avW E s N far (fun v=>d.getD v 0):=by
 refine aYS I.i.src I.i.real (fun u v c h=>?_) fun v k hk=>?_
 ·rcases I.tr u v c h with h1|h1|h1
  ·cases h1
  ·exact h1.elim
  ·exact h1
 ·have:=hk.le hs (fun a b c h=>⟨(hE a b c h).1,(hE a b c h).2.1⟩) (fun a b c h=>(hE a b c h).2.2.2)
  omega
theorem avW.num{E:List Edge}{s N far far':Nat}{d d':Nat→Nat}(h:avW E s N far d)(h':avW E s N far' d')(hf:N≤far)(hf':N≤far')(hs:s<N)(hE:EOk E N){v:Nat}(hv:v<N):(d v=far↔d' v=far')∧(d v≠far→d v=d' v)∧(d v≠far→d v<N):=by
 have hE1:∀a b c,(a,b,c)∈E→a<N∧b<N:=fun a b c h=>⟨(hE a b c h).1,(hE a b c h).2.1⟩
 have hE2:∀a b c,(a,b,c)∈E→c≤1:=fun a b c h=>(hE a b c h).2.2.2
 by_cases e:∃k,Cst E s v k
 ·obtain⟨k,hk⟩:=e
  obtain⟨j,hj⟩:=Lst.ex hk
  have h1:=(h v hv).1 j hj
  have h2:=(h' v hv).1 j hj
  have h3:=hj.le hs hE1 hE2
  rw[h1,h2]
  exact⟨⟨fun e=>by omega,fun e=>by omega⟩,fun _=>rfl,fun _=>by omega⟩
 ·have hn:∀k,¬Cst E s v k:=fun k hk=>e ⟨k,hk⟩
  have h1:=(h v hv).2 hn
  have h2:=(h' v hv).2 hn
  rw[h1,h2]
  exact⟨⟨fun _=>rfl,fun _=>rfl⟩,fun h=>(h rfl).elim,fun h=>(h rfl).elim⟩
end Net
end Go.Ev
namespace Go.Ev
namespace Net
def Fq(N s far:Nat):List Nat:=(aJQ N far).set s 0
theorem aEF{N s far v:Nat}(hs:s<N)(hv:v<N):(Fq N s far).getD v 0=if s=v then 0 else far:=by
 unfold Fq
 rw[aAN (by simpa using hs)]
 split
 ·rfl
 ·simp[aVP,hv]
theorem aLH{E:List Edge}{N s far:Nat}(hs:s<N):aFN E s N far (Fq N s far):=by
 refine⟨by simp[Fq],by rw[aEF hs hs,if_pos rfl],fun v hv=>?_,fun v hv=>?_⟩
 ·rw[aEF hs hv]
  split
  ·rename_i h;subst h;exact .inr ⟨0,.nil 0⟩
  ·exact .inl rfl
 ·rw[aEF hs hv];split<;>omega
theorem baB{E:List Edge}{N s far:Nat}(hs:s<N)(hE:EOk E N):DqI E s N far (Fq N s far) [s] (fun _ _ _=>False):=by
 refine⟨aLH hs,fun r hr=>by simp at hr;omega,fun u v c h=>?_⟩
 have hb:u<N∧v<N:=h.elim (fun h=>⟨(hE _ _ _ h).1,(hE _ _ _ h).2.1⟩) (fun h=>⟨(hE _ _ _ h).2.1,(hE _ _ _ h).1⟩)
 by_cases e:u=s
 ·exact .inl (by simp[e])
 ·right;right
  rw[aEF hs hb.1,if_neg (fun h=>e h.symm)]
  have:=(aLH (E:=E) (far:=far) hs).le v hb.2
  omega
def aD6(E:List Edge)(N len:Nat):Nat:=if 1000≤(abM E N (Fq N 0 1000)).getD 1 0 then len+1 else(abM E N (Fq N 0 1000)).getD 1 0
theorem azN{E:List Edge}{N:Nat}(hN:2≤N)(hN2:N≤1000)(hE:EOk E N):avW E 0 N 1000 (fun v=>(abM E N (Fq N 0 1000)).getD v 0):=
 aQT (by omega) hE hN2 (aLH (by omega)) (by omega)
theorem bfE{E:List Edge}{N far len:Nat}(hN:2≤N)(hN2:N≤1000)(hf:N≤far)(hE:EOk E N){d:Nat→Nat}(h:avW E 0 N far d):(if d 1=far then len+1 else d 1)=aD6 E N len:=by
 obtain⟨h1,h2,h3⟩:=avW.num (azN hN hN2 hE) h hN2 hf (by omega) hE (v:=1) (by omega)
 unfold aD6
 by_cases e:(abM E N (Fq N 0 1000)).getD 1 0=1000
 ·rw[if_pos (h1.1 e),if_pos (by rw[e];exact ah1 _)]
 ·have:=h3 e
  rw[if_neg (fun h=>e (h1.2 h)),if_neg (by omega)]
  exact(h2 e).symm
end Net
end Go.Ev
namespace Go.Ev
namespace Net
end Net
end Go.Ev
namespace Go.Ev
namespace Net
theorem EOk.ends{E:List Edge}{N:Nat}(h:EOk E N):∀a b c,(a,b,c)∈E→a<N∧b<N:=fun a b c e=>⟨(h a b c e).1,(h a b c e).2.1⟩
theorem EOk.one{E:List Edge}{N:Nat}(h:EOk E N):∀a b c,(a,b,c)∈E→c≤1:=fun a b c e=>(h a b c e).2.2.2
theorem aSS{E:List Edge}{N len k:Nat}(hN:2≤N)(hN2:N≤1000)(hE:EOk E N)(h:Lst E 0 1 k):aD6 E N len=k∧k<N:=by
 have h1:=(azN hN hN2 hE 1 (by omega)).1 k h
 have h2:=h.le (s:=0) (by omega) hE.ends hE.one
 simp only at h1
 unfold aD6
 rw[h1,if_neg (by omega)]
 exact⟨rfl,by omega⟩
theorem aT5{E:List Edge}{N len:Nat}(hN:2≤N)(hN2:N≤1000)(hE:EOk E N)(h:∀k,¬Cst E 0 1 k):aD6 E N len=len+1:=by
 have h1:=(azN hN hN2 hE 1 (by omega)).2 h
 simp only at h1
 unfold aD6
 rw[h1,if_pos (ah1 _)]
def Tgh(E E':List Edge):Prop:=∀a b c',(a,b,c')∈E'→∃c,(a,b,c)∈E∧c≤c'
theorem Oa.tgh{E E':List Edge}(h:Tgh E E'){s n v k:Nat}(hw:Oa E' s n v k):∃k',k'≤k∧Oa E s n v k':=by
 induction hw with
 |nil n=>exact⟨0,ah1 _,.nil n⟩
 |fwd _ he ih=>
  obtain⟨k',h1,h2⟩:=ih
  obtain⟨c,h3,h4⟩:=h _ _ _ he
  exact⟨k'+c,by omega,.fwd h2 h3⟩
 |bwd _ he ih=>
  obtain⟨k',h1,h2⟩:=ih
  obtain⟨c,h3,h4⟩:=h _ _ _ he
  exact⟨k'+c,by omega,.bwd h2 h3⟩
def aF5(E E':List Edge):Prop:=∀a b c,(a,b,c)∈E→∃c',(a,b,c')∈E'
theorem Oa.ends{E E':List Edge}(h:aF5 E E'){s n v k:Nat}(hw:Oa E s n v k):∃k',Oa E' s n v k':=by
 induction hw with
 |nil n=>exact⟨0,.nil n⟩
 |fwd _ he ih=>
  obtain⟨k',h2⟩:=ih
  obtain⟨c,h3⟩:=h _ _ _ he
  exact⟨k'+c,.fwd h2 h3⟩
 |bwd _ he ih=>
  obtain⟨k',h2⟩:=ih
  obtain⟨c,h3⟩:=h _ _ _ he
  exact⟨k'+c,.bwd h2 h3⟩
theorem a02{E E':List Edge}{N len:Nat}(hN:2≤N)(hN2:N≤1000)(hE:EOk E N)(hE':EOk E' N)(h:Tgh E E')(he:aF5 E E'):aD6 E N len≤aD6 E' N len:=by
 by_cases hp:∃k,Cst E' 0 1 k
 ·obtain⟨k,hk⟩:=hp
  obtain⟨j,hj⟩:=Lst.ex hk
  obtain⟨n,hn⟩:=hj.1
  obtain⟨i,hi,hw⟩:=hn.tgh h
  obtain⟨m,hm⟩:=Lst.ex (E:=E) ⟨n,hw⟩
  rw[(aSS hN hN2 hE hm).1,(aSS hN hN2 hE' hj).1]
  exact Nat.le_trans (hm.2 i ⟨n,hw⟩) hi
 ·have h1:∀k,¬Cst E' 0 1 k:=fun k hk=>hp ⟨k,hk⟩
  have h2:∀k,¬Cst E 0 1 k:=fun k ⟨n,hk⟩=>by
   obtain⟨k',hk'⟩:=hk.ends he
   exact h1 k' ⟨n,hk'⟩
  rw[aT5 hN hN2 hE h2,aT5 hN hN2 hE' h1]
  exact ah1 _
end Net
end Go.Ev
namespace Go.Ev
namespace Net
end Net
end Go.Ev
namespace Go.Ev
namespace Net
end Net
end Go.Ev
