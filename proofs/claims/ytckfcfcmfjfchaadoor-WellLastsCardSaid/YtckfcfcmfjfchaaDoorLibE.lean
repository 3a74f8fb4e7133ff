/- The evaluator and its soundness. -/
import Derived.Test.YtckfcfcmfjfchaaDoorLibD
import Derived.Sort.Grow
open And renaming intro→acD
open Eq renaming trans→akZ
open Option renaming map_eq_some_iff→ak3,bind_eq_some_iff→alE,bind_some→amE,map_some→an3,some→ao2,getD_some→atM
open List renaming mem_cons_of_mem→am5,mem_cons_self→am7,mem_cons→anO,getElem?_eq_some_iff→aoC,mem_of_getElem?→aoU,mem_append_left→ao5,mem_append_right→apG,getElem?_eq_getElem→apH,nodup_cons→aqD,mem_append→aq4,getElem?_append_left→arT,all_eq_true→arZ,nil_append→ar1,getElem?_set_ne→asB,mem_map→asY,getElem?_of_mem→asZ,pairwise_cons→au2,replicate→au4,range→au9,length_cons→awA,append_nil→axG,getElem?_set_self→ayF,foldl_cons→ayH,range_zero→aAF,getElem?_nil→aAI,cons_append→aB8,getElem?_append_right→aCX,prefix_refl→aDB,mem_of_mem_erase→aDY,length_erase_of_mem→aD9,getElem?_eq_none_iff→aEA,getD_eq_getElem?_getD→aED,getElem?_map→aFG
open Nat renaming le_refl→an2,zero_le→aoD,zero_add→arY,add_zero→as0,le_of_not_lt→ayG,add_assoc→ayW
open Bool renaming and_eq_true→au5
set_option linter.unusedSimpArgs false
set_option linter.unusedVariables false
namespace Go.Ev
noncomputable section
open Go.RowKit
theorem aLI(b:Nat):place [] b=(0,[b]):=akZ rfl rfl
theorem aIH(a b:Nat)(m:List Nat):place (a::m) b=if a=b then(0,a::m)else((place m b).1+1,a::(place m b).2):=by
 unfold place
 rw[List.idxOf?_cons]
 by_cases h:a=b
 ·simp[h]
 ·simp only[h,if_false,beq_iff_eq]
  cases List.idxOf? b m<;>simp
section
variable {P:Program} {O:Orc}
theorem aUT(d:Nat)(m:List Nat)(b:Bool):ak1 (d+1) m (.bool b)=some (.bool b,m):=akZ rfl rfl
theorem aXW(d:Nat)(m:List Nat)(k:IntKind)(n:Int):ak1 (d+1) m (.int k n)=some (.int k n,m):=akZ rfl rfl
theorem aWZ(d:Nat)(m:List Nat)(n:Nat)(fl nn:Bool)(rows:List (List AV)):ak1 (d+1) m (slv n fl nn rows)=some (slv n fl nn rows,m):=ap5 m (aq2 d n fl nn rows)
theorem aX2(d:Nat)(m:List Nat)(b r o:Nat):ak1 (d+1) m (.ptr b r o)=some (.ptr (place m b).1 r o,(place m b).2):=akZ rfl rfl
theorem aYX(d:Nat)(m:List Nat)(st b r len:Nat):ak1 (d+1) m (.slr st b r len)=some (.slr st (place m b).1 r len,(place m b).2):=akZ rfl rfl
def rfA(x:Option (List AV × List Nat)):Option (AV × List Nat):=x.map fun(cs,m)=>(.agg cs,m)
def rfT(x:Option (List AV × List Nat)):Option (AV × List Nat):=x.map fun(cs,m)=>(.tup cs,m)
theorem aPX(cs:List AV)(m:List Nat):rfA (some (cs,m))=some (.agg cs,m):=akZ rfl rfl
theorem aPL(cs:List AV)(m:List Nat):rfT (some (cs,m))=some (.tup cs,m):=akZ rfl rfl
theorem aW3(d:Nat)(m:List Nat)(cs:List AV):ak1 (d+1) m (.agg cs)=rfA (ak1.refL (ak1 d) m cs):=akZ rfl rfl
theorem aWL(d:Nat)(m:List Nat)(cs:List AV):ak1 (d+1) m (.tup cs)=rfT (ak1.refL (ak1 d) m cs):=akZ rfl rfl
def rfG(fn:Fn)(a:List AV)(x:Option (List AV × List Nat)):Option (AV × List Nat):=x.map fun(b,m)=>(.func fn a b,m)
def rfF(fn:Fn)(d:Nat)(b:List AV)(x:Option (List AV × List Nat)):Option (AV × List Nat):=x.bind fun(a,m)=>rfG fn a (ak1.refL (ak1 d) m b)
theorem aPR(fn:Fn)(a b:List AV)(m:List Nat):rfG fn a (some (b,m))=some (.func fn a b,m):=akZ rfl rfl
theorem aQC(fn:Fn)(d:Nat)(a b:List AV)(m:List Nat):rfF fn d b (some (a,m))=rfG fn a (ak1.refL (ak1 d) m b):=akZ rfl rfl
theorem aUK(d:Nat)(m:List Nat)(fn:Fn)(a b:List AV):ak1 (d+1) m (.func fn a b)=rfF fn d b (ak1.refL (ak1 d) m a):=akZ rfl rfl
def rfD(v:AV)(x:Option (List AV × List Nat)):Option (List AV × List Nat):=x.map fun(vs,m)=>(v::vs,m)
def rfC(f:List Nat→AV→Option (AV × List Nat))(vs:List AV)(x:Option (AV × List Nat)):Option (List AV × List Nat):=x.bind fun(v,m)=>rfD v (ak1.refL f m vs)
theorem aN7(v:AV)(vs:List AV)(m:List Nat):rfD v (some (vs,m))=some (v::vs,m):=akZ rfl rfl
theorem aMX(f:List Nat→AV→Option (AV × List Nat))(vs:List AV)(v:AV)(m:List Nat):rfC f vs (some (v,m))=rfD v (ak1.refL f m vs):=akZ rfl rfl
theorem aSP(f:List Nat→AV→Option (AV × List Nat))(m:List Nat):ak1.refL f m []=some ([],m):=akZ rfl rfl
theorem aQ4(f:List Nat→AV→Option (AV × List Nat))(m:List Nat)(v:AV)(vs:List AV):ak1.refL f m (v::vs)=rfC f vs (f m v):=akZ rfl rfl
def rrD(cs:List AV)(x:Option (List (List AV) × List Nat)):Option (List (List AV) × List Nat):=x.map fun(rs,m)=>(cs::rs,m)
def rrC(rs:List (List AV))(x:Option (List AV × List Nat)):Option (List (List AV) × List Nat):=x.bind fun(cs,m)=>rrD cs (apR m rs)
theorem aO4(cs:List AV)(rs:List (List AV))(m:List Nat):rrD cs (some (rs,m))=some (cs::rs,m):=akZ rfl rfl
theorem aPJ(rs:List (List AV))(cs:List AV)(m:List Nat):rrC rs (some (cs,m))=rrD cs (apR m rs):=akZ rfl rfl
theorem aVZ(m:List Nat):apR m []=some ([],m):=akZ rfl rfl
theorem aR4(m:List Nat)(cs:List AV)(rs:List (List AV)):apR m (cs::rs)=rrC rs (ak1.refL (ak1 8) m cs):=akZ rfl rfl
def rbV(st:Nat)(w:Bool)(x:Option (List (List AV) × List Nat)):Option (CB × List Nat):=x.map fun(rows,m)=>(.live st false w rows,m)
theorem aQF(st:Nat)(w:Bool)(rows:List (List AV))(m:List Nat):rbV st w (some (rows,m))=some (.live st false w rows,m):=akZ rfl rfl
theorem a1P(m:List Nat)(st:Nat)(w:Bool)(rows:List (List AV)):awV m (.live st true w rows)=some (.live st true w rows,m):=akZ rfl rfl
theorem a1R(m:List Nat)(st:Nat)(w:Bool)(rows:List (List AV)):awV m (.live st false w rows)=rbV st w (apR m rows):=akZ rfl rfl
def pcE(c:CB)(x:Option (List CB × List Nat)):Option (List CB × List Nat):=x.map fun(cs,m)=>(c::cs,m)
def pcR(n:Nat)(h:qR)(i:Nat)(x:Option (CB × List Nat)):Option (List CB × List Nat):=x.bind fun(c,m)=>pcE c (apV n (hf h) (i+1) m)
def pcB(n:Nat)(h:qR)(i:Nat)(m:List Nat)(x:Option CB):Option (List CB × List Nat):=x.bind fun c=>pcR n h i (awV m c)
def pcK(n:Nat)(h:qR)(i:Nat)(m:List Nat)(x:Option Nat):Option (List CB × List Nat):=
 match x with
 |none=>some ([],m)
 |some b=>pcB n h i m (h[b]?)
theorem aQH(c:CB)(cs:List CB)(m:List Nat):pcE c (some (cs,m))=some (c::cs,m):=akZ rfl rfl
theorem aP2(n:Nat)(h:qR)(i:Nat)(c:CB)(m:List Nat):pcR n h i (some (c,m))=pcE c (apV n (hf h) (i+1) m):=akZ rfl rfl
theorem aP9(n:Nat)(h:qR)(i:Nat)(m:List Nat)(c:CB):pcB n h i m (some c)=pcR n h i (awV m c):=akZ rfl rfl
theorem aOS(n:Nat)(h:qR)(i:Nat)(m:List Nat):pcK n h i m none=some ([],m):=akZ rfl rfl
theorem aOL(n:Nat)(h:qR)(i:Nat)(m:List Nat)(b:Nat):pcK n h i m (some b)=pcB n h i m (h[b]?):=akZ rfl rfl
theorem aZT(n:Nat)(h:qR)(i:Nat)(m:List Nat):apV (n+1) (hf h) i m=pcK n h i m (m[i]?):=by
 unfold apV pcK
 cases m[i]?<;>rfl
def pkB(vs:List AV)(x:Option (List CB × List Nat)):Option (List AV × List CB × List Nat):=x.map fun(cs,m)=>(vs,cs,m)
def pkA(h:qR)(x:Option (List AV × List Nat)):Option (List AV × List CB × List Nat):=x.bind fun(vs,m)=>pkB vs (apV 5000 (hf h) 0 m)
theorem aOI(vs:List AV)(cs:List CB)(m:List Nat):pkB vs (some (cs,m))=some (vs,cs,m):=akZ rfl rfl
theorem aM4(h:qR)(vs:List AV)(m:List Nat):pkA h (some (vs,m))=pkB vs (apV 5000 (hf h) 0 m):=akZ rfl rfl
theorem a0Q(h:qR)(m:List Nat)(vs:List AV):aqG (hf h) m vs=pkA h (ak1.refL (ak1 8) m vs):=akZ rfl rfl
def upK(h:qR)(lent:List Nat)(v:Option AV)(ps ns:Option (List ab8))(o:AV→Out):OE:=v.bind fun v=>ps.bind fun ps=>ns.bind fun ns=>
 some (o v,(if lent.isEmpty|| !(hasImm 8 v||(ps++ns).any ab8.hasImm)then []else alC (hf h) lent)++ps++ns)
def crU(h:qR)(base:Nat)(lent m:List Nat)(cs:List CB)(x:Option (Out × qR)):OE:=
 match x with
 |some (.ret v,h')=>upK h lent (ajS 8 (an5 m base) v) (aoM (an5 m base) m cs (h'.take m.length)) (apJ (an5 m base) base (h'.drop m.length)) .ret
 |some (.pan v,h')=>upK h lent (ajS 8 (an5 m base) v) (aoM (an5 m base) m cs (h'.take m.length)) (apJ (an5 m base) base (h'.drop m.length)) .pan
 |none=>none
def crP(O:Orc)(h:qR)(base:Nat)(f:Cal)(lent:List Nat)(x:Option (List AV × List CB × List Nat)):OE:=x.bind fun(vs,cs,m)=>
 if lent.any (m.contains ·)then none else crU h base lent m cs (O.call f vs (cs.map CB.clean))
def crQ(O:Orc)(h:qR)(base:Nat)(f:Cal)(lent:List Nat)(x:Option (List AV)):OE:=x.bind fun vs=>crP O h base f lent (aqG (hf h) [] vs)
theorem a3F(h:qR)(base:Nat)(f:Cal)(args:List AV):cr (aBE O (hf h) base f args)=crQ O h base f (args.flatMap (agU 12 (hf h))) (afD (rdV h) args):=by
 unfold aBE ak4 crQ rdV
 cases afD (aoK 12 (hf h)) args with
 |none=>rfl
 |some vs=>
  simp only[amE]
  unfold crP
  cases aqG (hf h) [] vs with
  |none=>rfl
  |some x=>
   obtain⟨vs',cs,m⟩:=x
   simp only[amE]
   split
   ·rfl
   ·cases O.call f vs' (cs.map CB.clean)with
    |none=>rfl
    |some y=>
     obtain⟨out,h'⟩:=y
     simp only[amE,aqM]
     unfold crU upK
     cases out with
     |ret v=>
      simp only[Out.v]
      cases ajS 8 (an5 m base) v with
      |none=>rfl
      |some v=>
       cases aoM (an5 m base) m cs (h'.take m.length)with
       |none=>rfl
       |some ps=>cases apJ (an5 m base) base (h'.drop m.length)<;>rfl
     |pan v=>
      simp only[Out.v]
      cases ajS 8 (an5 m base) v with
      |none=>rfl
      |some v=>
       cases aoM (an5 m base) m cs (h'.take m.length)with
       |none=>rfl
       |some ps=>cases apJ (an5 m base) base (h'.drop m.length)<;>rfl
theorem aOT(h:qR)(base:Nat)(f:Cal)(lent:List Nat)(vs:List AV):crQ O h base f lent (some vs)=crP O h base f lent (aqG (hf h) [] vs):=akZ rfl rfl
theorem aOA(h:qR)(base:Nat)(f:Cal)(lent:List Nat)(vs:List AV)(cs:List CB)(m:List Nat):crP O h base f lent (some (vs,cs,m))=if lent.any (m.contains ·)=true then none else crU h base lent m cs (O.call f vs (cs.map CB.clean)):=akZ rfl rfl
theorem aUP(h:qR)(base:Nat)(lent m:List Nat)(cs:List CB)(v:AV)(h':qR):crU h base lent m cs (some (.ret v,h'))=upK h lent (ajS 8 (an5 m base) v) (aoM (an5 m base) m cs (h'.take m.length)) (apJ (an5 m base) base (h'.drop m.length)) .ret:=akZ rfl rfl
theorem aNB(h:qR)(lent:List Nat)(v:AV)(ps ns:List ab8)(o:AV→Out):upK h lent (some v) (some ps) (some ns) o=some (o v,(if(lent.isEmpty|| !(hasImm 8 v||(ps++ns).any ab8.hasImm))=true then []else alC (hf h) lent)++ps++ns):=akZ rfl rfl
theorem aTS(st:Nat)(fl w:Bool)(rows:List (List AV)):CB.clean (.live st fl w rows)=.live st fl false rows:=akZ rfl rfl
theorem aTB(d:Nat)(g:HF)(b:Bool):agU (d+1) g (.bool b)=[]:=akZ rfl rfl
theorem aWO(d:Nat)(g:HF)(k:IntKind)(n:Int):agU (d+1) g (.int k n)=[]:=akZ rfl rfl
theorem aX0(d:Nat)(g:HF)(b r o:Nat):agU (d+1) g (.ptr b r o)=[]:=akZ rfl rfl
theorem aRH(d:Nat)(g:HF)(fn:Fn)(a b:List AV):agU (d+1) g (.func fn a b)=[]:=akZ rfl rfl
theorem aXT(d:Nat)(g:HF)(n:Nat)(fl nn:Bool)(rows:List (List AV)):agU (d+1) g (slv n fl nn rows)=[]:=asT g (d:=1) (by omega) (aq2 0 n fl nn rows)
theorem aWY(d:Nat)(g:HF)(cs:List AV):agU (d+1) g (.agg cs)=cs.flatMap (agU d g):=akZ rfl rfl
theorem aZL(m:List Nat)(base i:Nat):an5 m base i=if i<m.length then m.getD i base else base+(i-m.length):=akZ rfl rfl
theorem aRG(d:Nat)(f:Nat→Nat)(b:Bool):ajS (d+1) f (.bool b)=some (.bool b):=akZ rfl rfl
theorem aXG(d:Nat)(f:Nat→Nat)(k:IntKind)(n:Int):ajS (d+1) f (.int k n)=some (.int k n):=akZ rfl rfl
theorem aV6(d:Nat)(f:Nat→Nat)(n:Nat)(fl nn:Bool)(rows:List (List AV)):ajS (d+1) f (slv n fl nn rows)=some (slv n fl nn rows):=aqP f (aq2 d n fl nn rows)
theorem aXK(d:Nat)(f:Nat→Nat)(b r o:Nat):ajS (d+1) f (.ptr b r o)=some (.ptr (f b) r o):=akZ rfl rfl
theorem aV7(d:Nat)(f:Nat→Nat)(st b r len:Nat):ajS (d+1) f (.slr st b r len)=some (.slr st (f b) r len):=akZ rfl rfl
def rnA(x:Option (List AV)):Option AV:=x.map .agg
def rnT(x:Option (List AV)):Option AV:=x.map .tup
theorem aOZ(cs:List AV):rnA (some cs)=some (.agg cs):=akZ rfl rfl
theorem aPP(cs:List AV):rnT (some cs)=some (.tup cs):=akZ rfl rfl
theorem aW9(d:Nat)(f:Nat→Nat)(cs:List AV):ajS (d+1) f (.agg cs)=rnA (afD (ajS d f) cs):=akZ rfl rfl
theorem aWS(d:Nat)(f:Nat→Nat)(cs:List AV):ajS (d+1) f (.tup cs)=rnT (afD (ajS d f) cs):=akZ rfl rfl
def rnG(fn:Fn)(a:List AV)(x:Option (List AV)):Option AV:=x.map fun b=>.func fn a b
def rnF(fn:Fn)(b:Option (List AV))(x:Option (List AV)):Option AV:=x.bind fun a=>rnG fn a b
theorem aNZ(fn:Fn)(a b:List AV):rnG fn a (some b)=some (.func fn a b):=akZ rfl rfl
theorem aPE(fn:Fn)(b:Option (List AV))(a:List AV):rnF fn b (some a)=rnG fn a b:=akZ rfl rfl
theorem aSN(d:Nat)(f:Nat→Nat)(fn:Fn)(a b:List AV):ajS (d+1) f (.func fn a b)=rnF fn (afD (ajS d f) b) (afD (ajS d f) a):=akZ rfl rfl
def rbW(st:Nat)(w:Bool)(x:Option (List (List AV))):Option CB:=x.map (.live st false w)
theorem aN5(st:Nat)(w:Bool)(rows:List (List AV)):rbW st w (some rows)=some (.live st false w rows):=akZ rfl rfl
theorem a04(f:Nat→Nat)(st:Nat)(w:Bool)(rows:List (List AV)):aoE f (.live st true w rows)=some (.live st true w rows):=akZ rfl rfl
theorem aZZ(f:Nat→Nat)(st:Nat)(w:Bool)(rows:List (List AV)):aoE f (.live st false w rows)=rbW st w (afD (afD (ajS 8 f)) rows):=akZ rfl rfl
def peE(b:Nat)(c:Option CB)(x:Option (List ab8)):Option (List ab8):=c.bind fun c=>x.map fun es=>.put b c::es
def peK(f:Nat→Nat)(b:Nat)(c:CB)(same bad:Bool)(x:Option (List ab8)):Option (List ab8):=bif same then x else bif bad then none else peE b (aoE f c) x
theorem aZX(f:Nat→Nat)(b:Nat)(c:CB)(bad:Bool)(x:Option (List ab8)):peK f b c true bad x=x:=akZ rfl rfl
theorem aWC(f:Nat→Nat):aoM f [] [] []=some []:=akZ rfl rfl
theorem aRL(f:Nat→Nat)(b:Nat)(m:List Nat)(c₀ c:CB)(cs₀ cs:List CB):aoM f (b::m) (c₀::cs₀) (c::cs)=peK f b c (c₀.same c) (c.unw|| !c₀.isLive) (aoM f m cs₀ cs):=by
 conv=>lhs;unfold aoM
 unfold peK
 cases c₀.same c with
 |true=>rfl
 |false=>
  cases(c.unw|| !c₀.isLive)with
  |true=>rfl
  |false=>
   simp only[cond_false,peE]
theorem aUF(a:Nat)(b c:Bool)(r:List (List AV))(st:Nat)(fl w:Bool)(rows:List (List AV)):CB.same (.live a b c r) (.live st fl w rows)= !w:=akZ rfl rfl
theorem aRD(st:Nat)(fl w:Bool)(rows:List (List AV)):CB.unw (.live st fl w rows)= !w:=akZ rfl rfl
theorem aUA(st:Nat)(fl w:Bool)(rows:List (List AV)):CB.isLive (.live st fl w rows)=true:=akZ rfl rfl
def neK(base:Nat)(c:Option CB)(x:Option (List ab8)):Option (List ab8):=c.bind fun c=>x.map fun es=>.new base c::es
theorem aQK(base:Nat)(c:CB)(es:List ab8):neK base (some c) (some es)=some (.new base c::es):=akZ rfl rfl
theorem aY2(f:Nat→Nat)(base:Nat):apJ f base []=some []:=akZ rfl rfl
theorem aR8(f:Nat→Nat)(base:Nat)(c:CB)(cs:List CB):apJ f base (c::cs)=neK base (aoE f c) (apJ f (base+1) cs):=akZ rfl rfl
theorem aTE(d:Nat)(fn:Fn)(a b:List AV):hasImm (d+1) (.func fn a b)=(a.any (hasImm d)||b.any (hasImm d)):=akZ rfl rfl
theorem aYF(b:Nat)(c:CB):ab8.hasImm (.new b c)=c.hasImm:=akZ rfl rfl
theorem a06(st:Nat)(w:Bool)(rows:List (List AV)):CB.hasImm (.live st true w rows)=false:=akZ rfl rfl
theorem aZV(st:Nat)(w:Bool)(rows:List (List AV)):CB.hasImm (.live st false w rows)=rows.any fun cs=>cs.any (Ev.hasImm 8):=akZ rfl rfl
theorem aX6(h:qR)(b r o:Nat):rdV h (.ptr b r o)=some (.ptr b r o):=akZ rfl rfl
theorem aTD(h:qR)(cs:List AV):rdV h (.agg cs)=rdA (afD (aoK 11 (hf h)) cs):=akZ rfl rfl
theorem aKG(l:List AV):rdA (some l)=some (.agg l):=akZ rfl rfl
theorem aTR(d:Nat)(h:qR)(b:Bool):aoK (d+1) (hf h) (.bool b)=some (.bool b):=akZ rfl rfl
theorem aWI(d:Nat)(h:qR)(k:IntKind)(n:Int):aoK (d+1) (hf h) (.int k n)=some (.int k n):=akZ rfl rfl
def mfK(f:Nat)(a b:Option (List AV)):OE:=a.bind fun a=>b.bind fun b=>some (.ret (.func (.func f) a b),[])
theorem aM5(f:Nat)(a b:List AV):mfK f (some a) (some b)=some (.ret (.func (.func f) a b),[]):=akZ rfl rfl
theorem a1K(t:List AV)(h:qR)(f:Nat)(a b:Array Operand):anR O P t h (.makeFunc (.func f) a b)=mfK f (ajN t a.toList) (ajN t b.toList):=by
 rw[ak7 _ _ _ rfl]
 simp only[exec,mfK]
 cases ajN t a.toList with
 |none=>rfl
 |some a=>cases ajN t b.toList<;>rfl
def msK(n:Nat)(z:AV)(base:Nat)(l c:Option AV):OE:=
 match l,c with
 |some (.int .i64 l),some (.int .i64 c)=>if 0≤l∧l≤c∧c≤2 ^ 40∧(acB z).all AV.isCell=true then some (.ret (.slr n base 0 l.toNat),[.new base (.live n ((acB z).all AV.flat) false (au4 l.toNat (acB z)))])else none
 |_,_=>none
theorem aPO(n:Nat)(z:AV)(base:Nat)(l c:Int):msK n z base (some (.int .i64 l)) (some (.int .i64 c))=if 0≤l∧l≤c∧c≤2 ^ 40∧(acB z).all AV.isCell=true then some (.ret (.slr n base 0 l.toNat),[.new base (.live n ((acB z).all AV.flat) false (au4 l.toNat (acB z)))])else none:=akZ rfl rfl
def msO(P:Program)(ty:TypeId)(base:Nat)(l c:Option AV):OE:=rD (l.bind fun l=>c.bind fun c=>aoT P base ty l c)
theorem a1E(t:List AV)(h:qR)(ty:TypeId)(l c:Operand):anR O P t h (.makeSlice ty l c)=msO P ty h.length (ab9 t l) (ab9 t c):=ak7 _ _ _ rfl
theorem aVI{ty e:TypeId}{n b:Nat}{z:AV}(he:awQ P ty=some e)(hn:szT P e=some n)(hb:byT P e=some b)(hz:ap9 P e=some z)(ok:(decide (b≤2 ^ 7)&&decide (n≠0)&&decide ((acB z).length=n))=true)(base:Nat)(l c:Option AV):
 msO P ty base l c=msK n z base l c:=by
 simp only[au5,decide_eq_true_eq]at ok
 unfold msO msK
 cases l with
 |none=>rfl
 |some l=>
  cases c with
  |none=>cases l<;>first|rfl|(rename_i k _;cases k<;>rfl)
  |some c=>
   simp only[amE,aoT,he,hn,hb,hz]
   cases l with
   |int k l=>
    cases c with
    |int k' c=>
     cases k<;>cases k'<;>first|rfl|skip
     simp only[ok.1.1,ok.1.2,ok.2,ne_eq,not_false_eq_true,true_and]
     split<;>rfl
    |_=>cases k<;>rfl
   |_=>rfl
def srS(q:Nat)(c:Option CB)(r len:Nat):Option (Bool × List (List AV)):=
 match c with
 |some (.live st fl _ rows)=>if r+len≤rows.length∧st=q then some (fl,(rows.drop r).take len)else none
 |some (.frz st fl rows)=>if r+len≤rows.length∧st=q then some (fl,(rows.drop r).take len)else none
 |_=>none
def srK(q:Nat)(h:qR)(x:Option AV):Option (Bool × List (List AV)):=
 match x with
 |some .nils=>some (true,[])
 |some (.imm st fl rows)=>if st=q then some (fl,rows)else none
 |some (.slr _ b r len)=>srS q (h[b]?) r len
 |_=>none
theorem aPC(q st:Nat)(fl w:Bool)(rows:List (List AV))(r len:Nat):srS q (some (.live st fl w rows)) r len=if r+len≤rows.length∧st=q then some (fl,(rows.drop r).take len)else none:=akZ rfl rfl
theorem aPY(q:Nat)(h:qR):srK q h (some .nils)=some (true,[]):=akZ rfl rfl
theorem aU5(q:Nat)(h:qR)(st:Nat)(fl:Bool)(rows:List (List AV)):srK q h (some (.imm st fl rows))=if st=q then some (fl,rows)else none:=akZ rfl rfl
theorem aJG(q:Nat)(h:qR)(st b r len:Nat):srK q h (some (.slr st b r len))=srS q (h[b]?) r len:=akZ rfl rfl
def apT(n base b r len:Nat)(nfl:Bool)(new:List (List AV))(st:Nat)(fl:Bool)(rows:List (List AV)):OE:=
 if st=n∧r+len≤rows.length∧len+new.length≤2 ^ 39 then some (.ret (.slr st base 0 (len+new.length)),[.put b .dead,.new base (.live st (fl&&nfl) false ((rows.drop r).take len++new))])else none
def apS(n base b r len:Nat)(nfl:Bool)(new:List (List AV))(c:Option CB):OE:=
 match c with
 |some (.live st fl _ rows)=>if st=n∧r+len=rows.length∧len+new.length≤2 ^ 39 then some (.ret (.slr st base 0 (len+new.length)),[.put b .dead,.new base (.live st (fl&&nfl) false (rows.drop r++new))])else apT n base b r len nfl new st fl rows
 |_=>none
theorem aBJ(n base b r len:Nat)(nfl:Bool)(new:List (List AV))(st:Nat)(fl w:Bool)(rows:List (List AV)):apS n base b r len nfl new (some (.live st fl w rows))=if st=n∧r+len=rows.length∧len+new.length≤2 ^ 39 then some (.ret (.slr st base 0 (len+new.length)),[.put b .dead,.new base (.live st (fl&&nfl) false (rows.drop r++new))])else apT n base b r len nfl new st fl rows:=akZ rfl rfl
def apK(n:Nat)(h:qR)(s:Option AV)(x:Option (Bool × List (List AV))):OE:=
 match s,x with
 |some .nils,some (_,[])=>some (.ret .nils,[])
 |some (.slr a b r l),some (_,[])=>some (.ret (.slr a b r l),[])
 |some (.imm a b r),some (_,[])=>some (.ret (.imm a b r),[])
 |some .nils,some (nfl,r::new)=>if(r::new).length≤2 ^ 39 then some (.ret (.slr n h.length 0 (r::new).length),[.new h.length (.live n nfl false (r::new))])else none
 |some (.slr _ b r len),some (nfl,q::new)=>apS n h.length b r len nfl (q::new) (h[b]?)
 |_,_=>none
theorem aXM(n:Nat)(h:qR)(a b r l:Nat)(nfl:Bool):apK n h (some (.slr a b r l)) (some (nfl,[]))=some (.ret (.slr a b r l),[]):=akZ rfl rfl
theorem aIL(n:Nat)(h:qR)(nfl:Bool)(r:List AV)(new:List (List AV)):apK n h (some .nils) (some (nfl,r::new))=if(r::new).length≤2 ^ 39 then some (.ret (.slr n h.length 0 (r::new).length),[.new h.length (.live n nfl false (r::new))])else none:=akZ rfl rfl
theorem aID(n:Nat)(h:qR)(a b r len:Nat)(nfl:Bool)(q:List AV)(new:List (List AV)):apK n h (some (.slr a b r len)) (some (nfl,q::new))=apS n h.length b r len nfl (q::new) (h[b]?):=akZ rfl rfl
def apO(P:Program)(ty:TypeId)(h:qR)(s x:Option AV):OE:=rD (s.bind fun s=>x.bind fun x=>aoO P (hf h) h.length ty s x)
theorem aVF(t:List AV)(h:qR)(s x:Operand)(ty ty1 e1:TypeId)(hu:P.underlying ty1=some (.slice e1)):anR O P t h (.call ⟨.builtin .append,#[s,x],#[ty,ty1]⟩)=apO P ty h (ab9 t s) (ab9 t x):=by
 rw[ak7 _ _ _ rfl]
 simp only[exec,ajN,apO]
 cases ab9 t s with
 |none=>rfl
 |some a=>
  cases ab9 t x with
  |none=>rfl
  |some b=>
   simp only[amE,an3]
   have e0:(#[ty,ty1]:Array TypeId)[0]?=some ty:=rfl
   have e1:(#[ty,ty1]:Array TypeId)[1]?=some ty1:=rfl
   simp only[e0,e1,amE,hu]
theorem aPF{ty e:TypeId}{n b:Nat}{z:AV}(he:awQ P ty=some e)(hn:szT P e=some n)(hb:byT P e=some b)(hz:ap9 P e=some z)(ok:(decide (b≤2 ^ 7)&&decide (n≠0)&&decide ((acB z).length=n))=true)(h:qR)(s x:AV)(hx:∀q,x≠.str q):
 apO P ty h (some s) (some x)=apK n h (some s) (srK n h (some x)):=by
 simp only[au5,decide_eq_true_eq]at ok
 have hbad:¬(n=0∨2 ^ 7<b∨(acB z).length≠n):=by
  rintro(h1|h1|h1)
  ·exact ok.1.2 h1
  ·omega
  ·exact h1 ok.2
 unfold apO
 simp only[amE,aoO,he,hn,hb,hz]
 have key:∀(nfl:Bool) (new:List (List AV)) (fs:List al7),rD (if n=0∨2 ^ 7<b∨(acB z).length≠n then none else
  match s,new with
  |s,[]=>match s with
   | .nils| .slr _ _ _ _| .imm _ _ _=>some ⟨s,[],fs⟩
   |_=>none
  | .nils,new=>if new.length≤2 ^ 39 then some ⟨.slr n h.length 0 new.length,[.new h.length (.live n nfl false new)],fs⟩else none
  | .slr _ b r len,new=>
    match hf h b with
    |some (.live st fl _ rows)=>
     if st=n∧r+len≤rows.length∧len+new.length≤2 ^ 39 then
      some ⟨.slr st h.length 0 (len+new.length),[.put b .dead,.new h.length (.live st (fl&&nfl) false ((rows.drop r).take len++new))],.blk b::fs⟩
     else none
    |_=>none
  |_,_=>none)=apK n h (some s) (some (nfl,new)):=fun nfl new fs=>by
  rw[if_neg hbad]
  cases new with
  |nil=>cases s<;>rfl
  |cons q new=>
   cases s with
   |nils=>simp only[aIL];split<;>rfl
   |slr a b r len=>
    simp only[aID]
    unfold apS
    have eh:hf h b=h[b]?:=rfl
    rw[eh]
    cases h[b]? with
    |none=>rfl
    |some c=>
     cases c with
     |live st fl w rows=>
      simp only
      by_cases h1:st=n∧r+len=rows.length∧len+(q::new).length≤2 ^ 39
      ·rw[if_pos h1,if_pos ⟨h1.1,by omega,h1.2.2⟩,List.take_of_length_le (by simp;omega)]
       rfl
      ·rw[if_neg h1]
       unfold apT
       split<;>rfl
     |_=>rfl
   |_=>rfl
 cases x with
 |nils=>exact key true [] []
 |imm st fl rows=>
  simp only[ak9,aU5,hn,ao2.injEq]
  by_cases hq:n=st
  ·subst hq;simp only[if_true,amE];exact key fl rows []
  ·rw[if_neg hq,if_neg (fun e=>hq e.symm)]
   cases s<;>rfl
 |slr st b' r len=>
  simp only[ak9,aJG,hn,aoG,srS]
  have eh:hf h b'=h[b']?:=rfl
  rw[eh]
  cases h[b']? with
  |none=>cases s<;>rfl
  |some c=>
   cases c with
   |live st fl w rows=>
    simp only
    by_cases hq:r+len≤rows.length
    ·simp only[hq,if_true,amE,true_and,ao2.injEq]
     by_cases hq2:n=st
     ·subst hq2;simp only[if_true,amE];exact key fl _ _
     ·rw[if_neg hq2,if_neg (fun e=>hq2 e.symm)];cases s<;>rfl
    ·simp only[hq,if_false,false_and];cases s<;>rfl
   |frz st fl rows=>
    simp only
    by_cases hq:r+len≤rows.length
    ·simp only[hq,if_true,amE,true_and,ao2.injEq]
     by_cases hq2:n=st
     ·subst hq2;simp only[if_true,amE];exact key fl _ _
     ·rw[if_neg hq2,if_neg (fun e=>hq2 e.symm)];cases s<;>rfl
    ·simp only[hq,if_false,false_and];cases s<;>rfl
   |_=>cases s<;>rfl
 |str q=>exact(hx q rfl).elim
 |_=>cases s<;>rfl
def rtK(Q:Out→qR→Prop)(x:Option (List AV × List CB × List Nat)):Prop:=
 match x with
 |some ([v],cs,_)=>Q (.ret v) cs
 |_=>False
theorem aNS(Q:Out→qR→Prop)(v:AV)(cs:List CB)(m:List Nat):rtK Q (some ([v],cs,m))=Q (.ret v) cs:=akZ rfl rfl
theorem aU8{q:Nat}{vs:List AV}{h:qR}{Q:Out→qR→Prop}:Rt q (some vs) h Q=rtK Q (aqG (hf h) (au9 q) [asE vs]):=by
 unfold Rt aPN
 simp only[amE,ar0]
 cases hp:aqG (hf h) (au9 q) [asE vs]with
 |none=>simp[rtK]
 |some x=>
  obtain⟨ws,cs,m⟩:=x
  simp only[amE]
  match ws with
  | [v]=>
    simp only[rtK,an3]
    exact propext ⟨fun⟨o,h',e,k⟩=>by cases e;exact k,fun k=>⟨_,_,rfl,k⟩⟩
  | []=>simp[rtK]
  |_::_::_=>simp[rtK]
theorem aYW(vs:List AV)(h:qR)(Q:Out→qR→Prop):Rt1 0 (some vs) h Q=rtK Q (aqG (hf h) [] [asE vs]):=aU8
theorem aS5(q:Nat)(vs:List AV)(h:qR)(Q:Out→qR→Prop):Rt (q+1) (some vs) h Q=rtK Q (aqG (hf h) (au9 (q+1)) [asE vs]):=aU8
end
end
noncomputable section
set_option maxRecDepth 100000
def EVi:=PLift.up (acD @aLI (acD @aIH (acD @aUT (acD @aXW (acD @aWZ (acD @aX2 (acD @aYX (acD @aPX (acD @aPL (acD @aW3 (acD @aWL (acD @aPR (acD @aQC (acD @aUK (acD @aN7 (acD @aMX (acD @aSP (acD @aQ4 (acD @aO4 (acD @aPJ (acD @aVZ (acD @aR4 (acD @aQF (acD @a1P (acD @a1R (acD @aQH (acD @aP2 (acD @aP9 @aOS))))))))))))))))))))))))))))
def EVj:=PLift.up (acD @aOL (acD @aZT (acD @aOI (acD @aM4 (acD @a0Q (acD @a3F (acD @aOT (acD @aOA (acD @aUP (acD @aNB (acD @aTS (acD @aTB (acD @aWO (acD @aX0 (acD @aRH (acD @aXT (acD @aWY (acD @aZL (acD @aRG (acD @aXG (acD @aV6 (acD @aXK (acD @aV7 @aOZ)))))))))))))))))))))))
def EVk:=PLift.up (acD @aPP (acD @aW9 (acD @aWS (acD @aNZ (acD @aPE (acD @aSN (acD @aN5 (acD @a04 (acD @aZZ (acD @aZX (acD @aWC (acD @aRL (acD @aUF (acD @aRD (acD @aUA (acD @aQK (acD @aY2 (acD @aR8 (acD @aTE (acD @aYF (acD @a06 (acD @aZV @aX6))))))))))))))))))))))
def EVl:=PLift.up (acD @aTD (acD @aKG (acD @aTR (acD @aWI (acD @aM5 (acD @a1K (acD @aPO (acD @a1E (acD @aPC (acD @aPY (acD @aJG (acD @aBJ (acD @aXM (acD @aIL (acD @aID (acD @aNS (acD @aYW (acD @aS5 (acD @List.flatMap_cons.{0,0} (acD @List.flatMap_nil.{0,0} (acD @List.isEmpty_nil.{0} (acD @List.getD_cons_zero.{0} (acD @List.range_succ (acD @aAF (acD @List.contains_nil.{0} @List.contains_cons.{0})))))))))))))))))))))))))
def EVm:=PLift.up (acD @aAI.{0} @aAI.{0})
end
noncomputable section
theorem aV1{n:Nat}{fl nn:Bool}{rows:List (List AV)}(h:rows≠[]):slv n fl nn rows=.imm n fl rows:=by
 cases rows with
 |nil=>exact(h rfl).elim
 |cons r rs=>rfl
section
variable {P:Program} {t e:TypeId} (hu:P.underlying t=some (.slice e))
include hu
end
def aXN(v:Option AV)(ns:Option (List ab8)):Option aqB:=v.bind fun v=>ns.map fun ns=>⟨.ret v,ns,[]⟩
theorem aL8(v:AV)(ns:List ab8):aXN (some v) (some ns)=some ⟨.ret v,ns,[]⟩:=akZ rfl rfl
theorem aOU(base:Nat)(v:AV)(c:CB)(cs:List CB):ac0 base (some (.ret v,c::cs))=aXN (ajS 8 (fun i=>base+i) v) (apJ (fun i=>base+i) base (c::cs)):=by
 simp only[ac0,aXN,amE,Out.v,Out.map]
section
variable {O:Orc}
theorem a10(h:qR)(f:Nat)(args:List AV):shC O h f args=if(ay0 args||O.md f)=true then shK h (O.call (.sh f) args (clH h))else cr (ak4 O (hf h) h.length (.fn f) args):=akZ rfl rfl
end
theorem aV3(b r o:Nat)(l:List AV):ay0 (.ptr b r o::l)=false:=akZ rfl rfl
theorem a1U(b:Nat)(l:List AV):ay0 (.yl b::l)=true:=akZ rfl rfl
theorem aVU:clH []=[]:=akZ rfl rfl
theorem aSI(c:CB)(h:qR):clH (c::h)=c.clean::clH h:=akZ rfl rfl
theorem aX9(h h':qR):clH (h++h')=clH h++clH h':=List.map_append
theorem aXV(h:qR)(b:Nat):(clH h)[b]?=(h[b]?).map CB.clean:=by simp[clH]
theorem a1A(ps:List Nat)(a b:Code)(t:List AV)(st:LSt):CB.clean (.lp ps a b t st)=.lp ps a b t st:=akZ rfl rfl
def acI(h:qR):Bool:=h.all fun c=>c.quiet c.clean
theorem aJV:∀{h:qR} (_:acI h=true) (i:Nat) (l:qR),ak2 i h (clH h++l)=some (apU (i+h.length) l)
 | [],_,i,l=>by simp[clH,ak2]
 |c::h,hq,i,l=>by
  simp only[acI,List.all_cons,au5]at hq
  have ih:=aJV (h:=h) hq.2 (i+1) l
  simp only[clH,List.map_cons,aB8,ak2,hq.1,cond_true]at ih ⊢
  rw[ih,awA]
  congr 2;omega
theorem aC0:∀(cs:List CB) (i:Nat) (h:qR),ag5 h (apU i cs)=h++cs
 | [],i,h=>by simp[apU,ag5]
 |c::cs,i,h=>by simp[apU,ag5,aq7,aC0 cs]
theorem aw1(h:qR)(o:Out)(h':qR):shK h (some (o,h'))=(ak2 0 h h').map fun es=>(o,es):=akZ rfl rfl
def EVo:=PLift.up (acD @aT7 (acD @aUS (acD @aSS (acD @aXF (acD @aWV (acD @aZ4 (acD @aSB (acD @aX1 (acD @aWT @aWB)))))))))
def EVn:=PLift.up (acD @aL8 @aOU)
def EVp:=PLift.up (acD @a10 (acD @aV3 (acD @a1U (acD @aVU (acD @aSI (acD @aX9 (acD @aXV @a1A)))))))
end
noncomputable section
def agY:CB→Option (Nat × Bool × List (List AV))
 | .live st fl _ rows=>some (st,fl,rows)
 | .frz st fl rows=>some (st,fl,rows)
 |_=>none
def rdL(f:AV→Option (AV × List Nat)):List AV→Option (List AV × List Nat)
 | []=>some ([],[])
 |a::l=>(f a).bind fun p=>(rdL f l).map fun q=>(p.1::q.1,p.2++q.2)
def akX(f:AV→Option (AV × List Nat)):List (List AV)→Option (List (List AV) × List Nat)
 | []=>some ([],[])
 |r::rs=>(rdL f r).bind fun p=>(akX f rs).map fun q=>(p.1::q.1,p.2++q.2)
def rd:Nat→HF→AV→Option (AV × List Nat)
 |0,_,_=>none
 |d+1,g,v=>
  match v with
  | .slr st b r len=>((g b).bind agY).bind fun z=>
     if z.1=st∧r=0∧len=z.2.2.length then
      (bif z.2.1 then some (.imm st true z.2.2,[b])else(akX (rd d g) z.2.2).map fun q=>(.imm st false q.1,b::q.2))
     else none
  | .agg cs=>(rdL (rd d g) cs).map fun q=>(.agg q.1,q.2)
  | .iface t x=>(rd d g x).map fun q=>(.iface t q.1,q.2)
  | .func fn [] []=>some (.func fn [] [],[])
  | .func _ _ _=>none
  | .tup _=>none
  | .ptr _ _ _=>none
  | .yl _=>none
  | .mapr _=>none
  | .itr _=>none
  | .imm _ _ _=>none
  | .iptr _=>none
  |v=>some (v,[])
theorem avU{f f':AV→Option (AV × List Nat)}:∀{l:List AV} {p:List AV × List Nat},rdL f l=some p→(∀x∈l,∀q,f x=some q→(∀b∈q.2,b∈p.2)→f' x=some q)→rdL f' l=some p
 | [],p,h,_=>h
 |a::l,p,h,hf=>by
  simp only[rdL,alE,ak3]at h ⊢
  obtain⟨q,hq,r,hr,rfl⟩:=h
  exact⟨q,hf a (am7 ..) q hq (fun b hb=>ao5 _ hb),r,avU hr (fun x hx q' hq' hs=>hf x (am5 _ hx) q' hq' (fun b hb=>apG _ (hs b hb))),rfl⟩
theorem atB{f f':AV→Option (AV × List Nat)}:∀{l:List (List AV)} {p:List (List AV) × List Nat},akX f l=some p→(∀r∈l,∀x∈r,∀q,f x=some q→(∀b∈q.2,b∈p.2)→f' x=some q)→akX f' l=some p
 | [],p,h,_=>h
 |a::l,p,h,hf=>by
  simp only[akX,alE,ak3]at h ⊢
  obtain⟨q,hq,r,hr,rfl⟩:=h
  exact⟨q,avU hq (fun x hx q' hq' hs=>hf a (am7 ..) x hx q' hq' (fun b hb=>ao5 _ (hs b hb))),r,
   atB hr (fun r' hr' x hx q' hq' hs=>hf r' (am5 _ hr') x hx q' hq' (fun b hb=>apG _ (hs b hb))),rfl⟩
def Agr(R:List Nat)(g g':HF):Prop:=∀b∈R,∀z,(g b).bind agY=some z→(g' b).bind agY=some z
theorem aCC{g g':HF}:∀{d:Nat} {v:AV} {p:AV × List Nat},rd d g v=some p→Agr p.2 g g'→rd d g' v=some p
 |0,v,p,h,_=>by simp[rd]at h
 |d+1,v,p,h,ha=>by
  cases v with
  |slr st b r len=>
   simp only[rd,alE]at h ⊢
   obtain⟨z,⟨c,hc,hz⟩,h⟩:=h
   split at h
   ·rename_i hq
    have hb:b∈p.2:=by
     cases hfl:z.2.1 with
     |true=>rw[hfl]at h;simp at h;rw[←h];simp
     |false=>rw[hfl]at h;simp only[cond_false,ak3]at h;obtain⟨q,_,rfl⟩:=h;simp
    have hz':=ha b hb z (by rw[hc];exact hz)
    obtain⟨c',hc',hz''⟩:=alE.1 hz'
    refine⟨z,⟨c',hc',hz''⟩,?_⟩
    rw[if_pos hq]
    cases hfl:z.2.1 with
    |true=>rw[hfl]at h;exact h
    |false=>
     rw[hfl]at h
     simp only[cond_false,ak3]at h ⊢
     obtain⟨q,hq',rfl⟩:=h
     exact⟨q,atB hq' (fun r' _ x _ q' hx hs=>aCC hx (fun b' hb'=>ha b' (am5 _ (hs b' hb')))),rfl⟩
   ·cases h
  |agg cs=>
   simp only[rd,ak3]at h ⊢
   obtain⟨q,hq,rfl⟩:=h
   exact⟨q,avU hq (fun x _ q' hx hs=>aCC hx (fun b hb=>ha b (hs b hb))),rfl⟩
  |iface t x=>
   simp only[rd,ak3]at h ⊢
   obtain⟨q,hq,rfl⟩:=h
   exact⟨q,aCC hq ha,rfl⟩
  |func fn a b=>cases a<;>cases b<;>first|exact h|(simp[rd]at h)
  |_=>first|exact h|(simp[rd]at h)
theorem aJP{g:HF}:∀{d e:Nat} {v:AV} {p:AV × List Nat},d≤e→rd d g v=some p→rd e g v=some p
 |0,e,v,p,_,h=>by simp[rd]at h
 |d+1,0,v,p,he,h=>by omega
 |d+1,e+1,v,p,he,h=>by
  have IH:∀x q,rd d g x=some q→rd e g x=some q:=fun x q hx=>aJP (by omega) hx
  cases v with
  |slr st b r len=>
   simp only[rd,alE]at h ⊢
   obtain⟨z,hz,h⟩:=h
   refine⟨z,hz,?_⟩
   split at h
   ·rename_i hq
    rw[if_pos hq]
    cases hfl:z.2.1 with
    |true=>rw[hfl]at h;exact h
    |false=>
     rw[hfl]at h
     simp only[cond_false,ak3]at h ⊢
     obtain⟨q,hq',rfl⟩:=h
     exact⟨q,atB hq' (fun r' _ x _ q' hx _=>IH x q' hx),rfl⟩
   ·cases h
  |agg cs=>
   simp only[rd,ak3]at h ⊢
   obtain⟨q,hq,rfl⟩:=h
   exact⟨q,avU hq (fun x _ q' hx _=>IH x q' hx),rfl⟩
  |iface t x=>
   simp only[rd,ak3]at h ⊢
   obtain⟨q,hq,rfl⟩:=h
   exact⟨q,IH _ _ hq,rfl⟩
  |func fn a b=>cases a<;>cases b<;>first|exact h|(simp[rd]at h)
  |_=>first|exact h|(simp[rd]at h)
theorem ax8{f:AV→Option (AV × List Nat)}{f':AV→Option AV}:∀{l:List AV} {p:List AV × List Nat},rdL f l=some p→(∀x∈l,∀q,f x=some q→f' x=some q.1)→afD f' l=some p.1
 | [],p,h,_=>by simp[rdL]at h;subst h;rfl
 |a::l,p,h,hf=>by
  simp only[rdL,alE,ak3]at h
  obtain⟨q,hq,r,hr,rfl⟩:=h
  simp only[afD,hf a (am7 ..) q hq,amE,ax8 hr (fun x hx=>hf x (am5 _ hx)),an3]
theorem azL{f:AV→Option (AV × List Nat)}{f':AV→Option AV}:∀{l:List (List AV)} {p:List (List AV) × List Nat},akX f l=some p→(∀r∈l,∀x∈r,∀q,f x=some q→f' x=some q.1)→afD (afD f') l=some p.1
 | [],p,h,_=>by simp[akX]at h;subst h;rfl
 |a::l,p,h,hf=>by
  simp only[akX,alE,ak3]at h
  obtain⟨q,hq,r,hr,rfl⟩:=h
  simp only[afD,ax8 hq (fun x hx=>hf a (am7 ..) x hx),amE,azL hr (fun r' hr'=>hf r' (am5 _ hr')),an3]
theorem aEX{g:HF}{b:Nat}{z:Nat × Bool × List (List AV)}(h:(g b).bind agY=some z):aoG g b 0 z.2.2.length=some z:=by
 obtain⟨c,hc,hz⟩:=alE.1 h
 unfold aoG
 rw[hc]
 cases c with
 |live st fl w rows=>simp[agY]at hz;subst hz;simp
 |frz st fl rows=>simp[agY]at hz;subst hz;simp
 |dead=>simp[agY]at hz
 |lp=>simp[agY]at hz
theorem az8{g:HF}:∀{d:Nat} {v:AV} {p:AV × List Nat},rd d g v=some p→an8 d g v=some p.1
 |0,v,p,h=>by simp[rd]at h
 |d+1,v,p,h=>by
  cases v with
  |slr st b r len=>
   simp only[rd,alE]at h
   obtain⟨z,hz,h⟩:=h
   split at h
   ·rename_i hq
    obtain⟨rfl,rfl,rfl⟩:=hq
    simp only[an8,aEX (alE.2 hz),amE]
    cases hfl:z.2.1 with
    |true=>rw[hfl]at h;simp at h;rw[←h];rfl
    |false=>
     rw[hfl]at h
     simp only[cond_false,ak3]at h
     obtain⟨q,hq',rfl⟩:=h
     simp[azL hq' (fun r' _ x _ q' hx=>az8 hx)]
   ·cases h
  |agg cs=>
   simp only[rd,ak3]at h
   obtain⟨q,hq,rfl⟩:=h
   simp[an8,ax8 hq (fun x _ q' hx=>az8 hx)]
  |iface t x=>
   simp only[rd,ak3]at h
   obtain⟨q,hq,rfl⟩:=h
   simp[an8,az8 hq]
  |func fn a b=>cases a<;>cases b<;>first|(simp[rd]at h;subst h;rfl)|(simp[rd]at h)
  |_=>first|(simp[rd]at h;subst h;rfl)|(simp[rd]at h)
def alF:Nat→(Nat→Option Nat)→AV→Option AV
 |0,_,_=>none
 |d+1,F,v=>
  match v with
  | .ptr b r o=>(F b).map fun b=>.ptr b r o
  | .slr st b r len=>(F b).map fun b=>.slr st b r len
  | .agg cs=>(afD (alF d F) cs).map .agg
  | .tup cs=>(afD (alF d F) cs).map .tup
  | .iface t x=>(alF d F x).map (.iface t)
  | .func fn a b=>(afD (alF d F) a).bind fun a=>(afD (alF d F) b).map fun b=>.func fn a b
  | .yl b=>(F b).map .yl
  | .mapr b=>(F b).map .mapr
  | .itr b=>(F b).map .itr
  |v=>some v
def aSZ(F:Nat→Option Nat)(g' g:HF):Prop:=∀i b,F i=some b→∀z,(g b).bind agY=some z→
 ∃rows',(g' i).bind agY=some (z.1,z.2.1,rows')∧(z.2.1=true→rows'=z.2.2)∧(z.2.1=false→afD (afD (alF 8 F)) rows'=some z.2.2)
theorem atH{α β:Type}{f:α→Option β}:∀{l:List α} {r:List β},afD f l=some r→l.length=r.length
 | [],r,h=>by simp[afD]at h;subst h;rfl
 |a::l,r,h=>by
  simp only[afD,alE,ak3]at h
  obtain⟨b,_,bs,h2,rfl⟩:=h
  simp[atH h2]
theorem aEC{f f':AV→Option (AV × List Nat)}{F:AV→Option AV}{Z:Nat→Prop}:∀{l l':List AV} {p:List AV × List Nat},afD F l'=some l→rdL f l=some p→
 (∀x' x q,F x'=some x→f x=some q→∃R',f' x'=some (q.1,R')∧R'.length=q.2.length∧∀i∈R',Z i)→∃R',rdL f' l'=some (p.1,R')∧R'.length=p.2.length∧∀i∈R',Z i
 |l,[],p,ho,h,_=>by
  simp[afD]at ho;subst ho
  simp[rdL]at h;subst h
  exact⟨[],rfl,rfl,fun i h=>by cases h⟩
 |l,a'::l',p,ho,h,hf=>by
  simp only[afD,alE,ak3]at ho
  obtain⟨a,ha,l1,hl1,rfl⟩:=ho
  simp only[rdL,alE,ak3]at h
  obtain⟨q,hq,r,hr,rfl⟩:=h
  obtain⟨R1,e1,e2,z1⟩:=hf a' a q ha hq
  obtain⟨R2,e3,e4,z2⟩:=aEC hl1 hr hf
  exact⟨R1++R2,by simp[rdL,e1,e3],by simp[e2,e4],fun i hi=>(aq4.1 hi).elim (z1 i) (z2 i)⟩
theorem aBX{f f':AV→Option (AV × List Nat)}{F:AV→Option AV}{Z:Nat→Prop}:∀{l l':List (List AV)} {p:List (List AV) × List Nat},afD (afD F) l'=some l→akX f l=some p→
 (∀x' x q,F x'=some x→f x=some q→∃R',f' x'=some (q.1,R')∧R'.length=q.2.length∧∀i∈R',Z i)→∃R',akX f' l'=some (p.1,R')∧R'.length=p.2.length∧∀i∈R',Z i
 |l,[],p,ho,h,_=>by
  simp[afD]at ho;subst ho
  simp[akX]at h;subst h
  exact⟨[],rfl,rfl,fun i h=>by cases h⟩
 |l,a'::l',p,ho,h,hf=>by
  simp only[afD,alE,ak3]at ho
  obtain⟨a,ha,l1,hl1,rfl⟩:=ho
  simp only[akX,alE,ak3]at h
  obtain⟨q,hq,r,hr,rfl⟩:=h
  obtain⟨R1,e1,e2,z1⟩:=aEC ha hq hf
  obtain⟨R2,e3,e4,z2⟩:=aBX hl1 hr hf
  exact⟨R1++R2,by simp[akX,e1,e3],by simp[e2,e4],fun i hi=>(aq4.1 hi).elim (z1 i) (z2 i)⟩
theorem aOF{F:Nat→Option Nat}{g' g:HF}(H:aSZ F g' g):∀{d e:Nat} {x' x:AV} {p:AV × List Nat},alF e F x'=some x→rd d g x=some p→∃R',rd d g' x'=some (p.1,R')∧R'.length=p.2.length∧∀i∈R',∃b,F i=some b
 |0,e,x',x,p,_,h=>by simp[rd]at h
 |d+1,0,x',x,p,hx,_=>by simp[alF]at hx
 |d+1,e+1,x',x,p,hx,h=>by
  have IH:∀e x' x q,alF e F x'=some x→rd d g x=some q→∃R',rd d g' x'=some (q.1,R')∧R'.length=q.2.length∧∀i∈R',∃b,F i=some b:=fun e x' x q h1 h2=>aOF H h1 h2
  cases x' with
  |slr st i r len=>
   simp only[alF,ak3]at hx
   obtain⟨b,hb,rfl⟩:=hx
   simp only[rd,alE]at h
   obtain⟨z,hz,h⟩:=h
   split at h
   ·rename_i hq
    obtain⟨rows',k1,k2,k3⟩:=H i b hb z (alE.2 hz)
    simp only[rd,k1,amE]
    cases hfl:z.2.1 with
    |true=>
     rw[hfl]at h;simp at h
     rw[if_pos ⟨hq.1,hq.2.1,by rw[k2 hfl];exact hq.2.2⟩,←h,k2 hfl]
     exact⟨[i],rfl,rfl,fun j hj=>by simp at hj;subst hj;exact⟨b,hb⟩⟩
    |false=>
     rw[hfl]at h
     simp only[cond_false,ak3]at h
     obtain⟨q,hq',rfl⟩:=h
     have hl:=atH (k3 hfl)
     rw[if_pos ⟨hq.1,hq.2.1,by rw[hl];exact hq.2.2⟩]
     obtain⟨R',e1,e2,z1⟩:=aBX (f':=rd d g') (k3 hfl) hq' (fun x' x q h1 h2=>IH 8 x' x q h1 h2)
     exact⟨i::R',by simp[e1],by simp[e2],fun j hj=>(anO.1 hj).elim (fun e=>e▸⟨b,hb⟩) (z1 j)⟩
   ·cases h
  |agg cs=>
   simp only[alF,ak3]at hx
   obtain⟨cs',hcs,rfl⟩:=hx
   simp only[rd,ak3]at h
   obtain⟨q,hq,rfl⟩:=h
   obtain⟨R',e1,e2,z1⟩:=aEC (f':=rd d g') hcs hq (fun x' x q h1 h2=>IH e x' x q h1 h2)
   exact⟨R',by simp[rd,e1],e2,z1⟩
  |iface t y=>
   simp only[alF,ak3]at hx
   obtain⟨y',hy,rfl⟩:=hx
   simp only[rd,ak3]at h
   obtain⟨q,hq,rfl⟩:=h
   obtain⟨R',e1,e2,z1⟩:=IH e _ _ q hy hq
   exact⟨R',by simp[rd,e1],e2,z1⟩
  |func fn a b=>
   simp only[alF,alE,ak3]at hx
   obtain⟨a1,ha,b1,hb,rfl⟩:=hx
   have la:=atH ha
   have lb:=atH hb
   cases a1 with
   |cons=>simp[rd]at h
   |nil=>
    cases b1 with
    |cons=>simp[rd]at h
    |nil=>
     simp at la lb
     obtain rfl:=la
     obtain rfl:=lb
     simp[rd]at h;subst h
     exact⟨[],rfl,rfl,fun i h=>by cases h⟩
  |ptr b r o=>
   simp only[alF,ak3]at hx
   obtain⟨b,hb,rfl⟩:=hx
   simp[rd]at h
  |tup cs=>
   simp only[alF,ak3]at hx
   obtain⟨b,hb,rfl⟩:=hx
   simp[rd]at h
  |yl b=>
   simp only[alF,ak3]at hx
   obtain⟨b,hb,rfl⟩:=hx
   simp[rd]at h
  |mapr b=>
   simp only[alF,ak3]at hx
   obtain⟨b,hb,rfl⟩:=hx
   simp[rd]at h
  |itr b=>
   simp only[alF,ak3]at hx
   obtain⟨b,hb,rfl⟩:=hx
   simp[rd]at h
  |imm=>simp[alF]at hx;subst hx;simp[rd]at h
  |iptr=>simp[alF]at hx;subst hx;simp[rd]at h
  |_=>simp[alF]at hx;subst hx;simp[rd]at h;subst h;exact⟨[],rfl,rfl,fun i h=>by cases h⟩
end
noncomputable section
open Go.RowKit
section
variable {P:Program} {O:Orc} {pr:arK}
def fnS(P:Program)(rs:List ResultVar)(x:R):Option (Out × qR):=
 match x with
 |some (.normal,s)|some (.ret,s)=>(as2 P s rs).map fun vs=>(.ret (asE vs),s.h)
 |some (.pan v,s)=>some (.pan v,s.h)
 |_=>none
theorem aXS{f:Nat}{fn:Func}(hf:P.funcs[f]?=some fn){c:Code}(hb:fn.body=some c){args:List AV}(hl:args.length≤fn.ntmps)(h:qR):
 evS O P f args h=fnS P fn.results.toList (evM O P aqA c [] ⟨mk fn.ntmps (ent args),h⟩):=by
 unfold evS
 simp only[hf,hb]
 rw[aPM _ _ hl]
 cases evM O P aqA c [] ⟨mk fn.ntmps (ent args),h⟩with
 |none=>rfl
 |some x=>
  obtain⟨e,s⟩:=x
  cases e<;>rfl
def FnS(P:Program)(rs:List ResultVar)(Q:Out→qR→Prop)(x:R):Prop:=∃o h,fnS P rs x=some (o,h)∧Q o h
def RtS(vs:Option (List AV))(h:qR)(Q:Out→qR→Prop):Prop:=
 match vs with
 |some vs=>Q (.ret (asE vs)) h
 |none=>False
theorem aIN(rs:List ResultVar)(Q:Out→qR→Prop)(t:List AV)(h:qR):FnS P rs Q (some (.ret,⟨t,h⟩))=RtS (as2 P ⟨t,h⟩ rs) h Q:=by
 cases hr:as2 P ⟨t,h⟩ rs with
 |none=>simp[FnS,fnS,RtS,hr]
 |some vs=>
  have e:fnS P rs (some (.ret,⟨t,h⟩))=some (.ret (asE vs),h):=by simp[fnS,hr]
  exact propext (Iff.intro (fun⟨o,h',e',q⟩=>by rw[e]at e';cases e';exact q) (fun q=>⟨_,_,e,q⟩))
theorem asK(rs:List ResultVar)(Q:Out→qR→Prop)(t:List AV)(h:qR):FnS P rs Q (some (.normal,⟨t,h⟩))=RtS (as2 P ⟨t,h⟩ rs) h Q:=by
 rw[←aIN];rfl
theorem aQZ(vs:List AV)(h:qR)(Q:Out→qR→Prop):RtS (some vs) h Q=Q (.ret (asE vs)) h:=akZ rfl rfl
theorem aO2{rs:List ResultVar}{Q:Out→qR→Prop}:¬FnS P rs Q none:=fun⟨_,_,h,_⟩=>by simp[fnS]at h
def ShQ(O:Orc)(f:Nat)(args:List AV)(h:qR)(Q:Out→qR→Prop):Prop:=∃o h',O.call (.sh f) args h=some (o,h')∧Q o h'
theorem ShQ.start{f:Nat}{fn:Func}{c:Code}{args:List AV}{h:qR}{Q:Out→qR→Prop}(hp:pr f=none)(hf:P.funcs[f]?=some fn)(hb:fn.body=some c)(hl:Nat.ble args.length fn.ntmps=true)
 (he:FnS P fn.results.toList Q (evM (om P pr) P 5000 c [] ⟨mk fn.ntmps (ent args),h⟩)) (hs:pr.sh f=none:=by exact rfl):ShQ (om P pr) f args h Q:=by
 obtain⟨o,h',e,q⟩:=he
 exact⟨o,h',aVG hp hs ((aXS hf hb (Nat.le_of_ble_eq_true hl) h).trans e),q⟩
theorem ShQ.eq{f:Nat}{args:List AV}{h:qR}{o:Out}{h':qR}(k:ShQ O f args h fun o1 h1=>(o1,h1)=(o,h')):O.call (.sh f) args h=some (o,h'):=by
 obtain⟨o1,h1,e,q⟩:=k
 rw[e,q]
def ncK(x:Option AV):OE:=
 match x with
 |some (.ptr b r o)=>some (.ret (.ptr b r o),[])
 |some (.iptr cs)=>some (.ret (.iptr cs),[])
 |some (.func (.func f) a c)=>some (.ret (.func (.func f) a c),[])
 |_=>none
theorem aYB(b r o:Nat):ncK (some (.ptr b r o))=some (.ret (.ptr b r o),[]):=akZ rfl rfl
theorem a0A(t:List AV)(h:qR)(x:Operand):anR O P t h (.nilCheck x)=ncK (ab9 t x):=by
 rw[ak7 _ _ _ rfl]
 simp only[exec,ncK]
 cases ab9 t x with
 |none=>rfl
 |some v=>
  cases v with
  |func fn a c=>cases fn<;>rfl
  |_=>rfl
end
def EVq:=PLift.up (acD @aIN (acD @asK (acD @aQZ (acD @aYB @a0A))))
end
noncomputable section
open Go.RowKit
section
variable {P:Program} {O:Orc}
end
def aUX(k st:Nat)(fl:Bool)(rows:List (List AV))(v:AV)(g:qR):Prop:=
 (rows=[]∧v=.nils)∨∃b w,v=.slr st (b+k) 0 rows.length∧g[b]?=some (.live st fl w rows)
def kl(k:Nat)(v:AV)(g:qR):qR:=
 match v with
 | .slr _ b _ _=>g.set (b-k) .dead
 |_=>g
theorem aDO(k:Nat)(v:AV)(g:qR):(kl k v g).length=g.length:=by
 unfold kl;split<;>simp
def apE(v:AV)(st:Nat)(fl:Bool)(rows:List (List AV))(base:Nat):List ab8:=
 match v with
 | .slr _ b _ _=>[.put b .dead,.new base (.live st fl false rows)]
 |_=>[.new base (.live st fl false rows)]
theorem aRZ{k n:Nat}{fl:Bool}{rows:List (List AV)}{v:AV}{g:qR}(ho:aUX k n fl rows v g){pre:qR}(hk:pre.length=k)(l:qR)(r:List AV)(new:List (List AV))(hl:rows.length+(new.length+1)≤549755813888):
 apK n (pre++(g++l)) (some v) (some (fl,r::new))=some (.ret (.slr n (pre++(g++l)).length 0 (rows.length+(r::new).length)),apE v n fl (rows++r::new) (pre++(g++l)).length):=by
 rcases ho with⟨rfl,rfl⟩|⟨b,w,rfl,h2⟩
 ·rw[aIL,if_pos (by simp at hl ⊢;omega)]
  simp[apE]
 ·have hb:=(aoC.1 h2).1
  have hq:(pre++(g++l))[b+k]?=some (.live n fl w rows):=by
   rw[aCX (by omega),arT (by omega)]
   rw[show b+k-pre.length=b by omega];exact h2
  rw[aID,hq,aBJ,if_pos ⟨rfl,by omega,by simp only[awA];omega⟩]
  simp[apE]
theorem aMY{k n:Nat}{fl:Bool}{rows:List (List AV)}{v:AV}{g:qR}(ho:aUX k n fl rows v g){pre:qR}(hk:pre.length=k)(l:qR)(st:Nat)(fl':Bool)(rows':List (List AV))(base:Nat):
 ag5 (pre++(g++l)) (apE v st fl' rows' base)=pre++(kl k v g++(l++[.live st fl' false rows'])):=by
 rcases ho with⟨rfl,rfl⟩|⟨b,w,rfl,h2⟩
 ·simp[apE,ag5,aq7,kl]
 ·have hb:=(aoC.1 h2).1
  simp only[apE,ag5,aq7,kl,Nat.add_sub_cancel]
  rw[List.set_append_right _ _ (by omega),show b+k-pre.length=b by omega,List.set_append_left _ _ hb]
  simp
def pkd(O:Orc)(f:Nat)(args:List AV):Prop:=hdR args=true→(ay0 args||O.md f)=false
theorem aVW{O:Orc}{f:Nat}{args:List AV}(h:hdR args=false):pkd O f args:=fun k=>by rw[h]at k;cases k
theorem aP6{O:Orc}{h:qR}{f:Nat}{args:List AV}(hd:pkd O f args):cl O h (some (.func (.func f) [] [])) (some args)=cr (ak4 O (hf h) h.length (.fn f) args):=by
 rw[aGM]
 simp only[ar1,axG]
 split
 ·rename_i hh
  unfold shC
  rw[hd hh];simp only[Bool.false_eq_true,if_false]
 ·rfl
section
variable {P:Program} (ty:TypeId)
end
theorem aEF{α:Type}{f:α→Option α}:∀{l:List α},(∀x∈l,f x=some x)→afD f l=some l
 | [],_=>rfl
 |a::l,h=>by simp only[afD,h a (am7 ..),amE,aEF (fun x hx=>h x (am5 _ hx)),an3]
end
noncomputable section
open Go.RowKit
section
variable {P:Program} {O:Orc} {pr:arK}
def rnX(O:Orc)(P:Program)(n:Nat)(k:List acF)(t:List AV)(b:Nat)(h2:qR)(x:Option CB):R:=
 match x with
 |some (.lp _ _ _ _ .ready)=>akW (evM O P n) k .normal ⟨t,h2.set b .dead⟩
 |some (.lp _ _ _ _ (.done .ret))=>akW (evM O P n) k .ret ⟨t,h2.set b .dead⟩
 |some (.lp _ _ _ _ (.done (.exit i)))=>akW (evM O P n) k (.exit i) ⟨t,h2.set b .dead⟩
 |_=>none
def rnE(O:Orc)(P:Program)(n:Nat)(k:List acF)(t:List AV)(b:Nat)(h1:qR)(x:OE):R:=
 match x with
 |some (.ret _,es)=>rnX O P n k t b (ag5 h1 es) ((ag5 h1 es)[b]?)
 |_=>none
def rnC(O:Orc)(h1:qR)(b:Nat)(fv:Option AV):OE:=
 match fv with
 |some (.func (.func g) a c)=>cr (anD O (hf h1) h1.length (atE g (a++[.yl b]++c)) (a++[.yl b]++c))
 |_=>none
theorem a0X(n:Nat)(k:List acF)(t:List AV)(b:Nat)(h1:qR)(x:Option aqB):
 (x.bind fun d=>match d.out with
   | .ret _=>
     let h2:=ag5 h1 d.es
     match h2[b]? with
     |some (.lp _ _ _ _ .ready)=>akW (evM O P n) k .normal ⟨t,h2.set b .dead⟩
     |some (.lp _ _ _ _ (.done .ret))=>akW (evM O P n) k .ret ⟨t,h2.set b .dead⟩
     |some (.lp _ _ _ _ (.done (.exit i)))=>akW (evM O P n) k (.exit i) ⟨t,h2.set b .dead⟩
     |_=>none
   | .pan _=>none)=rnE O P n k t b h1 (cr x):=by
 cases x with
 |none=>rfl
 |some d=>
  obtain⟨o,es,fs⟩:=d
  cases o<;>rfl
theorem aWR(n:Nat)(f:Operand)(ps:Array Nat)(asg body:Code)(k:List acF)(t:List AV)(h:qR):
 evM O P (n+1) (.rangeFunc f ps asg body) k ⟨t,h⟩=rnE O P n k t h.length (h++[.lp ps.toList asg body t .ready]) (rnC O (h++[.lp ps.toList asg body t .ready]) h.length (ab9 t f)):=by
 simp only[evM,rnC]
 cases ab9 t f with
 |none=>rfl
 |some v=>
  simp only[amE]
  cases v with
  |func fn a c=>
   cases fn with
   |func g=>exact a0X n k t h.length _ _
   |_=>rfl
  |_=>rfl
theorem aXH(h1:qR)(b g:Nat)(a c:List AV):rnC O h1 b (some (.func (.func g) a c))=if hdR (a++[.yl b]++c)=true then shC O h1 g (a++[.yl b]++c)else cr (ak4 O (hf h1) h1.length (.fn g) (a++[.yl b]++c)):=aO0 h1 g _
theorem aST(n:Nat)(k:List acF)(t:List AV)(b:Nat)(h1:qR)(v:AV)(es:List ab8):rnE O P n k t b h1 (some (.ret v,es))=rnX O P n k t b (ag5 h1 es) ((ag5 h1 es)[b]?):=akZ rfl rfl
theorem aLY(n:Nat)(k:List acF)(t:List AV)(b:Nat)(h2:qR)(ps:List Nat)(asg body:Code)(tm:List AV):rnX O P n k t b h2 (some (.lp ps asg body tm .ready))=akW (evM O P n) k .normal ⟨t,h2.set b .dead⟩:=akZ rfl rfl
def slK(h:qR)(b:Nat)(ok:LSt→Bool)(st:LSt)(x:Option CB):Option qR:=
 match x with
 |some (.lp ps asg body tmps st')=>if ok st' then some (h.set b (.lp ps asg body tmps st))else none
 |_=>none
theorem aZN(h:qR)(b:Nat)(ok:LSt→Bool)(st:LSt):aq5 h b ok st=slK h b ok st (h[b]?):=by
 unfold aq5 slK
 cases h[b]? with
 |none=>rfl
 |some c=>cases c<;>rfl
theorem aO9(h:qR)(b:Nat)(st:LSt)(ps:List Nat)(asg body:Code)(tm:List AV):slK h b LSt.isReady st (some (.lp ps asg body tm .ready))=some (h.set b (.lp ps asg body tm st)):=akZ rfl rfl
theorem aTL(h:qR)(b:Nat)(st:LSt)(ps:List Nat)(asg body:Code)(tm:List AV):slK h b LSt.isBusy st (some (.lp ps asg body tm .busy))=some (h.set b (.lp ps asg body tm st)):=akZ rfl rfl
def aTX(O:Orc)(P:Program)(body:Code)(t:List AV)(x:Option qR):R:=
 match x with
 |some h1=>evM O P 5000 body [] ⟨t,h1⟩
 |none=>none
def aQQ(O:Orc)(P:Program)(b:Nat)(body:Code)(x:R):R:=
 match x with
 |some (.normal,s)=>aTX O P body s.tmps (aq5 s.h b LSt.isReady .busy)
 |_=>none
def aEP(r:Bool)(x:Option qR):Option (Out × qR):=x.map fun h2=>(.ret (.bool r),h2)
def aLC(b:Nat)(x:R):Option (Out × qR):=
 match x with
 |some (.normal,s)=>aEP true (aq5 s.h b LSt.isBusy .ready)
 |some (.ret,s)=>aEP false (aq5 s.h b LSt.isBusy (.done .ret))
 |some (.exit i,s)=>aEP false (aq5 s.h b LSt.isBusy (.done (.exit i)))
 |_=>none
theorem aLJ(body:Code)(t:List AV)(h:qR):aTX O P body t (some h)=evM O P 5000 body [] ⟨t,h⟩:=akZ rfl rfl
theorem aG1(b:Nat)(body:Code)(t:List AV)(h:qR):aQQ O P b body (some (.normal,⟨t,h⟩))=aTX O P body t (aq5 h b LSt.isReady .busy):=akZ rfl rfl
theorem aK4(r:Bool)(h:qR):aEP r (some h)=some (.ret (.bool r),h):=akZ rfl rfl
theorem aQM{vs:List AV}{b:Nat}{h:qR}{ps:List Nat}{asg body:Code}{tm:List AV}{st:LSt}(hb:h[b]?=some (.lp ps asg body tm st))(hl:ps.length=vs.length):
 aq1 O P (vs++[.yl b]) h=aLC b (aQQ O P b body (evM O P 5000 asg [] ⟨ar2 tm ps vs,h⟩)):=by
 unfold aq1
 simp only[List.reverse_append,List.reverse_cons,List.reverse_nil,ar1,aB8,List.reverse_reverse,List.length_reverse,hb,hl,if_true,aqA]
 cases evM O P 5000 asg [] ⟨ar2 tm ps vs,h⟩with
 |none=>rfl
 |some x=>
  obtain⟨e,s⟩:=x
  cases e with
  |normal=>
   simp only[amE,aQQ]
   cases aq5 s.h b LSt.isReady .busy with
   |none=>rfl
   |some h1=>
    simp only[amE,aTX]
    cases evM O P 5000 body [] ⟨s.tmps,h1⟩with
    |none=>rfl
    |some y=>
     obtain⟨e,s⟩:=y
     cases e with
     |normal=>simp only[amE,arV,aLC,aEP];cases aq5 s.h b LSt.isBusy .ready<;>rfl
     |ret=>simp only[amE,arV,aLC,aEP];cases aq5 s.h b LSt.isBusy (.done .ret)<;>rfl
     |exit i=>simp only[amE,arV,aLC,aEP];cases aq5 s.h b LSt.isBusy (.done (.exit i))<;>rfl
     |pan v=>rfl
  |_=>rfl
def RnE(b:Nat)(Q:Out→qR→Prop)(x:R):Prop:=∃o h',aLC b x=some (o,h')∧Q o h'
def RnQ(O:Orc)(args:List AV)(h:qR)(Q:Out→qR→Prop):Prop:=∃o h',O.call .round args h=some (o,h')∧Q o h'
theorem RnQ.start{vs:List AV}{b:Nat}{h:qR}{ps:List Nat}{asg body:Code}{tm:List AV}{st:LSt}{Q:Out→qR→Prop}(hb:h[b]?=some (.lp ps asg body tm st))(hl:ps.length=vs.length)
 (he:RnE b Q (aQQ (om P pr) P b body (evM (om P pr) P 5000 asg [] ⟨ar2 tm ps vs,h⟩))):RnQ (om P pr) (vs++[.yl b]) h Q:=by
 obtain⟨o,h',e,q⟩:=he
 exact⟨o,h',aGU ((aQM hb hl).trans e),q⟩
theorem aO5{C:R→Prop}{n f b:Nat}{k:List acF}{t:List AV}{h1 h2:qR}{args:List AV}{Q:Out→qR→Prop}(hq:ShQ O f args h2 Q)(hk:∀o h',Q o h'→C (rnE O P n k t b h1 (shK h1 (some (o,h'))))):C (rnE O P n k t b h1 (shK h1 (O.call (.sh f) args h2))):=by
 obtain⟨o,h',e,q⟩:=hq
 rw[e];exact hk o h' q
theorem aK6(b:Nat)(Q:Out→qR→Prop)(t:List AV)(h:qR):RnE b Q (some (.normal,⟨t,h⟩))=∃o h',aEP true (aq5 h b LSt.isBusy .ready)=some (o,h')∧Q o h':=akZ rfl rfl
theorem aMO{b:Nat}{Q:Out→qR→Prop}:¬RnE b Q none:=fun⟨_,_,h,_⟩=>by simp[aLC]at h
theorem aUH(n:Nat)(t:Tm)(p:Nat)(ps:List Nat)(v:AV)(vs:List AV):ar2 (mk n t) (p::ps) (v::vs)=ar2 (mk n (up t p v)) ps vs:=by
 simp only[ar2,aO6]
theorem aW6(n:Nat)(t:Tm)(vs:List AV):ar2 (mk n t) [] vs=mk n t:=by cases vs<;>rfl
end
section
variable {P:Program} {O:Orc}
end
def EVs:=PLift.up (acD @aWR (acD @aXH (acD @aST (acD @aLY (acD @aZN (acD @aO9 (acD @aTL (acD @aLJ (acD @aG1 (acD @aK4 (acD @aK6 (acD @aUH @aW6))))))))))))
end
noncomputable section
open Go.RowKit
set_option maxRecDepth 100000
def EVZ:=PLift.up (acD EVa.down (acD EVb.down (acD EVc.down (acD EVd.down (acD EVe.down (acD EVf.down (acD EVg.down (acD EVh.down (acD EVi.down (acD EVj.down (acD EVk.down (acD EVl.down (acD EVm.down (acD EVn.down (acD EVo.down (acD EVp.down EVq.down))))))))))))))))
section
variable {P:Program} {O:Orc}
class NoN(C:R→Prop):Prop where
 no:¬C none
instance{q:Nat}{rs:List ResultVar}{Q:Out→qR→Prop}:NoN (FnE P q rs Q):=⟨aP5⟩
instance{rs:List ResultVar}{Q:Out→qR→Prop}:NoN (FnS P rs Q):=⟨aO2⟩
instance{N:Nat}{J:Tm→qR→Prop}{Q:Ex→St→Prop}:NoN (Rnd N J Q):=⟨aNV⟩
instance{b:Nat}{Q:Out→qR→Prop}:NoN (RnE b Q):=⟨aMO⟩
end
end
noncomputable section
open Go.RowKit
set_option maxRecDepth 100000
section
variable {P:Program} {O:Orc}
class Spl(r:R)(b:outParam Bool)(x y:outParam R):Prop where
 sp:∀{C:R→Prop},(b=true→C x)→(b=false→C y)→C r
instance{n:Nat}{k:List acF}{d:Option Nat}{op:Op}{cs:List CO}{b w:Bool}{t:List AV}{h:qR}:Spl (rcG O P n k d op cs (.bool b) w t h) b (rcG O P n k d op cs (.bool true) w t h) (rcG O P n k d op cs (.bool false) w t h):=⟨a0P⟩
instance{n:Nat}{x y:Code}{k:List acF}{g:Bool}{s:St}:Spl (cdK O P n x y k (some (.bool g)) s) g (evM O P n x k s) (evM O P n y k s):=⟨a0C⟩
instance{n:Nat}{k:List acF}{d:Option Nat}{op:Op}{cs:List CO}{b w:Bool}{t:List AV}{h:qR}:Spl (rqG O P n k d op cs (.bool b) w t h) b (rqG O P n k d op cs (.bool true) w t h) (rqG O P n k d op cs (.bool false) w t h):=⟨a1V⟩
instance{n:Nat}{k:List acF}{d:Option Nat}{op:Op}{cs:List CO}{b w:Bool}{t:List AV}{h:qR}:Spl (rwG O P n k d op cs (.bool b) w t h) b (rwG O P n k d op cs (.bool true) w t h) (rwG O P n k d op cs (.bool false) w t h):=⟨aZS⟩
instance{n:Nat}{k:List acF}{ops:List Oper}{d:Option Nat}{op:Op}{cs:List CO}{b w:Bool}{t:List AV}{h:qR}{log:Log}:Spl (rlG O P n k ops d op cs (.bool b) w t h log) b (rlG O P n k ops d op cs (.bool true) w t h log) (rlG O P n k ops d op cs (.bool false) w t h log):=⟨aZQ⟩
theorem fsp{C:R→Prop}{r x y:R}{b:Bool}(h1:b=true→C x)(h2:b=false→C y)(s:Spl r b x y:=by infer_instance):C r:=s.sp h1 h2
class Drw(i:Nat)(r:R)(c:outParam Bool)(r':outParam R):Prop where
 dr:∀{C:R→Prop},¬C none→c=true→C r'→C r
instance{b:Bool}{k:R}:Drw 0 (aoY b k) b k:=⟨fun _=>aZI⟩
instance{n id:Nat}{ops:Array Oper}{k:List acF}{t:List AV}{h:qR}:Drw 1 (evM O P (n+1) (.region id ops true) k ⟨t,h⟩) (arE ops.toList&&aJR ops.toList) (rw O P n k (ops.toList.map (aoV ops.toList)) t h):=⟨fun h=>a0T h⟩
instance{n id:Nat}{ops:Array Oper}{k:List acF}{t:List AV}{h:qR}:Drw 2 (evM O P (n+1) (.region id ops true) k ⟨t,h⟩) (arE ops.toList&&a1T ops.toList) (rq O P n k (ops.toList.map (aoV ops.toList)) t h):=⟨fun h=>a0S h⟩
instance{n id:Nat}{ops:Array Oper}{k:List acF}{t:List AV}{h:qR}:Drw 3 (evM O P (n+1) (.region id ops true) k ⟨t,h⟩) (arE ops.toList) (rl O P n k ops.toList (ops.toList.map (aoV ops.toList)) t h []):=⟨fun h=>a0E h⟩
structure Dw(r r':R):Prop where
 dr:∀{C:R→Prop},¬C none→C r'→C r
theorem dg{r r':R}{c:Bool}[d:Drw 0 r c r'](h:c=true:=by kernel_rfl):Dw r r':=⟨fun n k=>d.dr n h k⟩
theorem dw(i:Nat){r r':R}{c:Bool}[d:Drw i r c r'](h:c=true:=by decide+kernel):Dw r r':=⟨fun n k=>d.dr n h k⟩
theorem fd{C:R→Prop}{r r':R}[n:NoN C](k:C r')(e:Dw r r':=by first|exact dg|exact dw 1|exact dw 2|exact dw 3):C r:=e.dr n.no k
theorem fdl{C:R→Prop}{r r':R}[n:NoN C](k:C r')(e:Dw r r':=by first|exact dg|exact dw 1|exact dw 3):C r:=e.dr n.no k
end
section
variable {P:Program} {O:Orc}
def Un(O:Orc)(P:Program)(n:Nat)(k:List acF)(c:Code)(C:R→Prop):R→Prop
 |some (.normal,s)=>C (lpK O P n k (O.loop c s))
 |some (e,s)=>C (akW (evM O P n) k e s)
 |none=>False
instance{n:Nat}{k:List acF}{c:Code}{C:R→Prop}:NoN (Un O P n k c C):=⟨fun h=>h⟩
end
def EE:=PLift.up (acD EVZ.down (acD @aoV.eq_1 (acD @ab9.eq_1 (acD @ab9.eq_2 (acD @ab9.eq_4 (acD @ajN.eq_1 (acD @ajN.eq_2 (acD @aCZ.eq_3 (acD @awP.eq_1 (acD @awP.eq_2 (acD @awP.eq_4 (acD @awP.eq_5 (acD @awP.eq_6 (acD @ag5.eq_1 (acD @ag5.eq_2 (acD @aq7.eq_1 (acD @aq7.eq_2 (acD @aq7.eq_3 (acD @aqC.eq_1 (acD @ak0.eq_1 (acD @bsK.eq_1 (acD @asE.eq_1 (acD @asE.eq_2 (acD @decide_true @decide_false))))))))))))))))))))))))
def EF:=PLift.up (acD EE.down EE.down)
def EG:=PLift.up (acD EF.down EVs.down)
end
noncomputable section
open Go.RowKit
def On(m:List Nat)(F:Nat→Option Nat):Prop:=∀i b,m[i]?=some b→F i=some b
theorem On.mono{m m':List Nat}{F:Nat→Option Nat}(h:On m' F)(hp:m <+:m'):On m F:=fun _ _ hi=>h _ _ (arD hp hi)
structure Gd(m m' R:List Nat):Prop where
 pre:m <+:m'
 nd:m.Nodup→m'.Nodup
 sub:∀b∈m',b∈m∨b∈R
theorem Gd.refl(m R:List Nat):Gd m m R:=⟨aDB _,id,fun _ h=>.inl h⟩
theorem Gd.trans{m m1 m2 R1 R2 R:List Nat}(h1:Gd m m1 R1)(h2:Gd m1 m2 R2)(k1:∀b∈R1,b∈R)(k2:∀b∈R2,b∈R):Gd m m2 R:=
 ⟨h1.pre.trans h2.pre,fun h=>h2.nd (h1.nd h),fun b hb=>(h2.sub b hb).elim (fun h=>(h1.sub b h).imp id (k1 b)) (fun h=>.inr (k2 b h))⟩
theorem aF8(m:List Nat)(b:Nat){R:List Nat}(hb:b∈R):Gd m (place m b).2 R:=by
 refine⟨(apC m b).2.1,(apC m b).2.2,fun x hx=>?_⟩
 unfold place at hx
 split at hx
 ·exact .inl hx
 ·rcases aq4.1 hx with h|h
  ·exact .inl h
  ·simp at h;subst h;exact .inr hb
def Sp(e:Nat)(x:AV)(R:List Nat):Prop:=∀m,∃x' m',ak1 e m x=some (x',m')∧Gd m m' R∧∀F,On m' F→alF e F x'=some x
def SpL(e:Nat)(l:List AV)(R:List Nat):Prop:=∀m,∃l' m',ak1.refL (ak1 e) m l=some (l',m')∧Gd m m' R∧∀F,On m' F→afD (alF e F) l'=some l
def SpR(l:List (List AV))(R:List Nat):Prop:=∀m,∃l' m',apR m l=some (l',m')∧Gd m m' R∧∀F,On m' F→afD (afD (alF 8 F)) l'=some l
theorem spL{f:AV→Option (AV × List Nat)}{e:Nat}:∀{l:List AV} {p:List AV × List Nat},rdL f l=some p→(∀x∈l,∀q,f x=some q→Sp e x q.2)→SpL e l p.2
 | [],p,h,_=>fun m=>⟨[],m,rfl,Gd.refl _ _,fun _ _=>rfl⟩
 |a::l,p,h,hf=>fun m=>by
  simp only[rdL,alE,ak3]at h
  obtain⟨q,hq,r,hr,rfl⟩:=h
  obtain⟨x',m1,e1,g1,k1⟩:=hf a (am7 ..) q hq m
  obtain⟨l',m2,e2,g2,k2⟩:=spL hr (fun x hx=>hf x (am5 _ hx)) m1
  refine⟨x'::l',m2,by simp[ak1.refL,e1,e2],g1.trans g2 (fun _ h=>ao5 _ h) (fun _ h=>apG _ h),fun F hF=>?_⟩
  simp[afD,k1 F (hF.mono g2.pre),k2 F hF]
theorem spR{f:AV→Option (AV × List Nat)}:∀{l:List (List AV)} {p:List (List AV) × List Nat},akX f l=some p→(∀r∈l,∀x∈r,∀q,f x=some q→Sp 8 x q.2)→SpR l p.2
 | [],p,h,_=>fun m=>⟨[],m,rfl,Gd.refl _ _,fun _ _=>rfl⟩
 |a::l,p,h,hf=>fun m=>by
  simp only[akX,alE,ak3]at h
  obtain⟨q,hq,r,hr,rfl⟩:=h
  obtain⟨x',m1,e1,g1,k1⟩:=spL hq (hf a (am7 ..)) m
  obtain⟨l',m2,e2,g2,k2⟩:=spR hr (fun x hx=>hf x (am5 _ hx)) m1
  refine⟨x'::l',m2,by simp[apR,e1,e2],g1.trans g2 (fun _ h=>ao5 _ h) (fun _ h=>apG _ h),fun F hF=>?_⟩
  simp[afD,k1 F (hF.mono g2.pre),k2 F hF]
theorem sp{g:HF}:∀{d e:Nat} {v:AV} {p:AV × List Nat},d≤e→rd d g v=some p→Sp e v p.2
 |0,e,v,p,_,h=>by simp[rd]at h
 |d+1,0,v,p,he,h=>by omega
 |d+1,e+1,v,p,he,h=>by
  have IH:∀x q,rd d g x=some q→Sp e x q.2:=fun x q hx=>sp (by omega) hx
  intro m
  cases v with
  |slr st b r len=>
   simp only[rd,alE]at h
   obtain⟨z,_,h⟩:=h
   split at h
   ·have hb:b∈p.2:=by
     cases hfl:z.2.1 with
     |true=>rw[hfl]at h;simp at h;rw[←h];simp
     |false=>rw[hfl]at h;simp only[cond_false,ak3]at h;obtain⟨q,_,rfl⟩:=h;simp
    exact⟨_,_,rfl,aF8 m b hb,fun F hF=>by simp[alF,hF _ _ (apC m b).1]⟩
   ·cases h
  |agg cs=>
   simp only[rd,ak3]at h
   obtain⟨q,hq,rfl⟩:=h
   obtain⟨l',m1,e1,g1,k1⟩:=spL hq (fun x _=>IH x) m
   exact⟨.agg l',m1,by simp[ak1,e1],g1,fun F hF=>by simp[alF,k1 F hF]⟩
  |iface t x=>
   simp only[rd,ak3]at h
   obtain⟨q,hq,rfl⟩:=h
   obtain⟨l',m1,e1,g1,k1⟩:=IH x q hq m
   exact⟨.iface t l',m1,by simp[ak1,e1],g1,fun F hF=>by simp[alF,k1 F hF]⟩
  |func fn a b=>
   cases a with
   |cons=>simp[rd]at h
   |nil=>
    cases b with
    |cons=>simp[rd]at h
    |nil=>exact⟨_,m,rfl,Gd.refl _ _,fun _ _=>rfl⟩
  |ptr b r o=>simp[rd]at h
  |tup cs=>simp[rd]at h
  |yl b=>simp[rd]at h
  |mapr b=>simp[rd]at h
  |itr b=>simp[rd]at h
  |imm=>simp[rd]at h
  |iptr=>simp[rd]at h
  |_=>exact⟨_,m,rfl,Gd.refl _ _,fun _ _=>rfl⟩
def Cl(g:HF)(S:List Nat):Prop:=∀b∈S,∃z,(g b).bind agY=some z∧(z.2.1=false→∃d q,d≤8∧akX (rd d g) z.2.2=some q∧∀x∈q.2,x∈S)
theorem Cl.nil(g:HF):Cl g []:=fun _ h=>by cases h
theorem Cl.app{g:HF}{S T:List Nat}(h1:Cl g S)(h2:Cl g T):Cl g (S++T):=fun b hb=>by
 rcases aq4.1 hb with h|h
 ·obtain⟨z,k1,k2⟩:=h1 b h
  exact⟨z,k1,fun e=>by obtain⟨d,q,a1,a2,a3⟩:=k2 e;exact⟨d,q,a1,a2,fun x hx=>ao5 _ (a3 x hx)⟩⟩
 ·obtain⟨z,k1,k2⟩:=h2 b h
  exact⟨z,k1,fun e=>by obtain⟨d,q,a1,a2,a3⟩:=k2 e;exact⟨d,q,a1,a2,fun x hx=>apG _ (a3 x hx)⟩⟩
theorem clL{g:HF}{f:AV→Option (AV × List Nat)}:∀{l:List AV} {p:List AV × List Nat},rdL f l=some p→(∀x∈l,∀q,f x=some q→Cl g q.2)→Cl g p.2
 | [],p,h,_=>by simp[rdL]at h;subst h;exact Cl.nil g
 |a::l,p,h,hf=>by
  simp only[rdL,alE,ak3]at h
  obtain⟨q,hq,r,hr,rfl⟩:=h
  exact(hf a (am7 ..) q hq).app (clL hr fun x hx=>hf x (am5 _ hx))
theorem clR{g:HF}{f:AV→Option (AV × List Nat)}:∀{l:List (List AV)} {p:List (List AV) × List Nat},akX f l=some p→(∀r∈l,∀x∈r,∀q,f x=some q→Cl g q.2)→Cl g p.2
 | [],p,h,_=>by simp[akX]at h;subst h;exact Cl.nil g
 |a::l,p,h,hf=>by
  simp only[akX,alE,ak3]at h
  obtain⟨q,hq,r,hr,rfl⟩:=h
  exact(clL hq (hf a (am7 ..))).app (clR hr fun x hx=>hf x (am5 _ hx))
theorem aJ7{g:HF}:∀{d:Nat} {v:AV} {p:AV × List Nat},d≤9→rd d g v=some p→Cl g p.2
 |0,v,p,_,h=>by simp[rd]at h
 |d+1,v,p,hd,h=>by
  have IH:∀x q,rd d g x=some q→Cl g q.2:=fun x q hx=>aJ7 (by omega) hx
  cases v with
  |slr st b r len=>
   simp only[rd,alE]at h
   obtain⟨z,hz,h⟩:=h
   have hz':(g b).bind agY=some z:=alE.2 hz
   split at h
   ·cases hfl:z.2.1 with
    |true=>
     rw[hfl]at h;simp at h;rw[←h]
     intro b' hb'
     simp at hb';subst hb'
     exact⟨z,hz',fun e=>by rw[hfl]at e;cases e⟩
    |false=>
     rw[hfl]at h;simp only[cond_false,ak3]at h
     obtain⟨q,hq,rfl⟩:=h
     intro b' hb'
     rcases anO.1 hb' with rfl|hb'
     ·exact⟨z,hz',fun _=>⟨d,q,by omega,hq,fun x hx=>am5 _ hx⟩⟩
     ·obtain⟨z',k1,k2⟩:=clR hq (fun r _ x _=>IH x) b' hb'
      exact⟨z',k1,fun e=>by obtain⟨d',q',a1,a2,a3⟩:=k2 e;exact⟨d',q',a1,a2,fun x hx=>am5 _ (a3 x hx)⟩⟩
   ·cases h
  |agg cs=>
   simp only[rd,ak3]at h
   obtain⟨q,hq,rfl⟩:=h
   exact clL hq fun x _=>IH x
  |iface t x=>
   simp only[rd,ak3]at h
   obtain⟨q,hq,rfl⟩:=h
   exact IH x q hq
  |func fn a b=>
   cases a<;>cases b<;>first|(simp[rd]at h;subst h;exact Cl.nil g)|(simp[rd]at h)
  |_=>first|(simp[rd]at h;subst h;exact Cl.nil g)|(simp[rd]at h)
theorem awD{F:Nat→Option Nat}(f:Nat→Nat):∀{e:Nat} {x' x:AV},alF e F x'=some x→∃y,ajS e f x'=some y
 |0,x',x,h=>by simp[alF]at h
 |e+1,x',x,h=>by
  have L:∀{l l1:List AV},afD (alF e F) l=some l1→∃y,afD (ajS e f) l=some y:=fun {l}=>by
   induction l with
   |nil=>exact fun _=>⟨[],rfl⟩
   |cons a l ih=>
    intro l1 h
    simp only[afD,alE,ak3]at h
    obtain⟨b,hb,c,hc,_⟩:=h
    obtain⟨y,hy⟩:=awD f hb
    obtain⟨ys,hys⟩:=ih hc
    exact⟨y::ys,by simp[afD,hy,hys]⟩
  cases x' with
  |agg cs=>simp only[alF,ak3]at h;obtain⟨_,h,_⟩:=h;obtain⟨y,hy⟩:=L h;exact⟨.agg y,by simp[ajS,hy]⟩
  |tup cs=>simp only[alF,ak3]at h;obtain⟨_,h,_⟩:=h;obtain⟨y,hy⟩:=L h;exact⟨.tup y,by simp[ajS,hy]⟩
  |iface t x=>simp only[alF,ak3]at h;obtain⟨_,h,_⟩:=h;obtain⟨y,hy⟩:=awD f h;exact⟨.iface t y,by simp[ajS,hy]⟩
  |func fn a b=>
   simp only[alF,alE,ak3]at h
   obtain⟨_,h1,_,h2,_⟩:=h
   obtain⟨y,hy⟩:=L h1
   obtain⟨y2,hy2⟩:=L h2
   exact⟨.func fn y y2,by simp[ajS,hy,hy2]⟩
  |_=>exact⟨_,rfl⟩
theorem aEU{α β γ:Type}{f:α→Option β}{f':α→Option γ}(H:∀a b,f a=some b→∃c,f' a=some c):∀{l:List α} {r:List β},afD f l=some r→∃s,afD f' l=some s
 | [],_,_=>⟨[],rfl⟩
 |a::l,r,h=>by
  simp only[afD,alE,ak3]at h
  obtain⟨b,hb,c,hc,_⟩:=h
  obtain⟨y,hy⟩:=H a b hb
  obtain⟨ys,hys⟩:=aEU H hc
  exact⟨y::ys,by simp[afD,hy,hys]⟩
def Stn(F:Nat→Option Nat)(c':CB)(z:Nat × Bool × List (List AV)):Prop:=
 ∃rows',agY c'=some (z.1,z.2.1,rows')∧(z.2.1=true→rows'=z.2.2)∧(z.2.1=false→afD (afD (alF 8 F)) rows'=some z.2.2)
def Rnm(c:CB):Prop:=∀f,∃c',aoE f c=some c'
theorem spB{g:HF}{S:List Nat}(H:Cl g S){b:Nat}(hb:b∈S)(m:List Nat):∃c c' m' z,g b=some c∧agY c=some z∧awV m c=some (c',m')∧Gd m m' S∧(∀F,On m' F→Stn F c' z)∧Rnm c':=by
 obtain⟨z,hz,hc⟩:=H b hb
 obtain⟨c,k1,k2⟩:=alE.1 hz
 have R:∀rows,z.2.1=false→rows=z.2.2→∃l' m',apR m rows=some (l',m')∧Gd m m' S∧∀F,On m' F→afD (afD (alF 8 F)) l'=some rows:=fun rows e er=>by
  obtain⟨d,q,a1,a2,a3⟩:=hc e
  obtain⟨l',m',e1,g1,e2⟩:=spR (er▸a2) (fun r _ x _ q hx=>sp a1 hx) m
  exact⟨l',m',e1,⟨g1.pre,g1.nd,fun x hx=>(g1.sub x hx).imp id (a3 x)⟩,e2⟩
 have R2:∀l' rows m',(∀F,On m' F→afD (afD (alF 8 F)) l'=some rows)→∀f,∃y,afD (afD (ajS 8 f)) l'=some y:=fun l' rows m' h f=>
  aEU (fun a b hab=>aEU (fun a b hab=>awD f hab) hab) (h (fun i=>m'[i]?) (fun _ _ h=>h))
 cases c with
 |live st fl w rows=>
  simp[agY]at k2;subst k2
  cases fl with
  |true=>exact⟨_,_,m,_,k1,rfl,rfl,Gd.refl _ _,fun F _=>⟨rows,rfl,fun _=>rfl,fun e=>by cases e⟩,fun f=>⟨_,rfl⟩⟩
  |false=>
   obtain⟨l',m',e1,g1,e2⟩:=R rows rfl rfl
   refine⟨_,.live st false w l',m',_,k1,rfl,by simp[awV,e1],g1,fun F hF=>⟨l',rfl,fun e=>(by cases e),fun _=>e2 F hF⟩,fun f=>?_⟩
   obtain⟨y,hy⟩:=R2 l' rows m' e2 f
   exact⟨.live st false w y,by simp[aoE,hy]⟩
 |frz st fl rows=>
  simp[agY]at k2;subst k2
  cases fl with
  |true=>exact⟨_,_,m,_,k1,rfl,rfl,Gd.refl _ _,fun F _=>⟨rows,rfl,fun _=>rfl,fun e=>by cases e⟩,fun f=>⟨_,rfl⟩⟩
  |false=>
   obtain⟨l',m',e1,g1,e2⟩:=R rows rfl rfl
   refine⟨_,.frz st false l',m',_,k1,rfl,by simp[awV,e1],g1,fun F hF=>⟨l',rfl,fun e=>(by cases e),fun _=>e2 F hF⟩,fun f=>?_⟩
   obtain⟨y,hy⟩:=R2 l' rows m' e2 f
   exact⟨.frz st false y,by simp[aoE,hy]⟩
 |dead=>simp[agY]at k2
 |lp=>simp[agY]at k2
theorem arN{S:List Nat}:∀{m:List Nat},m.Nodup→(∀b∈m,b∈S)→m.length≤S.length:=by
 induction S with
 |nil=>intro m _ h;cases m with
  |nil=>simp
  |cons a m=>exact absurd (h a (am7 ..)) (by simp)
 |cons s S ih=>
  intro m hn h
  have h2:=ih (m:=m.erase s) (hn.erase s) (fun b hb=>by
   have hb':=aDY hb
   rcases anO.1 (h b hb')with rfl|h'
   ·exact absurd hb (hn.not_mem_erase)
   ·exact h')
  have h3:m.length≤(m.erase s).length+1:=by
   by_cases hs:s∈m
   ·rw[aD9 hs];omega
   ·rw[List.erase_of_not_mem hs];omega
  simp;omega
theorem spC{g:HF}{S:List Nat}(H:Cl g S):∀(n i:Nat) (m:List Nat),m.Nodup→(∀b∈m,b∈S)→S.length<n+i→i≤m.length→
 ∃cs m',apV n g i m=some (cs,m')∧m <+:m'∧m'.Nodup∧(∀b∈m',b∈S)∧i+cs.length=m'.length∧(∀c∈cs,Rnm c)∧
  ∀F,On m' F→∀j c',cs[j]?=some c'→∃b z,m'[i+j]?=some b∧(g b).bind agY=some z∧Stn F c' z
 |0,i,m,hn,hs,hl,hi=>by have:=arN hn hs;omega
 |n+1,i,m,hn,hs,hl,hi=>by
  unfold apV
  cases hm:m[i]? with
  |none=>
   have:m.length≤i:=aEA.1 hm
   exact⟨[],m,rfl,aDB _,hn,hs,by simp;omega,(fun c hc=>by cases hc),fun F _ j c' hj=>by simp at hj⟩
  |some b=>
   have hlt:=(aoC.1 hm).1
   obtain⟨c,c',m1,z,k1,k2,k3,g1,k4,k5⟩:=spB H (hs b (aoU hm)) m
   obtain⟨cs,m',e1,p1,p2,p3,p4,p5,p6⟩:=spC H n (i+1) m1 (g1.nd hn) (fun b hb=>(g1.sub b hb).elim (hs b) id) (by omega) (by have:=g1.pre.length_le;omega)
   refine⟨c'::cs,m',by simp[k1,k3,e1],g1.pre.trans p1,p2,p3,by simp;omega,fun x hx=>?_,fun F hF j x hj=>?_⟩
   ·rcases anO.1 hx with rfl|hx
    ·exact k5
    ·exact p5 x hx
   ·cases j with
    |zero=>
     simp at hj;subst hj
     exact⟨b,z,arD (g1.pre.trans p1) (by simpa using hm),by rw[k1];exact k2,k4 F (hF.mono p1)⟩
    |succ j=>
     simp at hj
     obtain⟨b',z',a1,a2,a3⟩:=p6 F hF j x hj
     exact⟨b',z',by rw[←a1];congr 1;omega,a2,a3⟩
theorem aYN{h:qR}{v:AV}{R:List Nat}(hs:Sp 8 v R)(hc:Cl (hf h) R)(hR:R.length<5000):
 ∃v' cs F,ar0 0 v h=some (v',cs)∧aSZ F (hf cs) (hf h)∧alF 8 F v'=some v∧∀c∈cs,Rnm c:=by
 obtain⟨v',m,e1,g1,k1⟩:=hs []
 have hm:∀b∈m,b∈R:=fun b hb=>(g1.sub b hb).elim (fun h=>by cases h) id
 obtain⟨cs,m',e2,p1,p2,p3,p4,p5,p6⟩:=spC hc 5000 0 m (g1.nd List.nodup_nil) hm (by omega) (aoD _)
 refine⟨v',cs,fun i=>m'[i]?,by simp[ar0,aqG,ak1.refL,e1,e2,aAF],fun i b hi z hz=>?_,k1 _ (fun _ _ h=>arD p1 h),p5⟩
 have hlt:=(aoC.1 hi).1
 obtain⟨b',z',a1,a2,rows',a3,a4,a5⟩:=p6 (fun i=>m'[i]?) (fun _ _ h=>h) i _ (apH (by omega))
 rw[arY]at a1
 have hbb:b=b':=by have hi':m'[i]?=some b:=hi;rw[hi']at a1;cases a1;rfl
 subst hbb
 rw[hz]at a2;cases a2
 exact⟨rows',by show(cs[i]?).bind agY=_;rw[apH (by omega)];exact a3,a4,a5⟩
end
end Go.Ev
namespace Go.Ev
open Go.RowKit
theorem auB{f:Nat→Nat}{F:Nat→Option Nat}(hF:∀b,F (f b)=some b):∀{e:Nat} {x x1:AV},ajS e f x=some x1→alF e F x1=some x
 |0,x,x1,h=>by simp[ajS]at h
 |e+1,x,x1,h=>by
  have L:∀{l l1:List AV},afD (ajS e f) l=some l1→afD (alF e F) l1=some l:=fun {l}=>by
   induction l with
   |nil=>intro l1 h;simp[afD]at h;subst h;rfl
   |cons a l ih=>
    intro l1 h
    simp only[afD,alE,ak3]at h
    obtain⟨b,hb,c,hc,rfl⟩:=h
    simp[afD,auB hF hb,ih hc]
  cases x with
  |agg cs=>simp only[ajS,ak3]at h;obtain⟨_,h,rfl⟩:=h;simp[alF,L h]
  |tup cs=>simp only[ajS,ak3]at h;obtain⟨_,h,rfl⟩:=h;simp[alF,L h]
  |iface t x=>simp only[ajS,ak3]at h;obtain⟨_,h,rfl⟩:=h;simp[alF,auB hF h]
  |func fn a b=>
   simp only[ajS,alE,ak3]at h
   obtain⟨_,h1,_,h2,rfl⟩:=h
   simp[alF,L h1,L h2]
  |_=>simp only[ajS,ao2.injEq]at h;subst h;simp[alF,hF]
theorem atZ{α β:Type}{f:α→Option β}{f':β→Option α}(H:∀a b,f a=some b→f' b=some a):∀{l:List α} {r:List β},afD f l=some r→afD f' r=some l
 | [],r,h=>by simp[afD]at h;subst h;rfl
 |a::l,r,h=>by
  simp only[afD,alE,ak3]at h
  obtain⟨b,hb,c,hc,rfl⟩:=h
  simp[afD,H a b hb,atZ H hc]
theorem aGE{f:Nat→Nat}:∀{cs:List CB} (_:∀c∈cs,Rnm c) (base:Nat),∃ns cs1,apJ f base cs=some ns∧(∀G,ag5 G ns=G++cs1)∧afD (aoE f) cs=some cs1
 | [],_,base=>⟨[],[],rfl,fun G=>by simp[ag5],rfl⟩
 |c::cs,h,base=>by
  obtain⟨c1,e1⟩:=h c (am7 ..) f
  obtain⟨ns,cs1,e2,e3,e4⟩:=aGE (f:=f) (cs:=cs) (fun c hc=>h c (am5 _ hc)) (base+1)
  exact⟨.new base c1::ns,c1::cs1,by simp[apJ,e1,e2],fun G=>by simp[ag5,aq7,e3],by simp[afD,e1,e4]⟩
theorem aNI{f:Nat→Nat}{F:Nat→Option Nat}(hF:∀b,F (f b)=some b){c c1:CB}(h:aoE f c=some c1){z:Nat × Bool × List (List AV)}(hz:agY c=some z):Stn F c1 z:=by
 cases c with
 |live st fl w rows=>
  simp[agY]at hz;subst hz
  cases fl with
  |true=>simp[aoE]at h;subst h;exact⟨rows,rfl,fun _=>rfl,fun e=>by cases e⟩
  |false=>
   simp only[aoE,ak3]at h
   obtain⟨r,hr,rfl⟩:=h
   exact⟨r,rfl,fun e=>(by cases e),fun _=>atZ (fun a b hab=>atZ (fun a b hab=>auB hF hab) hab) hr⟩
 |frz st fl rows=>
  simp[agY]at hz;subst hz
  cases fl with
  |true=>simp[aoE]at h;subst h;exact⟨rows,rfl,fun _=>rfl,fun e=>by cases e⟩
  |false=>
   simp only[aoE,ak3]at h
   obtain⟨r,hr,rfl⟩:=h
   exact⟨r,rfl,fun e=>(by cases e),fun _=>atZ (fun a b hab=>atZ (fun a b hab=>auB hF hab) hab) hr⟩
 |dead=>simp[agY]at hz
 |lp=>simp[agY]at hz
structure Kp(lent:List Nat)(H H1:qR):Prop where
 len:H.length≤H1.length
 rows:∀b,b<H.length→(hf H1 b).bind agY=(hf H b).bind agY
 same:∀b,b<H.length→b∉lent→H1[b]?=H[b]?
theorem aD3{H:qR}:∀(l:List Nat) (G:qR),G.length=H.length→(∀b,(hf G b).bind agY=(hf H b).bind agY)→
 (ag5 G (alC (hf H) l)).length=H.length∧(∀b,(hf (ag5 G (alC (hf H) l)) b).bind agY=(hf H b).bind agY)∧∀b,b∉l→(ag5 G (alC (hf H) l))[b]?=G[b]?
 | [],G,h1,h2=>⟨h1,h2,fun _ _=>rfl⟩
 |a::l,G,h1,h2=>by
  unfold alC
  have other:∀b,b∉a::l→b∉l:=fun b hb h=>hb (am5 _ h)
  split
  ·rename_i st fl w rows ha
   have hlt:a<G.length:=by rw[h1];exact(aoC.1 ha).1
   obtain⟨k1,k2,k3⟩:=aD3 (H:=H) l (G.set a (.frz st fl rows)) (by simp[h1]) (fun b=>by
    by_cases hb:a=b
    ·subst hb
     show((G.set a _)[a]?).bind agY=_
     rw[ayF hlt,ha];rfl
    ·show((G.set a _)[b]?).bind agY=_
     rw[asB hb];exact h2 b)
   refine⟨k1,k2,fun b hb=>?_⟩
   show(ag5 (G.set a _) _)[b]?=_
   rw[k3 b (other b hb),asB (fun e=>hb (by rw[←e];exact am7 ..))]
  ·obtain⟨k1,k2,k3⟩:=aD3 l G h1 h2
   exact⟨k1,k2,fun b hb=>k3 b (other b hb)⟩
theorem aS8{O:Orc}{H:qR}{f:Nat}{args vs:List AV}{v:AV}{h':qR}(hh:pkd O f args)(ha:afD (rdV H) args=some vs)(hp:vs.all (agT 8)=true)
 (hc:O.call (.fn f) vs []=some (.ret v,h')) (h1:∀f,∃y,ajS 8 f v=some y) (h2:∀c∈h',Rnm c):
 ∃v1 es H1 F,cl O H (some (.func (.func f) [] [])) (some args)=some (.ret v1,es)∧ag5 H es=H1∧aSZ F (hf H1) (hf h')∧alF 8 F v1=some v∧Kp (args.flatMap (agU 12 (hf H))) H H1∧∀i b,F i=some b→H.length≤i:=by
 obtain⟨v1,e1⟩:=h1 (fun i=>H.length+i)
 obtain⟨ns,cs1,e2,e3,e4⟩:=aGE (f:=fun i=>H.length+i) h2 H.length
 generalize hFF:(fun i=>if H.length≤i then some (i-H.length)else none:Nat→Option Nat)=F
 have hF:∀b,F (H.length+b)=some b:=fun b=>by rw[←hFF];simp
 have key:∃fz:List ab8,cl O H (some (.func (.func f) [] [])) (some args)=some (.ret v1,fz++ns)∧(fz=[]∨fz=alC (hf H) (args.flatMap (agU 12 (hf H)))):=by
  rw[aP6 hh,aQY ha hp,hc]
  refine⟨_,by simp only[crR,amE,Out.v,e1,e2,an3,Out.map];rfl,?_⟩
  split
  ·exact .inl rfl
  ·exact .inr rfl
 obtain⟨fz,ec,hfz⟩:=key
 have hK:(ag5 H fz).length=H.length∧(∀b,(hf (ag5 H fz) b).bind agY=(hf H b).bind agY)∧∀b,b∉args.flatMap (agU 12 (hf H))→(ag5 H fz)[b]?=H[b]?:=by
  rcases hfz with rfl|rfl
  ·exact⟨rfl,fun _=>rfl,fun _ _=>rfl⟩
  ·exact aD3 _ H rfl (fun _=>rfl)
 obtain⟨k1,k2,k3⟩:=hK
 have hap:ag5 H (fz++ns)=ag5 H fz++cs1:=by rw[avC,e3]
 refine⟨v1,_,_,F,ec,hap,fun i b hi z hz=>?_,auB hF e1,⟨by simp[k1],fun b hb=>?_,fun b hb hl=>?_⟩,fun i b hi=>?_⟩
 ·rw[←hFF]at hi;simp only at hi
  split at hi
  ·rename_i hle
   simp only[ao2.injEq]at hi
   obtain⟨c,hcc,hcz⟩:=alE.1 hz
   obtain⟨c1,g1,g2⟩:=asG e4 (show h'[b]?=some c from hcc)
   obtain⟨rows',r1,r2,r3⟩:=aNI hF g2 hcz
   refine⟨rows',?_,r2,r3⟩
   show((ag5 H fz++cs1)[i]?).bind agY=_
   rw[aCX (by omega),k1,hi,g1]
   exact r1
  ·cases hi
 ·rw[←k2 b]
  show((ag5 H fz++cs1)[b]?).bind agY=_
  rw[arT (by omega)];rfl
 ·rw[arT (by omega)];exact k3 b hl
 ·rw[←hFF]at hi;simp only at hi
  split at hi
  ·assumption
  ·cases hi
end Go.Ev
namespace Go.Ev
noncomputable section
open Go.RowKit
theorem aEL{g:HF}:∀{d e:Nat} {v:AV} {p:AV × List Nat},d≤e→rd d g v=some p→aoK e g v=some p.1
 |0,e,v,p,_,h=>by simp[rd]at h
 |d+1,0,v,p,he,h=>by omega
 |d+1,e+1,v,p,he,h=>by
  cases v with
  |slr st b r len=>exact az8 (aJP he h)
  |agg cs=>
   simp only[rd,ak3]at h
   obtain⟨q,hq,rfl⟩:=h
   simp[aoK,ax8 (f':=aoK e g) hq (fun x _ q' hx=>aEL (show d≤e by omega) hx)]
  |iface t x=>
   simp only[rd,ak3]at h
   obtain⟨q,hq,rfl⟩:=h
   simp[aoK,aEL (show d≤e by omega) hq]
  |func fn a b=>cases a<;>cases b<;>first|(simp[rd]at h;subst h;rfl)|(simp[rd]at h)
  |_=>first|(simp[rd]at h;subst h;rfl)|(simp[rd]at h)
theorem aMU{e:Nat}{F:Nat→Option Nat}{v:AV}{outs:List AV}(h:alF (e+1) F v=some (.tup outs)):∃o,v=.tup o∧afD (alF e F) o=some outs:=by
 cases v with
 |tup cs=>simp[alF]at h;exact⟨_,rfl,h⟩
 |func fn a b=>simp only[alF,alE,ak3]at h;obtain⟨_,_,_,_,h⟩:=h;cases h
 |_=>simp[alF]at h
theorem aYD{e:Nat}{vs:List AV}{R:List Nat}(h:SpL e vs R):Sp (e+1) (.tup vs) R:=fun m=>by
 obtain⟨l',m',a1,a2,a3⟩:=h m
 exact⟨.tup l',m',by simp[ak1,a1],a2,fun F hF=>by simp[alF,a3 F hF]⟩
theorem aOV{O:Orc}{H:qR}{f:Nat}{args vs:List AV}{v:AV}(hh:pkd O f args)(ha:afD (rdV H) args=some vs)(hp:vs.all (agT 8)=true)(hc:O.call (.fn f) vs []=some (.ret v,[]))(h1:agT 8 v=true)(h2:hasImm 8 v=false):
 cl O H (some (.func (.func f) [] [])) (some args)=some (.ret v,[]):=by
 rw[aP6 hh,aQY ha hp,hc,aKP,if_pos ⟨h1,h2⟩]
theorem hid{C:R→Prop}[n:NoN C]{r:R}(h:∀K:R→Prop,NoN K→(∀x,C x→K x)→K r):C r:=h C n fun _ h=>h
theorem aE1{v:AV}{H:qR}{b:Nat}(l:List CB)(hb:b<H.length)(hv:∀a c r m,v=.slr a c r m→c≠b):(kl 0 v H++l)[b]?=H[b]?:=by
 rw[arT (by rw[aDO];exact hb)]
 unfold kl
 split
 ·rename_i a c r m
  rw[asB];simpa using hv a c r m rfl
 ·rfl
theorem aJ1{H:qR}{b:Nat}{z:Nat × Bool × List (List AV)}(h:(hf H b).bind agY=some z):b<H.length:=by
 obtain⟨c,hc,_⟩:=alE.1 h
 exact(aoC.1 hc).1
theorem aUG{g g':HF}{d:Nat}{l:List AV}{p:List AV × List Nat}(h:rdL (rd d g) l=some p)(ha:Agr p.2 g g'):rdL (rd d g') l=some p:=
 avU h fun _ _ _ hq hs=>aCC hq fun b hb=>ha b (hs b hb)
theorem aB1{g g':HF}{d:Nat}{l:List (List AV)}{p:List (List AV) × List Nat}(h:akX (rd d g) l=some p)(ha:Agr p.2 g g'):akX (rd d g') l=some p:=
 atB h fun _ _ _ _ _ hq hs=>aCC hq fun b hb=>ha b (hs b hb)
theorem aWX{H:qR}{d:Nat}{l:List AV}{p:List AV × List Nat}(hd:d≤9)(h:rdL (rd d (hf H)) l=some p):∀b∈p.2,b<H.length:=fun b hb=>by
 obtain⟨z,hz,_⟩:=clL h (fun x _ q hx=>aJ7 hd hx) b hb
 exact aJ1 hz
theorem aDF{H:qR}{d:Nat}{l:List (List AV)}{p:List (List AV) × List Nat}(hd:d≤9)(h:akX (rd d (hf H)) l=some p):∀b∈p.2,b<H.length:=fun b hb=>by
 obtain⟨z,hz,_⟩:=clR h (fun r _ x _ q hx=>aJ7 hd hx) b hb
 exact aJ1 hz
theorem aBF{f:AV→Option (AV × List Nat)}:∀{l:List (List AV)} {p:List (List AV) × List Nat},akX f l=some p→l.length=p.1.length
 | [],p,h=>by simp[akX]at h;subst h;rfl
 |a::l,p,h=>by
  simp only[akX,alE,ak3]at h
  obtain⟨q,hq,r,hr,rfl⟩:=h
  simp[aBF hr]
theorem aAP{f:AV→Option (AV × List Nat)}:∀{l:List (List AV)} {p:List (List AV) × List Nat} {i:Nat} {X:List AV},akX f l=some p→p.1[i]?=some X→∃r R,l[i]?=some r∧rdL f r=some (X,R)
 | [],p,i,X,h,hx=>by simp[akX]at h;subst h;simp at hx
 |a::l,p,i,X,h,hx=>by
  simp only[akX,alE,ak3]at h
  obtain⟨q,hq,r,hr,rfl⟩:=h
  cases i with
  |zero=>simp at hx;subst hx;exact⟨a,q.2,rfl,hq⟩
  |succ i=>simp at hx;obtain⟨r',R',k1,k2⟩:=aAP hr hx;exact⟨r',R',by simpa using k1,k2⟩
theorem aJC{f:AV→Option (AV × List Nat)}:∀{l:List AV} {p:List AV × List Nat},rdL f l=some p→l.length=p.1.length
 | [],p,h=>by simp[rdL]at h;subst h;rfl
 |a::l,p,h=>by
  simp only[rdL,alE,ak3]at h
  obtain⟨q,hq,r,hr,rfl⟩:=h
  simp[aJC hr]
theorem aF3{f:AV→Option (AV × List Nat)}{l xs:List AV}{x:AV}{R:List Nat}(h:rdL f l=some (x::xs,R)):∃a l' R1 R2,l=a::l'∧f a=some (x,R1)∧rdL f l'=some (xs,R2)∧R=R1++R2:=by
 cases l with
 |nil=>simp[rdL]at h
 |cons a l=>
  simp only[rdL,alE,ak3]at h
  obtain⟨q,hq,r,hr,he⟩:=h
  simp only[Prod.mk.injEq,List.cons.injEq]at he
  obtain⟨⟨rfl,rfl⟩,rfl⟩:=he
  exact⟨a,l,q.2,r.2,rfl,hq,hr,rfl⟩
theorem aJD{f:AV→Option (AV × List Nat)}{l:List AV}{R:List Nat}(h:rdL f l=some ([],R)):l=[]∧R=[]:=by
 cases l with
 |nil=>simp[rdL]at h;exact⟨rfl,h⟩
 |cons a l=>have:=aJC h;simp at this
theorem aWN{g:HF}{d st:Nat}{fl nn:Bool}{v:AV}{rows:List (List AV)}{R:List Nat}(h:rd (d+1) g v=some (slv st fl nn rows,R)):v.isCell=true∧v.flat=false:=by
 have hs:slv st fl nn rows=.nils∨∃r,slv st fl nn rows=.imm st fl r:=by
  cases rows with
  |nil=>cases nn with
   |true=>exact .inr ⟨_,rfl⟩
   |false=>exact .inl rfl
  |cons=>exact .inr ⟨_,rfl⟩
 generalize slv st fl nn rows=X at h hs
 cases v with
 |func fn a b=>cases a<;>cases b<;>first|exact⟨rfl,rfl⟩|(simp[rd]at h)
 |agg cs=>simp only[rd,ak3]at h;obtain⟨_,_,h⟩:=h;simp only[Prod.mk.injEq]at h;obtain⟨h,_⟩:=h;subst h;rcases hs with hs|⟨_,hs⟩<;>cases hs
 |ptr b r o=>exact⟨rfl,rfl⟩
 |yl b=>exact⟨rfl,rfl⟩
 |mapr b=>exact⟨rfl,rfl⟩
 |itr b=>exact⟨rfl,rfl⟩
 |tup cs=>simp[rd]at h
 |bool b=>simp[rd]at h;obtain⟨h,_⟩:=h;subst h;rcases hs with hs|⟨_,hs⟩<;>cases hs
 |int k n=>simp[rd]at h;obtain⟨h,_⟩:=h;subst h;rcases hs with hs|⟨_,hs⟩<;>cases hs
 |str s=>simp[rd]at h;obtain⟨h,_⟩:=h;subst h;rcases hs with hs|⟨_,hs⟩<;>cases hs
 |_=>exact⟨rfl,rfl⟩
theorem aCF{g:HF}{d st:Nat}{fl nn:Bool}{v:AV}{rows:List (List AV)}{R:List Nat}(h:rd (d+1) g v=some (slv st fl nn rows,R)):
 (v=.nils∧rows=[])∨∃b rows',v=.slr st b 0 rows.length∧(g b).bind agY=some (st,fl,rows')∧rows'.length=rows.length∧(fl=true→rows'=rows)∧(fl=false→∃R',akX (rd d g) rows'=some (rows,R')):=by
 have hs:(slv st fl nn rows=.nils∧rows=[])∨slv st fl nn rows=.imm st fl rows:=by
  cases rows with
  |nil=>cases nn with
   |true=>exact .inr rfl
   |false=>exact .inl ⟨rfl,rfl⟩
  |cons=>exact .inr rfl
 generalize slv st fl nn rows=X at h hs
 cases v with
 |nils=>simp[rd]at h;obtain⟨rfl,_⟩:=h;rcases hs with⟨_,hs⟩|hs
        ·exact .inl ⟨rfl,hs⟩
        ·cases hs
 |slr st' b r len=>
  simp only[rd,alE]at h
  obtain⟨z,hz,h⟩:=h
  split at h
  ·rename_i hq
   obtain⟨q1,rfl,q3⟩:=hq
   obtain⟨z1,z2,z3⟩:=z
   simp only at q1 q3 h
   subst q1
   cases z2 with
   |true=>
    simp at h
    obtain⟨rfl,_⟩:=h
    rcases hs with⟨hs,_⟩|hs
    ·cases hs
    ·cases hs
     exact .inr ⟨b,_,by rw[q3],alE.2 hz,rfl,fun _=>rfl,fun e=>by cases e⟩
   |false=>
    simp only[cond_false,ak3]at h
    obtain⟨q,hq,he⟩:=h
    simp only[Prod.mk.injEq]at he
    obtain⟨rfl,_⟩:=he
    rcases hs with⟨hs,_⟩|hs
    ·cases hs
    ·cases hs
     have hl:z3.length=q.1.length:=aBF hq
     exact .inr ⟨b,z3,by rw[q3,hl],alE.2 hz,hl,fun e=>(by cases e),fun _=>⟨q.2,hq⟩⟩
  ·cases h
 |func fn a b=>cases a<;>cases b<;>simp[rd]at h<;>(obtain⟨rfl,_⟩:=h;rcases hs with⟨hs,_⟩|hs<;>cases hs)
 |agg cs=>simp only[rd,ak3]at h;obtain⟨_,_,h⟩:=h;simp only[Prod.mk.injEq]at h;obtain⟨rfl,_⟩:=h;rcases hs with⟨hs,_⟩|hs<;>cases hs
 |iface t x=>simp only[rd,ak3]at h;obtain⟨_,_,h⟩:=h;simp only[Prod.mk.injEq]at h;obtain⟨rfl,_⟩:=h;rcases hs with⟨hs,_⟩|hs<;>cases hs
 |ptr b r o=>simp[rd]at h
 |yl b=>simp[rd]at h
 |mapr b=>simp[rd]at h
 |itr b=>simp[rd]at h
 |tup cs=>simp[rd]at h
 |imm=>simp[rd]at h
 |iptr=>simp[rd]at h
 |_=>simp[rd]at h;obtain⟨rfl,_⟩:=h;rcases hs with⟨hs,_⟩|hs<;>cases hs
theorem aRU{H:qR}{b st:Nat}{fl:Bool}{rows:List (List AV)}(h:(hf H b).bind agY=some (st,fl,rows))(i:Nat):as3 (H[b]?) i=rows[i]?:=by
 obtain⟨c,hc,hz⟩:=alE.1 h
 rw[show H[b]?=some c from hc]
 cases c<;>simp[agY]at hz<;>(obtain⟨_,_,rfl⟩:=hz;rfl)
theorem aXI{n:Nat}{rows:List (List AV)}{v:AV}{H:qR}(ho:aUX 0 n false rows v H){d:Nat}{q:List (List AV) × List Nat}(hq:akX (rd d (hf H)) rows=some q)(hn:rows=[]→v=.nils):
 ∃R,rd (d+1) (hf H) v=some (slv n false false q.1,R)∧R.length≤1+q.2.length:=by
 rcases ho with⟨rfl,rfl⟩|⟨b,w,rfl,hb⟩
 ·simp[akX]at hq;subst hq;exact⟨[],by simp[rd,slv],by simp⟩
 ·have hne:rows≠[]:=fun e=>by have:=hn e;cases this
  have hb':(hf H (b+0)).bind agY=some (n,false,rows):=by show(H[b]?).bind agY=_;rw[hb];rfl
  refine⟨(b+0)::q.2,?_,by simp;omega⟩
  simp only[rd,hb',amE,if_true,and_self,cond_false,hq,an3]
  have hl:q.1≠[]:=fun e=>by
   cases rows with
   |nil=>exact hne rfl
   |cons r rs=>
    simp only[akX,alE,ak3]at hq
    obtain⟨_,_,_,_,rfl⟩:=hq
    cases e
  cases hq1:q.1 with
  |nil=>exact absurd hq1 hl
  |cons r rs=>rfl
theorem a0H{g:HF}{d st b n:Nat}{rows:List (List AV)}(h:(g b).bind agY=some (st,true,rows))(hn:n=rows.length):rd (d+1) g (.slr st b 0 n)=some (.imm st true rows,[b]):=by
 subst hn;simp[rd,h]
theorem aO7{f:AV→Option (AV × List Nat)}:rdL f []=some ([],[]):=rfl
theorem aHK{f:AV→Option (AV × List Nat)}{a x:AV}{l xs:List AV}{R1 R2:List Nat}(h1:f a=some (x,R1))(h2:rdL f l=some (xs,R2)):rdL f (a::l)=some (x::xs,R1++R2):=by simp[rdL,h1,h2]
theorem aW1{x:Option (List AV)}{vs:List AV}{h:qR}{Q:Out→qR→Prop}(hx:x=some vs)(k:Rt 0 (some vs) h Q):Rt 0 x h Q:=hx▸k
theorem azO{f:AV→Option (AV × List Nat)}:∀{l:List (List AV)} {p:List (List AV) × List Nat} {r:List AV} {q:List AV × List Nat},akX f l=some p→rdL f r=some q→akX f (l++[r])=some (p.1++[q.1],p.2++q.2)
 | [],p,r,q,h,hr=>by simp[akX]at h;subst h;simp[akX,hr]
 |a::l,p,r,q,h,hr=>by
  simp only[akX,alE,ak3]at h
  obtain⟨q1,hq1,r1,hr1,rfl⟩:=h
  simp[akX,hq1,azO hr1 hr]
end
noncomputable section
open Go.RowKit
section
variable {P:Program} {O:Orc}
def slx(P:Program)(ty:TypeId)(a:Option AV)(l h:Option (Option AV)):OE:=r1 (a.bind fun a=>l.bind fun l=>h.bind fun h=>ayS P ty a l h)
theorem aQW(t:List AV)(h:qR)(ty:TypeId)(x:Operand)(lo hi:Option Operand):anR O P t h (.slice ty x lo hi none)=slx P ty (ab9 t x) (ayK t lo) (ayK t hi):=by
 rw[ak7 _ _ _ rfl]
 simp only[exec,slx]
 cases ab9 t x with
 |none=>rfl
 |some a=>
  cases ayK t lo with
  |none=>rfl
  |some l=>
   cases ayK t hi with
   |none=>rfl
   |some h=>exact aoI _
def oS(x:Option AV):Option (Option AV):=x.map some
theorem aSK(v:AV):oS (some v)=some (some v):=akZ rfl rfl
theorem aKH(t:List AV):ayK t none=some none:=akZ rfl rfl
theorem aLQ(t:List AV)(x:Operand):ayK t (some x)=oS (ab9 t x):=akZ rfl rfl
end
end
noncomputable section
set_option maxRecDepth 100000
section
variable {P:Program} {G:Nat→Option Obj}
end
section
variable {P:Program}
end
def EVu:=PLift.up (acD @aQW (acD @aKH (acD @aLQ @aSK)))
end
noncomputable section
section
variable {α:Type}
end
end
section
def mrg:qR→qR→qR
 | [],h'=>h'
 |c₀::h,[]=>c₀::h
 |c₀::h,c::h'=>(bif c₀.quiet c then c₀ else c.mark)::mrg h h'
def aCU(h h':qR):Prop:=h.length≤h'.length∧∀(i:Nat) (c₀ c:CB),h[i]?=some c₀→h'[i]?=some c→c₀.quiet c=true∨c₀.isLive=true
theorem as5:∀(h h' pre:qR),aCU h h'→∃es,ak2 pre.length h h'=some es∧ag5 (pre++h) es=pre++mrg h h'
 | [],h',pre,_=>⟨_,rfl,by simp[aC0,mrg]⟩
 |c₀::h,[],pre,ok=>by simp[aCU]at ok
 |c₀::h,c::h',pre,ok=>by
  have ok':aCU h h':=⟨by simpa using ok.1,fun i a b h1 h2=>ok.2 (i+1) a b (by simpa using h1) (by simpa using h2)⟩
  cases hq:c₀.quiet c with
  |true=>
   obtain⟨es,e1,e2⟩:=as5 h h' (pre++[c₀]) ok'
   refine⟨es,?_,?_⟩
   ·simp only[ak2,hq,cond_true]
    simpa using e1
   ·simpa [mrg,hq]using e2
  |false=>
   have hl:c₀.isLive=true:=by
    rcases ok.2 0 c₀ c rfl rfl with h|h
    ·rw[hq]at h;cases h
    ·exact h
   obtain⟨es,e1,e2⟩:=as5 h h' (pre++[c.mark]) ok'
   refine⟨.put pre.length c.mark::es,?_,?_⟩
   ·simp only[ak2,hq,hl,cond_false,cond_true]
    simp only[List.length_append,awA,List.length_nil]at e1
    rw[e1];rfl
   ·simp only[ag5,aq7,mrg,hq,cond_false]
    have:(pre++c₀::h).set pre.length c.mark=(pre++[c.mark])++h:=by simp
    rw[this,e2];simp
theorem arI:∀{h h':qR},h.length≤h'.length→(mrg h h').length=h'.length
 | [],h',_=>rfl
 |c₀::h,[],hl=>by simp at hl
 |c₀::h,c::h',hl=>by simp[mrg,arI (h:=h) (h':=h') (by simpa using hl)]
theorem apL:∀{h h':qR} {i:Nat} {c₀ c:CB},h[i]?=some c₀→h'[i]?=some c→c₀.quiet c=true→(mrg h h')[i]?=some c₀
 | [],h',i,c₀,c,h1,_,_=>by simp at h1
 |a::h,[],i,c₀,c,_,h2,_=>by simp at h2
 |a::h,b::h',0,c₀,c,h1,h2,hq=>by
  simp at h1 h2;subst h1 h2;simp[mrg,hq]
 |a::h,b::h',i+1,c₀,c,h1,h2,hq=>by
  simp at h1 h2;simpa [mrg]using apL h1 h2 hq
theorem asC:∀{h h':qR} {i:Nat} {c₀ c:CB},h[i]?=some c₀→h'[i]?=some c→c₀.quiet c=false→(mrg h h')[i]?=some c.mark
 | [],h',i,c₀,c,h1,_,_=>by simp at h1
 |a::h,[],i,c₀,c,_,h2,_=>by simp at h2
 |a::h,b::h',0,c₀,c,h1,h2,hq=>by
  simp at h1 h2;subst h1 h2;simp[mrg,hq]
 |a::h,b::h',i+1,c₀,c,h1,h2,hq=>by
  simp at h1 h2;simpa [mrg]using asC h1 h2 hq
theorem aAB:∀{h h':qR} {i:Nat},h.length≤h'.length→h.length≤i→(mrg h h')[i]?=h'[i]?
 | [],h',i,_,_=>rfl
 |a::h,[],i,hl,_=>by simp at hl
 |a::h,b::h',0,_,hi=>by simp at hi
 |a::h,b::h',i+1,hl,hi=>by
  simpa [mrg]using aAB (h:=h) (h':=h') (i:=i) (by simpa using hl) (by simpa using hi)
theorem ajX{h:qR}{i:Nat}{c:CB}(hc:h[i]?=some c):(clH h)[i]?=some c.clean:=by simp[clH,hc]
theorem af4(h:qR):(clH h).length=h.length:=by simp[clH]
theorem aIB(c:CB):agY c.clean=agY c:=by cases c<;>rfl
theorem aKS(c:CB):agY c.mark=agY c:=by cases c<;>rfl
theorem aAK{O:Orc}{H:qR}{f:Nat}{args:List AV}{Q:Out→qR→Prop}(hd:hdR args=true)(hm:O.md f=true)(K:ShQ O f args (clH H) Q)(ok:∀o G,Q o G→aCU H G):
 ∃o G es,cl O H (some (.func (.func f) [] [])) (some args)=some (o,es)∧ag5 H es=mrg H G∧Q o G:=by
 obtain⟨o,G,hc,hq⟩:=K
 obtain⟨es,e1,e2⟩:=as5 H G [] (ok o G hq)
 refine⟨o,G,es,?_,by simpa using e2,hq⟩
 rw[aGM]
 simp only[ar1,axG,hd,if_true,shC,hm,Bool.or_true,hc]
 rw[aw1]
 have e1':ak2 0 H G=some es:=e1
 rw[e1'];rfl
structure auV(X:List Nat)(H H1:qR):Prop where
 len:H.length≤H1.length
 same:∀b,b<H.length→b∉X→H1[b]?=H[b]?
theorem auV.app(H l:qR):auV [] H (H++l):=⟨by simp,fun b hb _=>arT hb⟩
theorem auV.mono{X Y:List Nat}{H H1:qR}(h:auV X H H1)(hs:∀b∈X,b∈Y∨H.length≤b):auV Y H H1:=
 ⟨h.len,fun b hb hn=>h.same b hb (fun hx=>by rcases hs b hx with h|h;exact hn h;omega)⟩
end
noncomputable section
open Go.RowKit
theorem aUZ{O:Orc}{H:qR}{f:Nat}{args:List AV}{o:Out}{l:qR}(hd:hdR args=true)(hm:O.md f=true)(hc:O.call (.sh f) args (clH H)=some (o,clH H++l))(hq:acI H=true):
 cl O H (some (.func (.func f) [] [])) (some args)=some (o,apU H.length l):=by
 rw[aGM]
 simp only[ar1,axG,hd,if_true,shC,hm,Bool.or_true,hc]
 rw[aw1,aJV hq]
 simp
theorem aUW{O:Orc}{H:qR}{f:Nat}{args:List AV}{o:Out}(hd:hdR args=true)(hm:O.md f=true)(hc:O.call (.sh f) args (clH H)=some (o,clH H))(hq:acI H=true):
 cl O H (some (.func (.func f) [] [])) (some args)=some (o,[]):=by
 have:=aUZ (l:=[]) hd hm (by simpa using hc) hq
 simpa [apU]using this
theorem axE{H:qR}(h:∀c∈H,c.quiet c.clean=true):acI H=true:=by simp only[acI,arZ];exact h
theorem akY{H:qR}(h:acI H=true){b:Nat}{c:CB}(hb:H[b]?=some c):c.quiet c.clean=true:=by
 simp only[acI,arZ]at h
 exact h c (aoU hb)
theorem ahG{H l:qR}(h:acI H=true)(hl:acI l=true):acI (H++l)=true:=by
 simp only[acI,arZ,aq4]at h hl ⊢
 exact fun c hc=>hc.elim (h c) (hl c)
theorem agD{H:qR}(h:acI H=true)(b:Nat){c:CB}(hc:c.quiet c.clean=true):acI (H.set b c)=true:=by
 simp only[acI,arZ]at h ⊢
 exact fun x hx=>(List.mem_or_eq_of_mem_set hx).elim (h x) (fun e=>e▸hc)
theorem aGJ{c:CB}(h:c.quiet c.clean=true):c.clean.quiet c.clean.clean=true:=by cases c<;>first|rfl|exact h
theorem ao0{H:qR}(h:acI H=true):acI (clH H)=true:=by
 simp only[acI,clH,arZ,asY]at h ⊢
 rintro c ⟨c0,h0,rfl⟩
 exact aGJ (h c0 h0)
theorem aAT{c:CB}(h:c.quiet c.clean=true):c.mark.quiet c.mark.clean=true:=by cases c<;>first|rfl|exact h
theorem apY{H0 G:qR}{X:List Nat}(hq:acI H0=true)(K:auV X (clH H0) G)(hX:∀b∈X,b<H0.length∧∀c0 c,H0[b]?=some c0→G[b]?=some c→c0.isLive=true∧c0.quiet c=false):
 aCU H0 G∧(mrg H0 G).length=G.length∧(∀b,H0.length≤b→(mrg H0 G)[b]?=G[b]?)∧(∀b,b<H0.length→b∉X→(mrg H0 G)[b]?=H0[b]?)∧(∀b∈X,∀c,G[b]?=some c→(mrg H0 G)[b]?=some c.mark):=by
 have hlen:H0.length≤G.length:=by have:=K.len;rwa[af4]at this
 have old:∀b c0,H0[b]?=some c0→b∉X→G[b]?=some c0.clean:=fun b c0 h0 hb=>by
  rw[K.same b (by rw[af4];exact(aoC.1 h0).1) hb,ajX h0]
 refine⟨⟨hlen,fun b c0 c h0 h1=>?_⟩,arI hlen,fun b hb=>aAB hlen hb,fun b hb hn=>?_,fun b hb c hc=>?_⟩
 ·by_cases hb:b∈X
  ·exact .inr ((hX b hb).2 c0 c h0 h1).1
  ·rw[old b c0 h0 hb]at h1;cases h1
   exact .inl (akY hq h0)
 ·obtain⟨c0,h0⟩:∃c,H0[b]?=some c:=⟨_,apH hb⟩
  rw[h0];exact apL h0 (old b c0 h0 hn) (akY hq h0)
 ·obtain⟨h1,h2⟩:=hX b hb
  obtain⟨c0,h0⟩:∃c,H0[b]?=some c:=⟨_,apH h1⟩
  exact asC h0 hc (h2 c0 c h0 hc).2
theorem av7{H0 G:qR}{X:List Nat}(hq:acI H0=true)(K:auV X (clH H0) G)(hX:∀b∈X,b<H0.length∧∀c0 c,H0[b]?=some c0→G[b]?=some c→c0.isLive=true∧c0.quiet c=false)(hg:acI G=true):acI (mrg H0 G)=true:=by
 obtain⟨_,k1,k2,k3,k4⟩:=apY hq K hX
 refine axE fun c hc=>?_
 obtain⟨b,hb⟩:=asZ hc
 by_cases h1:b<H0.length
 ·by_cases h2:b∈X
  ·obtain⟨c1,h3⟩:∃c,G[b]?=some c:=⟨_,apH (by rw[←k1];exact(aoC.1 hb).1)⟩
   rw[k4 b h2 c1 h3]at hb;cases hb
   exact aAT (akY hg h3)
  ·rw[k3 b h1 h2]at hb;exact akY hq hb
 ·rw[k2 b (by omega)]at hb;exact akY hg hb
theorem aLZ{H0 G:qR}{X:List Nat}(hq:acI H0=true)(K:auV X (clH H0) G)(hX:∀b∈X,b<H0.length∧∀c0 c,H0[b]?=some c0→G[b]?=some c→c0.isLive=true∧c0.quiet c=false)(b:Nat):(hf (mrg H0 G) b).bind agY=(hf G b).bind agY:=by
 obtain⟨_,k1,k2,k3,k4⟩:=apY hq K hX
 show((mrg H0 G)[b]?).bind agY=(G[b]?).bind agY
 by_cases h1:b<H0.length
 ·by_cases h2:b∈X
  ·cases h3:G[b]? with
   |none=>rw[aEA]at h3;have h4:=K.len;rw[af4]at h4;omega
   |some c1=>rw[k4 b h2 c1 h3];exact aKS c1
  ·rw[k3 b h1 h2,K.same b (by rw[af4];exact h1) h2]
   cases h3:H0[b]? with
   |none=>simp[clH,h3]
   |some c=>rw[ajX h3];exact(aIB c).symm
 ·rw[k2 b (by omega)]
end
theorem aOG{e:Nat}{F:Nat→Option Nat}{v:AV}{st b r n:Nat}(h:alF (e+1) F v=some (.slr st b r n)):∃b',v=.slr st b' r n∧F b'=some b:=by
 cases v with
 |slr st' b' r' n'=>
  simp only[alF,ak3]at h
  obtain⟨c,hc,h⟩:=h
  cases h
  exact⟨b',rfl,hc⟩
 |func fn x y=>
  simp only[alF,alE,ak3]at h
  obtain⟨_,_,_,_,h⟩:=h;cases h
 |_=>simp[alF]at h
theorem aN4{e:Nat}{F:Nat→Option Nat}{v:AV}{k:IntKind}{n:Int}(h:alF (e+1) F v=some (.int k n)):v=.int k n:=by
 cases v with
 |int k' n'=>simp only[alF]at h;exact ao2.inj h
 |func fn x y=>
  simp only[alF,alE,ak3]at h
  obtain⟨_,_,_,_,h⟩:=h;cases h
 |_=>simp[alF]at h
theorem awZ{α β:Type}{f:α→Option β}{l:List α}{x:β}{xs:List β}(h:afD f l=some (x::xs)):∃a l',l=a::l'∧f a=some x∧afD f l'=some xs:=by
 cases l with
 |nil=>simp[afD]at h
 |cons a l=>
  simp only[afD,alE,ak3]at h
  obtain⟨b,hb,bs,hbs,h⟩:=h
  cases h
  exact⟨a,l,rfl,hb,hbs⟩
theorem aKX{α β:Type}{f:α→Option β}{l:List α}(h:afD f l=some []):l=[]:=by
 cases l with
 |nil=>rfl
 |cons a l=>
  simp only[afD,alE,ak3]at h
  obtain⟨b,hb,bs,hbs,h⟩:=h
  cases h
structure aMN(x:AV)(st n:Nat)(rows:List (List AV))(k:IntKind)(z:Int)(N:Nat)(lo:Nat)(outs:List AV)(h:qR):Prop where
 ex:∃v b R,outs=[v,.slr st b 0 n,.int k z]∧rd 6 (hf h) v=some (x,R)∧R.length=N∧(hf h b).bind agY=some (st,true,rows)∧lo≤b∧∀j∈R,lo≤j
theorem aI7{F:Nat→Option Nat}{G' G:qR}(H:aSZ F (hf G') (hf G)){v' v x:AV}{R:List Nat}{st b n lo:Nat}{k:IntKind}{z:Int}{rows:List (List AV)}(ho:alF 8 F v'=some (.tup [v,.slr st b 0 n,.int k z]))(h1:rd 6 (hf G) v=some (x,R))(hb:(hf G b).bind agY=some (st,true,rows))(hlo:∀i c,F i=some c→lo≤i):
 ∃outs,v'=.tup outs∧aMN x st n rows k z R.length lo outs G':=by
 obtain⟨o1,rfl,hq⟩:=aMU ho
 clear ho
 obtain⟨a,l1,rfl,ha,hq1⟩:=awZ hq
 obtain⟨s,l2,rfl,hs,hq2⟩:=awZ hq1
 obtain⟨i,l3,rfl,hi,hq3⟩:=awZ hq2
 cases aKX hq3
 obtain⟨b',rfl,hF⟩:=aOG hs
 cases aN4 hi
 obtain⟨R',k1,k2,k3⟩:=aOF H ha h1
 obtain⟨rows',r1,r2,_⟩:=H b' b hF _ hb
 cases r2 rfl
 exact⟨_,rfl,⟨a,b',R',rfl,k1,k2,r1,hlo _ _ hF,fun j hj=>by obtain⟨c,hc⟩:=k3 j hj;exact hlo _ _ hc⟩⟩
theorem aXQ{e st b r n:Nat}:Sp (e+1) (.slr st b r n) [b]:=fun m=>⟨.slr st (place m b).1 r n,(place m b).2,rfl,aF8 m b (by simp),fun F hF=>by simp[alF,hF _ _ (apC m b).1]⟩
theorem aYG{e:Nat}{k:IntKind}{n:Int}:Sp (e+1) (.int k n) []:=fun m=>⟨_,m,rfl,Gd.refl m [],fun _ _=>rfl⟩
theorem aA2{e:Nat}{a:AV}{l:List AV}{R1 R2:List Nat}(h1:Sp e a R1)(h2:SpL e l R2):SpL e (a::l) (R1++R2):=fun m=>by
 obtain⟨x1,m1,a1,a2,a3⟩:=h1 m
 obtain⟨l1,m2,b1,b2,b3⟩:=h2 m1
 refine⟨x1::l1,m2,by simp[ak1.refL,a1,b1],a2.trans b2 (fun b hb=>ao5 _ hb) (fun b hb=>apG _ hb),fun F hF=>?_⟩
 simp[afD,a3 F (hF.mono b2.pre),b3 F hF]
theorem aUM{e:Nat}:SpL e [] []:=fun m=>⟨[],m,rfl,Gd.refl m [],fun _ _=>rfl⟩
theorem aWH{h:qR}{v x:AV}{R:List Nat}{st b n:Nat}{k:IntKind}{z:Int}{rows:List (List AV)}{Q:Out→qR→Prop}(h1:rd 6 (hf h) v=some (x,R))(hR:R.length<4000)(hb:(hf h b).bind agY=some (st,true,rows))
 (q:∀outs h',aMN x st n rows k z R.length 0 outs h'→(∀f,∃y,ajS 8 f (.tup outs)=some y)→(∀c∈h',Rnm c)→Q (.ret (.tup outs)) h'):Rt 0 (some [v,.slr st b 0 n,.int k z]) h Q:=by
 have hS:Sp 8 (.tup [v,.slr st b 0 n,.int k z]) (R++([b]++([]++[]))):=aYD (e:=7) (aA2 (sp (by omega) h1) (aA2 aXQ (aA2 aYG aUM)))
 have hC:Cl (hf h) (R++([b]++([]++[]))):=(aJ7 (by omega) h1).app (fun c hc=>by
  simp at hc;subst hc
  exact⟨_,hb,fun e=>by cases e⟩)
 obtain⟨v',cs,F,e1,e2,e3,e4⟩:=aYN hS hC (by simp;omega)
 obtain⟨outs,rfl,hB⟩:=aI7 (lo:=0) e2 e3 h1 hb (fun _ _ _=>aoD _)
 exact⟨_,_,by simp[aPN,asE,e1],q _ _ hB (fun f=>awD f e3) e4⟩
theorem aXU{O:Orc}{H:qR}{f:Nat}{args vs outs:List AV}{h':qR}{x:AV}{st n N lo:Nat}{k:IntKind}{z:Int}{rows:List (List AV)}{E:OE}(hE:Ev.cl O H (some (.func (.func f) [] [])) (some args)=E)(hh:pkd O f args)(ha:afD (rdV H) args=some vs)(hp:vs.all (agT 8)=true)
 (hc:O.call (.fn f) vs []=some (.ret (.tup outs),h')) (hB:aMN x st n rows k z N lo outs h') (h1:∀f,∃y,ajS 8 f (.tup outs)=some y) (h2:∀c∈h',Rnm c):
 ∃outs1 es H1,E=some (.ret (.tup outs1),es)∧ag5 H es=H1∧Kp (args.flatMap (agU 12 (hf H))) H H1∧aMN x st n rows k z N H.length outs1 H1:=by
 obtain⟨v1,es,H1,F,e1,e2,e3,e4,e5,e6⟩:=aS8 hh ha hp hc h1 h2
 obtain⟨v,b,R,rfl,r1,r2,r3,_,_⟩:=hB.ex
 obtain⟨o,rfl,hB2⟩:=aI7 (lo:=H.length) e3 e4 r1 r3 e6
 exact⟨o,es,H1,hE.symm.trans e1,e2,e5,by rw[r2]at hB2;exact hB2⟩
end Go.Ev
namespace Go.Ev
namespace Net
abbrev Edge:=Nat × Nat × Nat
inductive as1(E:List Edge)(s:Nat):Nat→Nat→Nat→Prop
 |nil (n:Nat):as1 E s n s 0
 |fwd {n a b c k:Nat} (h:as1 E s n a k) (he:(a,b,c)∈E):as1 E s (n+1) b (k+c)
 |bwd {n a b c k:Nat} (h:as1 E s n b k) (he:(a,b,c)∈E):as1 E s (n+1) a (k+c)
def Stp(E:List Edge)(u v c:Nat):Prop:=(u,v,c)∈E∨(v,u,c)∈E
theorem Stp.symm{E:List Edge}{u v c:Nat}(h:Stp E u v c):Stp E v u c:=h.elim .inr .inl
theorem as1.step{E:List Edge}{s n u v k c:Nat}(h:as1 E s n u k)(hs:Stp E u v c):as1 E s (n+1) v (k+c):=hs.elim (fun e=>.fwd h e) (fun e=>.bwd h e)
theorem as1.cases'{E:List Edge}{s n v k:Nat}(h:as1 E s n v k):(v=s∧k=0)∨∃m u j c,n=m+1∧as1 E s m u j∧Stp E u v c∧k=j+c:=by
 cases h with
 |nil=>exact .inl ⟨rfl,rfl⟩
 |fwd h he=>exact .inr ⟨_,_,_,_,rfl,h,.inl he,rfl⟩
 |bwd h he=>exact .inr ⟨_,_,_,_,rfl,h,.inr he,rfl⟩
theorem as1.more{E:List Edge}{s n v k:Nat}(h:as1 E s n v k):∀{m:Nat},n≤m→as1 E s m v k:=by
 induction h with
 |nil n=>exact fun _=>.nil _
 |fwd h he ih=>
  intro m hm
  obtain⟨m,rfl⟩:∃j,m=j+1:=⟨m-1,by omega⟩
  exact .fwd (ih (by omega)) he
 |bwd h he ih=>
  intro m hm
  obtain⟨m,rfl⟩:∃j,m=j+1:=⟨m-1,by omega⟩
  exact .bwd (ih (by omega)) he
def Cst(E:List Edge)(s v k:Nat):Prop:=∃n,as1 E s n v k
theorem Cst.step{E:List Edge}{s u v k c:Nat}(h:Cst E s u k)(hs:Stp E u v c):Cst E s v (k+c):=by obtain⟨n,h⟩:=h;exact⟨_,h.step hs⟩
def Lst(E:List Edge)(s v k:Nat):Prop:=Cst E s v k∧∀j,Cst E s v j→k≤j
theorem least{p:Nat→Prop}:(∃n,p n)→∃n,p n∧∀j,p j→n≤j:=fun⟨n,hn⟩=>by
 induction n using Nat.strongRecOn with
 |ind n ih=>
  by_cases h:∃j,j<n∧p j
  ·obtain⟨j,h1,h2⟩:=h;exact ih j h1 h2
  ·exact⟨n,hn,fun j hj=>ayG fun hlt=>h ⟨j,hlt,hj⟩⟩
theorem Lst.ex{E:List Edge}{s v k:Nat}(h:Cst E s v k):∃j,Lst E s v j:=least ⟨k,h⟩
theorem Lst.eq{E:List Edge}{s v k j:Nat}(h1:Lst E s v k)(h2:Lst E s v j):k=j:=Nat.le_antisymm (h1.2 j h2.1) (h2.2 k h1.1)
def Lvl(E:List Edge)(s n v:Nat):Prop:=∃k,Lst E s v k∧as1 E s n v k
theorem Lvl.more{E:List Edge}{s n m v:Nat}(h:Lvl E s n v)(hm:n≤m):Lvl E s m v:=by obtain⟨k,h1,h2⟩:=h;exact⟨k,h1,h2.more hm⟩
theorem Lvl.prev{E:List Edge}{s n v:Nat}(h:Lvl E s (n+1) v):v=s∨∃u c k,Lvl E s n u∧Lst E s u k∧Stp E u v c∧Lst E s v (k+c):=by
 obtain⟨k,h1,h2⟩:=h
 rcases h2.cases' with⟨h,_⟩|⟨m,u,j,c,hm,hw,hs,rfl⟩
 ·exact .inl h
 ·cases hm
  have hl:Lst E s u j:=⟨⟨_,hw⟩,fun i hi=>by have:=h1.2 _ (hi.step hs);omega⟩
  exact .inr ⟨u,c,j,⟨j,hl,hw⟩,hl,hs,h1⟩
theorem Lvl.next{E:List Edge}{s n u v c k:Nat}(h:Lvl E s n u)(hu:Lst E s u k)(hs:Stp E u v c)(hv:Lst E s v (k+c)):Lvl E s (n+1) v:=by
 obtain⟨j,h1,h2⟩:=h
 cases h1.eq hu
 exact⟨_,hv,h2.step hs⟩
theorem Lst.src{E:List Edge}{s:Nat}:Lst E s s 0:=⟨⟨0,.nil 0⟩,fun j _=>aoD j⟩
theorem Lvl.src{E:List Edge}{s:Nat}(n:Nat):Lvl E s n s:=⟨0,Lst.src,.nil n⟩
theorem Lvl.stable{E:List Edge}{s n:Nat}(h:∀v,Lvl E s (n+1) v→Lvl E s n v):∀m v,Lvl E s m v→Lvl E s n v
 |0,v,hv=>hv.more (aoD n)
 |m+1,v,hv=>by
  rcases hv.prev with rfl|⟨u,c,k,h1,h2,h3,h4⟩
  ·exact Lvl.src n
  ·exact h v ((Lvl.stable h m u h1).next h2 h3 h4)
noncomputable def az4(p:Nat→Prop):Nat→Nat
 |0=>0
 |N+1=>az4 p N+(@ite Nat (p N) (Classical.propDecidable _) 1 0)
theorem aIO(p:Nat→Prop):∀N,az4 p N≤N
 |0=>an2 0
 |N+1=>by
  have:=aIO p N
  unfold az4
  split<;>omega
theorem aG4{p q:Nat→Prop}(h:∀v,p v→q v):∀N,az4 p N≤az4 q N
 |0=>an2 0
 |N+1=>by
  have:=aG4 h N
  unfold az4
  split
  ·rename_i h1;rw[if_pos (h _ h1)];omega
  ·split<;>omega
theorem aH3{p q:Nat→Prop}(h:∀v,p v→q v){v:Nat}(hq:q v)(hp:¬p v):∀{N:Nat},v<N→az4 p N+1≤az4 q N
 |0,hv=>by omega
 |N+1,hv=>by
  unfold az4
  by_cases e:v=N
  ·subst e
   have:=aG4 h v
   rw[if_neg hp,if_pos hq];omega
  ·have:=aH3 h hq hp (N:=N) (by omega)
   split
   ·rename_i h1;rw[if_pos (h _ h1)];omega
   ·split<;>omega
theorem aJN{p:Nat→Prop}{v:Nat}(hp:p v):∀{N:Nat},v<N→1≤az4 p N
 |0,hv=>by omega
 |N+1,hv=>by
  unfold az4
  by_cases e:v=N
  ·subst e;rw[if_pos hp];omega
  ·have:=aJN hp (N:=N) (by omega);split<;>omega
theorem aUI{E:List Edge}{s N:Nat}(hs:s<N)(hE:∀a b c,(a,b,c)∈E→a<N∧b<N):∀m v,Lvl E s m v→Lvl E s (N-1) v:=by
 have lt:∀m v,Lvl E s m v→v<N:=fun m=>by
  induction m with
  |zero=>
   intro v ⟨k,_,h⟩
   rcases h.cases' with⟨rfl,_⟩|⟨_,_,_,_,h,_⟩
   ·exact hs
   ·cases h
  |succ m ih=>
   intro v hv
   rcases hv.prev with rfl|⟨u,c,k,h1,h2,h3,h4⟩
   ·exact hs
   ·rcases h3 with h3|h3
    ·exact(hE _ _ _ h3).2
    ·exact(hE _ _ _ h3).1
 have grow:∀n,(∃k,k≤n∧∀v,Lvl E s (k+1) v→Lvl E s k v)∨n+1≤az4 (Lvl E s n) N:=fun n=>by
  induction n with
  |zero=>exact .inr (aJN (Lvl.src 0) hs)
  |succ n ih=>
   rcases ih with⟨k,h1,h2⟩|h
   ·exact .inl ⟨k,by omega,h2⟩
   ·by_cases e:∀v,Lvl E s (n+1) v→Lvl E s n v
    ·exact .inl ⟨n,by omega,e⟩
    ·obtain⟨v,hv⟩:=Classical.not_forall.1 e
     have h1:Lvl E s (n+1) v:=Classical.byContradiction fun h=>hv fun h'=>(h h').elim
     have h2:¬Lvl E s n v:=fun h=>hv fun _=>h
     have:=aH3 (p:=Lvl E s n) (q:=Lvl E s (n+1)) (fun v h=>h.more (Nat.le_succ n)) h1 h2 (lt _ v h1)
     exact .inr (by omega)
 intro m v hv
 rcases grow N with⟨k,h1,h2⟩|h
 ·by_cases e:k≤N-1
  ·exact(Lvl.stable h2 m v hv).more e
  ·
   have hk:k=N:=by omega
   rcases grow (N-1)with⟨k',h1',h2'⟩|h'
   ·exact(Lvl.stable h2' m v hv).more h1'
   ·exact Classical.byContradiction fun hn=>by
     have:=aH3 (p:=Lvl E s (N-1)) (q:=fun _=>True) (fun _ _=>trivial) trivial hn (lt _ v hv)
     have:=aIO (fun _=>True) N
     omega
 ·have:=aIO (Lvl E s N) N;omega
theorem Lst.lvl{E:List Edge}{s N v k:Nat}(hs:s<N)(hE:∀a b c,(a,b,c)∈E→a<N∧b<N)(h:Lst E s v k):Lvl E s (N-1) v:=by
 obtain⟨n,hw⟩:=h.1
 exact aUI hs hE n v ⟨k,h,hw⟩
theorem as1.le{E:List Edge}{s n v k:Nat}(hc:∀a b c,(a,b,c)∈E→c≤1)(h:as1 E s n v k):k≤n:=by
 induction h with
 |nil=>omega
 |fwd h he ih=>have:=hc _ _ _ he;omega
 |bwd h he ih=>have:=hc _ _ _ he;omega
theorem Lst.le{E:List Edge}{s N v k:Nat}(hs:s<N)(hE:∀a b c,(a,b,c)∈E→a<N∧b<N)(hc:∀a b c,(a,b,c)∈E→c≤1)(h:Lst E s v k):k≤N-1:=by
 obtain⟨j,h1,h2⟩:=h.lvl hs hE
 cases h1.eq h
 exact h2.le hc
def aqV(E:List Edge)(s N far:Nat)(d:Nat→Nat):Prop:=∀v,v<N→(∀k,Lst E s v k→d v=k)∧((∀k,¬Cst E s v k)→d v=far)
theorem aOH{E:List Edge}{s N far:Nat}{d:Nat→Nat}(h0:d s=0)(hr:∀v,v<N→d v=far∨Cst E s v (d v))(hc:∀u v c,Stp E u v c→d v≤d u+c)(hf:∀v k,Lst E s v k→k<far):aqV E s N far d:=fun v hv=>by
 have le:∀n v k,as1 E s n v k→d v≤k:=fun n v k h=>by
  induction h with
  |nil=>omega
  |fwd h he ih=>have:=hc _ _ _ (.inl he);omega
  |bwd h he ih=>have:=hc _ _ _ (.inr he);omega
 refine⟨fun k hk=>?_,fun h=>?_⟩
 ·obtain⟨n,hn⟩:=hk.1
  have h1:=le n v k hn
  rcases hr v hv with h|h
  ·have:=hf v k hk;omega
  ·have:=hk.2 _ h;omega
 ·rcases hr v hv with h1|h1
  ·exact h1
  ·exact(h _ h1).elim
def az7(d:List Nat)(e:Edge):List Nat:=(d.set e.2.1 (min (d.getD e.2.1 0) (d.getD e.1 0+e.2.2))).set e.1 (min (d.getD e.1 0) (d.getD e.2.1 0+e.2.2))
def aZ2(E:List Edge)(d:List Nat):List Nat:=E.foldl az7 d
def az6(E:List Edge):Nat→List Nat→List Nat
 |0,d=>d
 |n+1,d=>az6 E n (aZ2 E d)
theorem aBT(d:List Nat)(e:Edge):(az7 d e).length=d.length:=by simp[az7]
theorem ax3{d:List Nat}{i v x:Nat}(hi:i<d.length):(d.set i x).getD v 0=if i=v then x else d.getD v 0:=by
 simp only[aED]
 by_cases h:i=v
 ·subst h;rw[ayF hi,if_pos rfl];rfl
 ·rw[asB h,if_neg h]
theorem aDZ{d:List Nat}{a b c:Nat}(ha:a<d.length)(hb:b<d.length)(hab:a≠b)(v:Nat):(az7 d (a,b,c)).getD v 0=if v=a then min (d.getD a 0) (d.getD b 0+c)else if v=b then min (d.getD b 0) (d.getD a 0+c)else d.getD v 0:=by
 unfold az7
 rw[ax3 (by simpa using ha),ax3 hb]
 by_cases h1:v=a
 ·subst h1;simp
 ·rw[if_neg (fun e=>h1 e.symm),if_neg h1]
  by_cases h2:v=b
  ·subst h2;simp
  ·rw[if_neg (fun e=>h2 e.symm),if_neg h2]
structure aAS(E:List Edge)(s N far:Nat)(d:List Nat):Prop where
 len:d.length=N
 src:d.getD s 0=0
 real:∀v,v<N→d.getD v 0=far∨Cst E s v (d.getD v 0)
 le:∀v,v<N→d.getD v 0≤far
theorem aAS.one{E:List Edge}{s N far:Nat}{d:List Nat}(I:aAS E s N far d){a b c:Nat}(he:(a,b,c)∈E)(ha:a<N)(hb:b<N)(hab:a≠b):aAS E s N far (az7 d (a,b,c)):=by
 have hl:=I.len
 have at_:=fun v=>aDZ (d:=d) (c:=c) (by omega) (by omega) hab v
 have mn:∀u v,u<N→v<N→Stp E u v c→(min (d.getD v 0) (d.getD u 0+c)=far∨Cst E s v (min (d.getD v 0) (d.getD u 0+c))):=fun u v hu hv hs=>by
  have h1:=I.le v hv
  rcases Nat.le_total (d.getD v 0) (d.getD u 0+c)with h|h
  ·rw[Nat.min_eq_left h];exact I.real v hv
  ·rw[Nat.min_eq_right h]
   rcases I.real u hu with hh|hh
   ·left;omega
   ·exact .inr (hh.step hs)
 refine⟨by rw[aBT,hl],?_,fun v hv=>?_,fun v hv=>?_⟩
 ·rw[at_]
  have:=I.src
  split
  ·rename_i h;subst h;rw[this];simp
  ·split
   ·rename_i h;subst h;rw[this];simp
   ·exact this
 ·rw[at_]
  split
  ·rename_i h;subst h;exact mn b v hb hv (.inr he)
  ·split
   ·rename_i h;subst h;exact mn a v ha hv (.inl he)
   ·exact I.real v hv
 ·rw[at_]
  split
  ·rename_i h;subst h;have:=I.le v hv;omega
  ·split
   ·rename_i h;subst h;have:=I.le v hv;omega
   ·exact I.le v hv
def EOk(E:List Edge)(N:Nat):Prop:=∀a b c,(a,b,c)∈E→a<N∧b<N∧a≠b∧c≤1
theorem aJJ{d:List Nat}{a b c:Nat}(ha:a<d.length)(hb:b<d.length)(hab:a≠b)(v:Nat):(az7 d (a,b,c)).getD v 0≤d.getD v 0:=by
 rw[aDZ ha hb hab]
 split
 ·rename_i h;subst h;omega
 ·split
  ·rename_i h;subst h;omega
  ·exact an2 _
theorem aEM:∀{L:List Edge} {d:List Nat} {N:Nat},d.length=N→EOk L N→∀v,(L.foldl az7 d).getD v 0≤d.getD v 0
 | [],d,N,_,_,v=>an2 _
 |(a,b,c)::L,d,N,hl,hE,v=>by
  have h:=hE a b c (am7 ..)
  have h1:=aEM (L:=L) (d:=az7 d (a,b,c)) (by rw[aBT,hl]) (fun a b c hm=>hE a b c (am5 _ hm)) v
  have h2:=aJJ (d:=d) (c:=c) (by omega) (by omega) h.2.2.1 v
  rw[ayH];omega
theorem aMP{E:List Edge}{s N far:Nat}:∀{L:List Edge} {d:List Nat},(∀e∈L,e∈E)→EOk E N→aAS E s N far d→aAS E s N far (L.foldl az7 d)
 | [],d,_,_,I=>I
 |(a,b,c)::L,d,hs,hE,I=>by
  have he:=hs _ (am7 ..)
  have h:=hE a b c he
  rw[ayH]
  exact aMP (L:=L) (fun e hm=>hs e (am5 _ hm)) hE (I.one he h.1 h.2.1 h.2.2.1)
theorem aB9{N:Nat}:∀{L:List Edge} {d:List Nat},d.length=N→EOk L N→∀{u v c k:Nat},(u,v,c)∈L∨(v,u,c)∈L→d.getD u 0≤k→(L.foldl az7 d).getD v 0≤k+c
 | [],d,_,_,u,v,c,k,h,_=>by rcases h with h|h<;>cases h
 |(a,b,e)::L,d,hl,hE,u,v,c,k,h,hk=>by
  have q:=hE a b e (am7 ..)
  have hE':EOk L N:=fun a b c hm=>hE a b c (am5 _ hm)
  have hl':(az7 d (a,b,e)).length=N:=by rw[aBT,hl]
  have key:(u=a∧v=b∧c=e)∨(u=b∧v=a∧c=e)∨((u,v,c)∈L∨(v,u,c)∈L):=by
   rcases h with h|h
   ·rcases anO.1 h with h|h
    ·cases h;exact .inl ⟨rfl,rfl,rfl⟩
    ·exact .inr (.inr (.inl h))
   ·rcases anO.1 h with h|h
    ·cases h;exact .inr (.inl ⟨rfl,rfl,rfl⟩)
    ·exact .inr (.inr (.inr h))
  rw[ayH]
  have at_:=fun v=>aDZ (d:=d) (c:=e) (by omega) (by omega) q.2.2.1 v
  rcases key with⟨rfl,rfl,rfl⟩|⟨rfl,rfl,rfl⟩|h
  ·have h1:=aEM hl' hE' v
   rw[at_ v,if_neg (fun e=>q.2.2.1 e.symm),if_pos rfl]at h1
   omega
  ·have h1:=aEM hl' hE' v
   rw[at_ v,if_pos rfl]at h1
   omega
  ·have h2:=aJJ (d:=d) (c:=e) (by omega) (by omega) q.2.2.1 u
   exact aB9 hl' hE' h (by omega)
theorem aEQ{E:List Edge}{s N far:Nat}(hE:EOk E N):∀(n:Nat) {d:List Nat},aAS E s N far d→aAS E s N far (az6 E n d)
 |0,d,I=>I
 |n+1,d,I=>aEQ hE n (aMP (fun _ h=>h) hE I)
theorem aBH(E:List Edge):∀(n:Nat) (d:List Nat),az6 E (n+1) d=aZ2 E (az6 E n d)
 |0,d=>rfl
 |n+1,d=>by rw[az6,aBH E n];rfl
theorem aGV{E:List Edge}{s N far:Nat}(hE:EOk E N){d:List Nat}(I:aAS E s N far d):∀(n:Nat) {v k:Nat},Lvl E s n v→Lst E s v k→(az6 E n d).getD v 0≤k
 |0,v,k,⟨j,h1,h2⟩,hk=>by
  rcases h2.cases' with⟨rfl,rfl⟩|⟨_,_,_,_,h,_⟩
  ·rw[az6,I.src];exact aoD _
  ·cases h
 |n+1,v,k,hv,hk=>by
  rw[aBH]
  have J:=aEQ hE n I
  rcases hv.prev with rfl|⟨u,c,j,h1,h2,h3,h4⟩
  ·have K:=aEQ hE (n+1) I
   rw[aBH]at K
   rw[K.src];exact aoD _
  ·cases h4.eq hk
   exact aB9 J.len hE h3 (aGV hE I n h1 h2)
theorem aH8{E:List Edge}{s N far:Nat}(hs:s<N)(hE:EOk E N)(hf:N≤far){d:List Nat}(I:aAS E s N far d){n:Nat}(hn:N-1≤n):aqV E s N far (fun v=>(az6 E n d).getD v 0):=fun v hv=>by
 have J:=aEQ hE n I
 have hE1:∀a b c,(a,b,c)∈E→a<N∧b<N:=fun a b c h=>⟨(hE a b c h).1,(hE a b c h).2.1⟩
 have hE2:∀a b c,(a,b,c)∈E→c≤1:=fun a b c h=>(hE a b c h).2.2.2
 refine⟨fun k hk=>?_,fun h=>?_⟩
 ·have h1:=aGV hE I n ((hk.lvl hs hE1).more hn) hk
  have h2:=hk.le hs hE1 hE2
  rcases J.real v hv with h|h
  ·simp only[h]at h1 ⊢;omega
  ·have:=hk.2 _ h;simp only;omega
 ·rcases J.real v hv with h1|h1
  ·exact h1
  ·exact(h _ h1).elim
end Net
end Go.Ev
namespace Go.Ev
namespace Net
structure DqI(E:List Edge)(s N far:Nat)(d q:List Nat)(X:Nat→Nat→Nat→Prop):Prop where
 i:aAS E s N far d
 w:∀r∈q,r<N
 tr:∀u v c,Stp E u v c→u∈q∨X u v c∨d.getD v 0≤d.getD u 0+c
def atU(E:List Edge)(r i u v c:Nat):Prop:=u=r∧∃j,i≤j∧(E[j]?=some (r,v,c)∨E[j]?=some (v,r,c))
theorem DqI.take{E:List Edge}{s N far:Nat}{d q:List Nat}{r:Nat}(I:DqI E s N far d (r::q) (fun _ _ _=>False)):r<N∧DqI E s N far d q (atU E r 0):=by
 refine⟨I.w r (am7 ..),I.i,fun u hu=>I.w u (am5 _ hu),fun u v c h=>?_⟩
 rcases I.tr u v c h with h1|h1|h1
 ·rcases anO.1 h1 with rfl|h1
  ·right;left
   refine⟨rfl,?_⟩
   rcases h with h|h
   ·obtain⟨j,hj⟩:=asZ h;exact⟨j,aoD j,.inl hj⟩
   ·obtain⟨j,hj⟩:=asZ h;exact⟨j,aoD j,.inr hj⟩
  ·exact .inl h1
 ·exact h1.elim
 ·exact .inr (.inr h1)
theorem atU.next{E:List Edge}{r i u v c:Nat}(h:atU E r i u v c):atU E r (i+1) u v c∨(u=r∧(E[i]?=some (r,v,c)∨E[i]?=some (v,r,c))):=by
 obtain⟨h1,j,h2,h3⟩:=h
 by_cases e:i=j
 ·subst e;exact .inr ⟨h1,h3⟩
 ·exact .inl ⟨h1,j,by omega,h3⟩
theorem DqI.skip{E:List Edge}{s N far:Nat}{d q:List Nat}{r i a b c:Nat}(I:DqI E s N far d q (atU E r i))(hi:E[i]?=some (a,b,c))(ha:r≠a)(hb:r≠b):DqI E s N far d q (atU E r (i+1)):=by
 refine⟨I.i,I.w,fun u v c' h=>?_⟩
 rcases I.tr u v c' h with h1|h1|h1
 ·exact .inl h1
 ·rcases h1.next with h1|⟨_,h2|h2⟩
  ·exact .inr (.inl h1)
  ·rw[hi]at h2;cases h2;exact(ha rfl).elim
  ·rw[hi]at h2;cases h2;exact(hb rfl).elim
 ·exact .inr (.inr h1)
theorem DqI.same{E:List Edge}{s N far:Nat}{d q:List Nat}{r i t c:Nat}(I:DqI E s N far d q (atU E r i))(hi:E[i]?=some (r,t,c)∨E[i]?=some (t,r,c))(hn:d.getD t 0≤d.getD r 0+c):DqI E s N far d q (atU E r (i+1)):=by
 refine⟨I.i,I.w,fun u v c' h=>?_⟩
 rcases I.tr u v c' h with h1|h1|h1
 ·exact .inl h1
 ·rcases h1.next with h1|⟨rfl,h2⟩
  ·exact .inr (.inl h1)
  ·right;right
   rcases hi with h3|h3<;>rcases h2 with h2|h2<;>(rw[h3]at h2;cases h2;exact hn)
 ·exact .inr (.inr h1)
theorem DqI.less{E:List Edge}{s N far:Nat}{d q q':List Nat}{r i t c:Nat}(I:DqI E s N far d q (atU E r i))(hr:r<N)(ht:t<N)(hrt:r≠t)(hi:E[i]?=some (r,t,c)∨E[i]?=some (t,r,c))(hn:d.getD r 0+c<d.getD t 0)(hq:∀x,x∈q'↔x=t∨x∈q):DqI E s N far (d.set t (d.getD r 0+c)) q' (atU E r (i+1)):=by
 have hl:=I.i.len
 have at_:=fun v=>ax3 (d:=d) (v:=v) (x:=d.getD r 0+c) (show t<d.length by omega)
 have hst:Stp E r t c:=hi.elim (fun h=>.inl (aoU h)) (fun h=>.inr (aoU h))
 have hfar:=I.i.le t ht
 have le:∀v,(d.set t (d.getD r 0+c)).getD v 0≤d.getD v 0:=fun v=>by
  rw[at_];split
  ·rename_i h;subst h;omega
  ·exact an2 _
 refine⟨⟨by simpa using hl,?_,fun v hv=>?_,fun v hv=>?_⟩,fun x hx=>?_,fun u v c' h=>?_⟩
 ·rw[at_];split
  ·rename_i h;subst h;have:=I.i.src;omega
  ·exact I.i.src
 ·rw[at_];split
  ·rename_i h;subst h
   rcases I.i.real r hr with h|h
   ·omega
   ·exact .inr (h.step hst)
  ·exact I.i.real v hv
 ·have:=le v;have:=I.i.le v hv;omega
 ·rcases(hq x).1 hx with rfl|h
  ·exact ht
  ·exact I.w x h
 ·by_cases hu:u=t
  ·exact .inl ((hq u).2 (.inl hu))
  ·have hdu:(d.set t (d.getD r 0+c)).getD u 0=d.getD u 0:=by rw[at_,if_neg (fun e=>hu e.symm)]
   rcases I.tr u v c' h with h1|h1|h1
   ·exact .inl ((hq u).2 (.inr h1))
   ·rcases h1.next with h1|⟨rfl,h2⟩
    ·exact .inr (.inl h1)
    ·right;right
     have hvt:v=t∧c'=c:=by
      rcases hi with h3|h3<;>rcases h2 with h2|h2<;>(rw[h3]at h2;cases h2;first|exact⟨rfl,rfl⟩|exact(hrt rfl).elim)
     obtain⟨rfl,rfl⟩:=hvt
     rw[hdu,at_,if_pos rfl]
     exact an2 _
   ·right;right
    have:=le v
    rw[hdu];omega
theorem atU.none{E:List Edge}{r i u v c:Nat}(hi:E.length≤i):¬atU E r i u v c:=fun⟨_,j,h1,h2⟩=>by
 rw[List.getElem?_eq_none (by omega)]at h2
 rcases h2 with h2|h2<;>cases h2
theorem DqI.done{E:List Edge}{s N far:Nat}{d q:List Nat}{r i:Nat}(I:DqI E s N far d q (atU E r i))(hi:E.length≤i):DqI E s N far d q (fun _ _ _=>False):=
 ⟨I.i,I.w,fun u v c h=>(I.tr u v c h).imp id fun h=>h.elim (fun h=>(atU.none hi h).elim) .inr⟩
theorem aUC{d:List Nat}:∀{t x:Nat},t<d.length→(d.set t x).sum+d.getD t 0=d.sum+x:=by
 induction d with
 |nil=>intro t x h;simp at h
 |cons a d ih=>
  intro t x h
  cases t with
  |zero=>simp;omega
  |succ t=>
   have:=ih (t:=t) (x:=x) (by simpa using h)
   simp only[List.set_cons_succ,List.sum_cons,List.getD_cons_succ]
   omega
theorem aM1{d:List Nat}{t x:Nat}(ht:t<d.length)(hx:x<d.getD t 0):(d.set t x).sum<d.sum:=by
 have:=aUC (d:=d) (x:=x) ht
 omega
theorem DqI.right{E:List Edge}{s N far:Nat}{d:List Nat}(hs:s<N)(hE:EOk E N)(hf:N≤far)(I:DqI E s N far d [] (fun _ _ _=>False)):aqV E s N far (fun v=>d.getD v 0):=by
 refine aOH I.i.src I.i.real (fun u v c h=>?_) fun v k hk=>?_
 ·rcases I.tr u v c h with h1|h1|h1
  ·cases h1
  ·exact h1.elim
  ·exact h1
 ·have:=hk.le hs (fun a b c h=>⟨(hE a b c h).1,(hE a b c h).2.1⟩) (fun a b c h=>(hE a b c h).2.2.2)
  omega
theorem aqV.num{E:List Edge}{s N far far':Nat}{d d':Nat→Nat}(h:aqV E s N far d)(h':aqV E s N far' d')(hf:N≤far)(hf':N≤far')(hs:s<N)(hE:EOk E N){v:Nat}(hv:v<N):(d v=far↔d' v=far')∧(d v≠far→d v=d' v)∧(d v≠far→d v<N):=by
 have hE1:∀a b c,(a,b,c)∈E→a<N∧b<N:=fun a b c h=>⟨(hE a b c h).1,(hE a b c h).2.1⟩
 have hE2:∀a b c,(a,b,c)∈E→c≤1:=fun a b c h=>(hE a b c h).2.2.2
 by_cases e:∃k,Cst E s v k
 ·obtain⟨k,hk⟩:=e
  obtain⟨j,hj⟩:=Lst.ex hk
  have h1:=(h v hv).1 j hj
  have h2:=(h' v hv).1 j hj
  have h3:=hj.le hs hE1 hE2
  rw[h1,h2]
  exact⟨⟨fun e=>by omega,fun e=>by omega⟩,fun _=>rfl,fun _=>by omega⟩
 ·have hn:∀k,¬Cst E s v k:=fun k hk=>e ⟨k,hk⟩
  have h1:=(h v hv).2 hn
  have h2:=(h' v hv).2 hn
  rw[h1,h2]
  exact⟨⟨fun _=>rfl,fun _=>rfl⟩,fun h=>(h rfl).elim,fun h=>(h rfl).elim⟩
end Net
end Go.Ev
namespace Go.Ev
namespace Net
def arQ(N s far:Nat):List Nat:=(au4 N far).set s 0
theorem aAJ{N s far v:Nat}(hs:s<N)(hv:v<N):(arQ N s far).getD v 0=if s=v then 0 else far:=by
 unfold arQ
 rw[ax3 (by simpa using hs)]
 split
 ·rfl
 ·simp[aED,hv]
theorem aHR{E:List Edge}{N s far:Nat}(hs:s<N):aAS E s N far (arQ N s far):=by
 refine⟨by simp[arQ],by rw[aAJ hs hs,if_pos rfl],fun v hv=>?_,fun v hv=>?_⟩
 ·rw[aAJ hs hv]
  split
  ·rename_i h;subst h;exact .inr ⟨0,.nil 0⟩
  ·exact .inl rfl
 ·rw[aAJ hs hv];split<;>omega
theorem aUY{E:List Edge}{N s far:Nat}(hs:s<N)(hE:EOk E N):DqI E s N far (arQ N s far) [s] (fun _ _ _=>False):=by
 refine⟨aHR hs,fun r hr=>by simp at hr;omega,fun u v c h=>?_⟩
 have hb:u<N∧v<N:=h.elim (fun h=>⟨(hE _ _ _ h).1,(hE _ _ _ h).2.1⟩) (fun h=>⟨(hE _ _ _ h).2.1,(hE _ _ _ h).1⟩)
 by_cases e:u=s
 ·exact .inl (by simp[e])
 ·right;right
  rw[aAJ hs hb.1,if_neg (fun h=>e h.symm)]
  have:=(aHR (E:=E) (far:=far) hs).le v hb.2
  omega
def aDX(E:List Edge)(N len:Nat):Nat:=if 1000≤(az6 E N (arQ N 0 1000)).getD 1 0 then len+1 else(az6 E N (arQ N 0 1000)).getD 1 0
theorem aw3{E:List Edge}{N:Nat}(hN:2≤N)(hN2:N≤1000)(hE:EOk E N):aqV E 0 N 1000 (fun v=>(az6 E N (arQ N 0 1000)).getD v 0):=
 aH8 (by omega) hE hN2 (aHR (by omega)) (by omega)
theorem aNY{E:List Edge}{N far len:Nat}(hN:2≤N)(hN2:N≤1000)(hf:N≤far)(hE:EOk E N){d:Nat→Nat}(h:aqV E 0 N far d):(if d 1=far then len+1 else d 1)=aDX E N len:=by
 obtain⟨h1,h2,h3⟩:=aqV.num (aw3 hN hN2 hE) h hN2 hf (by omega) hE (v:=1) (by omega)
 unfold aDX
 by_cases e:(az6 E N (arQ N 0 1000)).getD 1 0=1000
 ·rw[if_pos (h1.1 e),if_pos (by rw[e];exact an2 _)]
 ·have:=h3 e
  rw[if_neg (fun h=>e (h1.2 h)),if_neg (by omega)]
  exact(h2 e).symm
end Net
end Go.Ev
namespace Go.Ev
namespace Net
def toE(e:Edge)(r:Nat):Option Nat:=if e.1=r then some e.2.1 else if e.2.1=r then some e.1 else none
theorem aAC{E:List Edge}{e:Edge}{r v:Nat}(he:e∈E)(h:toE e r=some v):Stp E r v e.2.2:=by
 obtain⟨a,b,c⟩:=e
 unfold toE at h
 split at h
 ·rename_i h1;simp only at h h1;cases h;subst h1;exact .inl he
 ·split at h
  ·rename_i h1;simp only at h h1;cases h;subst h1;exact .inr he
  ·cases h
def aqJ(f:Nat→Edge→Option (List Nat)):Nat→List Edge→Option (List Nat)
 |_,[]=>none
 |i,e::l=>match f i e with
  |some x=>some x
  |none=>aqJ f (i+1) l
theorem avI{f:Nat→Edge→Option (List Nat)}:∀{l:List Edge} {i:Nat} {x:List Nat},aqJ f i l=some x→∃j e,l[j]?=some e∧f (i+j) e=some x
 | [],i,x,h=>by cases h
 |e::l,i,x,h=>by
  unfold aqJ at h
  split at h
  ·rename_i y hy;cases h;exact⟨0,e,rfl,hy⟩
  ·obtain⟨j,e',h1,h2⟩:=avI h
   exact⟨j+1,e',by simpa using h1,by rw[←h2];congr 1;omega⟩
theorem axH{f g:Nat→Edge→Option (List Nat)}:∀{l:List Edge} {i:Nat},(∀j e,l[j]?=some e→f (i+j) e=g (i+j) e)→aqJ f i l=aqJ g i l
 | [],i,h=>rfl
 |e::l,i,h=>by
  have h0:=h 0 e rfl
  simp only[as0]at h0
  have ih:=axH (f:=f) (g:=g) (l:=l) (i:=i+1) fun j e' hj=>by
   have:=h (j+1) e' (by simpa using hj)
   rwa[show i+(j+1)=i+1+j by omega]at this
  unfold aqJ
  rw[h0]
  cases g i e with
  |none=>exact ih
  |some x=>rfl
def avB(E:List Edge):Nat→Nat→List Nat→Nat→Option (List Nat)
 |0,_,_,_=>none
 |f+1,most,rooms,at_=>if at_=1 then some []else
  aqJ (fun i e=>match toE e at_ with
   |none=>none
   |some r=>if r∈rooms∨most<e.2.2 then none else(avB E f (most-e.2.2) (r::rooms) r).map (i::·)) 0 E
def avM(E:List Edge)(back:Nat→Nat)(most:Nat):Nat→Nat→List Nat→Nat→Option (List Nat)
 |0,_,_,_=>none
 |f+1,tight,rooms,at_=>if at_=1 then some []else
  aqJ (fun i e=>match toE e at_ with
   |none=>none
   |some r=>if r∈rooms∨most<tight+e.2.2+back r then none else(avM E back most f (tight+e.2.2) (r::rooms) r).map (i::·)) 0 E
theorem aFF{E:List Edge}:∀{f most:Nat} {rooms:List Nat} {at_:Nat} {l:List Nat},avB E f most rooms at_=some l→∃k,k≤most∧Cst E 1 at_ k
 |0,_,_,_,_,h=>by cases h
 |f+1,most,rooms,at_,l,h=>by
  unfold avB at h
  split at h
  ·rename_i e;subst e;exact⟨0,aoD _,0,.nil 0⟩
  ·obtain⟨j,e,h1,h2⟩:=avI h
   split at h2
   ·cases h2
   ·rename_i r hr
    split at h2
    ·cases h2
    ·rename_i hn
     obtain⟨x,hx,_⟩:=ak3.1 h2
     obtain⟨k,k1,k2⟩:=aFF hx
     have hc:e.2.2≤most:=ayG fun h=>hn (.inr h)
     exact⟨k+e.2.2,by omega,k2.step (aAC (aoU h1) hr).symm⟩
theorem aM7{E:List Edge}{N far:Nat}{back:Nat→Nat}(hE:EOk E N)(hb:aqV E 1 N far back)(hf:∀v k,Lst E 1 v k→k<far){most:Nat}(hm:most<far):∀(f tight:Nat) (rooms:List Nat) (at_:Nat),tight≤most→avM E back most f tight rooms at_=avB E f (most-tight) rooms at_
 |0,_,_,_,_=>rfl
 |f+1,tight,rooms,at_,ht=>by
  unfold avM avB
  split
  ·rfl
  ·refine axH fun j e hj=>?_
   have he:=aoU hj
   cases hr:toE e at_ with
   |none=>rfl
   |some r=>
    simp only
    have hrN:r<N:=by
     rcases aAC he hr with h|h
     ·exact(hE _ _ _ h).2.1
     ·exact(hE _ _ _ h).1
    by_cases h1:r∈rooms
    ·rw[if_pos (.inl h1),if_pos (.inl h1)]
    ·by_cases h2:most-tight<e.2.2
     ·rw[if_pos (.inr (by omega)),if_pos (.inr h2)]
     ·have e1:most-tight-e.2.2=most-(tight+e.2.2):=by omega
      by_cases h3:most<tight+e.2.2+back r
      ·rw[if_pos (.inr h3),if_neg (by rintro(h|h);exact h1 h;exact h2 h)]
       cases hw:avB E f (most-tight-e.2.2) (r::rooms) r with
       |none=>rfl
       |some x=>
        obtain⟨k,k1,k2⟩:=aFF hw
        obtain⟨j,hj⟩:=Lst.ex k2
        have h4:=(hb r hrN).1 j hj
        have h5:=hj.2 k k2
        omega
      ·rw[if_neg (by rintro(h|h);exact h1 h;exact h3 h),if_neg (by rintro(h|h);exact h1 h;exact h2 h),aM7 hE hb hf hm f (tight+e.2.2) (r::rooms) r (by omega),e1]
end Net
end Go.Ev
namespace Go.Ev
namespace Net
theorem EOk.ends{E:List Edge}{N:Nat}(h:EOk E N):∀a b c,(a,b,c)∈E→a<N∧b<N:=fun a b c e=>⟨(h a b c e).1,(h a b c e).2.1⟩
theorem EOk.one{E:List Edge}{N:Nat}(h:EOk E N):∀a b c,(a,b,c)∈E→c≤1:=fun a b c e=>(h a b c e).2.2.2
theorem aUO{E:List Edge}{N len k:Nat}(hN:2≤N)(hN2:N≤1000)(hE:EOk E N)(h:Lst E 0 1 k):aDX E N len=k∧k<N:=by
 have h1:=(aw3 hN hN2 hE 1 (by omega)).1 k h
 have h2:=h.le (s:=0) (by omega) hE.ends hE.one
 simp only at h1
 unfold aDX
 rw[h1,if_neg (by omega)]
 exact⟨rfl,by omega⟩
theorem aT1{E:List Edge}{N len:Nat}(hN:2≤N)(hN2:N≤1000)(hE:EOk E N)(h:∀k,¬Cst E 0 1 k):aDX E N len=len+1:=by
 have h1:=(aw3 hN hN2 hE 1 (by omega)).2 h
 simp only at h1
 unfold aDX
 rw[h1,if_pos (an2 _)]
end Net
end Go.Ev
namespace Go.Ev
namespace Net
def awH(E:List Edge):List Nat→Nat→List Nat→Prop
 |_,at_,[]=>at_=1
 |rooms,at_,i::l=>∃e r,E[i]?=some e∧toE e at_=some r∧r∉rooms∧awH E (r::rooms) r l
def aq9(E:List Edge):List Nat→Nat
 | []=>0
 |i::l=>(E[i]?.map (·.2.2)).getD 0+aq9 E l
theorem aB2{E:List Edge}:∀{f most:Nat} {rooms:List Nat} {at_:Nat} {l:List Nat},avB E f most rooms at_=some l→awH E rooms at_ l∧aq9 E l≤most
 |0,_,_,_,_,h=>by cases h
 |f+1,most,rooms,at_,l,h=>by
  unfold avB at h
  split at h
  ·rename_i e;cases h;exact⟨e,aoD _⟩
  ·obtain⟨j,e,h1,h2⟩:=avI h
   split at h2
   ·cases h2
   ·rename_i r hr
    split at h2
    ·cases h2
    ·rename_i hn
     obtain⟨x,hx,rfl⟩:=ak3.1 h2
     obtain⟨k1,k2⟩:=aB2 hx
     have hc:e.2.2≤most:=ayG fun h=>hn (.inr h)
     rw[arY]
     refine⟨⟨e,r,h1,hr,fun h=>hn (.inl h),k1⟩,?_⟩
     simp only[aq9,h1,an3,atM]
     omega
theorem azV{f:Nat→Edge→Option (List Nat)}:∀{l:List Edge} {i:Nat},aqJ f i l=none→∀j e,l[j]?=some e→f (i+j) e=none
 | [],_,_,j,e,h=>by simp at h
 |a::l,i,h,j,e,hj=>by
  unfold aqJ at h
  split at h
  ·cases h
  ·rename_i ha
   cases j with
   |zero=>simp at hj;subst hj;exact ha
   |succ j=>
    have:=azV h j e (by simpa using hj)
    rwa[show i+(j+1)=i+1+j by omega]
theorem aVP{E:List Edge}:∀{f most:Nat} {rooms:List Nat} {at_:Nat} {l:List Nat},awH E rooms at_ l→aq9 E l≤most→l.length<f→avB E f most rooms at_≠none
 |0,_,_,_,_,_,_,h=>by omega
 |f+1,most,rooms,at_,l,hw,hc,hl=>fun h=>by
  unfold avB at h
  split at h
  ·cases h
  ·rename_i hne
   cases l with
   |nil=>exact hne hw
   |cons i l=>
    obtain⟨e,r,h1,h2,h3,h4⟩:=hw
    have:=azV h i e h1
    simp only[aq9,h1,an3,atM]at hc
    rw[arY,h2]at this
    simp only at this
    rw[if_neg (by rintro(h|h);exact h3 h;omega)]at this
    exact aVP (most:=most-e.2.2) h4 (by omega) (by simpa using hl) (Option.map_eq_none_iff.1 this)
def auZ(E:List Edge):List Nat→List Nat→Prop
 | [v],[]=>v=1
 |v::u::vs,i::l=>∃e,E[i]?=some e∧toE e v=some u∧auZ E (u::vs) l
 |_,_=>False
theorem auZ.way{E:List Edge}:∀{l vs rooms:List Nat} {v:Nat},auZ E (v::vs) l→vs.Nodup→(∀x∈vs,x∉rooms)→awH E rooms v l
 | [],[],_,_,h,_,_=>h
 | [],_::_,_,_,h,_,_=>h.elim
 |_::_,[],_,_,h,_,_=>h.elim
 |i::l,u::vs,rooms,v,⟨e,h1,h2,h3⟩,hn,hd=>⟨e,u,h1,h2,hd u (by simp),h3.way (aqD.1 hn).2 fun x hx hr=>by
  rcases anO.1 hr with rfl|hr
  ·exact(aqD.1 hn).1 hx
  ·exact hd x (am5 _ hx) hr⟩
theorem auZ.len{E:List Edge}:∀{l vs:List Nat},auZ E vs l→vs.length=l.length+1
 | [],[_],_=>rfl
 | [],[],h=>h.elim
 | [],_::_::_,h=>h.elim
 |_::_,[],h=>h.elim
 |_::_,[_],h=>h.elim
 |i::l,v::u::vs,⟨_,_,_,h⟩=>by have:=h.len;simp at this ⊢;omega
theorem auZ.cut{E:List Edge}:∀{l vs:List Nat} {v:Nat},auZ E vs l→vs.Nodup→v∈vs→∃vs' l',auZ E (v::vs') l'∧(v::vs').Nodup∧(∀x∈v::vs',x∈vs)∧aq9 E l'≤aq9 E l
 | [],[],_,h,_,_=>h.elim
 | [],[u],v,h,hn,hv=>by
   simp at hv;subst hv
   exact⟨[],[],h,by simp,fun _ h=>h,an2 _⟩
 | [],_::_::_,_,h,_,_=>h.elim
 |_::_,[],_,h,_,_=>h.elim
 |_::_,[_],_,h,_,_=>h.elim
 |i::l,w::u::vs,v,h,hn,hv=>by
  rcases anO.1 hv with rfl|hv
  ·exact⟨_,_,h,hn,fun _ h=>h,an2 _⟩
  ·obtain⟨_,_,_,h⟩:=h
   obtain⟨vs',l',k1,k2,k3,k4⟩:=h.cut (aqD.1 hn).2 hv
   exact⟨vs',l',k1,k2,fun x hx=>am5 _ (k3 x hx),by simp only[aq9];omega⟩
theorem aKU{E:List Edge}{N:Nat}(hE:EOk E N)(h1:1<N){n v k:Nat}(h:as1 E 1 n v k):∃vs l,auZ E (v::vs) l∧(v::vs).Nodup∧(∀x∈v::vs,x<N)∧aq9 E l≤k:=by
 have one:∀{u v c k:Nat} {vs l:List Nat},(u,v,c)∈E∨(v,u,c)∈E→auZ E (u::vs) l→(u::vs).Nodup→(∀x∈u::vs,x<N)→aq9 E l≤k→∃vs l,auZ E (v::vs) l∧(v::vs).Nodup∧(∀x∈v::vs,x<N)∧aq9 E l≤k+c:=by
  intro u v c k vs l he hp hn hN hc
  by_cases hv:v∈u::vs
  ·obtain⟨vs',l',k1,k2,k3,k4⟩:=hp.cut hn hv
   exact⟨vs',l',k1,k2,fun x hx=>hN x (k3 x hx),by omega⟩
  ·have go:∀e:Edge,e∈E→toE e v=some u→e.2.2=c→v<N→∃vs l,auZ E (v::vs) l∧(v::vs).Nodup∧(∀x∈v::vs,x<N)∧aq9 E l≤k+c:=fun e he ht hec hvN=>by
    obtain⟨i,hi⟩:=asZ he
    refine⟨u::vs,i::l,⟨e,hi,ht,hp⟩,aqD.2 ⟨hv,hn⟩,fun x hx=>?_,?_⟩
    ·rcases anO.1 hx with rfl|hx
     ·exact hvN
     ·exact hN x hx
    ·simp only[aq9,hi,an3,atM];omega
   rcases he with he|he
   ·have:=hE _ _ _ he
    exact go _ he (by simp[toE,this.2.2.1]) rfl this.2.1
   ·exact go _ he (by simp[toE]) rfl (hE _ _ _ he).1
 induction h with
 |nil n=>exact⟨[],[],rfl,by simp,fun x hx=>by simp at hx;omega,an2 _⟩
 |fwd h he ih=>
  obtain⟨vs,l,i1,i2,i3,i4⟩:=ih
  exact one (.inl he) i1 i2 i3 i4
 |bwd h he ih=>
  obtain⟨vs,l,i1,i2,i3,i4⟩:=ih
  exact one (.inr he) i1 i2 i3 i4
theorem aHP:∀(N:Nat) (l:List Nat),l.Nodup→(∀x∈l,x<N)→l.length≤N
 |0,[],_,_=>by simp
 |0,a::l,_,h=>absurd (h a (by simp)) (by omega)
 |N+1,l,hn,h=>by
  by_cases e:N∈l
  ·have h1:=aHP N (l.erase N) (hn.erase N) fun x hx=>by
    have h2:=h x (aDY hx)
    have h3:x≠N:=fun e2=>by subst e2;exact(hn.not_mem_erase) hx
    omega
   rw[aD9 e]at h1
   omega
  ·exact Nat.le_succ_of_le (aHP N l hn fun x hx=>by
    have h2:=h x hx
    have h3:x≠N:=fun e2=>e (e2▸hx)
    omega)
theorem aJF{E:List Edge}{s u:Nat}{k:Nat}(h:Cst E s u k):∀{n v j:Nat},as1 E u n v j→Cst E s v (k+j):=by
 intro n v j w
 induction w with
 |nil=>exact h
 |fwd w he ih=>obtain h2:=ih.step (.inl he);rwa[ayW]at h2
 |bwd w he ih=>obtain h2:=ih.step (.inr he);rwa[ayW]at h2
theorem aSJ{E:List Edge}{s n v k:Nat}(w:as1 E s n v k):Cst E v s k:=by
 induction w with
 |nil=>exact⟨0,.nil 0⟩
 | @fwd n a b c k w he ih=>
   obtain⟨m,w2⟩:=ih
   have:=aJF ((show Cst E b b 0 from⟨0,.nil 0⟩).step (.inr he)) w2
   rwa[arY,Nat.add_comm]at this
 | @bwd n a b c k w he ih=>
   obtain⟨m,w2⟩:=ih
   have:=aJF ((show Cst E a a 0 from⟨0,.nil 0⟩).step (.inl he)) w2
   rwa[arY,Nat.add_comm]at this
theorem aJB{E:List Edge}{N k:Nat}(hE:EOk E N)(h1:1<N)(h:Cst E 0 1 k):∃l,awH E [0] 0 l∧aq9 E l≤k∧l.length<N:=by
 obtain⟨n,w⟩:=h
 obtain⟨m,w⟩:=aSJ w
 obtain⟨vs,l,k1,k2,k3,k4⟩:=aKU hE h1 w
 refine⟨l,k1.way (aqD.1 k2).2 fun x hx h=>?_,k4,?_⟩
 ·simp at h;subst h;exact(aqD.1 k2).1 hx
 ·have:=aHP N _ k2 k3
  have:=k1.len
  omega
theorem aZ1{E:List Edge}{N k most:Nat}(hE:EOk E N)(h1:1<N)(h:Cst E 0 1 k)(hk:k≤most):∃l,avB E N most [0] 0=some l:=by
 obtain⟨l,k1,k2,k3⟩:=aJB hE h1 h
 have:=aVP k1 (Nat.le_trans k2 hk) k3
 cases e:avB E N most [0] 0 with
 |none=>exact absurd e this
 |some l=>exact⟨l,rfl⟩
theorem awH.cst{E:List Edge}{s:Nat}:∀{l rooms:List Nat} {at_ k:Nat},awH E rooms at_ l→Cst E s at_ k→Cst E s 1 (k+aq9 E l)
 | [],_,_,_,h,hk=>by cases h;exact hk
 |i::l,_,_,k,⟨e,r,h1,h2,_,h4⟩,hk=>by
  have:=h4.cst (hk.step (aAC (aoU h1) h2))
  simp only[aq9,h1,an3,atM]
  rwa[←ayW]
theorem aMF{E:List Edge}{s N far:Nat}{d:Nat→Nat}(hE:EOk E N)(h:aqV E s N far d){u v c:Nat}(hs:Stp E u v c):d v≤d u+c:=by
 have hb:u<N∧v<N:=by
  rcases hs with h|h
  ·exact⟨(hE _ _ _ h).1,(hE _ _ _ h).2.1⟩
  ·exact⟨(hE _ _ _ h).2.1,(hE _ _ _ h).1⟩
 obtain⟨u1,u2⟩:=h u hb.1
 obtain⟨v1,v2⟩:=h v hb.2
 by_cases hu:∃k,Cst E s u k
 ·obtain⟨k,hk⟩:=hu
  obtain⟨j,hj⟩:=Lst.ex hk
  have e1:=u1 j hj
  have hc:=hj.1.step hs
  obtain⟨m,hm⟩:=Lst.ex hc
  have e2:=v1 m hm
  have:=hm.2 _ hc
  omega
 ·have hv:∀k,¬Cst E s v k:=fun k hk=>hu ⟨_,hk.step hs.symm⟩
  have e1:=u2 fun k hk=>hu ⟨k,hk⟩
  have e2:=v2 hv
  omega
theorem aC1{E:List Edge}{N:Nat}(hE:EOk E N){d:Nat→Nat}(hd:∀u v c,Stp E u v c→d v≤d u+c){k:Nat}(h1:k+1≤d 1):∀{l rooms:List Nat} {at_:Nat},awH E rooms at_ l→d at_≤k→∃i e,i∈l∧E[i]?=some e∧e.2.2=1∧min (d e.1) (d e.2.1)=k∧max (d e.1) (d e.2.1)=k+1
 | [],_,_,h,hk=>by cases h;omega
 |i::l,_,at_,⟨e,r,g1,g2,_,g4⟩,hk=>by
  by_cases hr:d r≤k
  ·obtain⟨j,e',j1,j2⟩:=aC1 hE hd h1 g4 hr
   exact⟨j,e',am5 _ j1,j2⟩
  ·have hm:=aoU g1
   have:=hd _ _ _ (aAC hm g2)
   have hc:=(hE e.1 e.2.1 e.2.2 hm).2.2.2
   refine⟨i,e,by simp,g1,by omega,?_⟩
   unfold toE at g2
   split at g2
   ·rename_i q;cases g2;subst q;omega
   ·split at g2
    ·rename_i q;cases g2;subst q;omega
    ·cases g2
end Net
end Go.Ev
namespace Go.Ev
namespace Net
theorem aEZ{E E':List Edge}{N n:Nat}(hE:EOk E N)(hE':EOk E' N)(h1:1<N){d:Nat→Nat}(hd:aqV E 0 N n d)(hn:N≤n){p:Nat}
 (hs:∀i e,E[i]?=some e→i≠p→E'[i]?=some e) (hb:∀(i:Nat) (e:Edge),E'[i]?=some e→∃c,E[i]?=some (e.1,e.2.1,c)) (h0:Cst E' 0 1 0) (hp:0<d 1):
 d 1=1∧∃e,E[p]?=some e∧e.2.2=1∧min (d e.1) (d e.2.1)=0∧max (d e.1) (d e.2.1)=1:=by
 obtain⟨l,k1,k2,_⟩:=aJB hE' h1 h0
 have d0:d 0=0:=(hd 0 (by omega)).1 0 Lst.src
 have conv:∀{l rooms:List Nat} {at_:Nat},awH E' rooms at_ l→awH E rooms at_ l:=fun {l}=>by
  induction l with
  |nil=>intro rooms at_ h;exact h
  |cons i l ih=>
   rintro rooms at_ ⟨e,r,g1,g2,g3,g4⟩
   obtain⟨c,hc⟩:=hb i e g1
   exact⟨_,r,hc,g2,g3,ih g4⟩
 have z:∀{l:List Nat},aq9 E' l=0→∀i∈l,∀e,E'[i]?=some e→e.2.2=0:=fun {l}=>by
  induction l with
  |nil=>intro _ i hi;cases hi
  |cons j l ih=>
   intro h i hi e he
   simp only[aq9]at h
   rcases anO.1 hi with rfl|hi
   ·rw[he]at h;simp at h;exact h.1
   ·exact ih (by omega) i hi e he
 have is:∀k,k+1≤d 1→∃e,E[p]?=some e∧e.2.2=1∧min (d e.1) (d e.2.1)=k∧max (d e.1) (d e.2.1)=k+1:=fun k hk=>by
  obtain⟨i,e,j1,j2,j3,j4⟩:=aC1 hE (fun u v c hs=>aMF hE hd hs) hk (conv k1) (by rw[d0];omega)
  by_cases e1:i=p
  ·subst e1;exact⟨e,j2,j3,j4⟩
  ·have:=z (by omega) i j1 e (hs i e j2 e1)
   omega
 obtain⟨e,e1,e2,e3,e4⟩:=is 0 (by omega)
 refine⟨?_,e,e1,e2,e3,e4⟩
 by_cases h2:2≤d 1
 ·obtain⟨e',f1,f2,f3,f4⟩:=is 1 (by omega)
  rw[e1]at f1;cases f1;omega
 ·omega
end Net
end Go.Ev
namespace Go.Ev
noncomputable section
open Go.RowKit
def aIP(x:Int):List Int→List Int
 | []=>[x]
 |y::l=>if x≤y then x::y::l else y::aIP x l
def ar7:List Int→List Int
 | []=>[]
 |x::l=>aIP x (ar7 l)
theorem ayV(x:Int):∀l:List Int,(aIP x l).Perm (x::l)
 | []=>List.Perm.refl _
 |y::l=>by
  unfold aIP
  split
  ·exact List.Perm.refl _
  ·exact((ayV x l).cons y).trans (List.Perm.swap x y l)
theorem auW:∀l:List Int,(ar7 l).Perm l
 | []=>List.Perm.refl _
 |x::l=>(ayV x _).trans ((auW l).cons x)
theorem azS(x:Int):∀{l:List Int},l.Pairwise (· ≤·)→(aIP x l).Pairwise (· ≤·)
 | [],_=>by simp[aIP]
 |y::l,h=>by
  rw[au2]at h
  unfold aIP
  split
  ·rename_i hxy
   refine au2.2 ⟨fun z hz=>?_,au2.2 h⟩
   rcases anO.1 hz with rfl|hz
   ·exact hxy
   ·exact Int.le_trans hxy (h.1 z hz)
  ·rename_i hxy
   refine au2.2 ⟨fun z hz=>?_,azS x h.2⟩
   rcases anO.1 ((ayV x l).mem_iff.1 hz)with rfl|hz
   ·omega
   ·exact h.1 z hz
theorem auI:∀l:List Int,(ar7 l).Pairwise (· ≤·)
 | []=>List.Pairwise.nil
 |x::l=>azS x (auI l)
theorem aNO(l:List Int):(l.mergeSort fun x y=>decide (x≤y))=ar7 l:=by
 have h1:=List.pairwise_mergeSort (le:=fun x y:Int=>decide (x≤y)) (by simp;omega) (by simp;omega) l
 refine List.Perm.eq_of_pairwise (le:=(· ≤·)) (fun a b _ _ h1 h2=>Int.le_antisymm h1 h2) ?_ (auI l) ((List.mergeSort_perm l _).trans (auW l).symm)
 simpa using h1
theorem aC8(l:List Int):(ar7 l).length=l.length:=(auW l).length_eq
def avY:List (List AV)→Option (List Int)
 | []=>some []
 | [.int .i64 n]::l=>(avY l).map (n::·)
 |_=>none
theorem aDQ:∀{rows:List (List AV)} {l:List Int},avY rows=some l→rows=l.map fun n=>[.int .i64 n]
 | [],l,h=>by simp[avY]at h;subst h;rfl
 |r::rows,l,h=>by
  unfold avY at h
  split at h
  ·rename_i e;cases e
  ·rename_i n l' e
   cases e
   obtain⟨l2,h2,rfl⟩:=ak3.1 h
   rw[aDQ h2];rfl
  ·cases h
theorem aHX(l:List Int):avY (l.map fun n=>[.int .i64 n])=some l:=by
 induction l with
 |nil=>rfl
 |cons a l ih=>simp[avY,ih]
def aCA:List AV→qR→Option (Out × qR)
 | [.slr 1 b 0 len],h=>match h[b]? with
   |some (.live 1 true _ rows)=>if rows.length=len∧1≤len∧len≤549755813888 then(avY rows).map fun zs=>(.ret (.tup []),h.set b (.live 1 true true ((ar7 zs).map fun n=>[.int .i64 n])))else none
   |_=>none
 |_,_=>none
section
variable {P:Program} {G:Nat→Option Obj}
theorem aCH{w:World}{cb:Nat}{c:Array Value}{e:TypeId}{fz:Nat × Nat}(hk:w.heap[cb]?=some (.cells c e fz))(f:Array Value→Array Value):Go.Sort.mapBlock w cb f=setB w cb (.cells (f c) e fz):=by
 unfold Go.Sort.mapBlock setB
 congr 1
 apply Array.ext_getElem?
 intro k
 simp only[Array.getElem?_modify,Array.getElem?_setIfInBounds]
 by_cases h:cb=k
 ·subst h
  have hl:=(Array.getElem?_eq_some_iff.1 hk).1
  rw[if_pos rfl,if_pos rfl,if_pos hl,hk];rfl
 ·rw[if_neg h,if_neg h]
theorem aF5(w:World)(n:Nat):Below w.heap.size w (Go.Sort.ahead w n) where
 os:=rfl
 tape:=rfl
 output:=rfl
 size:=an2 _
 block:=fun _ _=>rfl
theorem aRJ{f:Nat}(hen:∀args w,(callFunc f args).run P w=.ok (.enter f args) w)
 (hc:∀(blk off cap:Nat) (zs:List Int) (w:World),Go.Sort.Holds (Value.int .i64) w blk off zs.toArray→blk<w.heap.size→zs.length<4611686018427387904→
   Calls P f #[.slice (some ⟨blk,off,none⟩) zs.length cap] w fun e w'=>e=.returned (.tuple #[])∧∃n os,w'=Go.Sort.grow (Go.Sort.putRow (Value.int .i64) (Go.Sort.ahead w n) blk off (zs.mergeSort fun x y=>decide (x≤y)).toArray) os):ayI P G f aCA:=by
 intro args h out h' hp
 refine⟨hen,fun w S ρ cargs hI H dom all hargs=>?_⟩
 unfold aCA at hp
 split at hp
 ·rename_i b len
  split at hp
  ·rename_i wr rows hg
   split at hp
   ·rename_i hl
    obtain⟨hl1,hl2,hl3⟩:=hl
    obtain⟨zs,hz,hp⟩:=ak3.1 hp
    simp only[Prod.mk.injEq]at hp
    obtain⟨rfl,rfl⟩:=hp
    have hrows:=aDQ hz
    have hzl:zs.length=len:=by rw[←hl1,hrows];simp
    obtain⟨v,vs',e,hv,hn⟩:=hargs.cons_inv
    have:=hn.nil_inv
    subst this
    have ec:cargs=#[v]:=by apply Array.toList_inj.1;rw[e]
    subst ec
    have hbl:b<h.length:=(aoC.1 hg).1
    cases hv with
    |slrD hρ _=>have:=H.dead b hρ;rw[show hf h b=some _ from hg]at this;cases this
    | @slr _ _ _ _ cb co _ sz cap a hρ hle ha=>
      obtain⟨c,e',fz,fl',rows',k1,k2,k3,k4⟩:=H.at_ b cb co 1 sz hρ
      rcases k4 with⟨⟨wr',k4⟩,hS,hfz⟩|⟨k4,_⟩
      ·rw[show hf h b=some _ from hg]at k4
       cases k4
       rcases ha with ha|⟨rfl,hcap⟩
       ·omega
       have hco:co+len≤c.size:=by have:=k3.len;rw[hl1]at this;omega
       have hold:Go.Sort.Holds (Value.int .i64) w cb (co+0*1) zs.toArray:=fun j hj=>by
        have hj':j<zs.length:=by simpa using hj
        have hr:rows[j]?=some [AV.int .i64 zs[j]]:=by rw[hrows,aFG,apH hj'];rfl
        obtain⟨v,h1,h2⟩:=k3.cell j _ 0 _ hr rfl
        cases h2
        have hlt:co+j<c.size:=by omega
        refine⟨?_,aDE k1 (hfz _ (by rw[←k2];omega))⟩
        rw[axK k1]
        simp only[Nat.zero_mul,as0]
        have h1':c[co+j]?=some (Value.int .i64 zs[j]):=by simpa using h1
        rw[h1']
        simp[getElem!_pos,hj']
       rw[←hzl]
       refine(hc cb (co+0*1) cap zs w hold (H.lt hρ) (by omega)).mono fun e w' hw=>?_
       obtain⟨rfl,n,os,rfl⟩:=hw
       rw[aNO]
       have hB1:=aF5 w n
       have H1:=H.below hB1
       have k1':(Go.Sort.ahead w n).heap[cb]?=some (.cells c e' fz):=k1
       have hsl:=aC8 zs
       generalize ar7 zs=ys at *
       have hput:Go.Sort.putRow (Value.int .i64) (Go.Sort.ahead w n) cb (co+0*1) ys.toArray=setB (Go.Sort.ahead w n) cb (.cells (Go.Sort.putCells (Value.int .i64) (co+0*1) ys.toArray c) e' fz):=aCH k1' _
       rw[hput]
       have hcs:(Go.Sort.putCells (Value.int .i64) (co+0*1) ys.toArray c).size=c.size:=by simp[Go.Sort.putCells]
       have hblk:al5 (Go.Sort.ahead w n) S ρ (Go.Sort.putCells (Value.int .i64) (co+0*1) ys.toArray c) co 1 true (ys.map fun n=>[.int .i64 n]):=by
        refine⟨by rw[hcs];simp;omega,fun r hr=>?_,fun _ r hr x hx=>?_,fun i r j x hr hx=>?_,fun r hr x hx=>?_⟩
        ·obtain⟨n,_,rfl⟩:=asY.1 hr;rfl
        ·obtain⟨n,_,rfl⟩:=asY.1 hr;simp at hx;subst hx;rfl
        ·rw[aFG]at hr
         obtain⟨m,hm,rfl⟩:=ak3.1 hr
         have hi:i<ys.length:=(aoC.1 hm).1
         have hx':j=0∧x=.int .i64 m:=by
          cases j with
          |zero=>simp at hx;exact⟨rfl,hx.symm⟩
          |succ j=>simp at hx
         obtain⟨rfl,rfl⟩:=hx'
         refine⟨.int .i64 m,?_,.int _ _⟩
         simp only[Go.Sort.putCells,Array.getElem?_mapIdx,Nat.mul_one,as0,Nat.zero_mul,as0]
         rw[Array.getElem?_eq_getElem (by omega),an3,if_pos ⟨by omega,by simp;omega⟩,show co+i-co=i by omega]
         have:ys[i]?=some m:=hm
         have h2:=aoC.1 hm
         simp[getElem!_pos,h2.1,h2.2]
        ·obtain⟨n,_,rfl⟩:=asY.1 hr;simp at hx;subst hx;rfl
       have H2:=H1.setLive (wr:=true) hρ hS (e:=e') (fz:=fz) (by rw[hcs];exact k2) hfz ⟨_,_,_,k1'⟩ hblk
       have hs2:=Sim.setB (w:=Go.Sort.ahead w n) hρ hS ⟨_,_,_,k1'⟩ (.cells (Go.Sort.putCells (Value.int .i64) (co+0*1) ys.toArray c) e' fz)
       generalize hw2:setB (Go.Sort.ahead w n) cb (.cells (Go.Sort.putCells (Value.int .i64) (co+0*1) ys.toArray c) e' fz)=w2 at *
       have hB3:=aBC (w:=w2) (an2 _) os
       have H3:=H2.below hB3
       refine⟨.tuple #[],S,ρ,⟨⟨_,rfl⟩,rfl⟩,.tup rfl (fun i x v hx _=>by simp at hx),by rw[aHQ hbl];exact H3,((Sim.below H hB1).trans hs2).trans (Sim.below H2 hB3),fun b' hb'=>dom b' (by simpa using hb'),fun b' hb'=>all b' (by simpa using hb'),by simp,fun i x x' hx hx' hsm=>?_⟩
       by_cases e:i=b
       ·subst e
        rw[hg]at hx;cases hx
        rw[ayF hbl]at hx';cases hx'
        simp[CB.same]at hsm
       ·refine⟨rfl,fun cb' co' st' sz' hb'=>?_⟩
        have hne:cb'≠cb:=fun q=>e (H.inj _ _ _ _ _ _ _ _ _ hb' (q▸hρ))
        have hl':cb'<w.heap.size:=H.lt hb'
        have hw2s:w2.heap.size=w.heap.size:=by rw[←hw2];simp[setB,Go.Sort.ahead]
        rw[hB3.block cb' (by rw[hw2s];exact hl'),←hw2,adL hne]
        rfl
      ·rw[show hf h b=some _ from hg]at k4;cases k4
   ·cases hp
  ·cases hp
 ·cases hp
end
def aEH(fI fJ fS:Nat)(md:Nat→Bool):arK:={ at_:=fun f=>if f=fI then some aJQ else if f=fJ then some aFY else none,md:=md,sh:=fun f=>if f=fS then some aCA else none }
theorem aLD{P:Program}{G:Nat→Option Obj}{fI fJ fS:Nat}{md:Nat→Bool}(hI:ayI P G fI aJQ)(hJ:ayI P G fJ aFY)(hS:ayI P G fS aCA):aES P G (aEH fI fJ fS md):=by
 refine⟨fun f p hp=>?_,fun f p hp=>?_⟩
 ·simp only[aEH]at hp
  split at hp
  ·rename_i e;subst e;cases hp;exact hI
  ·split at hp
   ·rename_i e;subst e;cases hp;exact hJ
   ·cases hp
 ·simp only[aEH]at hp
  split at hp
  ·rename_i e;subst e;cases hp;exact hS
  ·cases hp
end
end Go.Ev
