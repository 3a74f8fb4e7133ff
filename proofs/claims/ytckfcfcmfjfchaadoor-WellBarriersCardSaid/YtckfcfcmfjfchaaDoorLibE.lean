/- The evaluator and its soundness. -/
import Derived.Test.YtckfcfcmfjfchaaDoorLibD
open And renaming intro→ab8
open Eq renaming trans→ab9
open Option renaming map_eq_some_iff→acA,bind_eq_some_iff→acB,bind_some→acC,map_some→acF,some→agR,getD_some→akX
open List renaming mem_cons_of_mem→acD,mem_cons_self→acE,mem_cons→acH,getElem?_eq_some_iff→adL,mem_of_getElem?→afD,nodup_cons→af4,mem_append_left→agT,mem_append_right→agU,mem_append→agW,all_eq_true→agY,nil_append→ag5,getElem?_append_left→ahG,getElem?_eq_getElem→ajN,append_nil→ajU,length_cons→ajX,getElem?_set_ne→akU,getElem?_of_mem→akV,foldl_cons→akW,cons_append→akY,replicate→ak0,range→ak2,length_append→ak4,getElem?_map→ak5,length_nil→ak6,set_cons_succ→ak7,range_zero→ak9,getElem?_nil→alA,getElem?_append_right→alC,prefix_refl→alD,mem_of_mem_erase→alE,length_erase_of_mem→alF,getElem?_eq_none_iff→alS,getElem?_set_self→al0,getD_eq_getElem?_getD→al5
open Nat renaming le_refl→acG,zero_le→acI,zero_add→agD,add_assoc→ajS,le_of_not_lt→ak3
open Bool renaming or_true→akZ,and_eq_true→ak1,false_eq_true→ak8
set_option linter.unusedSimpArgs false
set_option linter.unusedVariables false
namespace Go.Ev
noncomputable section
set_option maxRecDepth 100000
def EVa:=PLift.up (ab8 @yZ (ab8 @adC (ab8 @ajP (ab8 @yK (ab8 @vB (ab8 @aa9 (ab8 @ab2 (ab8 @afP (ab8 @List.map_cons.{0,0} (ab8 @List.map_nil.{0,0} (ab8 @acF.{0,0} (ab8 @Option.map_none.{0,0} (ab8 @List.getElem?_cons_zero.{0} (ab8 @List.getElem?_cons_succ.{0} (ab8 @acC.{0,0} (ab8 @aiO (ab8 @alN (ab8 @anJ (ab8 @acS (ab8 @ai7 (ab8 @ai2 (ab8 @aiS (ab8 @ajK (ab8 @aiD (ab8 @aaE (ab8 @anG (ab8 @aeO (ab8 @afM (ab8 @rK (ab8 @adQ (ab8 @aeS (ab8 @ajS (ab8 @List.append_assoc.{0} @ak4.{0})))))))))))))))))))))))))))))))))
def EVb:=PLift.up (ab8 @List.length_replicate.{0} (ab8 @List.length_map.{0,0} (ab8 @Int.natCast_nonneg (ab8 @Int.toNat_natCast (ab8 @ak5.{0,0} (ab8 @ae1 (ab8 @vH (ab8 @af8 (ab8 @ai3 (ab8 @an1 (ab8 @ae7 (ab8 @aaH (ab8 @aaZ (ab8 @ah0 (ab8 @amL (ab8 @am3 (ab8 @aiB (ab8 @adS (ab8 @pC (ab8 @wA (ab8 @Wl (ab8 @aeT (ab8 @vS (ab8 @ad3 (ab8 @amA (ab8 @anM (ab8 @amY (ab8 @anH (ab8 @am8 (ab8 @al4 (ab8 @anX @amP)))))))))))))))))))))))))))))))
def EVc:=PLift.up (ab8 @aeJ (ab8 @xH (ab8 @xR (ab8 @aeZ (ab8 @ad7 (ab8 @Ia (ab8 @xY (ab8 @xC (ab8 @mR (ab8 @af9 (ab8 @aiJ (ab8 @aaP (ab8 @anS (ab8 @abQ (ab8 @abK (ab8 @ab0 (ab8 @uM (ab8 @bN (ab8 @dY (ab8 @abC (ab8 @gJ (ab8 @dU (ab8 @abV (ab8 @tJ (ab8 @vC (ab8 @vX (ab8 @zX (ab8 @acT (ab8 @afS (ab8 @aiQ (ab8 @acQ (ab8 @ag0 @adT))))))))))))))))))))))))))))))))
def EVd:=PLift.up (ab8 @aeN (ab8 @aiX (ab8 @aiT (ab8 @ac4 (ab8 @aeL (ab8 @aaV (ab8 @ahS (ab8 @adF (ab8 @iR (ab8 @ad1 (ab8 @ajD (ab8 @aiW (ab8 @ajL (ab8 @gZ (ab8 @ajA (ab8 @aeP (ab8 @List.all_cons.{0} (ab8 @List.all_nil.{0} (ab8 @ag5.{0} (ab8 @ajU.{0} (ab8 @akY.{0} (ab8 @ajX.{0} (ab8 @ak6.{0} (ab8 @List.take_succ_cons.{0} (ab8 @List.take_zero.{0} (ab8 @List.drop_succ_cons.{0} (ab8 @List.drop_zero.{0} (ab8 @List.take_nil.{0} (ab8 @List.set_cons_zero.{0} (ab8 @ak7.{0} (ab8 @adJ @ah9)))))))))))))))))))))))))))))))
def EVe:=PLift.up (ab8 @af0 (ab8 @ae0 (ab8 @ad0 (ab8 @akK (ab8 @akO (ab8 @acJ (ab8 @afX (ab8 @ahT (ab8 @af6 (ab8 @acR (ab8 @agB (ab8 @ajY (ab8 @ahX (ab8 @afV (ab8 @Bool.and_self (ab8 @Bool.and_true (ab8 @Bool.true_and (ab8 @Bool.false_and (ab8 @Bool.and_false (ab8 @akZ (ab8 @Bool.or_false (ab8 @Bool.not_true (ab8 @Bool.not_false (ab8 @agD (ab8 @Nat.add_zero (ab8 @ak8 (ab8 @true_and (ab8 @and_true (ab8 @and_self (ab8 @acG (ab8 @aiF (ab8 @ac6 (ab8 @zI @ab5)))))))))))))))))))))))))))))))))
def EVf:=PLift.up (ab8 @anN (ab8 @al2 (ab8 @afU (ab8 @ah6 (ab8 @aiK (ab8 @rJ (ab8 @ai9 (ab8 @qL (ab8 @ac9 (ab8 @vF (ab8 @ae9 (ab8 @nE (ab8 @wW (ab8 @zB (ab8 @aiC (ab8 @wE (ab8 @aaI (ab8 @aiL (ab8 @agX (ab8 @ahR (ab8 @aj6 (ab8 @ahQ (ab8 @ai6 (ab8 @yI (ab8 @amJ (ab8 @amC (ab8 @ae5 (ab8 @ah4 (ab8 @ag4 @alV)))))))))))))))))))))))))))))
def EVg:=PLift.up (ab8 @aeG (ab8 @Xe (ab8 @Tq (ab8 @Qf (ab8 @ajC (ab8 @afY (ab8 @ahL (ab8 @aeW (ab8 @ahN (ab8 @ab4 (ab8 @fN (ab8 @acL (ab8 @ai8 (ab8 @adI (ab8 @ah2 (ab8 @akQ (ab8 @akA (ab8 @akN (ab8 @List.any_cons.{0} (ab8 @List.any_nil.{0} (ab8 @ai0 (ab8 @yV (ab8 @iY (ab8 @iG (ab8 @uH (ab8 @nX (ab8 @List.replicate_succ.{0} (ab8 @List.replicate_zero.{0} (ab8 @or_self (ab8 @ne_eq.{1} @not_true_eq_false))))))))))))))))))))))))))))))
def EVh:=PLift.up (ab8 @pD (ab8 @yN (ab8 @abE (ab8 @uA (ab8 @sY (ab8 @amZ (ab8 @wY @adD)))))))
section
variable {P:Program} {O:Do}
theorem ah8{C:R→Prop}{b:Bool}{k:R}(hb:b=true)(h:True→C k):C (Es b k):=agE hb (h trivial)
end
end
noncomputable section
open Go.RowKit
theorem tC(b:Nat):place [] b=(0,[b]):=ab9 rfl rfl
theorem oI(a b:Nat)(m:List Nat):place (a::m) b=if a=b then(0,a::m)else((place m b).1+1,a::(place m b).2):=by
 unfold place
 rw[List.idxOf?_cons]
 by_cases h:a=b
 ·simp[h]
 ·simp only[h,if_false,beq_iff_eq]
  cases List.idxOf? b m<;>simp
section
variable {P:Program} {O:Do}
theorem aeD(d:Nat)(m:List Nat)(b:Bool):Bz (d+1) m (.bool b)=some (.bool b,m):=ab9 rfl rfl
theorem ahD(d:Nat)(m:List Nat)(k:IntKind)(n:Int):Bz (d+1) m (.int k n)=some (.int k n,m):=ab9 rfl rfl
theorem afW(d:Nat)(m:List Nat):Bz (d+1) m .nils=some (.nils,m):=ab9 rfl rfl
theorem ajT(d:Nat)(m:List Nat)(n:Nat)(fl:Bool)(rows:List (List AV)):Bz (d+1) m (.imm n fl rows)=some (.imm n fl rows,m):=ab9 rfl rfl
theorem akJ(d:Nat)(m:List Nat)(n:Nat)(fl nn:Bool)(rows:List (List AV)):Bz (d+1) m (Bv n fl nn rows)=some (Bv n fl nn rows,m):=Hj m (Ia d n fl nn rows)
theorem aj8(d:Nat)(m:List Nat)(b r o:Nat):Bz (d+1) m (.ptr b r o)=some (.ptr (place m b).1 r o,(place m b).2):=ab9 rfl rfl
theorem akB(d:Nat)(m:List Nat)(st b r len:Nat):Bz (d+1) m (.slr st b r len)=some (.slr st (place m b).1 r len,(place m b).2):=ab9 rfl rfl
def rfA(x:Option (List AV × List Nat)):Option (AV × List Nat):=x.map fun(cs,m)=>(.agg cs,m)
def rfT(x:Option (List AV × List Nat)):Option (AV × List Nat):=x.map fun(cs,m)=>(.tup cs,m)
theorem wH(cs:List AV)(m:List Nat):rfA (some (cs,m))=some (.agg cs,m):=ab9 rfl rfl
theorem xO(cs:List AV)(m:List Nat):rfT (some (cs,m))=some (.tup cs,m):=ab9 rfl rfl
theorem ajI(d:Nat)(m:List Nat)(cs:List AV):Bz (d+1) m (.agg cs)=rfA (Bz.refL (Bz d) m cs):=ab9 rfl rfl
theorem ahJ(d:Nat)(m:List Nat)(cs:List AV):Bz (d+1) m (.tup cs)=rfT (Bz.refL (Bz d) m cs):=ab9 rfl rfl
def rfG(fn:Fn)(a:List AV)(x:Option (List AV × List Nat)):Option (AV × List Nat):=x.map fun(b,m)=>(.func fn a b,m)
def rfF(fn:Fn)(d:Nat)(b:List AV)(x:Option (List AV × List Nat)):Option (AV × List Nat):=x.bind fun(a,m)=>rfG fn a (Bz.refL (Bz d) m b)
theorem zJ(fn:Fn)(a b:List AV)(m:List Nat):rfG fn a (some (b,m))=some (.func fn a b,m):=ab9 rfl rfl
theorem zD(fn:Fn)(d:Nat)(a b:List AV)(m:List Nat):rfF fn d b (some (a,m))=rfG fn a (Bz.refL (Bz d) m b):=ab9 rfl rfl
theorem afR(d:Nat)(m:List Nat)(fn:Fn)(a b:List AV):Bz (d+1) m (.func fn a b)=rfF fn d b (Bz.refL (Bz d) m a):=ab9 rfl rfl
def rfD(v:AV)(x:Option (List AV × List Nat)):Option (List AV × List Nat):=x.map fun(vs,m)=>(v::vs,m)
def rfC(f:List Nat→AV→Option (AV × List Nat))(vs:List AV)(x:Option (AV × List Nat)):Option (List AV × List Nat):=x.bind fun(v,m)=>rfD v (Bz.refL f m vs)
theorem xA(v:AV)(vs:List AV)(m:List Nat):rfD v (some (vs,m))=some (v::vs,m):=ab9 rfl rfl
theorem abU(f:List Nat→AV→Option (AV × List Nat))(vs:List AV)(v:AV)(m:List Nat):rfC f vs (some (v,m))=rfD v (Bz.refL f m vs):=ab9 rfl rfl
theorem ae6(f:List Nat→AV→Option (AV × List Nat))(m:List Nat):Bz.refL f m []=some ([],m):=ab9 rfl rfl
theorem abH(f:List Nat→AV→Option (AV × List Nat))(m:List Nat)(v:AV)(vs:List AV):Bz.refL f m (v::vs)=rfC f vs (f m v):=ab9 rfl rfl
def rrD(cs:List AV)(x:Option (List (List AV) × List Nat)):Option (List (List AV) × List Nat):=x.map fun(rs,m)=>(cs::rs,m)
def rrC(rs:List (List AV))(x:Option (List AV × List Nat)):Option (List (List AV) × List Nat):=x.bind fun(cs,m)=>rrD cs (Gs m rs)
theorem wU(cs:List AV)(rs:List (List AV))(m:List Nat):rrD cs (some (rs,m))=some (cs::rs,m):=ab9 rfl rfl
theorem wK(rs:List (List AV))(cs:List AV)(m:List Nat):rrC rs (some (cs,m))=rrD cs (Gs m rs):=ab9 rfl rfl
theorem ai4(m:List Nat):Gs m []=some ([],m):=ab9 rfl rfl
theorem ad5(m:List Nat)(cs:List AV)(rs:List (List AV)):Gs m (cs::rs)=rrC rs (Bz.refL (Bz 8) m cs):=ab9 rfl rfl
def rbV(st:Nat)(w:Bool)(x:Option (List (List AV) × List Nat)):Option (CB × List Nat):=x.map fun(rows,m)=>(.live st false w rows,m)
theorem wR(st:Nat)(w:Bool)(rows:List (List AV))(m:List Nat):rbV st w (some (rows,m))=some (.live st false w rows,m):=ab9 rfl rfl
theorem amR(m:List Nat)(st:Nat)(w:Bool)(rows:List (List AV)):Ur m (.live st true w rows)=some (.live st true w rows,m):=ab9 rfl rfl
theorem anV(m:List Nat)(st:Nat)(w:Bool)(rows:List (List AV)):Ur m (.live st false w rows)=rbV st w (Gs m rows):=ab9 rfl rfl
def pcE(c:CB)(x:Option (List CB × List Nat)):Option (List CB × List Nat):=x.map fun(cs,m)=>(c::cs,m)
def pcR(n:Nat)(h:Aa)(i:Nat)(x:Option (CB × List Nat)):Option (List CB × List Nat):=x.bind fun(c,m)=>pcE c (Hf n (hf h) (i+1) m)
def pcB(n:Nat)(h:Aa)(i:Nat)(m:List Nat)(x:Option CB):Option (List CB × List Nat):=x.bind fun c=>pcR n h i (Ur m c)
def pcK(n:Nat)(h:Aa)(i:Nat)(m:List Nat)(x:Option Nat):Option (List CB × List Nat):=
 match x with
 |none=>some ([],m)
 |some b=>pcB n h i m (h[b]?)
theorem xU(c:CB)(cs:List CB)(m:List Nat):pcE c (some (cs,m))=some (c::cs,m):=ab9 rfl rfl
theorem wJ(n:Nat)(h:Aa)(i:Nat)(c:CB)(m:List Nat):pcR n h i (some (c,m))=pcE c (Hf n (hf h) (i+1) m):=ab9 rfl rfl
theorem xZ(n:Nat)(h:Aa)(i:Nat)(m:List Nat)(c:CB):pcB n h i m (some c)=pcR n h i (Ur m c):=ab9 rfl rfl
theorem vY(n:Nat)(h:Aa)(i:Nat)(m:List Nat):pcK n h i m none=some ([],m):=ab9 rfl rfl
theorem aaQ(n:Nat)(h:Aa)(i:Nat)(m:List Nat)(b:Nat):pcK n h i m (some b)=pcB n h i m (h[b]?):=ab9 rfl rfl
theorem alK(n:Nat)(h:Aa)(i:Nat)(m:List Nat):Hf (n+1) (hf h) i m=pcK n h i m (m[i]?):=by
 unfold Hf pcK
 cases m[i]?<;>rfl
def pkB(vs:List AV)(x:Option (List CB × List Nat)):Option (List AV × List CB × List Nat):=x.map fun(cs,m)=>(vs,cs,m)
def pkA(h:Aa)(x:Option (List AV × List Nat)):Option (List AV × List CB × List Nat):=x.bind fun(vs,m)=>pkB vs (Hf 5000 (hf h) 0 m)
theorem wL(vs:List AV)(cs:List CB)(m:List Nat):pkB vs (some (cs,m))=some (vs,cs,m):=ab9 rfl rfl
theorem abR(h:Aa)(vs:List AV)(m:List Nat):pkA h (some (vs,m))=pkB vs (Hf 5000 (hf h) 0 m):=ab9 rfl rfl
theorem am1(h:Aa)(m:List Nat)(vs:List AV):Hk (hf h) m vs=pkA h (Bz.refL (Bz 8) m vs):=ab9 rfl rfl
def upK(h:Aa)(lent:List Nat)(v:Option AV)(ps ns:Option (List Ab))(o:AV→Db):OE:=v.bind fun v=>ps.bind fun ps=>ns.bind fun ns=>
 some (o v,(if lent.isEmpty|| !(hasImm 8 v||(ps++ns).any Ab.hasImm)then []else Bo (hf h) lent)++ps++ns)
def crU(h:Aa)(base:Nat)(lent m:List Nat)(cs:List CB)(x:Option (Db × Aa)):OE:=
 match x with
 |some (.ret v,h')=>upK h lent (Ba 8 (Eb m base) v) (Fa (Eb m base) m cs (h'.take m.length)) (Fv (Eb m base) base (h'.drop m.length)) .ret
 |some (.pan v,h')=>upK h lent (Ba 8 (Eb m base) v) (Fa (Eb m base) m cs (h'.take m.length)) (Fv (Eb m base) base (h'.drop m.length)) .pan
 |none=>none
def crP(O:Do)(h:Aa)(base:Nat)(f:Nw)(lent:List Nat)(x:Option (List AV × List CB × List Nat)):OE:=x.bind fun(vs,cs,m)=>
 if lent.any (m.contains ·)then none else crU h base lent m cs (O.call f vs (cs.map CB.clean))
def crQ(O:Do)(h:Aa)(base:Nat)(f:Nw)(lent:List Nat)(x:Option (List AV)):OE:=x.bind fun vs=>crP O h base f lent (Hk (hf h) [] vs)
theorem ao9(h:Aa)(base:Nat)(f:Nw)(args:List AV):cr (cU O (hf h) base f args)=crQ O h base f (args.flatMap (Ap 12 (hf h))) (Am (aM h) args):=by
 unfold cU Cf crQ aM
 cases Am (Eo 12 (hf h)) args with
 |none=>rfl
 |some vs=>
  simp only[acC]
  unfold crP
  cases Hk (hf h) [] vs with
  |none=>rfl
  |some x=>
   obtain⟨vs',cs,m⟩:=x
   simp only[acC]
   split
   ·rfl
   ·cases O.call f vs' (cs.map CB.clean)with
    |none=>rfl
    |some y=>
     obtain⟨out,h'⟩:=y
     simp only[acC,Ih]
     unfold crU upK
     cases out with
     |ret v=>
      simp only[Db.v]
      cases Ba 8 (Eb m base) v with
      |none=>rfl
      |some v=>
       cases Fa (Eb m base) m cs (h'.take m.length)with
       |none=>rfl
       |some ps=>cases Fv (Eb m base) base (h'.drop m.length)<;>rfl
     |pan v=>
      simp only[Db.v]
      cases Ba 8 (Eb m base) v with
      |none=>rfl
      |some v=>
       cases Fa (Eb m base) m cs (h'.take m.length)with
       |none=>rfl
       |some ps=>cases Fv (Eb m base) base (h'.drop m.length)<;>rfl
theorem abP(h:Aa)(base:Nat)(f:Nw)(lent:List Nat)(vs:List AV):crQ O h base f lent (some vs)=crP O h base f lent (Hk (hf h) [] vs):=ab9 rfl rfl
theorem wZ(h:Aa)(base:Nat)(f:Nw)(lent:List Nat)(vs:List AV)(cs:List CB)(m:List Nat):crP O h base f lent (some (vs,cs,m))=if lent.any (m.contains ·)=true then none else crU h base lent m cs (O.call f vs (cs.map CB.clean)):=ab9 rfl rfl
theorem adP(h:Aa)(base:Nat)(lent m:List Nat)(cs:List CB)(v:AV)(h':Aa):crU h base lent m cs (some (.ret v,h'))=upK h lent (Ba 8 (Eb m base) v) (Fa (Eb m base) m cs (h'.take m.length)) (Fv (Eb m base) base (h'.drop m.length)) .ret:=ab9 rfl rfl
theorem yT(h:Aa)(lent:List Nat)(v:AV)(ps ns:List Ab)(o:AV→Db):upK h lent (some v) (some ps) (some ns) o=some (o v,(if(lent.isEmpty|| !(hasImm 8 v||(ps++ns).any Ab.hasImm))=true then []else Bo (hf h) lent)++ps++ns):=ab9 rfl rfl
theorem adX(st:Nat)(fl w:Bool)(rows:List (List AV)):CB.clean (.live st fl w rows)=.live st fl false rows:=ab9 rfl rfl
theorem aeE(d:Nat)(g:HF)(b:Bool):Ap (d+1) g (.bool b)=[]:=ab9 rfl rfl
theorem aiR(d:Nat)(g:HF)(k:IntKind)(n:Int):Ap (d+1) g (.int k n)=[]:=ab9 rfl rfl
theorem adR(d:Nat)(g:HF):Ap (d+1) g .nils=[]:=ab9 rfl rfl
theorem aj1(d:Nat)(g:HF)(b r o:Nat):Ap (d+1) g (.ptr b r o)=[]:=ab9 rfl rfl
theorem aeF(d:Nat)(g:HF)(fn:Fn)(a b:List AV):Ap (d+1) g (.func fn a b)=[]:=ab9 rfl rfl
theorem ai1(d:Nat)(g:HF)(n:Nat)(fl nn:Bool)(rows:List (List AV)):Ap (d+1) g (Bv n fl nn rows)=[]:=Nl g (d:=1) (by omega) (Ia 0 n fl nn rows)
theorem aj3(d:Nat)(g:HF)(cs:List AV):Ap (d+1) g (.agg cs)=cs.flatMap (Ap d g):=ab9 rfl rfl
def lvS(b:Nat)(c:Option CB)(q:AV→List Nat)(r len:Nat):List Nat:=
 b::match c with
 |some (.live _ fl _ rows)=>if r+len≤rows.length then(if fl then []else((rows.drop r).take len).flatMap fun cs=>cs.flatMap q)else []
 |some (.frz _ fl rows)=>if r+len≤rows.length then(if fl then []else((rows.drop r).take len).flatMap fun cs=>cs.flatMap q)else []
 |_=>[]
theorem ah7(d:Nat)(h:Aa)(st b r len:Nat):Ap (d+1) (hf h) (.slr st b r len)=lvS b (h[b]?) (Ap d (hf h)) r len:=by
 have e:Ap (d+1) (hf h) (.slr st b r len)=b::(match Du (hf h) b r len with|some (_,fl,rows)=>if fl then []else rows.flatMap fun cs=>cs.flatMap (Ap d (hf h))|none=>[]):=rfl
 rw[e]
 generalize Ap d (hf h)=q
 unfold Du lvS
 have eh:hf h b=h[b]?:=rfl
 rw[eh]
 cases h[b]? with
 |none=>rfl
 |some c=>
  cases c with
  |live st fl w rows=>simp only;by_cases hq:r+len≤rows.length<;>simp[hq]
  |frz st fl rows=>simp only;by_cases hq:r+len≤rows.length<;>simp[hq]
  |_=>rfl
theorem al9(b:Nat)(st:Nat)(w:Bool)(rows:List (List AV))(q:AV→List Nat)(r len:Nat):lvS b (some (.live st true w rows)) q r len=[b]:=by simp[lvS]
theorem al1(m:List Nat)(base i:Nat):Eb m base i=if i<m.length then m.getD i base else base+(i-m.length):=ab9 rfl rfl
theorem adB(d:Nat)(f:Nat→Nat)(b:Bool):Ba (d+1) f (.bool b)=some (.bool b):=ab9 rfl rfl
theorem aj0(d:Nat)(f:Nat→Nat)(k:IntKind)(n:Int):Ba (d+1) f (.int k n)=some (.int k n):=ab9 rfl rfl
theorem ahP(d:Nat)(f:Nat→Nat)(n:Nat)(fl:Bool)(rows:List (List AV)):Ba (d+1) f (.imm n fl rows)=some (.imm n fl rows):=ab9 rfl rfl
theorem akP(d:Nat)(f:Nat→Nat)(n:Nat)(fl nn:Bool)(rows:List (List AV)):Ba (d+1) f (Bv n fl nn rows)=some (Bv n fl nn rows):=Iu f (Ia d n fl nn rows)
theorem akT(d:Nat)(f:Nat→Nat)(b r o:Nat):Ba (d+1) f (.ptr b r o)=some (.ptr (f b) r o):=ab9 rfl rfl
theorem akG(d:Nat)(f:Nat→Nat)(st b r len:Nat):Ba (d+1) f (.slr st b r len)=some (.slr st (f b) r len):=ab9 rfl rfl
def rnA(x:Option (List AV)):Option AV:=x.map .agg
def rnT(x:Option (List AV)):Option AV:=x.map .tup
theorem zH(cs:List AV):rnA (some cs)=some (.agg cs):=ab9 rfl rfl
theorem zG(cs:List AV):rnT (some cs)=some (.tup cs):=ab9 rfl rfl
theorem ai5(d:Nat)(f:Nat→Nat)(cs:List AV):Ba (d+1) f (.agg cs)=rnA (Am (Ba d f) cs):=ab9 rfl rfl
theorem aiM(d:Nat)(f:Nat→Nat)(cs:List AV):Ba (d+1) f (.tup cs)=rnT (Am (Ba d f) cs):=ab9 rfl rfl
def rnG(fn:Fn)(a:List AV)(x:Option (List AV)):Option AV:=x.map fun b=>.func fn a b
def rnF(fn:Fn)(b:Option (List AV))(x:Option (List AV)):Option AV:=x.bind fun a=>rnG fn a b
theorem zE(fn:Fn)(a b:List AV):rnG fn a (some b)=some (.func fn a b):=ab9 rfl rfl
theorem yD(fn:Fn)(b:Option (List AV))(a:List AV):rnF fn b (some a)=rnG fn a b:=ab9 rfl rfl
theorem acX(d:Nat)(f:Nat→Nat)(fn:Fn)(a b:List AV):Ba (d+1) f (.func fn a b)=rnF fn (Am (Ba d f) b) (Am (Ba d f) a):=ab9 rfl rfl
def rbW(st:Nat)(w:Bool)(x:Option (List (List AV))):Option CB:=x.map (.live st false w)
theorem abA(st:Nat)(w:Bool)(rows:List (List AV)):rbW st w (some rows)=some (.live st false w rows):=ab9 rfl rfl
theorem amX(f:Nat→Nat)(st:Nat)(w:Bool)(rows:List (List AV)):Ep f (.live st true w rows)=some (.live st true w rows):=ab9 rfl rfl
theorem al3(f:Nat→Nat)(st:Nat)(w:Bool)(rows:List (List AV)):Ep f (.live st false w rows)=rbW st w (Am (Am (Ba 8 f)) rows):=ab9 rfl rfl
def peE(b:Nat)(c:Option CB)(x:Option (List Ab)):Option (List Ab):=c.bind fun c=>x.map fun es=>.put b c::es
def peK(f:Nat→Nat)(b:Nat)(c:CB)(same bad:Bool)(x:Option (List Ab)):Option (List Ab):=bif same then x else bif bad then none else peE b (Ep f c) x
theorem amQ(f:Nat→Nat)(b:Nat)(c:CB)(bad:Bool)(x:Option (List Ab)):peK f b c true bad x=x:=ab9 rfl rfl
theorem aiA(f:Nat→Nat):Fa f [] [] []=some []:=ab9 rfl rfl
theorem afL(f:Nat→Nat)(b:Nat)(m:List Nat)(c₀ c:CB)(cs₀ cs:List CB):Fa f (b::m) (c₀::cs₀) (c::cs)=peK f b c (c₀.same c) (c.unw|| !c₀.isLive) (Fa f m cs₀ cs):=by
 conv=>lhs;unfold Fa
 unfold peK
 cases c₀.same c with
 |true=>rfl
 |false=>
  cases(c.unw|| !c₀.isLive)with
  |true=>rfl
  |false=>
   simp only[cond_false,peE]
theorem afE(a:Nat)(b c:Bool)(r:List (List AV))(st:Nat)(fl w:Bool)(rows:List (List AV)):CB.same (.live a b c r) (.live st fl w rows)= !w:=ab9 rfl rfl
theorem aeY(st:Nat)(fl w:Bool)(rows:List (List AV)):CB.unw (.live st fl w rows)= !w:=ab9 rfl rfl
theorem ac5(st:Nat)(fl w:Bool)(rows:List (List AV)):CB.isLive (.live st fl w rows)=true:=ab9 rfl rfl
def neK(base:Nat)(c:Option CB)(x:Option (List Ab)):Option (List Ab):=c.bind fun c=>x.map fun es=>.new base c::es
theorem aaJ(base:Nat)(c:CB)(es:List Ab):neK base (some c) (some es)=some (.new base c::es):=ab9 rfl rfl
theorem ag3(f:Nat→Nat)(base:Nat):Fv f base []=some []:=ab9 rfl rfl
theorem adE(f:Nat→Nat)(base:Nat)(c:CB)(cs:List CB):Fv f base (c::cs)=neK base (Ep f c) (Fv f (base+1) cs):=ab9 rfl rfl
theorem afQ(d:Nat)(fn:Fn)(a b:List AV):hasImm (d+1) (.func fn a b)=(a.any (hasImm d)||b.any (hasImm d)):=ab9 rfl rfl
theorem ahI(b:Nat)(c:CB):Ab.hasImm (.new b c)=c.hasImm:=ab9 rfl rfl
theorem anQ(st:Nat)(w:Bool)(rows:List (List AV)):CB.hasImm (.live st true w rows)=false:=ab9 rfl rfl
theorem amI(st:Nat)(w:Bool)(rows:List (List AV)):CB.hasImm (.live st false w rows)=rows.any fun cs=>cs.any (Ev.hasImm 8):=ab9 rfl rfl
theorem ahH(h:Aa)(b r o:Nat):aM h (.ptr b r o)=some (.ptr b r o):=ab9 rfl rfl
theorem aeA(h:Aa)(cs:List AV):aM h (.agg cs)=rdA (Am (Eo 11 (hf h)) cs):=ab9 rfl rfl
theorem tD(l:List AV):rdA (some l)=some (.agg l):=ab9 rfl rfl
theorem acP(d:Nat)(h:Aa)(b:Bool):Eo (d+1) (hf h) (.bool b)=some (.bool b):=ab9 rfl rfl
theorem aiG(d:Nat)(h:Aa)(k:IntKind)(n:Int):Eo (d+1) (hf h) (.int k n)=some (.int k n):=ab9 rfl rfl
theorem ajM(d:Nat)(h:Aa)(n:Nat)(fl nn:Bool)(rows:List (List AV)):Eo (d+1) (hf h) (Bv n fl nn rows)=some (Bv n fl nn rows):=Ni _ (d:=1) (by omega) (Ia 0 n fl nn rows)
def mfK(f:Nat)(a b:Option (List AV)):OE:=a.bind fun a=>b.bind fun b=>some (.ret (.func (.func f) a b),[])
theorem aa5(f:Nat)(a b:List AV):mfK f (some a) (some b)=some (.ret (.func (.func f) a b),[]):=ab9 rfl rfl
theorem alG(t:List AV)(h:Aa)(f:Nat)(a b:Array Operand):Dt O P t h (.makeFunc (.func f) a b)=mfK f (Bd t a.toList) (Bd t b.toList):=by
 rw[Cj _ _ _ rfl]
 simp only[exec,mfK]
 cases Bd t a.toList with
 |none=>rfl
 |some a=>cases Bd t b.toList<;>rfl
def msK(n:Nat)(z:AV)(base:Nat)(l c:Option AV):OE:=
 match l,c with
 |some (.int .i64 l),some (.int .i64 c)=>if 0≤l∧l≤c∧c≤2 ^ 40∧(Af z).all AV.isCell=true then some (.ret (.slr n base 0 l.toNat),[.new base (.live n ((Af z).all AV.flat) false (ak0 l.toNat (Af z)))])else none
 |_,_=>none
theorem zK(n:Nat)(z:AV)(base:Nat)(l c:Int):msK n z base (some (.int .i64 l)) (some (.int .i64 c))=if 0≤l∧l≤c∧c≤2 ^ 40∧(Af z).all AV.isCell=true then some (.ret (.slr n base 0 l.toNat),[.new base (.live n ((Af z).all AV.flat) false (ak0 l.toNat (Af z)))])else none:=ab9 rfl rfl
def msO(P:Program)(ty:TypeId)(base:Nat)(l c:Option AV):OE:=rD (l.bind fun l=>c.bind fun c=>Fj P base ty l c)
theorem anF(t:List AV)(h:Aa)(ty:TypeId)(l c:Operand):Dt O P t h (.makeSlice ty l c)=msO P ty h.length (Ad t l) (Ad t c):=Cj _ _ _ rfl
theorem agV{ty e:TypeId}{n b:Nat}{z:AV}(he:Uy P ty=some e)(hn:Nu P e=some n)(hb:byT P e=some b)(hz:Hq P e=some z)(ok:(decide (b≤2 ^ 7)&&decide (n≠0)&&decide ((Af z).length=n))=true)(base:Nat)(l c:Option AV):
 msO P ty base l c=msK n z base l c:=by
 simp only[ak1,decide_eq_true_eq]at ok
 unfold msO msK
 cases l with
 |none=>rfl
 |some l=>
  cases c with
  |none=>cases l<;>first|rfl|(rename_i k _;cases k<;>rfl)
  |some c=>
   simp only[acC,Fj,he,hn,hb,hz]
   cases l with
   |int k l=>
    cases c with
    |int k' c=>
     cases k<;>cases k'<;>first|rfl|skip
     simp only[ok.1.1,ok.1.2,ok.2,ne_eq,not_false_eq_true,true_and]
     split<;>rfl
    |_=>cases k<;>rfl
   |_=>rfl
def srS(q:Nat)(c:Option CB)(r len:Nat):Option (Bool × List (List AV)):=
 match c with
 |some (.live st fl _ rows)=>if r+len≤rows.length∧st=q then some (fl,(rows.drop r).take len)else none
 |some (.frz st fl rows)=>if r+len≤rows.length∧st=q then some (fl,(rows.drop r).take len)else none
 |_=>none
def srK(q:Nat)(h:Aa)(x:Option AV):Option (Bool × List (List AV)):=
 match x with
 |some .nils=>some (true,[])
 |some (.imm st fl rows)=>if st=q then some (fl,rows)else none
 |some (.slr _ b r len)=>srS q (h[b]?) r len
 |_=>none
theorem abN(q st:Nat)(fl w:Bool)(rows:List (List AV))(r len:Nat):srS q (some (.live st fl w rows)) r len=if r+len≤rows.length∧st=q then some (fl,(rows.drop r).take len)else none:=ab9 rfl rfl
theorem zS(q:Nat)(h:Aa):srK q h (some .nils)=some (true,[]):=ab9 rfl rfl
theorem rS(q:Nat)(h:Aa)(st:Nat)(fl:Bool)(rows:List (List AV)):srK q h (some (.imm st fl rows))=if st=q then some (fl,rows)else none:=ab9 rfl rfl
theorem qI(q:Nat)(h:Aa)(st b r len:Nat):srK q h (some (.slr st b r len))=srS q (h[b]?) r len:=ab9 rfl rfl
def apT(n base b r len:Nat)(nfl:Bool)(new:List (List AV))(st:Nat)(fl:Bool)(rows:List (List AV)):OE:=
 if st=n∧r+len≤rows.length∧len+new.length≤2 ^ 39 then some (.ret (.slr st base 0 (len+new.length)),[.put b .dead,.new base (.live st (fl&&nfl) false ((rows.drop r).take len++new))])else none
def apS(n base b r len:Nat)(nfl:Bool)(new:List (List AV))(c:Option CB):OE:=
 match c with
 |some (.live st fl _ rows)=>if st=n∧r+len=rows.length∧len+new.length≤2 ^ 39 then some (.ret (.slr st base 0 (len+new.length)),[.put b .dead,.new base (.live st (fl&&nfl) false (rows.drop r++new))])else apT n base b r len nfl new st fl rows
 |_=>none
theorem cH(n base b r len:Nat)(nfl:Bool)(new:List (List AV))(st:Nat)(fl w:Bool)(rows:List (List AV)):apS n base b r len nfl new (some (.live st fl w rows))=if st=n∧r+len=rows.length∧len+new.length≤2 ^ 39 then some (.ret (.slr st base 0 (len+new.length)),[.put b .dead,.new base (.live st (fl&&nfl) false (rows.drop r++new))])else apT n base b r len nfl new st fl rows:=ab9 rfl rfl
def sQ(n:Nat)(h:Aa)(s:Option AV)(x:Option (Bool × List (List AV))):OE:=
 match s,x with
 |some .nils,some (_,[])=>some (.ret .nils,[])
 |some (.slr a b r l),some (_,[])=>some (.ret (.slr a b r l),[])
 |some (.imm a b r),some (_,[])=>some (.ret (.imm a b r),[])
 |some .nils,some (nfl,r::new)=>if(r::new).length≤2 ^ 39 then some (.ret (.slr n h.length 0 (r::new).length),[.new h.length (.live n nfl false (r::new))])else none
 |some (.slr _ b r len),some (nfl,q::new)=>apS n h.length b r len nfl (q::new) (h[b]?)
 |_,_=>none
theorem ajR(n:Nat)(h:Aa)(nfl:Bool):sQ n h (some .nils) (some (nfl,[]))=some (.ret .nils,[]):=ab9 rfl rfl
theorem aiN(n:Nat)(h:Aa)(a b r l:Nat)(nfl:Bool):sQ n h (some (.slr a b r l)) (some (nfl,[]))=some (.ret (.slr a b r l),[]):=ab9 rfl rfl
theorem gK(n:Nat)(h:Aa)(nfl:Bool)(r:List AV)(new:List (List AV)):sQ n h (some .nils) (some (nfl,r::new))=if(r::new).length≤2 ^ 39 then some (.ret (.slr n h.length 0 (r::new).length),[.new h.length (.live n nfl false (r::new))])else none:=ab9 rfl rfl
theorem nM(n:Nat)(h:Aa)(a b r len:Nat)(nfl:Bool)(q:List AV)(new:List (List AV)):sQ n h (some (.slr a b r len)) (some (nfl,q::new))=apS n h.length b r len nfl (q::new) (h[b]?):=ab9 rfl rfl
def vQ(P:Program)(ty:TypeId)(h:Aa)(s x:Option AV):OE:=rD (s.bind fun s=>x.bind fun x=>Ey P (hf h) h.length ty s x)
theorem yU(t:List AV)(h:Aa)(s x:Operand)(ty ty1 e1:TypeId)(hu:P.underlying ty1=some (.slice e1)):Dt O P t h (.call ⟨.builtin .append,#[s,x],#[ty,ty1]⟩)=vQ P ty h (Ad t s) (Ad t x):=by
 rw[Cj _ _ _ rfl]
 simp only[exec,Bd,vQ]
 cases Ad t s with
 |none=>rfl
 |some a=>
  cases Ad t x with
  |none=>rfl
  |some b=>
   simp only[acC,acF]
   have e0:(#[ty,ty1]:Array TypeId)[0]?=some ty:=rfl
   have e1:(#[ty,ty1]:Array TypeId)[1]?=some ty1:=rfl
   simp only[e0,e1,acC,hu]
theorem mN{ty e:TypeId}{n b:Nat}{z:AV}(he:Uy P ty=some e)(hn:Nu P e=some n)(hb:byT P e=some b)(hz:Hq P e=some z)(ok:(decide (b≤2 ^ 7)&&decide (n≠0)&&decide ((Af z).length=n))=true)(h:Aa)(s x:AV)(hx:∀q,x≠.str q):
 vQ P ty h (some s) (some x)=sQ n h (some s) (srK n h (some x)):=by
 simp only[ak1,decide_eq_true_eq]at ok
 have hbad:¬(n=0∨2 ^ 7<b∨(Af z).length≠n):=by
  rintro(h1|h1|h1)
  ·exact ok.1.2 h1
  ·omega
  ·exact h1 ok.2
 unfold vQ
 simp only[acC,Ey,he,hn,hb,hz]
 have key:∀(nfl:Bool) (new:List (List AV)) (fs:List Cc),rD (if n=0∨2 ^ 7<b∨(Af z).length≠n then none else
  match s,new with
  |s,[]=>match s with
   | .nils| .slr _ _ _ _| .imm _ _ _=>some ⟨s,[],fs⟩
   |_=>none
  | .nils,new=>if new.length≤2 ^ 39 then some ⟨.slr n h.length 0 new.length,[.new h.length (.live n nfl false new)],fs⟩else none
  | .slr _ b r len,new=>
    match hf h b with
    |some (.live st fl _ rows)=>
     if st=n∧r+len≤rows.length∧len+new.length≤2 ^ 39 then
      some ⟨.slr st h.length 0 (len+new.length),[.put b .dead,.new h.length (.live st (fl&&nfl) false ((rows.drop r).take len++new))],.blk b::fs⟩
     else none
    |_=>none
  |_,_=>none)=sQ n h (some s) (some (nfl,new)):=fun nfl new fs=>by
  rw[if_neg hbad]
  cases new with
  |nil=>cases s<;>rfl
  |cons q new=>
   cases s with
   |nils=>simp only[gK];split<;>rfl
   |slr a b r len=>
    simp only[nM]
    unfold apS
    have eh:hf h b=h[b]?:=rfl
    rw[eh]
    cases h[b]? with
    |none=>rfl
    |some c=>
     cases c with
     |live st fl w rows=>
      simp only
      by_cases h1:st=n∧r+len=rows.length∧len+(q::new).length≤2 ^ 39
      ·rw[if_pos h1,if_pos ⟨h1.1,by omega,h1.2.2⟩,List.take_of_length_le (by simp;omega)]
       rfl
      ·rw[if_neg h1]
       unfold apT
       split<;>rfl
     |_=>rfl
   |_=>rfl
 cases x with
 |nils=>exact key true [] []
 |imm st fl rows=>
  simp only[Da,rS,hn,agR.injEq]
  by_cases hq:n=st
  ·subst hq;simp only[if_true,acC];exact key fl rows []
  ·rw[if_neg hq,if_neg (fun e=>hq e.symm)]
   cases s<;>rfl
 |slr st b' r len=>
  simp only[Da,qI,hn,Du,srS]
  have eh:hf h b'=h[b']?:=rfl
  rw[eh]
  cases h[b']? with
  |none=>cases s<;>rfl
  |some c=>
   cases c with
   |live st fl w rows=>
    simp only
    by_cases hq:r+len≤rows.length
    ·simp only[hq,if_true,acC,true_and,agR.injEq]
     by_cases hq2:n=st
     ·subst hq2;simp only[if_true,acC];exact key fl _ _
     ·rw[if_neg hq2,if_neg (fun e=>hq2 e.symm)];cases s<;>rfl
    ·simp only[hq,if_false,false_and];cases s<;>rfl
   |frz st fl rows=>
    simp only
    by_cases hq:r+len≤rows.length
    ·simp only[hq,if_true,acC,true_and,agR.injEq]
     by_cases hq2:n=st
     ·subst hq2;simp only[if_true,acC];exact key fl _ _
     ·rw[if_neg hq2,if_neg (fun e=>hq2 e.symm)];cases s<;>rfl
    ·simp only[hq,if_false,false_and];cases s<;>rfl
   |_=>cases s<;>rfl
 |str q=>exact(hx q rfl).elim
 |_=>cases s<;>rfl
def rtK(Q:Db→Aa→Prop)(x:Option (List AV × List CB × List Nat)):Prop:=
 match x with
 |some ([v],cs,_)=>Q (.ret v) cs
 |_=>False
theorem xX(Q:Db→Aa→Prop)(v:AV)(cs:List CB)(m:List Nat):rtK Q (some ([v],cs,m))=Q (.ret v) cs:=ab9 rfl rfl
theorem agH{q:Nat}{vs:List AV}{h:Aa}{Q:Db→Aa→Prop}:Rt q (some vs) h Q=rtK Q (Hk (hf h) (ak2 q) [Ky vs]):=by
 unfold Rt tG
 simp only[acC,Kz]
 cases hp:Hk (hf h) (ak2 q) [Ky vs]with
 |none=>simp[rtK]
 |some x=>
  obtain⟨ws,cs,m⟩:=x
  simp only[acC]
  match ws with
  | [v]=>
    simp only[rtK,acF]
    exact propext ⟨fun⟨o,h',e,k⟩=>by cases e;exact k,fun k=>⟨_,_,rfl,k⟩⟩
  | []=>simp[rtK]
  |_::_::_=>simp[rtK]
theorem aiV(vs:List AV)(h:Aa)(Q:Db→Aa→Prop):Rt1 0 (some vs) h Q=rtK Q (Hk (hf h) [] [Ky vs]):=agH
theorem agA(q:Nat)(vs:List AV)(h:Aa)(Q:Db→Aa→Prop):Rt (q+1) (some vs) h Q=rtK Q (Hk (hf h) (ak2 (q+1)) [Ky vs]):=agH
end
end
noncomputable section
set_option maxRecDepth 100000
def EVi:=PLift.up (ab8 @tC (ab8 @oI (ab8 @aeD (ab8 @ahD (ab8 @afW (ab8 @ajT (ab8 @akJ (ab8 @aj8 (ab8 @akB (ab8 @wH (ab8 @xO (ab8 @ajI (ab8 @ahJ (ab8 @zJ (ab8 @zD (ab8 @afR (ab8 @xA (ab8 @abU (ab8 @ae6 (ab8 @abH (ab8 @wU (ab8 @wK (ab8 @ai4 (ab8 @ad5 (ab8 @wR (ab8 @amR (ab8 @anV (ab8 @xU (ab8 @wJ (ab8 @xZ @vY))))))))))))))))))))))))))))))
def EVj:=PLift.up (ab8 @aaQ (ab8 @alK (ab8 @wL (ab8 @abR (ab8 @am1 (ab8 @ao9 (ab8 @abP (ab8 @wZ (ab8 @adP (ab8 @yT (ab8 @adX (ab8 @aeE (ab8 @aiR (ab8 @adR (ab8 @aj1 (ab8 @aeF (ab8 @ai1 (ab8 @aj3 (ab8 @ah7 (ab8 @al9 (ab8 @al1 (ab8 @adB (ab8 @aj0 (ab8 @ahP (ab8 @akP (ab8 @akT (ab8 @akG @zH)))))))))))))))))))))))))))
def EVk:=PLift.up (ab8 @zG (ab8 @ai5 (ab8 @aiM (ab8 @zE (ab8 @yD (ab8 @acX (ab8 @abA (ab8 @amX (ab8 @al3 (ab8 @amQ (ab8 @aiA (ab8 @afL (ab8 @afE (ab8 @aeY (ab8 @ac5 (ab8 @aaJ (ab8 @ag3 (ab8 @adE (ab8 @afQ (ab8 @ahI (ab8 @anQ (ab8 @amI @ahH))))))))))))))))))))))
def EVl:=PLift.up (ab8 @aeA (ab8 @tD (ab8 @acP (ab8 @aiG (ab8 @ajM (ab8 @aa5 (ab8 @alG (ab8 @zK (ab8 @anF (ab8 @abN (ab8 @zS (ab8 @rS (ab8 @qI (ab8 @cH (ab8 @ajR (ab8 @aiN (ab8 @gK (ab8 @nM (ab8 @xX (ab8 @aiV (ab8 @agA (ab8 @List.flatMap_cons.{0,0} (ab8 @List.flatMap_nil.{0,0} (ab8 @List.isEmpty_nil.{0} (ab8 @List.isEmpty_cons.{0} (ab8 @List.getD_cons_zero.{0} (ab8 @List.range_succ (ab8 @ak9 (ab8 @List.contains_nil.{0} @List.contains_cons.{0})))))))))))))))))))))))))))))
def EVm:=PLift.up (ab8 @alA.{0} @alA.{0})
end
noncomputable section
theorem gV{n:Nat}{fl nn:Bool}{rows:List (List AV)}(h:rows≠[]):Bv n fl nn rows=.imm n fl rows:=by
 cases rows with
 |nil=>exact(h rfl).elim
 |cons r rs=>rfl
theorem Bt(n:Nat)(fl:Bool)(rows:List (List AV)):Bv n fl true rows=.imm n fl rows:=by cases rows<;>rfl
theorem Tn(n:Nat)(fl:Bool):Bv n fl false []=.nils:=rfl
section
variable {P:Program} {t e:TypeId} (hu:P.underlying t=some (.slice e))
include hu
end
def aiP(v:Option AV)(ns:Option (List Ab)):Option Ht:=v.bind fun v=>ns.map fun ns=>⟨.ret v,ns,[]⟩
theorem uN(v:AV)(ns:List Ab):aiP (some v) (some ns)=some ⟨.ret v,ns,[]⟩:=ab9 rfl rfl
theorem aaG(base:Nat)(v:AV)(c:CB)(cs:List CB):ac0 base (some (.ret v,c::cs))=aiP (Ba 8 (fun i=>base+i) v) (Fv (fun i=>base+i) base (c::cs)):=by
 simp only[ac0,aiP,acC,Db.v,Db.map]
def aaS(h:Aa)(lent:List Nat)(v:Option AV)(ns:Option (List Ab)):OE:=v.bind fun v=>ns.map fun ns=>(.ret v,(if lent.isEmpty|| !(hasImm 8 v||ns.any Ab.hasImm)then []else Bo (hf h) lent)++ns)
theorem sF(h:Aa)(lent:List Nat)(v:AV)(ns:List Ab):aaS h lent (some v) (some ns)=some (.ret v,(if(lent.isEmpty|| !(hasImm 8 v||ns.any Ab.hasImm))=true then []else Bo (hf h) lent)++ns):=ab9 rfl rfl
theorem aa7(h:Aa)(base:Nat)(lent:List Nat)(v:AV)(c:CB)(cs:List CB):vP h base lent (some (.ret v,c::cs))=aaS h lent (Ba 8 (fun i=>base+i) v) (Fv (fun i=>base+i) base (c::cs)):=by
 simp only[vP,aaS,acC,Db.v,Db.map]
theorem ahK(h:Aa)(base:Nat)(lent:List Nat)(v:AV):vP h base lent (some (.ret v,id []))=aaS h lent (Ba 8 (fun i=>base+i) v) (some []):=by
 simp only[vP,aaS,acC,Db.v,Db.map,id,Fv,acF]
def fzK(b:Nat)(c:Option CB)(x:List Ab):List Ab:=
 match c with
 |some (.live st fl _ rows)=>.put b (.frz st fl rows)::x
 |_=>x
theorem vT(b st:Nat)(fl w:Bool)(rows:List (List AV))(x:List Ab):fzK b (some (.live st fl w rows)) x=.put b (.frz st fl rows)::x:=ab9 rfl rfl
theorem ag7(g:HF):Bo g []=[]:=ab9 rfl rfl
theorem afF(h:Aa)(b:Nat)(bs:List Nat):Bo (hf h) (b::bs)=fzK b (h[b]?) (Bo (hf h) bs):=by
 have e:hf h b=h[b]?:=rfl
 simp only[Bo,e]
 cases h[b]? with
 |none=>rfl
 |some c=>cases c<;>rfl
theorem afZ(d n:Nat)(fl:Bool)(r:List AV)(rows:List (List AV)):hasImm (d+1) (.imm n fl (r::rows))=true:=ab9 rfl rfl
section
variable {O:Do}
theorem alO(h:Aa)(f:Nat)(args:List AV):shC O h f args=if(Xx args||O.md f)=true then shK h (O.call (.sh f) args (Eg h))else cr (Cf O (hf h) h.length (.fn f) args):=ab9 rfl rfl
end
theorem ag2(b r o:Nat)(l:List AV):Xx (.ptr b r o::l)=false:=ab9 rfl rfl
theorem am6(b:Nat)(l:List AV):Xx (.yl b::l)=true:=ab9 rfl rfl
theorem ahF:Eg []=[]:=ab9 rfl rfl
theorem ae3(c:CB)(h:Aa):Eg (c::h)=c.clean::Eg h:=ab9 rfl rfl
theorem ajJ(h h':Aa):Eg (h++h')=Eg h++Eg h':=List.map_append
theorem aj7(h:Aa)(b:Nat):(Eg h)[b]?=(h[b]?).map CB.clean:=by simp[Eg]
theorem amD(ps:List Nat)(a b:Code)(t:List AV)(st:Hw):CB.clean (.lp ps a b t st)=.lp ps a b t st:=ab9 rfl rfl
def Ao(h:Aa):Bool:=h.all fun c=>c.quiet c.clean
theorem qN:∀{h:Aa} (_:Ao h=true) (i:Nat) (l:Aa),Cd i h (Eg h++l)=some (Gt (i+h.length) l)
 | [],_,i,l=>by simp[Eg,Cd]
 |c::h,hq,i,l=>by
  simp only[Ao,List.all_cons,ak1]at hq
  have ih:=qN (h:=h) hq.2 (i+1) l
  simp only[Eg,List.map_cons,akY,Cd,hq.1,cond_true]at ih ⊢
  rw[ih,ajX]
  congr 2;omega
theorem eV:∀(cs:List CB) (i:Nat) (h:Aa),Az h (Gt i cs)=h++cs
 | [],i,h=>by simp[Gt,Az]
 |c::cs,i,h=>by simp[Gt,Az,Ji,eV cs]
theorem Vh(h:Aa)(o:Db)(h':Aa):shK h (some (o,h'))=(Cd 0 h h').map fun es=>(o,es):=ab9 rfl rfl
def EVo:=PLift.up (ab8 @agC (ab8 @aeU (ab8 @acW (ab8 @akD (ab8 @ahB (ab8 @am9 (ab8 @afJ (ab8 @ah5 (ab8 @akC (ab8 @aj9 @akH))))))))))
def EVn:=PLift.up (ab8 @uN (ab8 @aaG (ab8 @sF (ab8 @aa7 (ab8 @ahK (ab8 @vT (ab8 @ag7 (ab8 @afF @afZ))))))))
def EVp:=PLift.up (ab8 @alO (ab8 @ag2 (ab8 @am6 (ab8 @ahF (ab8 @ae3 (ab8 @ajJ (ab8 @aj7 @amD)))))))
end
noncomputable section
def Aw:CB→Option (Nat × Bool × List (List AV))
 | .live st fl _ rows=>some (st,fl,rows)
 | .frz st fl rows=>some (st,fl,rows)
 |_=>none
def Qw(f:AV→Option (AV × List Nat)):List AV→Option (List AV × List Nat)
 | []=>some ([],[])
 |a::l=>(f a).bind fun p=>(Qw f l).map fun q=>(p.1::q.1,p.2++q.2)
def Bm(f:AV→Option (AV × List Nat)):List (List AV)→Option (List (List AV) × List Nat)
 | []=>some ([],[])
 |r::rs=>(Qw f r).bind fun p=>(Bm f rs).map fun q=>(p.1::q.1,p.2++q.2)
def rd:Nat→HF→AV→Option (AV × List Nat)
 |0,_,_=>none
 |d+1,g,v=>
  match v with
  | .slr st b r len=>((g b).bind Aw).bind fun z=>
     if z.1=st∧r=0∧len=z.2.2.length then
      (bif z.2.1 then some (.imm st true z.2.2,[b])else(Bm (rd d g) z.2.2).map fun q=>(.imm st false q.1,b::q.2))
     else none
  | .agg cs=>(Qw (rd d g) cs).map fun q=>(.agg q.1,q.2)
  | .iface t x=>(rd d g x).map fun q=>(.iface t q.1,q.2)
  | .func fn [] []=>some (.func fn [] [],[])
  | .func _ _ _=>none
  | .tup _=>none
  | .ptr _ _ _=>none
  | .yl _=>none
  | .mapr _=>none
  | .itr _=>none
  | .imm _ _ _=>none
  | .iptr _=>none
  |v=>some (v,[])
theorem Sv{f f':AV→Option (AV × List Nat)}:∀{l:List AV} {p:List AV × List Nat},Qw f l=some p→(∀x∈l,∀q,f x=some q→(∀b∈q.2,b∈p.2)→f' x=some q)→Qw f' l=some p
 | [],p,h,_=>h
 |a::l,p,h,hf=>by
  simp only[Qw,acB,acA]at h ⊢
  obtain⟨q,hq,r,hr,rfl⟩:=h
  exact⟨q,hf a (acE ..) q hq (fun b hb=>agT _ hb),r,Sv hr (fun x hx q' hq' hs=>hf x (acD _ hx) q' hq' (fun b hb=>agU _ (hs b hb))),rfl⟩
theorem Ob{f f':AV→Option (AV × List Nat)}:∀{l:List (List AV)} {p:List (List AV) × List Nat},Bm f l=some p→(∀r∈l,∀x∈r,∀q,f x=some q→(∀b∈q.2,b∈p.2)→f' x=some q)→Bm f' l=some p
 | [],p,h,_=>h
 |a::l,p,h,hf=>by
  simp only[Bm,acB,acA]at h ⊢
  obtain⟨q,hq,r,hr,rfl⟩:=h
  exact⟨q,Sv hq (fun x hx q' hq' hs=>hf a (acE ..) x hx q' hq' (fun b hb=>agT _ (hs b hb))),r,
   Ob hr (fun r' hr' x hx q' hq' hs=>hf r' (acD _ hr') x hx q' hq' (fun b hb=>agU _ (hs b hb))),rfl⟩
def Agr(R:List Nat)(g g':HF):Prop:=∀b∈R,∀z,(g b).bind Aw=some z→(g' b).bind Aw=some z
theorem Yi{g g':HF}:∀{d:Nat} {v:AV} {p:AV × List Nat},rd d g v=some p→Agr p.2 g g'→rd d g' v=some p
 |0,v,p,h,_=>by simp[rd]at h
 |d+1,v,p,h,ha=>by
  cases v with
  |slr st b r len=>
   simp only[rd,acB]at h ⊢
   obtain⟨z,⟨c,hc,hz⟩,h⟩:=h
   split at h
   ·rename_i hq
    have hb:b∈p.2:=by
     cases hfl:z.2.1 with
     |true=>rw[hfl]at h;simp at h;rw[←h];simp
     |false=>rw[hfl]at h;simp only[cond_false,acA]at h;obtain⟨q,_,rfl⟩:=h;simp
    have hz':=ha b hb z (by rw[hc];exact hz)
    obtain⟨c',hc',hz''⟩:=acB.1 hz'
    refine⟨z,⟨c',hc',hz''⟩,?_⟩
    rw[if_pos hq]
    cases hfl:z.2.1 with
    |true=>rw[hfl]at h;exact h
    |false=>
     rw[hfl]at h
     simp only[cond_false,acA]at h ⊢
     obtain⟨q,hq',rfl⟩:=h
     exact⟨q,Ob hq' (fun r' _ x _ q' hx hs=>Yi hx (fun b' hb'=>ha b' (acD _ (hs b' hb')))),rfl⟩
   ·cases h
  |agg cs=>
   simp only[rd,acA]at h ⊢
   obtain⟨q,hq,rfl⟩:=h
   exact⟨q,Sv hq (fun x _ q' hx hs=>Yi hx (fun b hb=>ha b (hs b hb))),rfl⟩
  |iface t x=>
   simp only[rd,acA]at h ⊢
   obtain⟨q,hq,rfl⟩:=h
   exact⟨q,Yi hq ha,rfl⟩
  |func fn a b=>cases a<;>cases b<;>first|exact h|(simp[rd]at h)
  |_=>first|exact h|(simp[rd]at h)
theorem pW{g:HF}:∀{d e:Nat} {v:AV} {p:AV × List Nat},d≤e→rd d g v=some p→rd e g v=some p
 |0,e,v,p,_,h=>by simp[rd]at h
 |d+1,0,v,p,he,h=>by omega
 |d+1,e+1,v,p,he,h=>by
  have IH:∀x q,rd d g x=some q→rd e g x=some q:=fun x q hx=>pW (by omega) hx
  cases v with
  |slr st b r len=>
   simp only[rd,acB]at h ⊢
   obtain⟨z,hz,h⟩:=h
   refine⟨z,hz,?_⟩
   split at h
   ·rename_i hq
    rw[if_pos hq]
    cases hfl:z.2.1 with
    |true=>rw[hfl]at h;exact h
    |false=>
     rw[hfl]at h
     simp only[cond_false,acA]at h ⊢
     obtain⟨q,hq',rfl⟩:=h
     exact⟨q,Ob hq' (fun r' _ x _ q' hx _=>IH x q' hx),rfl⟩
   ·cases h
  |agg cs=>
   simp only[rd,acA]at h ⊢
   obtain⟨q,hq,rfl⟩:=h
   exact⟨q,Sv hq (fun x _ q' hx _=>IH x q' hx),rfl⟩
  |iface t x=>
   simp only[rd,acA]at h ⊢
   obtain⟨q,hq,rfl⟩:=h
   exact⟨q,IH _ _ hq,rfl⟩
  |func fn a b=>cases a<;>cases b<;>first|exact h|(simp[rd]at h)
  |_=>first|exact h|(simp[rd]at h)
theorem Xg{f:AV→Option (AV × List Nat)}{f':AV→Option AV}:∀{l:List AV} {p:List AV × List Nat},Qw f l=some p→(∀x∈l,∀q,f x=some q→f' x=some q.1)→Am f' l=some p.1
 | [],p,h,_=>by simp[Qw]at h;subst h;rfl
 |a::l,p,h,hf=>by
  simp only[Qw,acB,acA]at h
  obtain⟨q,hq,r,hr,rfl⟩:=h
  simp only[Am,hf a (acE ..) q hq,acC,Xg hr (fun x hx=>hf x (acD _ hx)),acF]
theorem Zb{f:AV→Option (AV × List Nat)}{f':AV→Option AV}:∀{l:List (List AV)} {p:List (List AV) × List Nat},Bm f l=some p→(∀r∈l,∀x∈r,∀q,f x=some q→f' x=some q.1)→Am (Am f') l=some p.1
 | [],p,h,_=>by simp[Bm]at h;subst h;rfl
 |a::l,p,h,hf=>by
  simp only[Bm,acB,acA]at h
  obtain⟨q,hq,r,hr,rfl⟩:=h
  simp only[Am,Xg hq (fun x hx=>hf a (acE ..) x hx),acC,Zb hr (fun r' hr'=>hf r' (acD _ hr')),acF]
theorem gQ{g:HF}{b:Nat}{z:Nat × Bool × List (List AV)}(h:(g b).bind Aw=some z):Du g b 0 z.2.2.length=some z:=by
 obtain⟨c,hc,hz⟩:=acB.1 h
 unfold Du
 rw[hc]
 cases c with
 |live st fl w rows=>simp[Aw]at hz;subst hz;simp
 |frz st fl rows=>simp[Aw]at hz;subst hz;simp
 |dead=>simp[Aw]at hz
 |lp=>simp[Aw]at hz
theorem aS{g:HF}:∀{d:Nat} {v:AV} {p:AV × List Nat},rd d g v=some p→Dy d g v=some p.1
 |0,v,p,h=>by simp[rd]at h
 |d+1,v,p,h=>by
  cases v with
  |slr st b r len=>
   simp only[rd,acB]at h
   obtain⟨z,hz,h⟩:=h
   split at h
   ·rename_i hq
    obtain⟨rfl,rfl,rfl⟩:=hq
    simp only[Dy,gQ (acB.2 hz),acC]
    cases hfl:z.2.1 with
    |true=>rw[hfl]at h;simp at h;rw[←h];rfl
    |false=>
     rw[hfl]at h
     simp only[cond_false,acA]at h
     obtain⟨q,hq',rfl⟩:=h
     simp[Zb hq' (fun r' _ x _ q' hx=>aS hx)]
   ·cases h
  |agg cs=>
   simp only[rd,acA]at h
   obtain⟨q,hq,rfl⟩:=h
   simp[Dy,Xg hq (fun x _ q' hx=>aS hx)]
  |iface t x=>
   simp only[rd,acA]at h
   obtain⟨q,hq,rfl⟩:=h
   simp[Dy,aS hq]
  |func fn a b=>cases a<;>cases b<;>first|(simp[rd]at h;subst h;rfl)|(simp[rd]at h)
  |_=>first|(simp[rd]at h;subst h;rfl)|(simp[rd]at h)
def Dk:Nat→(Nat→Option Nat)→AV→Option AV
 |0,_,_=>none
 |d+1,F,v=>
  match v with
  | .ptr b r o=>(F b).map fun b=>.ptr b r o
  | .slr st b r len=>(F b).map fun b=>.slr st b r len
  | .agg cs=>(Am (Dk d F) cs).map .agg
  | .tup cs=>(Am (Dk d F) cs).map .tup
  | .iface t x=>(Dk d F x).map (.iface t)
  | .func fn a b=>(Am (Dk d F) a).bind fun a=>(Am (Dk d F) b).map fun b=>.func fn a b
  | .yl b=>(F b).map .yl
  | .mapr b=>(F b).map .mapr
  | .itr b=>(F b).map .itr
  |v=>some v
def adW(F:Nat→Option Nat)(g' g:HF):Prop:=∀i b,F i=some b→∀z,(g b).bind Aw=some z→
 ∃rows',(g' i).bind Aw=some (z.1,z.2.1,rows')∧(z.2.1=true→rows'=z.2.2)∧(z.2.1=false→Am (Am (Dk 8 F)) rows'=some z.2.2)
theorem Of{α β:Type}{f:α→Option β}:∀{l:List α} {r:List β},Am f l=some r→l.length=r.length
 | [],r,h=>by simp[Am]at h;subst h;rfl
 |a::l,r,h=>by
  simp only[Am,acB,acA]at h
  obtain⟨b,_,bs,h2,rfl⟩:=h
  simp[Of h2]
theorem gY{f f':AV→Option (AV × List Nat)}{F:AV→Option AV}{Z:Nat→Prop}:∀{l l':List AV} {p:List AV × List Nat},Am F l'=some l→Qw f l=some p→
 (∀x' x q,F x'=some x→f x=some q→∃R',f' x'=some (q.1,R')∧R'.length=q.2.length∧∀i∈R',Z i)→∃R',Qw f' l'=some (p.1,R')∧R'.length=p.2.length∧∀i∈R',Z i
 |l,[],p,ho,h,_=>by
  simp[Am]at ho;subst ho
  simp[Qw]at h;subst h
  exact⟨[],rfl,rfl,fun i h=>by cases h⟩
 |l,a'::l',p,ho,h,hf=>by
  simp only[Am,acB,acA]at ho
  obtain⟨a,ha,l1,hl1,rfl⟩:=ho
  simp only[Qw,acB,acA]at h
  obtain⟨q,hq,r,hr,rfl⟩:=h
  obtain⟨R1,e1,e2,z1⟩:=hf a' a q ha hq
  obtain⟨R2,e3,e4,z2⟩:=gY hl1 hr hf
  exact⟨R1++R2,by simp[Qw,e1,e3],by simp[e2,e4],fun i hi=>(agW.1 hi).elim (z1 i) (z2 i)⟩
theorem bS{f f':AV→Option (AV × List Nat)}{F:AV→Option AV}{Z:Nat→Prop}:∀{l l':List (List AV)} {p:List (List AV) × List Nat},Am (Am F) l'=some l→Bm f l=some p→
 (∀x' x q,F x'=some x→f x=some q→∃R',f' x'=some (q.1,R')∧R'.length=q.2.length∧∀i∈R',Z i)→∃R',Bm f' l'=some (p.1,R')∧R'.length=p.2.length∧∀i∈R',Z i
 |l,[],p,ho,h,_=>by
  simp[Am]at ho;subst ho
  simp[Bm]at h;subst h
  exact⟨[],rfl,rfl,fun i h=>by cases h⟩
 |l,a'::l',p,ho,h,hf=>by
  simp only[Am,acB,acA]at ho
  obtain⟨a,ha,l1,hl1,rfl⟩:=ho
  simp only[Bm,acB,acA]at h
  obtain⟨q,hq,r,hr,rfl⟩:=h
  obtain⟨R1,e1,e2,z1⟩:=gY ha hq hf
  obtain⟨R2,e3,e4,z2⟩:=bS hl1 hr hf
  exact⟨R1++R2,by simp[Bm,e1,e3],by simp[e2,e4],fun i hi=>(agW.1 hi).elim (z1 i) (z2 i)⟩
theorem iM{F:Nat→Option Nat}{g' g:HF}(H:adW F g' g):∀{d e:Nat} {x' x:AV} {p:AV × List Nat},Dk e F x'=some x→rd d g x=some p→∃R',rd d g' x'=some (p.1,R')∧R'.length=p.2.length∧∀i∈R',∃b,F i=some b
 |0,e,x',x,p,_,h=>by simp[rd]at h
 |d+1,0,x',x,p,hx,_=>by simp[Dk]at hx
 |d+1,e+1,x',x,p,hx,h=>by
  have IH:∀e x' x q,Dk e F x'=some x→rd d g x=some q→∃R',rd d g' x'=some (q.1,R')∧R'.length=q.2.length∧∀i∈R',∃b,F i=some b:=fun e x' x q h1 h2=>iM H h1 h2
  cases x' with
  |slr st i r len=>
   simp only[Dk,acA]at hx
   obtain⟨b,hb,rfl⟩:=hx
   simp only[rd,acB]at h
   obtain⟨z,hz,h⟩:=h
   split at h
   ·rename_i hq
    obtain⟨rows',k1,k2,k3⟩:=H i b hb z (acB.2 hz)
    simp only[rd,k1,acC]
    cases hfl:z.2.1 with
    |true=>
     rw[hfl]at h;simp at h
     rw[if_pos ⟨hq.1,hq.2.1,by rw[k2 hfl];exact hq.2.2⟩,←h,k2 hfl]
     exact⟨[i],rfl,rfl,fun j hj=>by simp at hj;subst hj;exact⟨b,hb⟩⟩
    |false=>
     rw[hfl]at h
     simp only[cond_false,acA]at h
     obtain⟨q,hq',rfl⟩:=h
     have hl:=Of (k3 hfl)
     rw[if_pos ⟨hq.1,hq.2.1,by rw[hl];exact hq.2.2⟩]
     obtain⟨R',e1,e2,z1⟩:=bS (f':=rd d g') (k3 hfl) hq' (fun x' x q h1 h2=>IH 8 x' x q h1 h2)
     exact⟨i::R',by simp[e1],by simp[e2],fun j hj=>(acH.1 hj).elim (fun e=>e▸⟨b,hb⟩) (z1 j)⟩
   ·cases h
  |agg cs=>
   simp only[Dk,acA]at hx
   obtain⟨cs',hcs,rfl⟩:=hx
   simp only[rd,acA]at h
   obtain⟨q,hq,rfl⟩:=h
   obtain⟨R',e1,e2,z1⟩:=gY (f':=rd d g') hcs hq (fun x' x q h1 h2=>IH e x' x q h1 h2)
   exact⟨R',by simp[rd,e1],e2,z1⟩
  |iface t y=>
   simp only[Dk,acA]at hx
   obtain⟨y',hy,rfl⟩:=hx
   simp only[rd,acA]at h
   obtain⟨q,hq,rfl⟩:=h
   obtain⟨R',e1,e2,z1⟩:=IH e _ _ q hy hq
   exact⟨R',by simp[rd,e1],e2,z1⟩
  |func fn a b=>
   simp only[Dk,acB,acA]at hx
   obtain⟨a1,ha,b1,hb,rfl⟩:=hx
   have la:=Of ha
   have lb:=Of hb
   cases a1 with
   |cons=>simp[rd]at h
   |nil=>
    cases b1 with
    |cons=>simp[rd]at h
    |nil=>
     simp at la lb
     obtain rfl:=la
     obtain rfl:=lb
     simp[rd]at h;subst h
     exact⟨[],rfl,rfl,fun i h=>by cases h⟩
  |ptr b r o=>
   simp only[Dk,acA]at hx
   obtain⟨b,hb,rfl⟩:=hx
   simp[rd]at h
  |tup cs=>
   simp only[Dk,acA]at hx
   obtain⟨b,hb,rfl⟩:=hx
   simp[rd]at h
  |yl b=>
   simp only[Dk,acA]at hx
   obtain⟨b,hb,rfl⟩:=hx
   simp[rd]at h
  |mapr b=>
   simp only[Dk,acA]at hx
   obtain⟨b,hb,rfl⟩:=hx
   simp[rd]at h
  |itr b=>
   simp only[Dk,acA]at hx
   obtain⟨b,hb,rfl⟩:=hx
   simp[rd]at h
  |imm=>simp[Dk]at hx;subst hx;simp[rd]at h
  |iptr=>simp[Dk]at hx;subst hx;simp[rd]at h
  |_=>simp[Dk]at hx;subst hx;simp[rd]at h;subst h;exact⟨[],rfl,rfl,fun i h=>by cases h⟩
end
noncomputable section
open Go.RowKit
section
variable {P:Program} {O:Do} {pr:Kv}
def fnS(P:Program)(rs:List ResultVar)(x:R):Option (Db × Aa):=
 match x with
 |some (.normal,s)|some (.ret,s)=>(Nv P s rs).map fun vs=>(.ret (Ky vs),s.h)
 |some (.pan v,s)=>some (.pan v,s.h)
 |_=>none
theorem ahA{f:Nat}{fn:Func}(hf:P.funcs[f]?=some fn){c:Code}(hb:fn.body=some c){args:List AV}(hl:args.length≤fn.ntmps)(h:Aa):
 evS O P f args h=fnS P fn.results.toList (Bq O P Ho c [] ⟨mk fn.ntmps (Ph args),h⟩):=by
 unfold evS
 simp only[hf,hb]
 rw[zF _ _ hl]
 cases Bq O P Ho c [] ⟨mk fn.ntmps (Ph args),h⟩with
 |none=>rfl
 |some x=>
  obtain⟨e,s⟩:=x
  cases e<;>rfl
def FnS(P:Program)(rs:List ResultVar)(Q:Db→Aa→Prop)(x:R):Prop:=∃o h,fnS P rs x=some (o,h)∧Q o h
def RtS(vs:Option (List AV))(h:Aa)(Q:Db→Aa→Prop):Prop:=
 match vs with
 |some vs=>Q (.ret (Ky vs)) h
 |none=>False
theorem nA(rs:List ResultVar)(Q:Db→Aa→Prop)(t:List AV)(h:Aa):FnS P rs Q (some (.ret,⟨t,h⟩))=RtS (Nv P ⟨t,h⟩ rs) h Q:=by
 cases hr:Nv P ⟨t,h⟩ rs with
 |none=>simp[FnS,fnS,RtS,hr]
 |some vs=>
  have e:fnS P rs (some (.ret,⟨t,h⟩))=some (.ret (Ky vs),h):=by simp[fnS,hr]
  exact propext (Iff.intro (fun⟨o,h',e',q⟩=>by rw[e]at e';cases e';exact q) (fun q=>⟨_,_,e,q⟩))
theorem Nb(rs:List ResultVar)(Q:Db→Aa→Prop)(t:List AV)(h:Aa):FnS P rs Q (some (.normal,⟨t,h⟩))=RtS (Nv P ⟨t,h⟩ rs) h Q:=by
 rw[←nA];rfl
theorem abL(vs:List AV)(h:Aa)(Q:Db→Aa→Prop):RtS (some vs) h Q=Q (.ret (Ky vs)) h:=ab9 rfl rfl
theorem yC{rs:List ResultVar}{Q:Db→Aa→Prop}:¬FnS P rs Q none:=fun⟨_,_,h,_⟩=>by simp[fnS]at h
def oM(O:Do)(f:Nat)(args:List AV)(h:Aa)(Q:Db→Aa→Prop):Prop:=∃o h',O.call (.sh f) args h=some (o,h')∧Q o h'
theorem oM.start{f:Nat}{fn:Func}{c:Code}{args:List AV}{h:Aa}{Q:Db→Aa→Prop}(hp:pr f=none)(hf:P.funcs[f]?=some fn)(hb:fn.body=some c)(hl:Nat.ble args.length fn.ntmps=true)
 (he:FnS P fn.results.toList Q (Bq (om P pr) P 5000 c [] ⟨mk fn.ntmps (Ph args),h⟩)) (hs:pr.sh f=none:=by exact rfl):oM (om P pr) f args h Q:=by
 obtain⟨o,h',e,q⟩:=he
 exact⟨o,h',agM hp hs ((ahA hf hb (Nat.le_of_ble_eq_true hl) h).trans e),q⟩
theorem oM.eq{f:Nat}{args:List AV}{h:Aa}{o:Db}{h':Aa}(k:oM O f args h fun o1 h1=>(o1,h1)=(o,h')):O.call (.sh f) args h=some (o,h'):=by
 obtain⟨o1,h1,e,q⟩:=k
 rw[e,q]
def ncK(x:Option AV):OE:=
 match x with
 |some (.ptr b r o)=>some (.ret (.ptr b r o),[])
 |some (.iptr cs)=>some (.ret (.iptr cs),[])
 |some (.func (.func f) a c)=>some (.ret (.func (.func f) a c),[])
 |_=>none
theorem ajO(b r o:Nat):ncK (some (.ptr b r o))=some (.ret (.ptr b r o),[]):=ab9 rfl rfl
theorem anY(t:List AV)(h:Aa)(x:Operand):Dt O P t h (.nilCheck x)=ncK (Ad t x):=by
 rw[Cj _ _ _ rfl]
 simp only[exec,ncK]
 cases Ad t x with
 |none=>rfl
 |some v=>
  cases v with
  |func fn a c=>cases fn<;>rfl
  |_=>rfl
end
def EVq:=PLift.up (ab8 @nA (ab8 @Nb (ab8 @abL (ab8 @ajO @anY))))
end
noncomputable section
open Go.RowKit
section
variable {P:Program} {O:Do}
end
def aeM(k st:Nat)(fl:Bool)(rows:List (List AV))(v:AV)(g:Aa):Prop:=
 (rows=[]∧v=.nils)∨∃b w,v=.slr st (b+k) 0 rows.length∧g[b]?=some (.live st fl w rows)
def kl(k:Nat)(v:AV)(g:Aa):Aa:=
 match v with
 | .slr _ b _ _=>g.set (b-k) .dead
 |_=>g
theorem fK(k:Nat)(v:AV)(g:Aa):(kl k v g).length=g.length:=by
 unfold kl;split<;>simp
def apE(v:AV)(st:Nat)(fl:Bool)(rows:List (List AV))(base:Nat):List Ab:=
 match v with
 | .slr _ b _ _=>[.put b .dead,.new base (.live st fl false rows)]
 |_=>[.new base (.live st fl false rows)]
theorem qP{k n:Nat}{fl:Bool}{rows:List (List AV)}{v:AV}{g:Aa}(ho:aeM k n fl rows v g){pre:Aa}(hk:pre.length=k)(l:Aa)(r:List AV)(new:List (List AV))(hl:rows.length+(new.length+1)≤549755813888):
 sQ n (pre++(g++l)) (some v) (some (fl,r::new))=some (.ret (.slr n (pre++(g++l)).length 0 (rows.length+(r::new).length)),apE v n fl (rows++r::new) (pre++(g++l)).length):=by
 rcases ho with⟨rfl,rfl⟩|⟨b,w,rfl,h2⟩
 ·rw[gK,if_pos (by simp at hl ⊢;omega)]
  simp[apE]
 ·have hb:=(adL.1 h2).1
  have hq:(pre++(g++l))[b+k]?=some (.live n fl w rows):=by
   rw[alC (by omega),ahG (by omega)]
   rw[show b+k-pre.length=b by omega];exact h2
  rw[nM,hq,cH,if_pos ⟨rfl,by omega,by simp only[ajX];omega⟩]
  simp[apE]
theorem kY{k n:Nat}{fl:Bool}{rows:List (List AV)}{v:AV}{g:Aa}(ho:aeM k n fl rows v g){pre:Aa}(hk:pre.length=k)(l:Aa)(st:Nat)(fl':Bool)(rows':List (List AV))(base:Nat):
 Az (pre++(g++l)) (apE v st fl' rows' base)=pre++(kl k v g++(l++[.live st fl' false rows'])):=by
 rcases ho with⟨rfl,rfl⟩|⟨b,w,rfl,h2⟩
 ·simp[apE,Az,Ji,kl]
 ·have hb:=(adL.1 h2).1
  simp only[apE,Az,Ji,kl,Nat.add_sub_cancel]
  rw[List.set_append_right _ _ (by omega),show b+k-pre.length=b by omega,List.set_append_left _ _ hb]
  simp
def pkd(O:Do)(f:Nat)(args:List AV):Prop:=aY args=true→(Xx args||O.md f)=false
theorem zP{O:Do}{f:Nat}{args:List AV}(h:aY args=false):pkd O f args:=fun k=>by rw[h]at k;cases k
theorem zZ{O:Do}{h:Aa}{f:Nat}{args:List AV}(hd:pkd O f args):cl O h (some (.func (.func f) [] [])) (some args)=cr (Cf O (hf h) h.length (.fn f) args):=by
 rw[mR]
 simp only[ag5,ajU]
 split
 ·rename_i hh
  unfold shC
  rw[hd hh];simp only[ak8,if_false]
 ·rfl
section
variable {P:Program} (ty:TypeId)
end
theorem iC{α:Type}{f:α→Option α}:∀{l:List α},(∀x∈l,f x=some x)→Am f l=some l
 | [],_=>rfl
 |a::l,h=>by simp only[Am,h a (acE ..),acC,iC (fun x hx=>h x (acD _ hx)),acF]
theorem akR{n:Nat}{h:Aa}{nfl:Bool}{rows:List (List AV)}(hr:rows≠[])(hl:rows.length≤549755813888):sQ n h (some .nils) (some (nfl,rows))=some (.ret (.slr n h.length 0 rows.length),[.new h.length (.live n nfl false rows)]):=by
 cases rows with
 |nil=>exact(hr rfl).elim
 |cons r new=>rw[gK,if_pos (by simpa using hl)]
end
noncomputable section
open Go.RowKit
section
variable {P:Program} {O:Do} {pr:Kv}
def rnX(O:Do)(P:Program)(n:Nat)(k:List Aj)(t:List AV)(b:Nat)(h2:Aa)(x:Option CB):R:=
 match x with
 |some (.lp _ _ _ _ .ready)=>Bj (Bq O P n) k .normal ⟨t,h2.set b .dead⟩
 |some (.lp _ _ _ _ (.done .ret))=>Bj (Bq O P n) k .ret ⟨t,h2.set b .dead⟩
 |some (.lp _ _ _ _ (.done (.exit i)))=>Bj (Bq O P n) k (.exit i) ⟨t,h2.set b .dead⟩
 |_=>none
def rnE(O:Do)(P:Program)(n:Nat)(k:List Aj)(t:List AV)(b:Nat)(h1:Aa)(x:OE):R:=
 match x with
 |some (.ret _,es)=>rnX O P n k t b (Az h1 es) ((Az h1 es)[b]?)
 |_=>none
def rnC(O:Do)(h1:Aa)(b:Nat)(fv:Option AV):OE:=
 match fv with
 |some (.func (.func g) a c)=>cr (Dx O (hf h1) h1.length (Oc g (a++[.yl b]++c)) (a++[.yl b]++c))
 |_=>none
theorem alP(n:Nat)(k:List Aj)(t:List AV)(b:Nat)(h1:Aa)(x:Option Ht):
 (x.bind fun d=>match d.out with
   | .ret _=>
     let h2:=Az h1 d.es
     match h2[b]? with
     |some (.lp _ _ _ _ .ready)=>Bj (Bq O P n) k .normal ⟨t,h2.set b .dead⟩
     |some (.lp _ _ _ _ (.done .ret))=>Bj (Bq O P n) k .ret ⟨t,h2.set b .dead⟩
     |some (.lp _ _ _ _ (.done (.exit i)))=>Bj (Bq O P n) k (.exit i) ⟨t,h2.set b .dead⟩
     |_=>none
   | .pan _=>none)=rnE O P n k t b h1 (cr x):=by
 cases x with
 |none=>rfl
 |some d=>
  obtain⟨o,es,fs⟩:=d
  cases o<;>rfl
theorem ahU(n:Nat)(f:Operand)(ps:Array Nat)(asg body:Code)(k:List Aj)(t:List AV)(h:Aa):
 Bq O P (n+1) (.rangeFunc f ps asg body) k ⟨t,h⟩=rnE O P n k t h.length (h++[.lp ps.toList asg body t .ready]) (rnC O (h++[.lp ps.toList asg body t .ready]) h.length (Ad t f)):=by
 simp only[Bq,rnC]
 cases Ad t f with
 |none=>rfl
 |some v=>
  simp only[acC]
  cases v with
  |func fn a c=>
   cases fn with
   |func g=>exact alP n k t h.length _ _
   |_=>rfl
  |_=>rfl
theorem ajV(h1:Aa)(b g:Nat)(a c:List AV):rnC O h1 b (some (.func (.func g) a c))=if aY (a++[.yl b]++c)=true then shC O h1 g (a++[.yl b]++c)else cr (Cf O (hf h1) h1.length (.fn g) (a++[.yl b]++c)):=aa0 h1 g _
theorem af7(n:Nat)(k:List Aj)(t:List AV)(b:Nat)(h1:Aa)(v:AV)(es:List Ab):rnE O P n k t b h1 (some (.ret v,es))=rnX O P n k t b (Az h1 es) ((Az h1 es)[b]?):=ab9 rfl rfl
theorem uR(n:Nat)(k:List Aj)(t:List AV)(b:Nat)(h2:Aa)(ps:List Nat)(asg body:Code)(tm:List AV):rnX O P n k t b h2 (some (.lp ps asg body tm .ready))=Bj (Bq O P n) k .normal ⟨t,h2.set b .dead⟩:=ab9 rfl rfl
def slK(h:Aa)(b:Nat)(ok:Hw→Bool)(st:Hw)(x:Option CB):Option Aa:=
 match x with
 |some (.lp ps asg body tmps st')=>if ok st' then some (h.set b (.lp ps asg body tmps st))else none
 |_=>none
theorem amK(h:Aa)(b:Nat)(ok:Hw→Bool)(st:Hw):Jk h b ok st=slK h b ok st (h[b]?):=by
 unfold Jk slK
 cases h[b]? with
 |none=>rfl
 |some c=>cases c<;>rfl
theorem xT(h:Aa)(b:Nat)(st:Hw)(ps:List Nat)(asg body:Code)(tm:List AV):slK h b Hw.isReady st (some (.lp ps asg body tm .ready))=some (h.set b (.lp ps asg body tm st)):=ab9 rfl rfl
theorem ae4(h:Aa)(b:Nat)(st:Hw)(ps:List Nat)(asg body:Code)(tm:List AV):slK h b Hw.isBusy st (some (.lp ps asg body tm .busy))=some (h.set b (.lp ps asg body tm st)):=ab9 rfl rfl
def aeH(O:Do)(P:Program)(body:Code)(t:List AV)(x:Option Aa):R:=
 match x with
 |some h1=>Bq O P 5000 body [] ⟨t,h1⟩
 |none=>none
def aaA(O:Do)(P:Program)(b:Nat)(body:Code)(x:R):R:=
 match x with
 |some (.normal,s)=>aeH O P body s.tmps (Jk s.h b Hw.isReady .busy)
 |_=>none
def iI(r:Bool)(x:Option Aa):Option (Db × Aa):=x.map fun h2=>(.ret (.bool r),h2)
def uD(b:Nat)(x:R):Option (Db × Aa):=
 match x with
 |some (.normal,s)=>iI true (Jk s.h b Hw.isBusy .ready)
 |some (.ret,s)=>iI false (Jk s.h b Hw.isBusy (.done .ret))
 |some (.exit i,s)=>iI false (Jk s.h b Hw.isBusy (.done (.exit i)))
 |_=>none
theorem sP(body:Code)(t:List AV)(h:Aa):aeH O P body t (some h)=Bq O P 5000 body [] ⟨t,h⟩:=ab9 rfl rfl
theorem kU(b:Nat)(body:Code)(t:List AV)(h:Aa):aaA O P b body (some (.normal,⟨t,h⟩))=aeH O P body t (Jk h b Hw.isReady .busy):=ab9 rfl rfl
theorem vG(r:Bool)(h:Aa):iI r (some h)=some (.ret (.bool r),h):=ab9 rfl rfl
theorem abI{vs:List AV}{b:Nat}{h:Aa}{ps:List Nat}{asg body:Code}{tm:List AV}{st:Hw}(hb:h[b]?=some (.lp ps asg body tm st))(hl:ps.length=vs.length):
 Je O P (vs++[.yl b]) h=uD b (aaA O P b body (Bq O P 5000 asg [] ⟨Lr tm ps vs,h⟩)):=by
 unfold Je
 simp only[List.reverse_append,List.reverse_cons,List.reverse_nil,ag5,akY,List.reverse_reverse,List.length_reverse,hb,hl,if_true,Ho]
 cases Bq O P 5000 asg [] ⟨Lr tm ps vs,h⟩with
 |none=>rfl
 |some x=>
  obtain⟨e,s⟩:=x
  cases e with
  |normal=>
   simp only[acC,aaA]
   cases Jk s.h b Hw.isReady .busy with
   |none=>rfl
   |some h1=>
    simp only[acC,aeH]
    cases Bq O P 5000 body [] ⟨s.tmps,h1⟩with
    |none=>rfl
    |some y=>
     obtain⟨e,s⟩:=y
     cases e with
     |normal=>simp only[acC,Kq,uD,iI];cases Jk s.h b Hw.isBusy .ready<;>rfl
     |ret=>simp only[acC,Kq,uD,iI];cases Jk s.h b Hw.isBusy (.done .ret)<;>rfl
     |exit i=>simp only[acC,Kq,uD,iI];cases Jk s.h b Hw.isBusy (.done (.exit i))<;>rfl
     |pan v=>rfl
  |_=>rfl
def RnE(b:Nat)(Q:Db→Aa→Prop)(x:R):Prop:=∃o h',uD b x=some (o,h')∧Q o h'
def RnQ(O:Do)(args:List AV)(h:Aa)(Q:Db→Aa→Prop):Prop:=∃o h',O.call .round args h=some (o,h')∧Q o h'
theorem RnQ.start{vs:List AV}{b:Nat}{h:Aa}{ps:List Nat}{asg body:Code}{tm:List AV}{st:Hw}{Q:Db→Aa→Prop}(hb:h[b]?=some (.lp ps asg body tm st))(hl:ps.length=vs.length)
 (he:RnE b Q (aaA (om P pr) P b body (Bq (om P pr) P 5000 asg [] ⟨Lr tm ps vs,h⟩))):RnQ (om P pr) (vs++[.yl b]) h Q:=by
 obtain⟨o,h',e,q⟩:=he
 exact⟨o,h',jX ((abI hb hl).trans e),q⟩
theorem ab3{C:R→Prop}{n f b:Nat}{k:List Aj}{t:List AV}{h1 h2:Aa}{args:List AV}{Q:Db→Aa→Prop}(hq:oM O f args h2 Q)(hk:∀o h',Q o h'→C (rnE O P n k t b h1 (shK h1 (some (o,h'))))):C (rnE O P n k t b h1 (shK h1 (O.call (.sh f) args h2))):=by
 obtain⟨o,h',e,q⟩:=hq
 rw[e];exact hk o h' q
theorem uB(b:Nat)(Q:Db→Aa→Prop)(t:List AV)(h:Aa):RnE b Q (some (.normal,⟨t,h⟩))=∃o h',iI true (Jk h b Hw.isBusy .ready)=some (o,h')∧Q o h':=ab9 rfl rfl
theorem wG{b:Nat}{Q:Db→Aa→Prop}:¬RnE b Q none:=fun⟨_,_,h,_⟩=>by simp[uD]at h
theorem aeV(n:Nat)(t:Tm)(p:Nat)(ps:List Nat)(v:AV)(vs:List AV):Lr (mk n t) (p::ps) (v::vs)=Lr (mk n (up t p v)) ps vs:=by
 simp only[Lr,abJ]
theorem ag9(n:Nat)(t:Tm)(vs:List AV):Lr (mk n t) [] vs=mk n t:=by cases vs<;>rfl
end
def pK(f:Nat→Nat):Cc→Cc
 | .cells b o n=>.cells (f b) o n
 | .blk b=>.blk (f b)
 | .all=>.all
def lgF(f:Nat→Nat)(log:Py):List (List Cc × List Cc):=log.map fun x=>(x.1.map fun e=>pK f e.foot,x.2.map (pK f))
def pI(x y:List Cc × List Cc):Bool:=x.1.any (fun f=>(y.1++y.2).any f.meets)||y.1.any (fun f=>x.2.any f.meets)
def wO(ops:List Oper)(lg:List (List Cc × List Cc)):Bool:=
 (Yx ops).all fun(i,j)=>match lg[i]?,lg[j]? with
   |some x,some y=> !pI x y
   |_,_=>false
def nC(n q:Nat)(b:Nat):Nat:=if b<q then b else b-n+1000
theorem Ic{n q b:Nat}(h:b<q):nC n q b=b:=by simp[nC,h]
theorem jS(f:Nat→Nat)(x y:Cc)(h:x.meets y=true):(pK f x).meets (pK f y)=true:=by
 cases x<;>cases y<;>simp_all[Cc.meets,pK]
theorem zN(f:Nat→Nat)(x y:List Ab × List Cc)(h:Ln x y=true):pI (x.1.map fun e=>pK f e.foot,x.2.map (pK f)) (y.1.map fun e=>pK f e.foot,y.2.map (pK f))=true:=by
 simp only[Ln,pI,Bool.or_eq_true,List.any_eq_true,agW,List.mem_map]at h ⊢
 rcases h with⟨a,⟨e,he,rfl⟩,b,hb,hm⟩|⟨a,⟨e,he,rfl⟩,b,hb,hm⟩
 ·refine .inl ⟨_,⟨e,he,rfl⟩,pK f b,?_,jS f _ _ hm⟩
  rcases hb with⟨e',he',rfl⟩|hb
  ·exact .inl ⟨e',he',rfl⟩
  ·exact .inr ⟨b,hb,rfl⟩
 ·exact .inr ⟨_,⟨e,he,rfl⟩,pK f b,⟨b,hb,rfl⟩,jS f _ _ hm⟩
theorem afA(f:Nat→Nat){ops:List Oper}{log:Py}(h:wO ops (lgF f log)=true):Dv ops log=true:=by
 simp only[wO,Dv,agY]at h ⊢
 rintro⟨i,j⟩ hij
 have:=h (i,j) hij
 simp only[lgF,ak5]at this ⊢
 cases hi:log[i]? with
 |none=>simp[hi]at this
 |some x=>
  cases hj:log[j]? with
  |none=>simp[hi,hj]at this
  |some y=>
   simp only[hi,hj,acF,Bool.not_eq_true',Bool.not_eq_eq_eq_not]at this ⊢
   cases hc:Ln x y with
   |false=>rfl
   |true=>rw[zN f x y hc]at this;cases this
theorem Lh(n q:Nat){C:R→Prop}{ops:List Oper}{log:Py}{k:R}(hb:wO ops (lgF (nC n q) log)=true)(h:True→C k):C (Es (Dv ops log) k):=ah8 (afA _ hb) h
theorem La(f:Nat→Nat):lgF f []=[]:=ab9 rfl rfl
theorem Ib(f:Nat→Nat)(x:List Ab)(y:List Cc)(l:Py):lgF f ((x,y)::l)=(x.map (fun e=>pK f e.foot),y.map (pK f))::lgF f l:=ab9 rfl rfl
theorem Gl(f:Nat→Nat)(b o n:Nat):pK f (.cells b o n)=.cells (f b) o n:=ab9 rfl rfl
theorem Lm(f:Nat→Nat)(b:Nat):pK f (.blk b)=.blk (f b):=ab9 rfl rfl
theorem Lc(b:Nat)(c:CB):Ab.foot (.new b c)=.blk b:=ab9 rfl rfl
theorem Le(b:Nat)(c:CB):Ab.foot (.put b c)=.blk b:=ab9 rfl rfl
section
variable {P:Program} {O:Do}
end
def EVs:=PLift.up (ab8 @ahU (ab8 @ajV (ab8 @af7 (ab8 @uR (ab8 @amK (ab8 @xT (ab8 @ae4 (ab8 @sP (ab8 @kU (ab8 @vG (ab8 @uB (ab8 @aeV @ag9))))))))))))
end
noncomputable section
open Go.RowKit
set_option maxRecDepth 100000
def EVZ:=PLift.up (ab8 EVa.down (ab8 EVb.down (ab8 EVc.down (ab8 EVd.down (ab8 EVe.down (ab8 EVf.down (ab8 EVg.down (ab8 EVh.down (ab8 EVi.down (ab8 EVj.down (ab8 EVk.down (ab8 EVl.down (ab8 EVm.down (ab8 EVn.down (ab8 EVo.down (ab8 EVp.down EVq.down))))))))))))))))
section
variable {P:Program} {O:Do}
class NoN(C:R→Prop):Prop where
 no:¬C none
instance{q:Nat}{rs:List ResultVar}{Q:Db→Aa→Prop}:NoN (FnE P q rs Q):=⟨xQ⟩
instance{rs:List ResultVar}{Q:Db→Aa→Prop}:NoN (FnS P rs Q):=⟨yC⟩
instance{N:Nat}{J:Tm→Aa→Prop}{Q:Ex→St→Prop}:NoN (iH N J Q):=⟨abZ⟩
instance{b:Nat}{Q:Db→Aa→Prop}:NoN (RnE b Q):=⟨wG⟩
end
end
noncomputable section
open Go.RowKit
set_option maxRecDepth 100000
section
variable {P:Program} {O:Do}
class Spl(r:R)(b:outParam Bool)(x y:outParam R):Prop where
 sp:∀{C:R→Prop},(b=true→C x)→(b=false→C y)→C r
instance{n:Nat}{k:List Aj}{d:Option Nat}{op:Op}{cs:List CO}{b w:Bool}{t:List AV}{h:Aa}:Spl (vA O P n k d op cs (.bool b) w t h) b (vA O P n k d op cs (.bool true) w t h) (vA O P n k d op cs (.bool false) w t h):=⟨anU⟩
instance{n:Nat}{x y:Code}{k:List Aj}{g:Bool}{s:St}:Spl (cdK O P n x y k (some (.bool g)) s) g (Bq O P n x k s) (Bq O P n y k s):=⟨alQ⟩
instance{n:Nat}{k:List Aj}{d:Option Nat}{op:Op}{cs:List CO}{b w:Bool}{t:List AV}{h:Aa}:Spl (rqG O P n k d op cs (.bool b) w t h) b (rqG O P n k d op cs (.bool true) w t h) (rqG O P n k d op cs (.bool false) w t h):=⟨alW⟩
instance{n:Nat}{k:List Aj}{d:Option Nat}{op:Op}{cs:List CO}{b w:Bool}{t:List AV}{h:Aa}:Spl (rwG O P n k d op cs (.bool b) w t h) b (rwG O P n k d op cs (.bool true) w t h) (rwG O P n k d op cs (.bool false) w t h):=⟨amS⟩
instance{n:Nat}{k:List Aj}{ops:List Oper}{d:Option Nat}{op:Op}{cs:List CO}{b w:Bool}{t:List AV}{h:Aa}{log:Py}:Spl (rlG O P n k ops d op cs (.bool b) w t h log) b (rlG O P n k ops d op cs (.bool true) w t h log) (rlG O P n k ops d op cs (.bool false) w t h log):=⟨anW⟩
theorem Be{C:R→Prop}{r x y:R}{b:Bool}(h1:b=true→C x)(h2:b=false→C y)(s:Spl r b x y:=by infer_instance):C r:=s.sp h1 h2
class Drw(i:Nat)(r:R)(c:outParam Bool)(r':outParam R):Prop where
 dr:∀{C:R→Prop},¬C none→c=true→C r'→C r
instance{b:Bool}{k:R}:Drw 0 (Es b k) b k:=⟨fun _=>agE⟩
instance{n id:Nat}{ops:Array Oper}{k:List Aj}{t:List AV}{h:Aa}:Drw 1 (Bq O P (n+1) (.region id ops true) k ⟨t,h⟩) (Jq ops.toList&&rH ops.toList) (rw O P n k (ops.toList.map (Fp ops.toList)) t h):=⟨fun h=>alJ h⟩
instance{n id:Nat}{ops:Array Oper}{k:List Aj}{t:List AV}{h:Aa}:Drw 2 (Bq O P (n+1) (.region id ops true) k ⟨t,h⟩) (Jq ops.toList&&am4 ops.toList) (rq O P n k (ops.toList.map (Fp ops.toList)) t h):=⟨fun h=>anK h⟩
instance{n id:Nat}{ops:Array Oper}{k:List Aj}{t:List AV}{h:Aa}:Drw 3 (Bq O P (n+1) (.region id ops true) k ⟨t,h⟩) (Jq ops.toList) (rl O P n k ops.toList (ops.toList.map (Fp ops.toList)) t h []):=⟨fun h=>amG h⟩
structure Dw(r r':R):Prop where
 dr:∀{C:R→Prop},¬C none→C r'→C r
theorem dg{r r':R}{c:Bool}[d:Drw 0 r c r'](h:c=true:=by kernel_rfl):Dw r r':=⟨fun n k=>d.dr n h k⟩
theorem dw(i:Nat){r r':R}{c:Bool}[d:Drw i r c r'](h:c=true:=by decide+kernel):Dw r r':=⟨fun n k=>d.dr n h k⟩
theorem fd{C:R→Prop}{r r':R}[n:NoN C](k:C r')(e:Dw r r':=by first|exact dg|exact dw 1|exact dw 2|exact dw 3):C r:=e.dr n.no k
theorem fdl{C:R→Prop}{r r':R}[n:NoN C](k:C r')(e:Dw r r':=by first|exact dg|exact dw 1|exact dw 3):C r:=e.dr n.no k
end
section
variable {P:Program} {O:Do}
def Un(O:Do)(P:Program)(n:Nat)(k:List Aj)(c:Code)(C:R→Prop):R→Prop
 |some (.normal,s)=>C (lpK O P n k (O.loop c s))
 |some (e,s)=>C (Bj (Bq O P n) k e s)
 |none=>False
instance{n:Nat}{k:List Aj}{c:Code}{C:R→Prop}:NoN (Un O P n k c C):=⟨fun h=>h⟩
end
theorem vZ:IntKind.i64.wrap 1=1:=ab9 rfl rfl
def EE:=PLift.up (ab8 EVZ.down (ab8 @vZ (ab8 @Fp.eq_1 (ab8 @Ad.eq_1 (ab8 @Ad.eq_2 (ab8 @Ad.eq_4 (ab8 @Bd.eq_1 (ab8 @Bd.eq_2 (ab8 @eS.eq_3 (ab8 @Uj.eq_1 (ab8 @Uj.eq_2 (ab8 @Uj.eq_4 (ab8 @Uj.eq_5 (ab8 @Uj.eq_6 (ab8 @Az.eq_1 (ab8 @Az.eq_2 (ab8 @Ji.eq_1 (ab8 @Ji.eq_2 (ab8 @Ji.eq_3 (ab8 @Hv.eq_1 (ab8 @Br.eq_1 (ab8 @bsK.eq_1 (ab8 @Ky.eq_1 (ab8 @Ky.eq_2 (ab8 @decide_true @decide_false)))))))))))))))))))))))))
def EF:=PLift.up (ab8 EE.down EE.down)
def EG:=PLift.up (ab8 EF.down EVs.down)
end
noncomputable section
open Go.RowKit
def On(m:List Nat)(F:Nat→Option Nat):Prop:=∀i b,m[i]?=some b→F i=some b
theorem On.mono{m m':List Nat}{F:Nat→Option Nat}(h:On m' F)(hp:m <+:m'):On m F:=fun _ _ hi=>h _ _ (Jl hp hi)
structure Gd(m m' R:List Nat):Prop where
 pre:m <+:m'
 nd:m.Nodup→m'.Nodup
 sub:∀b∈m',b∈m∨b∈R
theorem Gd.refl(m R:List Nat):Gd m m R:=⟨alD _,id,fun _ h=>.inl h⟩
theorem Gd.trans{m m1 m2 R1 R2 R:List Nat}(h1:Gd m m1 R1)(h2:Gd m1 m2 R2)(k1:∀b∈R1,b∈R)(k2:∀b∈R2,b∈R):Gd m m2 R:=
 ⟨h1.pre.trans h2.pre,fun h=>h2.nd (h1.nd h),fun b hb=>(h2.sub b hb).elim (fun h=>(h1.sub b h).imp id (k1 b)) (fun h=>.inr (k2 b h))⟩
theorem mC(m:List Nat)(b:Nat){R:List Nat}(hb:b∈R):Gd m (place m b).2 R:=by
 refine⟨(Gj m b).2.1,(Gj m b).2.2,fun x hx=>?_⟩
 unfold place at hx
 split at hx
 ·exact .inl hx
 ·rcases agW.1 hx with h|h
  ·exact .inl h
  ·simp at h;subst h;exact .inr hb
def Sp(e:Nat)(x:AV)(R:List Nat):Prop:=∀m,∃x' m',Bz e m x=some (x',m')∧Gd m m' R∧∀F,On m' F→Dk e F x'=some x
def SpL(e:Nat)(l:List AV)(R:List Nat):Prop:=∀m,∃l' m',Bz.refL (Bz e) m l=some (l',m')∧Gd m m' R∧∀F,On m' F→Am (Dk e F) l'=some l
def SpR(l:List (List AV))(R:List Nat):Prop:=∀m,∃l' m',Gs m l=some (l',m')∧Gd m m' R∧∀F,On m' F→Am (Am (Dk 8 F)) l'=some l
theorem spL{f:AV→Option (AV × List Nat)}{e:Nat}:∀{l:List AV} {p:List AV × List Nat},Qw f l=some p→(∀x∈l,∀q,f x=some q→Sp e x q.2)→SpL e l p.2
 | [],p,h,_=>fun m=>⟨[],m,rfl,Gd.refl _ _,fun _ _=>rfl⟩
 |a::l,p,h,hf=>fun m=>by
  simp only[Qw,acB,acA]at h
  obtain⟨q,hq,r,hr,rfl⟩:=h
  obtain⟨x',m1,e1,g1,k1⟩:=hf a (acE ..) q hq m
  obtain⟨l',m2,e2,g2,k2⟩:=spL hr (fun x hx=>hf x (acD _ hx)) m1
  refine⟨x'::l',m2,by simp[Bz.refL,e1,e2],g1.trans g2 (fun _ h=>agT _ h) (fun _ h=>agU _ h),fun F hF=>?_⟩
  simp[Am,k1 F (hF.mono g2.pre),k2 F hF]
theorem spR{f:AV→Option (AV × List Nat)}:∀{l:List (List AV)} {p:List (List AV) × List Nat},Bm f l=some p→(∀r∈l,∀x∈r,∀q,f x=some q→Sp 8 x q.2)→SpR l p.2
 | [],p,h,_=>fun m=>⟨[],m,rfl,Gd.refl _ _,fun _ _=>rfl⟩
 |a::l,p,h,hf=>fun m=>by
  simp only[Bm,acB,acA]at h
  obtain⟨q,hq,r,hr,rfl⟩:=h
  obtain⟨x',m1,e1,g1,k1⟩:=spL hq (hf a (acE ..)) m
  obtain⟨l',m2,e2,g2,k2⟩:=spR hr (fun x hx=>hf x (acD _ hx)) m1
  refine⟨x'::l',m2,by simp[Gs,e1,e2],g1.trans g2 (fun _ h=>agT _ h) (fun _ h=>agU _ h),fun F hF=>?_⟩
  simp[Am,k1 F (hF.mono g2.pre),k2 F hF]
theorem sp{g:HF}:∀{d e:Nat} {v:AV} {p:AV × List Nat},d≤e→rd d g v=some p→Sp e v p.2
 |0,e,v,p,_,h=>by simp[rd]at h
 |d+1,0,v,p,he,h=>by omega
 |d+1,e+1,v,p,he,h=>by
  have IH:∀x q,rd d g x=some q→Sp e x q.2:=fun x q hx=>sp (by omega) hx
  intro m
  cases v with
  |slr st b r len=>
   simp only[rd,acB]at h
   obtain⟨z,_,h⟩:=h
   split at h
   ·have hb:b∈p.2:=by
     cases hfl:z.2.1 with
     |true=>rw[hfl]at h;simp at h;rw[←h];simp
     |false=>rw[hfl]at h;simp only[cond_false,acA]at h;obtain⟨q,_,rfl⟩:=h;simp
    exact⟨_,_,rfl,mC m b hb,fun F hF=>by simp[Dk,hF _ _ (Gj m b).1]⟩
   ·cases h
  |agg cs=>
   simp only[rd,acA]at h
   obtain⟨q,hq,rfl⟩:=h
   obtain⟨l',m1,e1,g1,k1⟩:=spL hq (fun x _=>IH x) m
   exact⟨.agg l',m1,by simp[Bz,e1],g1,fun F hF=>by simp[Dk,k1 F hF]⟩
  |iface t x=>
   simp only[rd,acA]at h
   obtain⟨q,hq,rfl⟩:=h
   obtain⟨l',m1,e1,g1,k1⟩:=IH x q hq m
   exact⟨.iface t l',m1,by simp[Bz,e1],g1,fun F hF=>by simp[Dk,k1 F hF]⟩
  |func fn a b=>
   cases a with
   |cons=>simp[rd]at h
   |nil=>
    cases b with
    |cons=>simp[rd]at h
    |nil=>exact⟨_,m,rfl,Gd.refl _ _,fun _ _=>rfl⟩
  |ptr b r o=>simp[rd]at h
  |tup cs=>simp[rd]at h
  |yl b=>simp[rd]at h
  |mapr b=>simp[rd]at h
  |itr b=>simp[rd]at h
  |imm=>simp[rd]at h
  |iptr=>simp[rd]at h
  |_=>exact⟨_,m,rfl,Gd.refl _ _,fun _ _=>rfl⟩
def Cl(g:HF)(S:List Nat):Prop:=∀b∈S,∃z,(g b).bind Aw=some z∧(z.2.1=false→∃d q,d≤8∧Bm (rd d g) z.2.2=some q∧∀x∈q.2,x∈S)
theorem Cl.nil(g:HF):Cl g []:=fun _ h=>by cases h
theorem Cl.app{g:HF}{S T:List Nat}(h1:Cl g S)(h2:Cl g T):Cl g (S++T):=fun b hb=>by
 rcases agW.1 hb with h|h
 ·obtain⟨z,k1,k2⟩:=h1 b h
  exact⟨z,k1,fun e=>by obtain⟨d,q,a1,a2,a3⟩:=k2 e;exact⟨d,q,a1,a2,fun x hx=>agT _ (a3 x hx)⟩⟩
 ·obtain⟨z,k1,k2⟩:=h2 b h
  exact⟨z,k1,fun e=>by obtain⟨d,q,a1,a2,a3⟩:=k2 e;exact⟨d,q,a1,a2,fun x hx=>agU _ (a3 x hx)⟩⟩
theorem clL{g:HF}{f:AV→Option (AV × List Nat)}:∀{l:List AV} {p:List AV × List Nat},Qw f l=some p→(∀x∈l,∀q,f x=some q→Cl g q.2)→Cl g p.2
 | [],p,h,_=>by simp[Qw]at h;subst h;exact Cl.nil g
 |a::l,p,h,hf=>by
  simp only[Qw,acB,acA]at h
  obtain⟨q,hq,r,hr,rfl⟩:=h
  exact(hf a (acE ..) q hq).app (clL hr fun x hx=>hf x (acD _ hx))
theorem clR{g:HF}{f:AV→Option (AV × List Nat)}:∀{l:List (List AV)} {p:List (List AV) × List Nat},Bm f l=some p→(∀r∈l,∀x∈r,∀q,f x=some q→Cl g q.2)→Cl g p.2
 | [],p,h,_=>by simp[Bm]at h;subst h;exact Cl.nil g
 |a::l,p,h,hf=>by
  simp only[Bm,acB,acA]at h
  obtain⟨q,hq,r,hr,rfl⟩:=h
  exact(clL hq (hf a (acE ..))).app (clR hr fun x hx=>hf x (acD _ hx))
theorem lU{g:HF}:∀{d:Nat} {v:AV} {p:AV × List Nat},d≤9→rd d g v=some p→Cl g p.2
 |0,v,p,_,h=>by simp[rd]at h
 |d+1,v,p,hd,h=>by
  have IH:∀x q,rd d g x=some q→Cl g q.2:=fun x q hx=>lU (by omega) hx
  cases v with
  |slr st b r len=>
   simp only[rd,acB]at h
   obtain⟨z,hz,h⟩:=h
   have hz':(g b).bind Aw=some z:=acB.2 hz
   split at h
   ·cases hfl:z.2.1 with
    |true=>
     rw[hfl]at h;simp at h;rw[←h]
     intro b' hb'
     simp at hb';subst hb'
     exact⟨z,hz',fun e=>by rw[hfl]at e;cases e⟩
    |false=>
     rw[hfl]at h;simp only[cond_false,acA]at h
     obtain⟨q,hq,rfl⟩:=h
     intro b' hb'
     rcases acH.1 hb' with rfl|hb'
     ·exact⟨z,hz',fun _=>⟨d,q,by omega,hq,fun x hx=>acD _ hx⟩⟩
     ·obtain⟨z',k1,k2⟩:=clR hq (fun r _ x _=>IH x) b' hb'
      exact⟨z',k1,fun e=>by obtain⟨d',q',a1,a2,a3⟩:=k2 e;exact⟨d',q',a1,a2,fun x hx=>acD _ (a3 x hx)⟩⟩
   ·cases h
  |agg cs=>
   simp only[rd,acA]at h
   obtain⟨q,hq,rfl⟩:=h
   exact clL hq fun x _=>IH x
  |iface t x=>
   simp only[rd,acA]at h
   obtain⟨q,hq,rfl⟩:=h
   exact IH x q hq
  |func fn a b=>
   cases a<;>cases b<;>first|(simp[rd]at h;subst h;exact Cl.nil g)|(simp[rd]at h)
  |_=>first|(simp[rd]at h;subst h;exact Cl.nil g)|(simp[rd]at h)
theorem Ub{F:Nat→Option Nat}(f:Nat→Nat):∀{e:Nat} {x' x:AV},Dk e F x'=some x→∃y,Ba e f x'=some y
 |0,x',x,h=>by simp[Dk]at h
 |e+1,x',x,h=>by
  have L:∀{l l1:List AV},Am (Dk e F) l=some l1→∃y,Am (Ba e f) l=some y:=fun {l}=>by
   induction l with
   |nil=>exact fun _=>⟨[],rfl⟩
   |cons a l ih=>
    intro l1 h
    simp only[Am,acB,acA]at h
    obtain⟨b,hb,c,hc,_⟩:=h
    obtain⟨y,hy⟩:=Ub f hb
    obtain⟨ys,hys⟩:=ih hc
    exact⟨y::ys,by simp[Am,hy,hys]⟩
  cases x' with
  |agg cs=>simp only[Dk,acA]at h;obtain⟨_,h,_⟩:=h;obtain⟨y,hy⟩:=L h;exact⟨.agg y,by simp[Ba,hy]⟩
  |tup cs=>simp only[Dk,acA]at h;obtain⟨_,h,_⟩:=h;obtain⟨y,hy⟩:=L h;exact⟨.tup y,by simp[Ba,hy]⟩
  |iface t x=>simp only[Dk,acA]at h;obtain⟨_,h,_⟩:=h;obtain⟨y,hy⟩:=Ub f h;exact⟨.iface t y,by simp[Ba,hy]⟩
  |func fn a b=>
   simp only[Dk,acB,acA]at h
   obtain⟨_,h1,_,h2,_⟩:=h
   obtain⟨y,hy⟩:=L h1
   obtain⟨y2,hy2⟩:=L h2
   exact⟨.func fn y y2,by simp[Ba,hy,hy2]⟩
  |_=>exact⟨_,rfl⟩
theorem iL{α β γ:Type}{f:α→Option β}{f':α→Option γ}(H:∀a b,f a=some b→∃c,f' a=some c):∀{l:List α} {r:List β},Am f l=some r→∃s,Am f' l=some s
 | [],_,_=>⟨[],rfl⟩
 |a::l,r,h=>by
  simp only[Am,acB,acA]at h
  obtain⟨b,hb,c,hc,_⟩:=h
  obtain⟨y,hy⟩:=H a b hb
  obtain⟨ys,hys⟩:=iL H hc
  exact⟨y::ys,by simp[Am,hy,hys]⟩
def Stn(F:Nat→Option Nat)(c':CB)(z:Nat × Bool × List (List AV)):Prop:=
 ∃rows',Aw c'=some (z.1,z.2.1,rows')∧(z.2.1=true→rows'=z.2.2)∧(z.2.1=false→Am (Am (Dk 8 F)) rows'=some z.2.2)
def vO(c:CB):Prop:=∀f,∃c',Ep f c=some c'
theorem spB{g:HF}{S:List Nat}(H:Cl g S){b:Nat}(hb:b∈S)(m:List Nat):∃c c' m' z,g b=some c∧Aw c=some z∧Ur m c=some (c',m')∧Gd m m' S∧(∀F,On m' F→Stn F c' z)∧vO c':=by
 obtain⟨z,hz,hc⟩:=H b hb
 obtain⟨c,k1,k2⟩:=acB.1 hz
 have R:∀rows,z.2.1=false→rows=z.2.2→∃l' m',Gs m rows=some (l',m')∧Gd m m' S∧∀F,On m' F→Am (Am (Dk 8 F)) l'=some rows:=fun rows e er=>by
  obtain⟨d,q,a1,a2,a3⟩:=hc e
  obtain⟨l',m',e1,g1,e2⟩:=spR (er▸a2) (fun r _ x _ q hx=>sp a1 hx) m
  exact⟨l',m',e1,⟨g1.pre,g1.nd,fun x hx=>(g1.sub x hx).imp id (a3 x)⟩,e2⟩
 have R2:∀l' rows m',(∀F,On m' F→Am (Am (Dk 8 F)) l'=some rows)→∀f,∃y,Am (Am (Ba 8 f)) l'=some y:=fun l' rows m' h f=>
  iL (fun a b hab=>iL (fun a b hab=>Ub f hab) hab) (h (fun i=>m'[i]?) (fun _ _ h=>h))
 cases c with
 |live st fl w rows=>
  simp[Aw]at k2;subst k2
  cases fl with
  |true=>exact⟨_,_,m,_,k1,rfl,rfl,Gd.refl _ _,fun F _=>⟨rows,rfl,fun _=>rfl,fun e=>by cases e⟩,fun f=>⟨_,rfl⟩⟩
  |false=>
   obtain⟨l',m',e1,g1,e2⟩:=R rows rfl rfl
   refine⟨_,.live st false w l',m',_,k1,rfl,by simp[Ur,e1],g1,fun F hF=>⟨l',rfl,fun e=>(by cases e),fun _=>e2 F hF⟩,fun f=>?_⟩
   obtain⟨y,hy⟩:=R2 l' rows m' e2 f
   exact⟨.live st false w y,by simp[Ep,hy]⟩
 |frz st fl rows=>
  simp[Aw]at k2;subst k2
  cases fl with
  |true=>exact⟨_,_,m,_,k1,rfl,rfl,Gd.refl _ _,fun F _=>⟨rows,rfl,fun _=>rfl,fun e=>by cases e⟩,fun f=>⟨_,rfl⟩⟩
  |false=>
   obtain⟨l',m',e1,g1,e2⟩:=R rows rfl rfl
   refine⟨_,.frz st false l',m',_,k1,rfl,by simp[Ur,e1],g1,fun F hF=>⟨l',rfl,fun e=>(by cases e),fun _=>e2 F hF⟩,fun f=>?_⟩
   obtain⟨y,hy⟩:=R2 l' rows m' e2 f
   exact⟨.frz st false y,by simp[Ep,hy]⟩
 |dead=>simp[Aw]at k2
 |lp=>simp[Aw]at k2
theorem Ku{S:List Nat}:∀{m:List Nat},m.Nodup→(∀b∈m,b∈S)→m.length≤S.length:=by
 induction S with
 |nil=>intro m _ h;cases m with
  |nil=>simp
  |cons a m=>exact absurd (h a (acE ..)) (by simp)
 |cons s S ih=>
  intro m hn h
  have h2:=ih (m:=m.erase s) (hn.erase s) (fun b hb=>by
   have hb':=alE hb
   rcases acH.1 (h b hb')with rfl|h'
   ·exact absurd hb (hn.not_mem_erase)
   ·exact h')
  have h3:m.length≤(m.erase s).length+1:=by
   by_cases hs:s∈m
   ·rw[alF hs];omega
   ·rw[List.erase_of_not_mem hs];omega
  simp;omega
theorem spC{g:HF}{S:List Nat}(H:Cl g S):∀(n i:Nat) (m:List Nat),m.Nodup→(∀b∈m,b∈S)→S.length<n+i→i≤m.length→
 ∃cs m',Hf n g i m=some (cs,m')∧m <+:m'∧m'.Nodup∧(∀b∈m',b∈S)∧i+cs.length=m'.length∧(∀c∈cs,vO c)∧
  ∀F,On m' F→∀j c',cs[j]?=some c'→∃b z,m'[i+j]?=some b∧(g b).bind Aw=some z∧Stn F c' z
 |0,i,m,hn,hs,hl,hi=>by have:=Ku hn hs;omega
 |n+1,i,m,hn,hs,hl,hi=>by
  unfold Hf
  cases hm:m[i]? with
  |none=>
   have:m.length≤i:=alS.1 hm
   exact⟨[],m,rfl,alD _,hn,hs,by simp;omega,(fun c hc=>by cases hc),fun F _ j c' hj=>by simp at hj⟩
  |some b=>
   have hlt:=(adL.1 hm).1
   obtain⟨c,c',m1,z,k1,k2,k3,g1,k4,k5⟩:=spB H (hs b (afD hm)) m
   obtain⟨cs,m',e1,p1,p2,p3,p4,p5,p6⟩:=spC H n (i+1) m1 (g1.nd hn) (fun b hb=>(g1.sub b hb).elim (hs b) id) (by omega) (by have:=g1.pre.length_le;omega)
   refine⟨c'::cs,m',by simp[k1,k3,e1],g1.pre.trans p1,p2,p3,by simp;omega,fun x hx=>?_,fun F hF j x hj=>?_⟩
   ·rcases acH.1 hx with rfl|hx
    ·exact k5
    ·exact p5 x hx
   ·cases j with
    |zero=>
     simp at hj;subst hj
     exact⟨b,z,Jl (g1.pre.trans p1) (by simpa using hm),by rw[k1];exact k2,k4 F (hF.mono p1)⟩
    |succ j=>
     simp at hj
     obtain⟨b',z',a1,a2,a3⟩:=p6 F hF j x hj
     exact⟨b',z',by rw[←a1];congr 1;omega,a2,a3⟩
theorem abG{h:Aa}{v:AV}{R:List Nat}(hs:Sp 8 v R)(hc:Cl (hf h) R)(hR:R.length<5000):
 ∃v' cs F,Kz 0 v h=some (v',cs)∧adW F (hf cs) (hf h)∧Dk 8 F v'=some v∧∀c∈cs,vO c:=by
 obtain⟨v',m,e1,g1,k1⟩:=hs []
 have hm:∀b∈m,b∈R:=fun b hb=>(g1.sub b hb).elim (fun h=>by cases h) id
 obtain⟨cs,m',e2,p1,p2,p3,p4,p5,p6⟩:=spC hc 5000 0 m (g1.nd List.nodup_nil) hm (by omega) (acI _)
 refine⟨v',cs,fun i=>m'[i]?,by simp[Kz,Hk,Bz.refL,e1,e2,ak9],fun i b hi z hz=>?_,k1 _ (fun _ _ h=>Jl p1 h),p5⟩
 have hlt:=(adL.1 hi).1
 obtain⟨b',z',a1,a2,rows',a3,a4,a5⟩:=p6 (fun i=>m'[i]?) (fun _ _ h=>h) i _ (ajN (by omega))
 rw[agD]at a1
 have hbb:b=b':=by have hi':m'[i]?=some b:=hi;rw[hi']at a1;cases a1;rfl
 subst hbb
 rw[hz]at a2;cases a2
 exact⟨rows',by show(cs[i]?).bind Aw=_;rw[ajN (by omega)];exact a3,a4,a5⟩
end
end Go.Ev
namespace Go.Ev
open Go.RowKit
theorem Pv{f:Nat→Nat}{F:Nat→Option Nat}(hF:∀b,F (f b)=some b):∀{e:Nat} {x x1:AV},Ba e f x=some x1→Dk e F x1=some x
 |0,x,x1,h=>by simp[Ba]at h
 |e+1,x,x1,h=>by
  have L:∀{l l1:List AV},Am (Ba e f) l=some l1→Am (Dk e F) l1=some l:=fun {l}=>by
   induction l with
   |nil=>intro l1 h;simp[Am]at h;subst h;rfl
   |cons a l ih=>
    intro l1 h
    simp only[Am,acB,acA]at h
    obtain⟨b,hb,c,hc,rfl⟩:=h
    simp[Am,Pv hF hb,ih hc]
  cases x with
  |agg cs=>simp only[Ba,acA]at h;obtain⟨_,h,rfl⟩:=h;simp[Dk,L h]
  |tup cs=>simp only[Ba,acA]at h;obtain⟨_,h,rfl⟩:=h;simp[Dk,L h]
  |iface t x=>simp only[Ba,acA]at h;obtain⟨_,h,rfl⟩:=h;simp[Dk,Pv hF h]
  |func fn a b=>
   simp only[Ba,acB,acA]at h
   obtain⟨_,h1,_,h2,rfl⟩:=h
   simp[Dk,L h1,L h2]
  |_=>simp only[Ba,agR.injEq]at h;subst h;simp[Dk,hF]
theorem Pm{α β:Type}{f:α→Option β}{f':β→Option α}(H:∀a b,f a=some b→f' b=some a):∀{l:List α} {r:List β},Am f l=some r→Am f' r=some l
 | [],r,h=>by simp[Am]at h;subst h;rfl
 |a::l,r,h=>by
  simp only[Am,acB,acA]at h
  obtain⟨b,hb,c,hc,rfl⟩:=h
  simp[Am,H a b hb,Pm H hc]
theorem jE{f:Nat→Nat}:∀{cs:List CB} (_:∀c∈cs,vO c) (base:Nat),∃ns cs1,Fv f base cs=some ns∧(∀G,Az G ns=G++cs1)∧Am (Ep f) cs=some cs1
 | [],_,base=>⟨[],[],rfl,fun G=>by simp[Az],rfl⟩
 |c::cs,h,base=>by
  obtain⟨c1,e1⟩:=h c (acE ..) f
  obtain⟨ns,cs1,e2,e3,e4⟩:=jE (f:=f) (cs:=cs) (fun c hc=>h c (acD _ hc)) (base+1)
  exact⟨.new base c1::ns,c1::cs1,by simp[Fv,e1,e2],fun G=>by simp[Az,Ji,e3],by simp[Am,e1,e4]⟩
theorem abM{f:Nat→Nat}{F:Nat→Option Nat}(hF:∀b,F (f b)=some b){c c1:CB}(h:Ep f c=some c1){z:Nat × Bool × List (List AV)}(hz:Aw c=some z):Stn F c1 z:=by
 cases c with
 |live st fl w rows=>
  simp[Aw]at hz;subst hz
  cases fl with
  |true=>simp[Ep]at h;subst h;exact⟨rows,rfl,fun _=>rfl,fun e=>by cases e⟩
  |false=>
   simp only[Ep,acA]at h
   obtain⟨r,hr,rfl⟩:=h
   exact⟨r,rfl,fun e=>(by cases e),fun _=>Pm (fun a b hab=>Pm (fun a b hab=>Pv hF hab) hab) hr⟩
 |frz st fl rows=>
  simp[Aw]at hz;subst hz
  cases fl with
  |true=>simp[Ep]at h;subst h;exact⟨rows,rfl,fun _=>rfl,fun e=>by cases e⟩
  |false=>
   simp only[Ep,acA]at h
   obtain⟨r,hr,rfl⟩:=h
   exact⟨r,rfl,fun e=>(by cases e),fun _=>Pm (fun a b hab=>Pm (fun a b hab=>Pv hF hab) hab) hr⟩
 |dead=>simp[Aw]at hz
 |lp=>simp[Aw]at hz
structure Kp(lent:List Nat)(H H1:Aa):Prop where
 len:H.length≤H1.length
 rows:∀b,b<H.length→(hf H1 b).bind Aw=(hf H b).bind Aw
 same:∀b,b<H.length→b∉lent→H1[b]?=H[b]?
theorem gC{H:Aa}:∀(l:List Nat) (G:Aa),G.length=H.length→(∀b,(hf G b).bind Aw=(hf H b).bind Aw)→
 (Az G (Bo (hf H) l)).length=H.length∧(∀b,(hf (Az G (Bo (hf H) l)) b).bind Aw=(hf H b).bind Aw)∧∀b,b∉l→(Az G (Bo (hf H) l))[b]?=G[b]?
 | [],G,h1,h2=>⟨h1,h2,fun _ _=>rfl⟩
 |a::l,G,h1,h2=>by
  unfold Bo
  have other:∀b,b∉a::l→b∉l:=fun b hb h=>hb (acD _ h)
  split
  ·rename_i st fl w rows ha
   have hlt:a<G.length:=by rw[h1];exact(adL.1 ha).1
   obtain⟨k1,k2,k3⟩:=gC (H:=H) l (G.set a (.frz st fl rows)) (by simp[h1]) (fun b=>by
    by_cases hb:a=b
    ·subst hb
     show((G.set a _)[a]?).bind Aw=_
     rw[al0 hlt,ha];rfl
    ·show((G.set a _)[b]?).bind Aw=_
     rw[akU hb];exact h2 b)
   refine⟨k1,k2,fun b hb=>?_⟩
   show(Az (G.set a _) _)[b]?=_
   rw[k3 b (other b hb),akU (fun e=>hb (by rw[←e];exact acE ..))]
  ·obtain⟨k1,k2,k3⟩:=gC l G h1 h2
   exact⟨k1,k2,fun b hb=>k3 b (other b hb)⟩
theorem rU{O:Do}{H:Aa}{f:Nat}{args vs:List AV}{v:AV}{h':Aa}(hh:pkd O f args)(ha:Am (aM H) args=some vs)(hp:vs.all (Aq 8)=true)
 (hc:O.call (.fn f) vs []=some (.ret v,h')) (h1:∀f,∃y,Ba 8 f v=some y) (h2:∀c∈h',vO c):
 ∃v1 es H1 F,cl O H (some (.func (.func f) [] [])) (some args)=some (.ret v1,es)∧Az H es=H1∧adW F (hf H1) (hf h')∧Dk 8 F v1=some v∧Kp (args.flatMap (Ap 12 (hf H))) H H1∧∀i b,F i=some b→H.length≤i:=by
 obtain⟨v1,e1⟩:=h1 (fun i=>H.length+i)
 obtain⟨ns,cs1,e2,e3,e4⟩:=jE (f:=fun i=>H.length+i) h2 H.length
 generalize hFF:(fun i=>if H.length≤i then some (i-H.length)else none:Nat→Option Nat)=F
 have hF:∀b,F (H.length+b)=some b:=fun b=>by rw[←hFF];simp
 have key:∃fz:List Ab,cl O H (some (.func (.func f) [] [])) (some args)=some (.ret v1,fz++ns)∧(fz=[]∨fz=Bo (hf H) (args.flatMap (Ap 12 (hf H)))):=by
  rw[zZ hh,yO ha hp,hc]
  refine⟨_,by simp only[vP,acC,Db.v,e1,e2,acF,Db.map];rfl,?_⟩
  split
  ·exact .inl rfl
  ·exact .inr rfl
 obtain⟨fz,ec,hfz⟩:=key
 have hK:(Az H fz).length=H.length∧(∀b,(hf (Az H fz) b).bind Aw=(hf H b).bind Aw)∧∀b,b∉args.flatMap (Ap 12 (hf H))→(Az H fz)[b]?=H[b]?:=by
  rcases hfz with rfl|rfl
  ·exact⟨rfl,fun _=>rfl,fun _ _=>rfl⟩
  ·exact gC _ H rfl (fun _=>rfl)
 obtain⟨k1,k2,k3⟩:=hK
 have hap:Az H (fz++ns)=Az H fz++cs1:=by rw[Ru,e3]
 refine⟨v1,_,_,F,ec,hap,fun i b hi z hz=>?_,Pv hF e1,⟨by simp[k1],fun b hb=>?_,fun b hb hl=>?_⟩,fun i b hi=>?_⟩
 ·rw[←hFF]at hi;simp only at hi
  split at hi
  ·rename_i hle
   simp only[agR.injEq]at hi
   obtain⟨c,hcc,hcz⟩:=acB.1 hz
   obtain⟨c1,g1,g2⟩:=Nh e4 (show h'[b]?=some c from hcc)
   obtain⟨rows',r1,r2,r3⟩:=abM hF g2 hcz
   refine⟨rows',?_,r2,r3⟩
   show((Az H fz++cs1)[i]?).bind Aw=_
   rw[alC (by omega),k1,hi,g1]
   exact r1
  ·cases hi
 ·rw[←k2 b]
  show((Az H fz++cs1)[b]?).bind Aw=_
  rw[ahG (by omega)];rfl
 ·rw[ahG (by omega)];exact k3 b hl
 ·rw[←hFF]at hi;simp only at hi
  split at hi
  ·assumption
  ·cases hi
end Go.Ev
namespace Go.Ev
noncomputable section
open Go.RowKit
theorem vM{C:R→Prop}{r r':R}[n:NoN C](k:C r')(e:Dw r r':=by first|exact dw 1|exact dw 3):C r:=e.dr n.no k
theorem iE{g:HF}(f:Nat→Nat):∀{d e:Nat} {v:AV} {p:AV × List Nat},d≤e→rd d g v=some p→∃y,Ba e f v=some y
 |0,e,v,p,_,h=>by simp[rd]at h
 |d+1,0,v,p,he,h=>by omega
 |d+1,e+1,v,p,he,h=>by
  have L:∀{l:List AV} {q:List AV × List Nat},Qw (rd d g) l=some q→∃y,Am (Ba e f) l=some y:=fun {l}=>by
   induction l with
   |nil=>exact fun _=>⟨[],rfl⟩
   |cons a l ih=>
    intro q h
    simp only[Qw,acB,acA]at h
    obtain⟨b,hb,c,hc,_⟩:=h
    obtain⟨y,hy⟩:=iE f (show d≤e by omega) hb
    obtain⟨ys,hys⟩:=ih hc
    exact⟨y::ys,by simp[Am,hy,hys]⟩
  cases v with
  |agg cs=>simp only[rd,acA]at h;obtain⟨_,h,_⟩:=h;obtain⟨y,hy⟩:=L h;exact⟨.agg y,by simp[Ba,hy]⟩
  |iface t x=>simp only[rd,acA]at h;obtain⟨_,h,_⟩:=h;obtain⟨y,hy⟩:=iE f (show d≤e by omega) h;exact⟨.iface t y,by simp[Ba,hy]⟩
  |func fn a b=>
   cases a<;>cases b<;>first|exact⟨_,rfl⟩|(simp[rd]at h)
  |tup cs=>simp[rd]at h
  |_=>exact⟨_,rfl⟩
theorem aO{g:HF}:∀{d e:Nat} {v:AV} {p:AV × List Nat},d≤e→rd d g v=some p→Eo e g v=some p.1
 |0,e,v,p,_,h=>by simp[rd]at h
 |d+1,0,v,p,he,h=>by omega
 |d+1,e+1,v,p,he,h=>by
  cases v with
  |slr st b r len=>exact aS (pW he h)
  |agg cs=>
   simp only[rd,acA]at h
   obtain⟨q,hq,rfl⟩:=h
   simp[Eo,Xg (f':=Eo e g) hq (fun x _ q' hx=>aO (show d≤e by omega) hx)]
  |iface t x=>
   simp only[rd,acA]at h
   obtain⟨q,hq,rfl⟩:=h
   simp[Eo,aO (show d≤e by omega) hq]
  |func fn a b=>cases a<;>cases b<;>first|(simp[rd]at h;subst h;rfl)|(simp[rd]at h)
  |_=>first|(simp[rd]at h;subst h;rfl)|(simp[rd]at h)
theorem yG{e:Nat}{F:Nat→Option Nat}{v:AV}{outs:List AV}(h:Dk (e+1) F v=some (.tup outs)):∃o,v=.tup o∧Am (Dk e F) o=some outs:=by
 cases v with
 |tup cs=>simp[Dk]at h;exact⟨_,rfl,h⟩
 |func fn a b=>simp only[Dk,acB,acA]at h;obtain⟨_,_,_,_,h⟩:=h;cases h
 |_=>simp[Dk]at h
theorem ah1{e:Nat}{vs:List AV}{R:List Nat}(h:SpL e vs R):Sp (e+1) (.tup vs) R:=fun m=>by
 obtain⟨l',m',a1,a2,a3⟩:=h m
 exact⟨.tup l',m',by simp[Bz,a1],a2,fun F hF=>by simp[Dk,a3 F hF]⟩
def RdV(O:Do)(f:Nat)(vs:List AV)(x:AV)(k:Nat):Prop:=
 ∃v h' R,O.call (.fn f) vs []=some (.ret v,h')∧rd 6 (hf h') v=some (x,R)∧R.length≤k∧∀c∈h',vO c
theorem RdV.cl{O:Do}{f:Nat}{vs:List AV}{x:AV}{k:Nat}(K:RdV O f vs x k){H:Aa}{args:List AV}(hh:pkd O f args)(ha:Am (aM H) args=some vs)(hp:vs.all (Aq 8)=true):
 ∃v es H1 R,cl O H (some (.func (.func f) [] [])) (some args)=some (.ret v,es)∧Az H es=H1∧Kp (args.flatMap (Ap 12 (hf H))) H H1∧rd 6 (hf H1) v=some (x,R)∧R.length≤k∧∀b∈R,H.length≤b:=by
 obtain⟨v,h',R,hc,hr,hk,hn⟩:=K
 obtain⟨v1,es,H1,F,e1,e2,e3,e4,e5,e6⟩:=rU hh ha hp hc (fun f=>iE f (show 6≤8 by omega) hr) hn
 obtain⟨R',k1,k2,k3⟩:=iM e3 e4 hr
 exact⟨v1,es,H1,R',e1,e2,e5,k1,by rw[k2];exact hk,fun b hb=>by obtain⟨c,hc⟩:=k3 b hb;exact e6 b c hc⟩
theorem jK{O:Do}{H:Aa}{f:Nat}{args vs:List AV}{v:AV}(hh:pkd O f args)(ha:Am (aM H) args=some vs)(hp:vs.all (Aq 8)=true)(hc:O.call (.fn f) vs []=some (.ret v,[]))(h1:Aq 8 v=true)(h2:hasImm 8 v=false):
 cl O H (some (.func (.func f) [] [])) (some args)=some (.ret v,[]):=by
 rw[zZ hh,yO ha hp,hc,fN,if_pos ⟨h1,h2⟩]
theorem yR{h:Aa}{v x:AV}{R:List Nat}{Q:Db→Aa→Prop}(h1:rd 6 (hf h) v=some (x,R))(hR:R.length<5000)
 (q:∀v' h' R',rd 6 (hf h') v'=some (x,R')→R'.length=R.length→(∀c∈h',vO c)→Q (.ret v') h'):Rt 0 (some [v]) h Q:=by
 obtain⟨v',cs,F,e1,e2,e3,e4⟩:=abG (sp (e:=8) (by omega) h1) (lU (by omega) h1) hR
 obtain⟨R',k1,k2,_⟩:=iM e2 e3 h1
 exact⟨_,_,by simp[tG,Ky,e1],q _ _ _ k1 k2 e4⟩
theorem Dp{C:R→Prop}[n:NoN C]{r:R}(h:∀K:R→Prop,NoN K→(∀x,C x→K x)→K r):C r:=h C n fun _ h=>h
theorem bK{v:AV}{H:Aa}{b:Nat}(l:List CB)(hb:b<H.length)(hv:∀a c r m,v=.slr a c r m→c≠b):(kl 0 v H++l)[b]?=H[b]?:=by
 rw[ahG (by rw[fK];exact hb)]
 unfold kl
 split
 ·rename_i a c r m
  rw[akU];simpa using hv a c r m rfl
 ·rfl
theorem aT{H:Aa}{b:Nat}{z:Nat × Bool × List (List AV)}(h:(hf H b).bind Aw=some z):b<H.length:=by
 obtain⟨c,hc,_⟩:=acB.1 h
 exact(adL.1 hc).1
theorem alI{l:List Nat}{H H1:Aa}(K:Kp l H H1){d:Nat}{v:AV}{p:AV × List Nat}(hd:d≤9)(h:rd d (hf H) v=some p):rd d (hf H1) v=some p:=
 Yi h fun b hb z hz=>by rw[K.rows b (aT hz)];exact hz
theorem ac7{g g':HF}{d:Nat}{l:List AV}{p:List AV × List Nat}(h:Qw (rd d g) l=some p)(ha:Agr p.2 g g'):Qw (rd d g') l=some p:=
 Sv h fun _ _ _ hq hs=>Yi hq fun b hb=>ha b (hs b hb)
theorem bJ{g g':HF}{d:Nat}{l:List (List AV)}{p:List (List AV) × List Nat}(h:Bm (rd d g) l=some p)(ha:Agr p.2 g g'):Bm (rd d g') l=some p:=
 Ob h fun _ _ _ _ _ hq hs=>Yi hq fun b hb=>ha b (hs b hb)
theorem aiU{H:Aa}{d:Nat}{l:List AV}{p:List AV × List Nat}(hd:d≤9)(h:Qw (rd d (hf H)) l=some p):∀b∈p.2,b<H.length:=fun b hb=>by
 obtain⟨z,hz,_⟩:=clL h (fun x _ q hx=>lU hd hx) b hb
 exact aT hz
theorem fC{H:Aa}{d:Nat}{l:List (List AV)}{p:List (List AV) × List Nat}(hd:d≤9)(h:Bm (rd d (hf H)) l=some p):∀b∈p.2,b<H.length:=fun b hb=>by
 obtain⟨z,hz,_⟩:=clR h (fun r _ x _ q hx=>lU hd hx) b hb
 exact aT hz
theorem bB{f:AV→Option (AV × List Nat)}:∀{l:List (List AV)} {p:List (List AV) × List Nat},Bm f l=some p→l.length=p.1.length
 | [],p,h=>by simp[Bm]at h;subst h;rfl
 |a::l,p,h=>by
  simp only[Bm,acB,acA]at h
  obtain⟨q,hq,r,hr,rfl⟩:=h
  simp[bB hr]
theorem bM{f:AV→Option (AV × List Nat)}:∀{l:List (List AV)} {p:List (List AV) × List Nat} {i:Nat} {X:List AV},Bm f l=some p→p.1[i]?=some X→∃r R,l[i]?=some r∧Qw f r=some (X,R)
 | [],p,i,X,h,hx=>by simp[Bm]at h;subst h;simp at hx
 |a::l,p,i,X,h,hx=>by
  simp only[Bm,acB,acA]at h
  obtain⟨q,hq,r,hr,rfl⟩:=h
  cases i with
  |zero=>simp at hx;subst hx;exact⟨a,q.2,rfl,hq⟩
  |succ i=>simp at hx;obtain⟨r',R',k1,k2⟩:=bM hr hx;exact⟨r',R',by simpa using k1,k2⟩
theorem qY{f:AV→Option (AV × List Nat)}:∀{l:List AV} {p:List AV × List Nat},Qw f l=some p→l.length=p.1.length
 | [],p,h=>by simp[Qw]at h;subst h;rfl
 |a::l,p,h=>by
  simp only[Qw,acB,acA]at h
  obtain⟨q,hq,r,hr,rfl⟩:=h
  simp[qY hr]
theorem jA{f:AV→Option (AV × List Nat)}{l xs:List AV}{x:AV}{R:List Nat}(h:Qw f l=some (x::xs,R)):∃a l' R1 R2,l=a::l'∧f a=some (x,R1)∧Qw f l'=some (xs,R2)∧R=R1++R2:=by
 cases l with
 |nil=>simp[Qw]at h
 |cons a l=>
  simp only[Qw,acB,acA]at h
  obtain⟨q,hq,r,hr,he⟩:=h
  simp only[Prod.mk.injEq,List.cons.injEq]at he
  obtain⟨⟨rfl,rfl⟩,rfl⟩:=he
  exact⟨a,l,q.2,r.2,rfl,hq,hr,rfl⟩
theorem rZ{f:AV→Option (AV × List Nat)}{l:List AV}{R:List Nat}(h:Qw f l=some ([],R)):l=[]∧R=[]:=by
 cases l with
 |nil=>simp[Qw]at h;exact⟨rfl,h⟩
 |cons a l=>have:=qY h;simp at this
theorem gG{g:HF}{d st:Nat}{fl nn:Bool}{v:AV}{rows:List (List AV)}{R:List Nat}(h:rd (d+1) g v=some (Bv st fl nn rows,R)):v.isCell=true∧v.flat=false:=by
 have hs:Bv st fl nn rows=.nils∨∃r,Bv st fl nn rows=.imm st fl r:=by
  cases rows with
  |nil=>cases nn with
   |true=>exact .inr ⟨_,rfl⟩
   |false=>exact .inl rfl
  |cons=>exact .inr ⟨_,rfl⟩
 generalize Bv st fl nn rows=X at h hs
 cases v with
 |func fn a b=>cases a<;>cases b<;>first|exact⟨rfl,rfl⟩|(simp[rd]at h)
 |agg cs=>simp only[rd,acA]at h;obtain⟨_,_,h⟩:=h;simp only[Prod.mk.injEq]at h;obtain⟨h,_⟩:=h;subst h;rcases hs with hs|⟨_,hs⟩<;>cases hs
 |ptr b r o=>exact⟨rfl,rfl⟩
 |yl b=>exact⟨rfl,rfl⟩
 |mapr b=>exact⟨rfl,rfl⟩
 |itr b=>exact⟨rfl,rfl⟩
 |tup cs=>simp[rd]at h
 |bool b=>simp[rd]at h;obtain⟨h,_⟩:=h;subst h;rcases hs with hs|⟨_,hs⟩<;>cases hs
 |int k n=>simp[rd]at h;obtain⟨h,_⟩:=h;subst h;rcases hs with hs|⟨_,hs⟩<;>cases hs
 |str s=>simp[rd]at h;obtain⟨h,_⟩:=h;subst h;rcases hs with hs|⟨_,hs⟩<;>cases hs
 |_=>exact⟨rfl,rfl⟩
theorem bU{g:HF}{d st:Nat}{fl nn:Bool}{v:AV}{rows:List (List AV)}{R:List Nat}(h:rd (d+1) g v=some (Bv st fl nn rows,R)):
 (v=.nils∧rows=[])∨∃b rows',v=.slr st b 0 rows.length∧(g b).bind Aw=some (st,fl,rows')∧rows'.length=rows.length∧(fl=true→rows'=rows)∧(fl=false→∃R',Bm (rd d g) rows'=some (rows,R')):=by
 have hs:(Bv st fl nn rows=.nils∧rows=[])∨Bv st fl nn rows=.imm st fl rows:=by
  cases rows with
  |nil=>cases nn with
   |true=>exact .inr rfl
   |false=>exact .inl ⟨rfl,rfl⟩
  |cons=>exact .inr rfl
 generalize Bv st fl nn rows=X at h hs
 cases v with
 |nils=>simp[rd]at h;obtain⟨rfl,_⟩:=h;rcases hs with⟨_,hs⟩|hs
        ·exact .inl ⟨rfl,hs⟩
        ·cases hs
 |slr st' b r len=>
  simp only[rd,acB]at h
  obtain⟨z,hz,h⟩:=h
  split at h
  ·rename_i hq
   obtain⟨q1,rfl,q3⟩:=hq
   obtain⟨z1,z2,z3⟩:=z
   simp only at q1 q3 h
   subst q1
   cases z2 with
   |true=>
    simp at h
    obtain⟨rfl,_⟩:=h
    rcases hs with⟨hs,_⟩|hs
    ·cases hs
    ·cases hs
     exact .inr ⟨b,_,by rw[q3],acB.2 hz,rfl,fun _=>rfl,fun e=>by cases e⟩
   |false=>
    simp only[cond_false,acA]at h
    obtain⟨q,hq,he⟩:=h
    simp only[Prod.mk.injEq]at he
    obtain⟨rfl,_⟩:=he
    rcases hs with⟨hs,_⟩|hs
    ·cases hs
    ·cases hs
     have hl:z3.length=q.1.length:=bB hq
     exact .inr ⟨b,z3,by rw[q3,hl],acB.2 hz,hl,fun e=>(by cases e),fun _=>⟨q.2,hq⟩⟩
  ·cases h
 |func fn a b=>cases a<;>cases b<;>simp[rd]at h<;>(obtain⟨rfl,_⟩:=h;rcases hs with⟨hs,_⟩|hs<;>cases hs)
 |agg cs=>simp only[rd,acA]at h;obtain⟨_,_,h⟩:=h;simp only[Prod.mk.injEq]at h;obtain⟨rfl,_⟩:=h;rcases hs with⟨hs,_⟩|hs<;>cases hs
 |iface t x=>simp only[rd,acA]at h;obtain⟨_,_,h⟩:=h;simp only[Prod.mk.injEq]at h;obtain⟨rfl,_⟩:=h;rcases hs with⟨hs,_⟩|hs<;>cases hs
 |ptr b r o=>simp[rd]at h
 |yl b=>simp[rd]at h
 |mapr b=>simp[rd]at h
 |itr b=>simp[rd]at h
 |tup cs=>simp[rd]at h
 |imm=>simp[rd]at h
 |iptr=>simp[rd]at h
 |_=>simp[rd]at h;obtain⟨rfl,_⟩:=h;rcases hs with⟨hs,_⟩|hs<;>cases hs
theorem acY{H:Aa}{b st:Nat}{fl:Bool}{rows:List (List AV)}(h:(hf H b).bind Aw=some (st,fl,rows))(i:Nat):Ny (H[b]?) i=rows[i]?:=by
 obtain⟨c,hc,hz⟩:=acB.1 h
 rw[show H[b]?=some c from hc]
 cases c<;>simp[Aw]at hz<;>(obtain⟨_,_,rfl⟩:=hz;rfl)
theorem zY{n:Nat}{rows:List (List AV)}{v:AV}{H:Aa}(ho:aeM 0 n false rows v H){d:Nat}{q:List (List AV) × List Nat}(hq:Bm (rd d (hf H)) rows=some q)(hn:rows=[]→v=.nils):
 ∃R,rd (d+1) (hf H) v=some (Bv n false false q.1,R)∧R.length≤1+q.2.length:=by
 rcases ho with⟨rfl,rfl⟩|⟨b,w,rfl,hb⟩
 ·simp[Bm]at hq;subst hq;exact⟨[],by simp[rd,Bv],by simp⟩
 ·have hne:rows≠[]:=fun e=>by have:=hn e;cases this
  have hb':(hf H (b+0)).bind Aw=some (n,false,rows):=by show(H[b]?).bind Aw=_;rw[hb];rfl
  refine⟨(b+0)::q.2,?_,by simp;omega⟩
  simp only[rd,hb',acC,if_true,and_self,cond_false,hq,acF]
  have hl:q.1≠[]:=fun e=>by
   cases rows with
   |nil=>exact hne rfl
   |cons r rs=>
    simp only[Bm,acB,acA]at hq
    obtain⟨_,_,_,_,rfl⟩:=hq
    cases e
  cases hq1:q.1 with
  |nil=>exact absurd hq1 hl
  |cons r rs=>rfl
theorem anI{g:HF}{d st b n:Nat}{rows:List (List AV)}(h:(g b).bind Aw=some (st,true,rows))(hn:n=rows.length):rd (d+1) g (.slr st b 0 n)=some (.imm st true rows,[b]):=by
 subst hn;simp[rd,h]
theorem xE{f:AV→Option (AV × List Nat)}:Qw f []=some ([],[]):=rfl
theorem nZ{f:AV→Option (AV × List Nat)}{a x:AV}{l xs:List AV}{R1 R2:List Nat}(h1:f a=some (x,R1))(h2:Qw f l=some (xs,R2)):Qw f (a::l)=some (x::xs,R1++R2):=by simp[Qw,h1,h2]
theorem wB{x:Option (List AV)}{vs:List AV}{h:Aa}{Q:Db→Aa→Prop}(hx:x=some vs)(k:Rt 0 (some vs) h Q):Rt 0 x h Q:=hx▸k
theorem RdV.of{O:Do}{f:Nat}{vs:List AV}{x:AV}{k:Nat}(h:vL O f vs [] fun o h'=>∃v R,o=.ret v∧rd 6 (hf h') v=some (x,R)∧R.length≤k∧∀c∈h',vO c):RdV O f vs x k:=by
 obtain⟨o,h',e,v,R,rfl,k1,k2,k3⟩:=h
 exact⟨v,h',R,e,k1,k2,k3⟩
theorem Zn{f:AV→Option (AV × List Nat)}:∀{l:List (List AV)} {p:List (List AV) × List Nat} {r:List AV} {q:List AV × List Nat},Bm f l=some p→Qw f r=some q→Bm f (l++[r])=some (p.1++[q.1],p.2++q.2)
 | [],p,r,q,h,hr=>by simp[Bm]at h;subst h;simp[Bm,hr]
 |a::l,p,r,q,h,hr=>by
  simp only[Bm,acB,acA]at h
  obtain⟨q1,hq1,r1,hr1,rfl⟩:=h
  simp[Bm,hq1,Zn hr1 hr]
end
noncomputable section
open Go.RowKit
section
variable {P:Program} {O:Do}
def slx(P:Program)(ty:TypeId)(a:Option AV)(l h:Option (Option AV)):OE:=r1 (a.bind fun a=>l.bind fun l=>h.bind fun h=>Yo P ty a l h)
theorem aaX(t:List AV)(h:Aa)(ty:TypeId)(x:Operand)(lo hi:Option Operand):Dt O P t h (.slice ty x lo hi none)=slx P ty (Ad t x) (Xt t lo) (Xt t hi):=by
 rw[Cj _ _ _ rfl]
 simp only[exec,slx]
 cases Ad t x with
 |none=>rfl
 |some a=>
  cases Xt t lo with
  |none=>rfl
  |some l=>
   cases Xt t hi with
   |none=>rfl
   |some h=>exact Eu _
def oS(x:Option AV):Option (Option AV):=x.map some
theorem aeC(v:AV):oS (some v)=some (some v):=ab9 rfl rfl
theorem sL(t:List AV):Xt t none=some none:=ab9 rfl rfl
theorem sX(t:List AV)(x:Operand):Xt t (some x)=oS (Ad t x):=ab9 rfl rfl
end
end
noncomputable section
set_option maxRecDepth 100000
section
variable {P:Program} {G:Nat→Option Obj}
end
section
variable {P:Program}
end
structure Ent where
 f:Nat
 args:List AV
 res:Db × Aa
def EVu:=PLift.up (ab8 @aaX (ab8 @sL (ab8 @sX @aeC)))
end
noncomputable section
section
variable {α:Type}
end
end
section
def Gk:Aa→Aa→Aa
 | [],h'=>h'
 |c₀::h,[]=>c₀::h
 |c₀::h,c::h'=>(bif c₀.quiet c then c₀ else c.mark)::Gk h h'
def eA(h h':Aa):Prop:=h.length≤h'.length∧∀(i:Nat) (c₀ c:CB),h[i]?=some c₀→h'[i]?=some c→c₀.quiet c=true∨c₀.isLive=true
theorem Oe:∀(h h' pre:Aa),eA h h'→∃es,Cd pre.length h h'=some es∧Az (pre++h) es=pre++Gk h h'
 | [],h',pre,_=>⟨_,rfl,by simp[eV,Gk]⟩
 |c₀::h,[],pre,ok=>by simp[eA]at ok
 |c₀::h,c::h',pre,ok=>by
  have ok':eA h h':=⟨by simpa using ok.1,fun i a b h1 h2=>ok.2 (i+1) a b (by simpa using h1) (by simpa using h2)⟩
  cases hq:c₀.quiet c with
  |true=>
   obtain⟨es,e1,e2⟩:=Oe h h' (pre++[c₀]) ok'
   refine⟨es,?_,?_⟩
   ·simp only[Cd,hq,cond_true]
    simpa using e1
   ·simpa [Gk,hq]using e2
  |false=>
   have hl:c₀.isLive=true:=by
    rcases ok.2 0 c₀ c rfl rfl with h|h
    ·rw[hq]at h;cases h
    ·exact h
   obtain⟨es,e1,e2⟩:=Oe h h' (pre++[c.mark]) ok'
   refine⟨.put pre.length c.mark::es,?_,?_⟩
   ·simp only[Cd,hq,hl,cond_false,cond_true]
    simp only[ak4,ajX,ak6]at e1
    rw[e1];rfl
   ·simp only[Az,Ji,Gk,hq,cond_false]
    have:(pre++c₀::h).set pre.length c.mark=(pre++[c.mark])++h:=by simp
    rw[this,e2];simp
theorem Ju:∀{h h':Aa},h.length≤h'.length→(Gk h h').length=h'.length
 | [],h',_=>rfl
 |c₀::h,[],hl=>by simp at hl
 |c₀::h,c::h',hl=>by simp[Gk,Ju (h:=h) (h':=h') (by simpa using hl)]
theorem Gm:∀{h h':Aa} {i:Nat} {c₀ c:CB},h[i]?=some c₀→h'[i]?=some c→c₀.quiet c=true→(Gk h h')[i]?=some c₀
 | [],h',i,c₀,c,h1,_,_=>by simp at h1
 |a::h,[],i,c₀,c,_,h2,_=>by simp at h2
 |a::h,b::h',0,c₀,c,h1,h2,hq=>by
  simp at h1 h2;subst h1 h2;simp[Gk,hq]
 |a::h,b::h',i+1,c₀,c,h1,h2,hq=>by
  simp at h1 h2;simpa [Gk]using Gm h1 h2 hq
theorem Lt:∀{h h':Aa} {i:Nat} {c₀ c:CB},h[i]?=some c₀→h'[i]?=some c→c₀.quiet c=false→(Gk h h')[i]?=some c.mark
 | [],h',i,c₀,c,h1,_,_=>by simp at h1
 |a::h,[],i,c₀,c,_,h2,_=>by simp at h2
 |a::h,b::h',0,c₀,c,h1,h2,hq=>by
  simp at h1 h2;subst h1 h2;simp[Gk,hq]
 |a::h,b::h',i+1,c₀,c,h1,h2,hq=>by
  simp at h1 h2;simpa [Gk]using Lt h1 h2 hq
theorem aW:∀{h h':Aa} {i:Nat},h.length≤h'.length→h.length≤i→(Gk h h')[i]?=h'[i]?
 | [],h',i,_,_=>rfl
 |a::h,[],i,hl,_=>by simp at hl
 |a::h,b::h',0,_,hi=>by simp at hi
 |a::h,b::h',i+1,hl,hi=>by
  simpa [Gk]using aW (h:=h) (h':=h') (i:=i) (by simpa using hl) (by simpa using hi)
theorem Bl{h:Aa}{i:Nat}{c:CB}(hc:h[i]?=some c):(Eg h)[i]?=some c.clean:=by simp[Eg,hc]
theorem As(h:Aa):(Eg h).length=h.length:=by simp[Eg]
theorem nN(c:CB):Aw c.clean=Aw c:=by cases c<;>rfl
theorem sS(c:CB):Aw c.mark=Aw c:=by cases c<;>rfl
theorem iJ{O:Do}{H:Aa}{f:Nat}{args:List AV}{Q:Db→Aa→Prop}(hd:aY args=true)(hm:O.md f=true)(K:oM O f args (Eg H) Q)(ok:∀o G,Q o G→eA H G):
 ∃o G es,cl O H (some (.func (.func f) [] [])) (some args)=some (o,es)∧Az H es=Gk H G∧Q o G:=by
 obtain⟨o,G,hc,hq⟩:=K
 obtain⟨es,e1,e2⟩:=Oe H G [] (ok o G hq)
 refine⟨o,G,es,?_,by simpa using e2,hq⟩
 rw[mR]
 simp only[ag5,ajU,hd,if_true,shC,hm,akZ,hc]
 rw[Vh]
 have e1':Cd 0 H G=some es:=e1
 rw[e1'];rfl
structure Rf(X:List Nat)(H H1:Aa):Prop where
 len:H.length≤H1.length
 same:∀b,b<H.length→b∉X→H1[b]?=H[b]?
theorem Rf.app(H l:Aa):Rf [] H (H++l):=⟨by simp,fun b hb _=>ahG hb⟩
theorem Rf.mono{X Y:List Nat}{H H1:Aa}(h:Rf X H H1)(hs:∀b∈X,b∈Y∨H.length≤b):Rf Y H H1:=
 ⟨h.len,fun b hb hn=>h.same b hb (fun hx=>by rcases hs b hx with h|h;exact hn h;omega)⟩
end
noncomputable section
open Go.RowKit
theorem afC{O:Do}{H:Aa}{f:Nat}{args:List AV}{o:Db}{l:Aa}(hd:aY args=true)(hm:O.md f=true)(hc:O.call (.sh f) args (Eg H)=some (o,Eg H++l))(hq:Ao H=true):
 cl O H (some (.func (.func f) [] [])) (some args)=some (o,Gt H.length l):=by
 rw[mR]
 simp only[ag5,ajU,hd,if_true,shC,hm,akZ,hc]
 rw[Vh,qN hq]
 simp
theorem ae2{O:Do}{H:Aa}{f:Nat}{args:List AV}{o:Db}(hd:aY args=true)(hm:O.md f=true)(hc:O.call (.sh f) args (Eg H)=some (o,Eg H))(hq:Ao H=true):
 cl O H (some (.func (.func f) [] [])) (some args)=some (o,[]):=by
 have:=afC (l:=[]) hd hm (by simpa using hc) hq
 simpa [Gt]using this
theorem Vr{H:Aa}(h:∀c∈H,c.quiet c.clean=true):Ao H=true:=by simp only[Ao,agY];exact h
theorem Bn{H:Aa}(h:Ao H=true){b:Nat}{c:CB}(hb:H[b]?=some c):c.quiet c.clean=true:=by
 simp only[Ao,agY]at h
 exact h c (afD hb)
theorem Bi{H l:Aa}(h:Ao H=true)(hl:Ao l=true):Ao (H++l)=true:=by
 simp only[Ao,agY,agW]at h hl ⊢
 exact fun c hc=>hc.elim (h c) (hl c)
theorem Ar{H:Aa}(h:Ao H=true)(b:Nat){c:CB}(hc:c.quiet c.clean=true):Ao (H.set b c)=true:=by
 simp only[Ao,agY]at h ⊢
 exact fun x hx=>(List.mem_or_eq_of_mem_set hx).elim (h x) (fun e=>e▸hc)
theorem jN{c:CB}(h:c.quiet c.clean=true):c.clean.quiet c.clean.clean=true:=by cases c<;>first|rfl|exact h
theorem Ft{H:Aa}(h:Ao H=true):Ao (Eg H)=true:=by
 simp only[Ao,Eg,agY,List.mem_map]at h ⊢
 rintro c ⟨c0,h0,rfl⟩
 exact jN (h c0 h0)
theorem bE{c:CB}(h:c.quiet c.clean=true):c.mark.quiet c.mark.clean=true:=by cases c<;>first|rfl|exact h
theorem Hy{H0 G:Aa}{X:List Nat}(hq:Ao H0=true)(K:Rf X (Eg H0) G)(hX:∀b∈X,b<H0.length∧∀c0 c,H0[b]?=some c0→G[b]?=some c→c0.isLive=true∧c0.quiet c=false):
 eA H0 G∧(Gk H0 G).length=G.length∧(∀b,H0.length≤b→(Gk H0 G)[b]?=G[b]?)∧(∀b,b<H0.length→b∉X→(Gk H0 G)[b]?=H0[b]?)∧(∀b∈X,∀c,G[b]?=some c→(Gk H0 G)[b]?=some c.mark):=by
 have hlen:H0.length≤G.length:=by have:=K.len;rwa[As]at this
 have old:∀b c0,H0[b]?=some c0→b∉X→G[b]?=some c0.clean:=fun b c0 h0 hb=>by
  rw[K.same b (by rw[As];exact(adL.1 h0).1) hb,Bl h0]
 refine⟨⟨hlen,fun b c0 c h0 h1=>?_⟩,Ju hlen,fun b hb=>aW hlen hb,fun b hb hn=>?_,fun b hb c hc=>?_⟩
 ·by_cases hb:b∈X
  ·exact .inr ((hX b hb).2 c0 c h0 h1).1
  ·rw[old b c0 h0 hb]at h1;cases h1
   exact .inl (Bn hq h0)
 ·obtain⟨c0,h0⟩:∃c,H0[b]?=some c:=⟨_,ajN hb⟩
  rw[h0];exact Gm h0 (old b c0 h0 hn) (Bn hq h0)
 ·obtain⟨h1,h2⟩:=hX b hb
  obtain⟨c0,h0⟩:∃c,H0[b]?=some c:=⟨_,ajN h1⟩
  exact Lt h0 hc (h2 c0 c h0 hc).2
theorem Ue{H0 G:Aa}{X:List Nat}(hq:Ao H0=true)(K:Rf X (Eg H0) G)(hX:∀b∈X,b<H0.length∧∀c0 c,H0[b]?=some c0→G[b]?=some c→c0.isLive=true∧c0.quiet c=false)(hg:Ao G=true):Ao (Gk H0 G)=true:=by
 obtain⟨_,k1,k2,k3,k4⟩:=Hy hq K hX
 refine Vr fun c hc=>?_
 obtain⟨b,hb⟩:=akV hc
 by_cases h1:b<H0.length
 ·by_cases h2:b∈X
  ·obtain⟨c1,h3⟩:∃c,G[b]?=some c:=⟨_,ajN (by rw[←k1];exact(adL.1 hb).1)⟩
   rw[k4 b h2 c1 h3]at hb;cases hb
   exact bE (Bn hg h3)
  ·rw[k3 b h1 h2]at hb;exact Bn hq hb
 ·rw[k2 b (by omega)]at hb;exact Bn hg hb
theorem vE{H0 G:Aa}{X:List Nat}(hq:Ao H0=true)(K:Rf X (Eg H0) G)(hX:∀b∈X,b<H0.length∧∀c0 c,H0[b]?=some c0→G[b]?=some c→c0.isLive=true∧c0.quiet c=false)(b:Nat):(hf (Gk H0 G) b).bind Aw=(hf G b).bind Aw:=by
 obtain⟨_,k1,k2,k3,k4⟩:=Hy hq K hX
 show((Gk H0 G)[b]?).bind Aw=(G[b]?).bind Aw
 by_cases h1:b<H0.length
 ·by_cases h2:b∈X
  ·cases h3:G[b]? with
   |none=>rw[alS]at h3;have h4:=K.len;rw[As]at h4;omega
   |some c1=>rw[k4 b h2 c1 h3];exact sS c1
  ·rw[k3 b h1 h2,K.same b (by rw[As];exact h1) h2]
   cases h3:H0[b]? with
   |none=>simp[Eg,h3]
   |some c=>rw[Bl h3];exact(nN c).symm
 ·rw[k2 b (by omega)]
end
theorem zV{e:Nat}{F:Nat→Option Nat}{v:AV}{st b r n:Nat}(h:Dk (e+1) F v=some (.slr st b r n)):∃b',v=.slr st b' r n∧F b'=some b:=by
 cases v with
 |slr st' b' r' n'=>
  simp only[Dk,acA]at h
  obtain⟨c,hc,h⟩:=h
  cases h
  exact⟨b',rfl,hc⟩
 |func fn x y=>
  simp only[Dk,acB,acA]at h
  obtain⟨_,_,_,_,h⟩:=h;cases h
 |_=>simp[Dk]at h
theorem yJ{e:Nat}{F:Nat→Option Nat}{v:AV}{k:IntKind}{n:Int}(h:Dk (e+1) F v=some (.int k n)):v=.int k n:=by
 cases v with
 |int k' n'=>simp only[Dk]at h;exact agR.inj h
 |func fn x y=>
  simp only[Dk,acB,acA]at h
  obtain⟨_,_,_,_,h⟩:=h;cases h
 |_=>simp[Dk]at h
theorem Vd{α β:Type}{f:α→Option β}{l:List α}{x:β}{xs:List β}(h:Am f l=some (x::xs)):∃a l',l=a::l'∧f a=some x∧Am f l'=some xs:=by
 cases l with
 |nil=>simp[Am]at h
 |cons a l=>
  simp only[Am,acB,acA]at h
  obtain⟨b,hb,bs,hbs,h⟩:=h
  cases h
  exact⟨a,l,rfl,hb,hbs⟩
theorem uQ{α β:Type}{f:α→Option β}{l:List α}(h:Am f l=some []):l=[]:=by
 cases l with
 |nil=>rfl
 |cons a l=>
  simp only[Am,acB,acA]at h
  obtain⟨b,hb,bs,hbs,h⟩:=h
  cases h
structure yL(x:AV)(st n:Nat)(rows:List (List AV))(k:IntKind)(z:Int)(N:Nat)(lo:Nat)(outs:List AV)(h:Aa):Prop where
 ex:∃v b R,outs=[v,.slr st b 0 n,.int k z]∧rd 6 (hf h) v=some (x,R)∧R.length=N∧(hf h b).bind Aw=some (st,true,rows)∧lo≤b∧∀j∈R,lo≤j
theorem rX{F:Nat→Option Nat}{G' G:Aa}(H:adW F (hf G') (hf G)){v' v x:AV}{R:List Nat}{st b n lo:Nat}{k:IntKind}{z:Int}{rows:List (List AV)}(ho:Dk 8 F v'=some (.tup [v,.slr st b 0 n,.int k z]))(h1:rd 6 (hf G) v=some (x,R))(hb:(hf G b).bind Aw=some (st,true,rows))(hlo:∀i c,F i=some c→lo≤i):
 ∃outs,v'=.tup outs∧yL x st n rows k z R.length lo outs G':=by
 obtain⟨o1,rfl,hq⟩:=yG ho
 clear ho
 obtain⟨a,l1,rfl,ha,hq1⟩:=Vd hq
 obtain⟨s,l2,rfl,hs,hq2⟩:=Vd hq1
 obtain⟨i,l3,rfl,hi,hq3⟩:=Vd hq2
 cases uQ hq3
 obtain⟨b',rfl,hF⟩:=zV hs
 cases yJ hi
 obtain⟨R',k1,k2,k3⟩:=iM H ha h1
 obtain⟨rows',r1,r2,_⟩:=H b' b hF _ hb
 cases r2 rfl
 exact⟨_,rfl,⟨a,b',R',rfl,k1,k2,r1,hlo _ _ hF,fun j hj=>by obtain⟨c,hc⟩:=k3 j hj;exact hlo _ _ hc⟩⟩
theorem akL{e st b r n:Nat}:Sp (e+1) (.slr st b r n) [b]:=fun m=>⟨.slr st (place m b).1 r n,(place m b).2,rfl,mC m b (by simp),fun F hF=>by simp[Dk,hF _ _ (Gj m b).1]⟩
theorem ajW{e:Nat}{k:IntKind}{n:Int}:Sp (e+1) (.int k n) []:=fun m=>⟨_,m,rfl,Gd.refl m [],fun _ _=>rfl⟩
theorem cX{e:Nat}{a:AV}{l:List AV}{R1 R2:List Nat}(h1:Sp e a R1)(h2:SpL e l R2):SpL e (a::l) (R1++R2):=fun m=>by
 obtain⟨x1,m1,a1,a2,a3⟩:=h1 m
 obtain⟨l1,m2,b1,b2,b3⟩:=h2 m1
 refine⟨x1::l1,m2,by simp[Bz.refL,a1,b1],a2.trans b2 (fun b hb=>agT _ hb) (fun b hb=>agU _ hb),fun F hF=>?_⟩
 simp[Am,a3 F (hF.mono b2.pre),b3 F hF]
theorem adZ{e:Nat}:SpL e [] []:=fun m=>⟨[],m,rfl,Gd.refl m [],fun _ _=>rfl⟩
theorem ag8{h:Aa}{v x:AV}{R:List Nat}{st b n:Nat}{k:IntKind}{z:Int}{rows:List (List AV)}{Q:Db→Aa→Prop}(h1:rd 6 (hf h) v=some (x,R))(hR:R.length<4000)(hb:(hf h b).bind Aw=some (st,true,rows))
 (q:∀outs h',yL x st n rows k z R.length 0 outs h'→(∀f,∃y,Ba 8 f (.tup outs)=some y)→(∀c∈h',vO c)→Q (.ret (.tup outs)) h'):Rt 0 (some [v,.slr st b 0 n,.int k z]) h Q:=by
 have hS:Sp 8 (.tup [v,.slr st b 0 n,.int k z]) (R++([b]++([]++[]))):=ah1 (e:=7) (cX (sp (by omega) h1) (cX akL (cX ajW adZ)))
 have hC:Cl (hf h) (R++([b]++([]++[]))):=(lU (by omega) h1).app (fun c hc=>by
  simp at hc;subst hc
  exact⟨_,hb,fun e=>by cases e⟩)
 obtain⟨v',cs,F,e1,e2,e3,e4⟩:=abG hS hC (by simp;omega)
 obtain⟨outs,rfl,hB⟩:=rX (lo:=0) e2 e3 h1 hb (fun _ _ _=>acI _)
 exact⟨_,_,by simp[tG,Ky,e1],q _ _ hB (fun f=>Ub f e3) e4⟩
theorem akS{O:Do}{H:Aa}{f:Nat}{args vs outs:List AV}{h':Aa}{x:AV}{st n N lo:Nat}{k:IntKind}{z:Int}{rows:List (List AV)}{E:OE}(hE:Ev.cl O H (some (.func (.func f) [] [])) (some args)=E)(hh:pkd O f args)(ha:Am (aM H) args=some vs)(hp:vs.all (Aq 8)=true)
 (hc:O.call (.fn f) vs []=some (.ret (.tup outs),h')) (hB:yL x st n rows k z N lo outs h') (h1:∀f,∃y,Ba 8 f (.tup outs)=some y) (h2:∀c∈h',vO c):
 ∃outs1 es H1,E=some (.ret (.tup outs1),es)∧Az H es=H1∧Kp (args.flatMap (Ap 12 (hf H))) H H1∧yL x st n rows k z N H.length outs1 H1:=by
 obtain⟨v1,es,H1,F,e1,e2,e3,e4,e5,e6⟩:=rU hh ha hp hc h1 h2
 obtain⟨v,b,R,rfl,r1,r2,r3,_,_⟩:=hB.ex
 obtain⟨o,rfl,hB2⟩:=rX (lo:=H.length) e3 e4 r1 r3 e6
 exact⟨o,es,H1,hE.symm.trans e1,e2,e5,by rw[r2]at hB2;exact hB2⟩
end Go.Ev
namespace Go.Ev
namespace Net
abbrev Edge:=Nat × Nat × Nat
inductive Nx(E:List Edge)(s:Nat):Nat→Nat→Nat→Prop
 |nil (n:Nat):Nx E s n s 0
 |fwd {n a b c k:Nat} (h:Nx E s n a k) (he:(a,b,c)∈E):Nx E s (n+1) b (k+c)
 |bwd {n a b c k:Nat} (h:Nx E s n b k) (he:(a,b,c)∈E):Nx E s (n+1) a (k+c)
def uF(E:List Edge)(u v c:Nat):Prop:=(u,v,c)∈E∨(v,u,c)∈E
theorem uF.symm{E:List Edge}{u v c:Nat}(h:uF E u v c):uF E v u c:=h.elim .inr .inl
theorem Nx.step{E:List Edge}{s n u v k c:Nat}(h:Nx E s n u k)(hs:uF E u v c):Nx E s (n+1) v (k+c):=hs.elim (fun e=>.fwd h e) (fun e=>.bwd h e)
theorem Nx.cases'{E:List Edge}{s n v k:Nat}(h:Nx E s n v k):(v=s∧k=0)∨∃m u j c,n=m+1∧Nx E s m u j∧uF E u v c∧k=j+c:=by
 cases h with
 |nil=>exact .inl ⟨rfl,rfl⟩
 |fwd h he=>exact .inr ⟨_,_,_,_,rfl,h,.inl he,rfl⟩
 |bwd h he=>exact .inr ⟨_,_,_,_,rfl,h,.inr he,rfl⟩
theorem Nx.more{E:List Edge}{s n v k:Nat}(h:Nx E s n v k):∀{m:Nat},n≤m→Nx E s m v k:=by
 induction h with
 |nil n=>exact fun _=>.nil _
 |fwd h he ih=>
  intro m hm
  obtain⟨m,rfl⟩:∃j,m=j+1:=⟨m-1,by omega⟩
  exact .fwd (ih (by omega)) he
 |bwd h he ih=>
  intro m hm
  obtain⟨m,rfl⟩:∃j,m=j+1:=⟨m-1,by omega⟩
  exact .bwd (ih (by omega)) he
def aU(E:List Edge)(s v k:Nat):Prop:=∃n,Nx E s n v k
theorem aU.step{E:List Edge}{s u v k c:Nat}(h:aU E s u k)(hs:uF E u v c):aU E s v (k+c):=by obtain⟨n,h⟩:=h;exact⟨_,h.step hs⟩
def Xj(E:List Edge)(s v k:Nat):Prop:=aU E s v k∧∀j,aU E s v j→k≤j
theorem least{p:Nat→Prop}:(∃n,p n)→∃n,p n∧∀j,p j→n≤j:=fun⟨n,hn⟩=>by
 induction n using Nat.strongRecOn with
 |ind n ih=>
  by_cases h:∃j,j<n∧p j
  ·obtain⟨j,h1,h2⟩:=h;exact ih j h1 h2
  ·exact⟨n,hn,fun j hj=>ak3 fun hlt=>h ⟨j,hlt,hj⟩⟩
theorem Xj.ex{E:List Edge}{s v k:Nat}(h:aU E s v k):∃j,Xj E s v j:=least ⟨k,h⟩
theorem Xj.eq{E:List Edge}{s v k j:Nat}(h1:Xj E s v k)(h2:Xj E s v j):k=j:=Nat.le_antisymm (h1.2 j h2.1) (h2.2 k h1.1)
def Rh(E:List Edge)(s n v:Nat):Prop:=∃k,Xj E s v k∧Nx E s n v k
theorem Rh.more{E:List Edge}{s n m v:Nat}(h:Rh E s n v)(hm:n≤m):Rh E s m v:=by obtain⟨k,h1,h2⟩:=h;exact⟨k,h1,h2.more hm⟩
theorem Rh.prev{E:List Edge}{s n v:Nat}(h:Rh E s (n+1) v):v=s∨∃u c k,Rh E s n u∧Xj E s u k∧uF E u v c∧Xj E s v (k+c):=by
 obtain⟨k,h1,h2⟩:=h
 rcases h2.cases' with⟨h,_⟩|⟨m,u,j,c,hm,hw,hs,rfl⟩
 ·exact .inl h
 ·cases hm
  have hl:Xj E s u j:=⟨⟨_,hw⟩,fun i hi=>by have:=h1.2 _ (hi.step hs);omega⟩
  exact .inr ⟨u,c,j,⟨j,hl,hw⟩,hl,hs,h1⟩
theorem Rh.next{E:List Edge}{s n u v c k:Nat}(h:Rh E s n u)(hu:Xj E s u k)(hs:uF E u v c)(hv:Xj E s v (k+c)):Rh E s (n+1) v:=by
 obtain⟨j,h1,h2⟩:=h
 cases h1.eq hu
 exact⟨_,hv,h2.step hs⟩
theorem Xj.src{E:List Edge}{s:Nat}:Xj E s s 0:=⟨⟨0,.nil 0⟩,fun j _=>acI j⟩
theorem Rh.src{E:List Edge}{s:Nat}(n:Nat):Rh E s n s:=⟨0,Xj.src,.nil n⟩
theorem Rh.stable{E:List Edge}{s n:Nat}(h:∀v,Rh E s (n+1) v→Rh E s n v):∀m v,Rh E s m v→Rh E s n v
 |0,v,hv=>hv.more (acI n)
 |m+1,v,hv=>by
  rcases hv.prev with rfl|⟨u,c,k,h1,h2,h3,h4⟩
  ·exact Rh.src n
  ·exact h v ((Rh.stable h m u h1).next h2 h3 h4)
noncomputable def aG(p:Nat→Prop):Nat→Nat
 |0=>0
 |N+1=>aG p N+(@ite Nat (p N) (Classical.propDecidable _) 1 0)
theorem oU(p:Nat→Prop):∀N,aG p N≤N
 |0=>acG 0
 |N+1=>by
  have:=oU p N
  unfold aG
  split<;>omega
theorem kP{p q:Nat→Prop}(h:∀v,p v→q v):∀N,aG p N≤aG q N
 |0=>acG 0
 |N+1=>by
  have:=kP h N
  unfold aG
  split
  ·rename_i h1;rw[if_pos (h _ h1)];omega
  ·split<;>omega
theorem pO{p q:Nat→Prop}(h:∀v,p v→q v){v:Nat}(hq:q v)(hp:¬p v):∀{N:Nat},v<N→aG p N+1≤aG q N
 |0,hv=>by omega
 |N+1,hv=>by
  unfold aG
  by_cases e:v=N
  ·subst e
   have:=kP h v
   rw[if_neg hp,if_pos hq];omega
  ·have:=pO h hq hp (N:=N) (by omega)
   split
   ·rename_i h1;rw[if_pos (h _ h1)];omega
   ·split<;>omega
theorem sB{p:Nat→Prop}{v:Nat}(hp:p v):∀{N:Nat},v<N→1≤aG p N
 |0,hv=>by omega
 |N+1,hv=>by
  unfold aG
  by_cases e:v=N
  ·subst e;rw[if_pos hp];omega
  ·have:=sB hp (N:=N) (by omega);split<;>omega
theorem adM{E:List Edge}{s N:Nat}(hs:s<N)(hE:∀a b c,(a,b,c)∈E→a<N∧b<N):∀m v,Rh E s m v→Rh E s (N-1) v:=by
 have lt:∀m v,Rh E s m v→v<N:=fun m=>by
  induction m with
  |zero=>
   intro v ⟨k,_,h⟩
   rcases h.cases' with⟨rfl,_⟩|⟨_,_,_,_,h,_⟩
   ·exact hs
   ·cases h
  |succ m ih=>
   intro v hv
   rcases hv.prev with rfl|⟨u,c,k,h1,h2,h3,h4⟩
   ·exact hs
   ·rcases h3 with h3|h3
    ·exact(hE _ _ _ h3).2
    ·exact(hE _ _ _ h3).1
 have grow:∀n,(∃k,k≤n∧∀v,Rh E s (k+1) v→Rh E s k v)∨n+1≤aG (Rh E s n) N:=fun n=>by
  induction n with
  |zero=>exact .inr (sB (Rh.src 0) hs)
  |succ n ih=>
   rcases ih with⟨k,h1,h2⟩|h
   ·exact .inl ⟨k,by omega,h2⟩
   ·by_cases e:∀v,Rh E s (n+1) v→Rh E s n v
    ·exact .inl ⟨n,by omega,e⟩
    ·obtain⟨v,hv⟩:=Classical.not_forall.1 e
     have h1:Rh E s (n+1) v:=Classical.byContradiction fun h=>hv fun h'=>(h h').elim
     have h2:¬Rh E s n v:=fun h=>hv fun _=>h
     have:=pO (p:=Rh E s n) (q:=Rh E s (n+1)) (fun v h=>h.more (Nat.le_succ n)) h1 h2 (lt _ v h1)
     exact .inr (by omega)
 intro m v hv
 rcases grow N with⟨k,h1,h2⟩|h
 ·by_cases e:k≤N-1
  ·exact(Rh.stable h2 m v hv).more e
  ·
   have hk:k=N:=by omega
   rcases grow (N-1)with⟨k',h1',h2'⟩|h'
   ·exact(Rh.stable h2' m v hv).more h1'
   ·exact Classical.byContradiction fun hn=>by
     have:=pO (p:=Rh E s (N-1)) (q:=fun _=>True) (fun _ _=>trivial) trivial hn (lt _ v hv)
     have:=oU (fun _=>True) N
     omega
 ·have:=oU (Rh E s N) N;omega
theorem Xj.lvl{E:List Edge}{s N v k:Nat}(hs:s<N)(hE:∀a b c,(a,b,c)∈E→a<N∧b<N)(h:Xj E s v k):Rh E s (N-1) v:=by
 obtain⟨n,hw⟩:=h.1
 exact adM hs hE n v ⟨k,h,hw⟩
theorem Nx.le{E:List Edge}{s n v k:Nat}(hc:∀a b c,(a,b,c)∈E→c≤1)(h:Nx E s n v k):k≤n:=by
 induction h with
 |nil=>omega
 |fwd h he ih=>have:=hc _ _ _ he;omega
 |bwd h he ih=>have:=hc _ _ _ he;omega
theorem Xj.le{E:List Edge}{s N v k:Nat}(hs:s<N)(hE:∀a b c,(a,b,c)∈E→a<N∧b<N)(hc:∀a b c,(a,b,c)∈E→c≤1)(h:Xj E s v k):k≤N-1:=by
 obtain⟨j,h1,h2⟩:=h.lvl hs hE
 cases h1.eq h
 exact h2.le hc
def Gz(E:List Edge)(s N far:Nat)(d:Nat→Nat):Prop:=∀v,v<N→(∀k,Xj E s v k→d v=k)∧((∀k,¬aU E s v k)→d v=far)
theorem xG{E:List Edge}{s N far:Nat}{d:Nat→Nat}(h0:d s=0)(hr:∀v,v<N→d v=far∨aU E s v (d v))(hc:∀u v c,uF E u v c→d v≤d u+c)(hf:∀v k,Xj E s v k→k<far):Gz E s N far d:=fun v hv=>by
 have le:∀n v k,Nx E s n v k→d v≤k:=fun n v k h=>by
  induction h with
  |nil=>omega
  |fwd h he ih=>have:=hc _ _ _ (.inl he);omega
  |bwd h he ih=>have:=hc _ _ _ (.inr he);omega
 refine⟨fun k hk=>?_,fun h=>?_⟩
 ·obtain⟨n,hn⟩:=hk.1
  have h1:=le n v k hn
  rcases hr v hv with h|h
  ·have:=hf v k hk;omega
  ·have:=hk.2 _ h;omega
 ·rcases hr v hv with h1|h1
  ·exact h1
  ·exact(h _ h1).elim
def Qh(d:List Nat)(e:Edge):List Nat:=(d.set e.2.1 (min (d.getD e.2.1 0) (d.getD e.1 0+e.2.2))).set e.1 (min (d.getD e.1 0) (d.getD e.2.1 0+e.2.2))
def acU(E:List Edge)(d:List Nat):List Nat:=E.foldl Qh d
def Lj(E:List Edge):Nat→List Nat→List Nat
 |0,d=>d
 |n+1,d=>Lj E n (acU E d)
theorem Vz(d:List Nat)(e:Edge):(Qh d e).length=d.length:=by simp[Qh]
theorem lC:∀(E:List Edge) (d:List Nat),(E.foldl Qh d).length=d.length
 | [],d=>rfl
 |e::E,d=>by rw[akW,lC E,Vz]
theorem yY(E:List Edge)(d:List Nat):(acU E d).length=d.length:=lC E d
theorem cT(E:List Edge):∀n d,(Lj E n d).length=d.length
 |0,d=>rfl
 |n+1,d=>by rw[Lj,cT E n,yY]
theorem Wi{d:List Nat}{i v x:Nat}(hi:i<d.length):(d.set i x).getD v 0=if i=v then x else d.getD v 0:=by
 simp only[al5]
 by_cases h:i=v
 ·subst h;rw[al0 hi,if_pos rfl];rfl
 ·rw[akU h,if_neg h]
theorem fY{d:List Nat}{a b c:Nat}(ha:a<d.length)(hb:b<d.length)(hab:a≠b)(v:Nat):(Qh d (a,b,c)).getD v 0=if v=a then min (d.getD a 0) (d.getD b 0+c)else if v=b then min (d.getD b 0) (d.getD a 0+c)else d.getD v 0:=by
 unfold Qh
 rw[Wi (by simpa using ha),Wi hb]
 by_cases h1:v=a
 ·subst h1;simp
 ·rw[if_neg (fun e=>h1 e.symm),if_neg h1]
  by_cases h2:v=b
  ·subst h2;simp
  ·rw[if_neg (fun e=>h2 e.symm),if_neg h2]
structure cC(E:List Edge)(s N far:Nat)(d:List Nat):Prop where
 len:d.length=N
 src:d.getD s 0=0
 real:∀v,v<N→d.getD v 0=far∨aU E s v (d.getD v 0)
 le:∀v,v<N→d.getD v 0≤far
theorem cC.one{E:List Edge}{s N far:Nat}{d:List Nat}(I:cC E s N far d){a b c:Nat}(he:(a,b,c)∈E)(ha:a<N)(hb:b<N)(hab:a≠b):cC E s N far (Qh d (a,b,c)):=by
 have hl:=I.len
 have at_:=fun v=>fY (d:=d) (c:=c) (by omega) (by omega) hab v
 have mn:∀u v,u<N→v<N→uF E u v c→(min (d.getD v 0) (d.getD u 0+c)=far∨aU E s v (min (d.getD v 0) (d.getD u 0+c))):=fun u v hu hv hs=>by
  have h1:=I.le v hv
  rcases Nat.le_total (d.getD v 0) (d.getD u 0+c)with h|h
  ·rw[Nat.min_eq_left h];exact I.real v hv
  ·rw[Nat.min_eq_right h]
   rcases I.real u hu with hh|hh
   ·left;omega
   ·exact .inr (hh.step hs)
 refine⟨by rw[Vz,hl],?_,fun v hv=>?_,fun v hv=>?_⟩
 ·rw[at_]
  have:=I.src
  split
  ·rename_i h;subst h;rw[this];simp
  ·split
   ·rename_i h;subst h;rw[this];simp
   ·exact this
 ·rw[at_]
  split
  ·rename_i h;subst h;exact mn b v hb hv (.inr he)
  ·split
   ·rename_i h;subst h;exact mn a v ha hv (.inl he)
   ·exact I.real v hv
 ·rw[at_]
  split
  ·rename_i h;subst h;have:=I.le v hv;omega
  ·split
   ·rename_i h;subst h;have:=I.le v hv;omega
   ·exact I.le v hv
def Zs(E:List Edge)(N:Nat):Prop:=∀a b c,(a,b,c)∈E→a<N∧b<N∧a≠b∧c≤1
theorem rL{d:List Nat}{a b c:Nat}(ha:a<d.length)(hb:b<d.length)(hab:a≠b)(v:Nat):(Qh d (a,b,c)).getD v 0≤d.getD v 0:=by
 rw[fY ha hb hab]
 split
 ·rename_i h;subst h;omega
 ·split
  ·rename_i h;subst h;omega
  ·exact acG _
theorem hU:∀{L:List Edge} {d:List Nat} {N:Nat},d.length=N→Zs L N→∀v,(L.foldl Qh d).getD v 0≤d.getD v 0
 | [],d,N,_,_,v=>acG _
 |(a,b,c)::L,d,N,hl,hE,v=>by
  have h:=hE a b c (acE ..)
  have h1:=hU (L:=L) (d:=Qh d (a,b,c)) (by rw[Vz,hl]) (fun a b c hm=>hE a b c (acD _ hm)) v
  have h2:=rL (d:=d) (c:=c) (by omega) (by omega) h.2.2.1 v
  rw[akW];omega
theorem nY{E:List Edge}{s N far:Nat}:∀{L:List Edge} {d:List Nat},(∀e∈L,e∈E)→Zs E N→cC E s N far d→cC E s N far (L.foldl Qh d)
 | [],d,_,_,I=>I
 |(a,b,c)::L,d,hs,hE,I=>by
  have he:=hs _ (acE ..)
  have h:=hE a b c he
  rw[akW]
  exact nY (L:=L) (fun e hm=>hs e (acD _ hm)) hE (I.one he h.1 h.2.1 h.2.2.1)
theorem dJ{N:Nat}:∀{L:List Edge} {d:List Nat},d.length=N→Zs L N→∀{u v c k:Nat},(u,v,c)∈L∨(v,u,c)∈L→d.getD u 0≤k→(L.foldl Qh d).getD v 0≤k+c
 | [],d,_,_,u,v,c,k,h,_=>by rcases h with h|h<;>cases h
 |(a,b,e)::L,d,hl,hE,u,v,c,k,h,hk=>by
  have q:=hE a b e (acE ..)
  have hE':Zs L N:=fun a b c hm=>hE a b c (acD _ hm)
  have hl':(Qh d (a,b,e)).length=N:=by rw[Vz,hl]
  have key:(u=a∧v=b∧c=e)∨(u=b∧v=a∧c=e)∨((u,v,c)∈L∨(v,u,c)∈L):=by
   rcases h with h|h
   ·rcases acH.1 h with h|h
    ·cases h;exact .inl ⟨rfl,rfl,rfl⟩
    ·exact .inr (.inr (.inl h))
   ·rcases acH.1 h with h|h
    ·cases h;exact .inr (.inl ⟨rfl,rfl,rfl⟩)
    ·exact .inr (.inr (.inr h))
  rw[akW]
  have at_:=fun v=>fY (d:=d) (c:=e) (by omega) (by omega) q.2.2.1 v
  rcases key with⟨rfl,rfl,rfl⟩|⟨rfl,rfl,rfl⟩|h
  ·have h1:=hU hl' hE' v
   rw[at_ v,if_neg (fun e=>q.2.2.1 e.symm),if_pos rfl]at h1
   omega
  ·have h1:=hU hl' hE' v
   rw[at_ v,if_pos rfl]at h1
   omega
  ·have h2:=rL (d:=d) (c:=e) (by omega) (by omega) q.2.2.1 u
   exact dJ hl' hE' h (by omega)
theorem Ys{E:List Edge}{s N far:Nat}(hE:Zs E N):∀(n:Nat) {d:List Nat},cC E s N far d→cC E s N far (Lj E n d)
 |0,d,I=>I
 |n+1,d,I=>Ys hE n (nY (fun _ h=>h) hE I)
theorem Xf(E:List Edge):∀(n:Nat) (d:List Nat),Lj E (n+1) d=acU E (Lj E n d)
 |0,d=>rfl
 |n+1,d=>by rw[Lj,Xf E n];rfl
theorem lW{E:List Edge}{s N far:Nat}(hE:Zs E N){d:List Nat}(I:cC E s N far d):∀(n:Nat) {v k:Nat},Rh E s n v→Xj E s v k→(Lj E n d).getD v 0≤k
 |0,v,k,⟨j,h1,h2⟩,hk=>by
  rcases h2.cases' with⟨rfl,rfl⟩|⟨_,_,_,_,h,_⟩
  ·rw[Lj,I.src];exact acI _
  ·cases h
 |n+1,v,k,hv,hk=>by
  rw[Xf]
  have J:=Ys hE n I
  rcases hv.prev with rfl|⟨u,c,j,h1,h2,h3,h4⟩
  ·have K:=Ys hE (n+1) I
   rw[Xf]at K
   rw[K.src];exact acI _
  ·cases h4.eq hk
   exact dJ J.len hE h3 (lW hE I n h1 h2)
theorem pL{E:List Edge}{s N far:Nat}(hs:s<N)(hE:Zs E N)(hf:N≤far){d:List Nat}(I:cC E s N far d){n:Nat}(hn:N-1≤n):Gz E s N far (fun v=>(Lj E n d).getD v 0):=fun v hv=>by
 have J:=Ys hE n I
 have hE1:∀a b c,(a,b,c)∈E→a<N∧b<N:=fun a b c h=>⟨(hE a b c h).1,(hE a b c h).2.1⟩
 have hE2:∀a b c,(a,b,c)∈E→c≤1:=fun a b c h=>(hE a b c h).2.2.2
 refine⟨fun k hk=>?_,fun h=>?_⟩
 ·have h1:=lW hE I n ((hk.lvl hs hE1).more hn) hk
  have h2:=hk.le hs hE1 hE2
  rcases J.real v hv with h|h
  ·simp only[h]at h1 ⊢;omega
  ·have:=hk.2 _ h;simp only;omega
 ·rcases J.real v hv with h1|h1
  ·exact h1
  ·exact(h _ h1).elim
end Net
end Go.Ev
namespace Go.Ev
namespace Net
structure Xs(E:List Edge)(s N far:Nat)(d q:List Nat)(X:Nat→Nat→Nat→Prop):Prop where
 i:cC E s N far d
 w:∀r∈q,r<N
 tr:∀u v c,uF E u v c→u∈q∨X u v c∨d.getD v 0≤d.getD u 0+c
def Pz(E:List Edge)(r i u v c:Nat):Prop:=u=r∧∃j,i≤j∧(E[j]?=some (r,v,c)∨E[j]?=some (v,r,c))
theorem Xs.take{E:List Edge}{s N far:Nat}{d q:List Nat}{r:Nat}(I:Xs E s N far d (r::q) (fun _ _ _=>False)):r<N∧Xs E s N far d q (Pz E r 0):=by
 refine⟨I.w r (acE ..),I.i,fun u hu=>I.w u (acD _ hu),fun u v c h=>?_⟩
 rcases I.tr u v c h with h1|h1|h1
 ·rcases acH.1 h1 with rfl|h1
  ·right;left
   refine⟨rfl,?_⟩
   rcases h with h|h
   ·obtain⟨j,hj⟩:=akV h;exact⟨j,acI j,.inl hj⟩
   ·obtain⟨j,hj⟩:=akV h;exact⟨j,acI j,.inr hj⟩
  ·exact .inl h1
 ·exact h1.elim
 ·exact .inr (.inr h1)
theorem Pz.next{E:List Edge}{r i u v c:Nat}(h:Pz E r i u v c):Pz E r (i+1) u v c∨(u=r∧(E[i]?=some (r,v,c)∨E[i]?=some (v,r,c))):=by
 obtain⟨h1,j,h2,h3⟩:=h
 by_cases e:i=j
 ·subst e;exact .inr ⟨h1,h3⟩
 ·exact .inl ⟨h1,j,by omega,h3⟩
theorem Xs.skip{E:List Edge}{s N far:Nat}{d q:List Nat}{r i a b c:Nat}(I:Xs E s N far d q (Pz E r i))(hi:E[i]?=some (a,b,c))(ha:r≠a)(hb:r≠b):Xs E s N far d q (Pz E r (i+1)):=by
 refine⟨I.i,I.w,fun u v c' h=>?_⟩
 rcases I.tr u v c' h with h1|h1|h1
 ·exact .inl h1
 ·rcases h1.next with h1|⟨_,h2|h2⟩
  ·exact .inr (.inl h1)
  ·rw[hi]at h2;cases h2;exact(ha rfl).elim
  ·rw[hi]at h2;cases h2;exact(hb rfl).elim
 ·exact .inr (.inr h1)
theorem Xs.same{E:List Edge}{s N far:Nat}{d q:List Nat}{r i t c:Nat}(I:Xs E s N far d q (Pz E r i))(hi:E[i]?=some (r,t,c)∨E[i]?=some (t,r,c))(hn:d.getD t 0≤d.getD r 0+c):Xs E s N far d q (Pz E r (i+1)):=by
 refine⟨I.i,I.w,fun u v c' h=>?_⟩
 rcases I.tr u v c' h with h1|h1|h1
 ·exact .inl h1
 ·rcases h1.next with h1|⟨rfl,h2⟩
  ·exact .inr (.inl h1)
  ·right;right
   rcases hi with h3|h3<;>rcases h2 with h2|h2<;>(rw[h3]at h2;cases h2;exact hn)
 ·exact .inr (.inr h1)
theorem Xs.less{E:List Edge}{s N far:Nat}{d q q':List Nat}{r i t c:Nat}(I:Xs E s N far d q (Pz E r i))(hr:r<N)(ht:t<N)(hrt:r≠t)(hi:E[i]?=some (r,t,c)∨E[i]?=some (t,r,c))(hn:d.getD r 0+c<d.getD t 0)(hq:∀x,x∈q'↔x=t∨x∈q):Xs E s N far (d.set t (d.getD r 0+c)) q' (Pz E r (i+1)):=by
 have hl:=I.i.len
 have at_:=fun v=>Wi (d:=d) (v:=v) (x:=d.getD r 0+c) (show t<d.length by omega)
 have hst:uF E r t c:=hi.elim (fun h=>.inl (afD h)) (fun h=>.inr (afD h))
 have hfar:=I.i.le t ht
 have le:∀v,(d.set t (d.getD r 0+c)).getD v 0≤d.getD v 0:=fun v=>by
  rw[at_];split
  ·rename_i h;subst h;omega
  ·exact acG _
 refine⟨⟨by simpa using hl,?_,fun v hv=>?_,fun v hv=>?_⟩,fun x hx=>?_,fun u v c' h=>?_⟩
 ·rw[at_];split
  ·rename_i h;subst h;have:=I.i.src;omega
  ·exact I.i.src
 ·rw[at_];split
  ·rename_i h;subst h
   rcases I.i.real r hr with h|h
   ·omega
   ·exact .inr (h.step hst)
  ·exact I.i.real v hv
 ·have:=le v;have:=I.i.le v hv;omega
 ·rcases(hq x).1 hx with rfl|h
  ·exact ht
  ·exact I.w x h
 ·by_cases hu:u=t
  ·exact .inl ((hq u).2 (.inl hu))
  ·have hdu:(d.set t (d.getD r 0+c)).getD u 0=d.getD u 0:=by rw[at_,if_neg (fun e=>hu e.symm)]
   rcases I.tr u v c' h with h1|h1|h1
   ·exact .inl ((hq u).2 (.inr h1))
   ·rcases h1.next with h1|⟨rfl,h2⟩
    ·exact .inr (.inl h1)
    ·right;right
     have hvt:v=t∧c'=c:=by
      rcases hi with h3|h3<;>rcases h2 with h2|h2<;>(rw[h3]at h2;cases h2;first|exact⟨rfl,rfl⟩|exact(hrt rfl).elim)
     obtain⟨rfl,rfl⟩:=hvt
     rw[hdu,at_,if_pos rfl]
     exact acG _
   ·right;right
    have:=le v
    rw[hdu];omega
theorem Pz.none{E:List Edge}{r i u v c:Nat}(hi:E.length≤i):¬Pz E r i u v c:=fun⟨_,j,h1,h2⟩=>by
 rw[List.getElem?_eq_none (by omega)]at h2
 rcases h2 with h2|h2<;>cases h2
theorem Xs.done{E:List Edge}{s N far:Nat}{d q:List Nat}{r i:Nat}(I:Xs E s N far d q (Pz E r i))(hi:E.length≤i):Xs E s N far d q (fun _ _ _=>False):=
 ⟨I.i,I.w,fun u v c h=>(I.tr u v c h).imp id fun h=>h.elim (fun h=>(Pz.none hi h).elim) .inr⟩
theorem adG{d:List Nat}:∀{t x:Nat},t<d.length→(d.set t x).sum+d.getD t 0=d.sum+x:=by
 induction d with
 |nil=>intro t x h;simp at h
 |cons a d ih=>
  intro t x h
  cases t with
  |zero=>simp;omega
  |succ t=>
   have:=ih (t:=t) (x:=x) (by simpa using h)
   simp only[ak7,List.sum_cons,List.getD_cons_succ]
   omega
theorem wC{d:List Nat}{t x:Nat}(ht:t<d.length)(hx:x<d.getD t 0):(d.set t x).sum<d.sum:=by
 have:=adG (d:=d) (x:=x) ht
 omega
theorem Xs.right{E:List Edge}{s N far:Nat}{d:List Nat}(hs:s<N)(hE:Zs E N)(hf:N≤far)(I:Xs E s N far d [] (fun _ _ _=>False)):Gz E s N far (fun v=>d.getD v 0):=by
 refine xG I.i.src I.i.real (fun u v c h=>?_) fun v k hk=>?_
 ·rcases I.tr u v c h with h1|h1|h1
  ·cases h1
  ·exact h1.elim
  ·exact h1
 ·have:=hk.le hs (fun a b c h=>⟨(hE a b c h).1,(hE a b c h).2.1⟩) (fun a b c h=>(hE a b c h).2.2.2)
  omega
theorem Gz.num{E:List Edge}{s N far far':Nat}{d d':Nat→Nat}(h:Gz E s N far d)(h':Gz E s N far' d')(hf:N≤far)(hf':N≤far')(hs:s<N)(hE:Zs E N){v:Nat}(hv:v<N):(d v=far↔d' v=far')∧(d v≠far→d v=d' v)∧(d v≠far→d v<N):=by
 have hE1:∀a b c,(a,b,c)∈E→a<N∧b<N:=fun a b c h=>⟨(hE a b c h).1,(hE a b c h).2.1⟩
 have hE2:∀a b c,(a,b,c)∈E→c≤1:=fun a b c h=>(hE a b c h).2.2.2
 by_cases e:∃k,aU E s v k
 ·obtain⟨k,hk⟩:=e
  obtain⟨j,hj⟩:=Xj.ex hk
  have h1:=(h v hv).1 j hj
  have h2:=(h' v hv).1 j hj
  have h3:=hj.le hs hE1 hE2
  rw[h1,h2]
  exact⟨⟨fun e=>by omega,fun e=>by omega⟩,fun _=>rfl,fun _=>by omega⟩
 ·have hn:∀k,¬aU E s v k:=fun k hk=>e ⟨k,hk⟩
  have h1:=(h v hv).2 hn
  have h2:=(h' v hv).2 hn
  rw[h1,h2]
  exact⟨⟨fun _=>rfl,fun _=>rfl⟩,fun h=>(h rfl).elim,fun h=>(h rfl).elim⟩
end Net
end Go.Ev
namespace Go.Ev
namespace Net
def Eh(N s far:Nat):List Nat:=(ak0 N far).set s 0
theorem aR{N s far v:Nat}(hs:s<N)(hv:v<N):(Eh N s far).getD v 0=if s=v then 0 else far:=by
 unfold Eh
 rw[Wi (by simpa using hs)]
 split
 ·rfl
 ·simp[al5,hv]
theorem bY{E:List Edge}{N s far:Nat}(hs:s<N):cC E s N far (Eh N s far):=by
 refine⟨by simp[Eh],by rw[aR hs hs,if_pos rfl],fun v hv=>?_,fun v hv=>?_⟩
 ·rw[aR hs hv]
  split
  ·rename_i h;subst h;exact .inr ⟨0,.nil 0⟩
  ·exact .inl rfl
 ·rw[aR hs hv];split<;>omega
theorem ad6{E:List Edge}{N s far:Nat}(hs:s<N)(hE:Zs E N):Xs E s N far (Eh N s far) [s] (fun _ _ _=>False):=by
 refine⟨bY hs,fun r hr=>by simp at hr;omega,fun u v c h=>?_⟩
 have hb:u<N∧v<N:=h.elim (fun h=>⟨(hE _ _ _ h).1,(hE _ _ _ h).2.1⟩) (fun h=>⟨(hE _ _ _ h).2.1,(hE _ _ _ h).1⟩)
 by_cases e:u=s
 ·exact .inl (by simp[e])
 ·right;right
  rw[aR hs hb.1,if_neg (fun h=>e h.symm)]
  have:=(bY (E:=E) (far:=far) hs).le v hb.2
  omega
def Yh(E:List Edge)(N len:Nat):Nat:=if 1000≤(Lj E N (Eh N 0 1000)).getD 1 0 then len+1 else(Lj E N (Eh N 0 1000)).getD 1 0
theorem Qd{E:List Edge}{N:Nat}(hN:2≤N)(hN2:N≤1000)(hE:Zs E N):Gz E 0 N 1000 (fun v=>(Lj E N (Eh N 0 1000)).getD v 0):=
 pL (by omega) hE hN2 (bY (by omega)) (by omega)
theorem yQ{E:List Edge}{N far len:Nat}(hN:2≤N)(hN2:N≤1000)(hf:N≤far)(hE:Zs E N){d:Nat→Nat}(h:Gz E 0 N far d):(if d 1=far then len+1 else d 1)=Yh E N len:=by
 obtain⟨h1,h2,h3⟩:=Gz.num (Qd hN hN2 hE) h hN2 hf (by omega) hE (v:=1) (by omega)
 unfold Yh
 by_cases e:(Lj E N (Eh N 0 1000)).getD 1 0=1000
 ·rw[if_pos (h1.1 e),if_pos (by rw[e];exact acG _)]
 ·have:=h3 e
  rw[if_neg (fun h=>e (h1.2 h)),if_neg (by omega)]
  exact(h2 e).symm
theorem ae8{E:List Edge}{N len:Nat}(hN:2≤N)(hN2:N≤1000)(hE:Zs E N):Yh E N len=len+1∨Yh E N len<N:=by
 obtain⟨h1,h2,h3⟩:=Gz.num (Qd hN hN2 hE) (Qd hN hN2 hE) hN2 hN2 (by omega) hE (v:=1) (by omega)
 unfold Yh
 by_cases e:(Lj E N (Eh N 0 1000)).getD 1 0=1000
 ·exact .inl (if_pos (by rw[e];exact acG _))
 ·have:=h3 e
  rw[if_neg (by omega)]
  exact .inr this
end Net
end Go.Ev
namespace Go.Ev
namespace Net
def dK(e:Edge)(r:Nat):Option Nat:=if e.1=r then some e.2.1 else if e.2.1=r then some e.1 else none
theorem Vt{E:List Edge}{e:Edge}{r v:Nat}(he:e∈E)(h:dK e r=some v):uF E r v e.2.2:=by
 obtain⟨a,b,c⟩:=e
 unfold dK at h
 split at h
 ·rename_i h1;simp only at h h1;cases h;subst h1;exact .inl he
 ·split at h
  ·rename_i h1;simp only at h h1;cases h;subst h1;exact .inr he
  ·cases h
def Gq(f:Nat→Edge→Option (List Nat)):Nat→List Edge→Option (List Nat)
 |_,[]=>none
 |i,e::l=>match f i e with
  |some x=>some x
  |none=>Gq f (i+1) l
theorem Rm{f:Nat→Edge→Option (List Nat)}:∀{l:List Edge} {i:Nat} {x:List Nat},Gq f i l=some x→∃j e,l[j]?=some e∧f (i+j) e=some x
 | [],i,x,h=>by cases h
 |e::l,i,x,h=>by
  unfold Gq at h
  split at h
  ·rename_i y hy;cases h;exact⟨0,e,rfl,hy⟩
  ·obtain⟨j,e',h1,h2⟩:=Rm h
   exact⟨j+1,e',by simpa using h1,by rw[←h2];congr 1;omega⟩
theorem Wc{f g:Nat→Edge→Option (List Nat)}:∀{l:List Edge} {i:Nat},(∀j e,l[j]?=some e→f (i+j) e=g (i+j) e)→Gq f i l=Gq g i l
 | [],i,h=>rfl
 |e::l,i,h=>by
  have h0:=h 0 e rfl
  simp only[Nat.add_zero]at h0
  have ih:=Wc (f:=f) (g:=g) (l:=l) (i:=i+1) fun j e' hj=>by
   have:=h (j+1) e' (by simpa using hj)
   rwa[show i+(j+1)=i+1+j by omega]at this
  unfold Gq
  rw[h0]
  cases g i e with
  |none=>exact ih
  |some x=>rfl
def Ik(E:List Edge):Nat→Nat→List Nat→Nat→Option (List Nat)
 |0,_,_,_=>none
 |f+1,most,rooms,at_=>if at_=1 then some []else
  Gq (fun i e=>match dK e at_ with
   |none=>none
   |some r=>if r∈rooms∨most<e.2.2 then none else(Ik E f (most-e.2.2) (r::rooms) r).map (i::·)) 0 E
def Td(E:List Edge)(back:Nat→Nat)(most:Nat):Nat→Nat→List Nat→Nat→Option (List Nat)
 |0,_,_,_=>none
 |f+1,tight,rooms,at_=>if at_=1 then some []else
  Gq (fun i e=>match dK e at_ with
   |none=>none
   |some r=>if r∈rooms∨most<tight+e.2.2+back r then none else(Td E back most f (tight+e.2.2) (r::rooms) r).map (i::·)) 0 E
theorem jP{E:List Edge}:∀{f most:Nat} {rooms:List Nat} {at_:Nat} {l:List Nat},Ik E f most rooms at_=some l→∃k,k≤most∧aU E 1 at_ k
 |0,_,_,_,_,h=>by cases h
 |f+1,most,rooms,at_,l,h=>by
  unfold Ik at h
  split at h
  ·rename_i e;subst e;exact⟨0,acI _,0,.nil 0⟩
  ·obtain⟨j,e,h1,h2⟩:=Rm h
   split at h2
   ·cases h2
   ·rename_i r hr
    split at h2
    ·cases h2
    ·rename_i hn
     obtain⟨x,hx,_⟩:=acA.1 h2
     obtain⟨k,k1,k2⟩:=jP hx
     have hc:e.2.2≤most:=ak3 fun h=>hn (.inr h)
     exact⟨k+e.2.2,by omega,k2.step (Vt (afD h1) hr).symm⟩
theorem abY{E:List Edge}{N far:Nat}{back:Nat→Nat}(hE:Zs E N)(hb:Gz E 1 N far back)(hf:∀v k,Xj E 1 v k→k<far){most:Nat}(hm:most<far):∀(f tight:Nat) (rooms:List Nat) (at_:Nat),tight≤most→Td E back most f tight rooms at_=Ik E f (most-tight) rooms at_
 |0,_,_,_,_=>rfl
 |f+1,tight,rooms,at_,ht=>by
  unfold Td Ik
  split
  ·rfl
  ·refine Wc fun j e hj=>?_
   have he:=afD hj
   cases hr:dK e at_ with
   |none=>rfl
   |some r=>
    simp only
    have hrN:r<N:=by
     rcases Vt he hr with h|h
     ·exact(hE _ _ _ h).2.1
     ·exact(hE _ _ _ h).1
    by_cases h1:r∈rooms
    ·rw[if_pos (.inl h1),if_pos (.inl h1)]
    ·by_cases h2:most-tight<e.2.2
     ·rw[if_pos (.inr (by omega)),if_pos (.inr h2)]
     ·have e1:most-tight-e.2.2=most-(tight+e.2.2):=by omega
      by_cases h3:most<tight+e.2.2+back r
      ·rw[if_pos (.inr h3),if_neg (by rintro(h|h);exact h1 h;exact h2 h)]
       cases hw:Ik E f (most-tight-e.2.2) (r::rooms) r with
       |none=>rfl
       |some x=>
        obtain⟨k,k1,k2⟩:=jP hw
        obtain⟨j,hj⟩:=Xj.ex k2
        have h4:=(hb r hrN).1 j hj
        have h5:=hj.2 k k2
        omega
      ·rw[if_neg (by rintro(h|h);exact h1 h;exact h3 h),if_neg (by rintro(h|h);exact h1 h;exact h2 h),abY hE hb hf hm f (tight+e.2.2) (r::rooms) r (by omega),e1]
end Net
end Go.Ev
namespace Go.Ev
namespace Net
theorem Zs.ends{E:List Edge}{N:Nat}(h:Zs E N):∀a b c,(a,b,c)∈E→a<N∧b<N:=fun a b c e=>⟨(h a b c e).1,(h a b c e).2.1⟩
theorem Zs.one{E:List Edge}{N:Nat}(h:Zs E N):∀a b c,(a,b,c)∈E→c≤1:=fun a b c e=>(h a b c e).2.2.2
end Net
end Go.Ev
namespace Go.Ev
namespace Net
def Wg(E:List Edge):List Nat→Nat→List Nat→Prop
 |_,at_,[]=>at_=1
 |rooms,at_,i::l=>∃e r,E[i]?=some e∧dK e at_=some r∧r∉rooms∧Wg E (r::rooms) r l
def Lq(E:List Edge):List Nat→Nat
 | []=>0
 |i::l=>(E[i]?.map (·.2.2)).getD 0+Lq E l
theorem Vv{E:List Edge}:∀{f most:Nat} {rooms:List Nat} {at_:Nat} {l:List Nat},Ik E f most rooms at_=some l→Wg E rooms at_ l∧Lq E l≤most
 |0,_,_,_,_,h=>by cases h
 |f+1,most,rooms,at_,l,h=>by
  unfold Ik at h
  split at h
  ·rename_i e;cases h;exact⟨e,acI _⟩
  ·obtain⟨j,e,h1,h2⟩:=Rm h
   split at h2
   ·cases h2
   ·rename_i r hr
    split at h2
    ·cases h2
    ·rename_i hn
     obtain⟨x,hx,rfl⟩:=acA.1 h2
     obtain⟨k1,k2⟩:=Vv hx
     have hc:e.2.2≤most:=ak3 fun h=>hn (.inr h)
     rw[agD]
     refine⟨⟨e,r,h1,hr,fun h=>hn (.inl h),k1⟩,?_⟩
     simp only[Lq,h1,acF,akX]
     omega
theorem aA{f:Nat→Edge→Option (List Nat)}:∀{l:List Edge} {i:Nat},Gq f i l=none→∀j e,l[j]?=some e→f (i+j) e=none
 | [],_,_,j,e,h=>by simp at h
 |a::l,i,h,j,e,hj=>by
  unfold Gq at h
  split at h
  ·cases h
  ·rename_i ha
   cases j with
   |zero=>simp at hj;subst hj;exact ha
   |succ j=>
    have:=aA h j e (by simpa using hj)
    rwa[show i+(j+1)=i+1+j by omega]
theorem agJ{E:List Edge}:∀{f most:Nat} {rooms:List Nat} {at_:Nat} {l:List Nat},Wg E rooms at_ l→Lq E l≤most→l.length<f→Ik E f most rooms at_≠none
 |0,_,_,_,_,_,_,h=>by omega
 |f+1,most,rooms,at_,l,hw,hc,hl=>fun h=>by
  unfold Ik at h
  split at h
  ·cases h
  ·rename_i hne
   cases l with
   |nil=>exact hne hw
   |cons i l=>
    obtain⟨e,r,h1,h2,h3,h4⟩:=hw
    have:=aA h i e h1
    simp only[Lq,h1,acF,akX]at hc
    rw[agD,h2]at this
    simp only at this
    rw[if_neg (by rintro(h|h);exact h3 h;omega)]at this
    exact agJ (most:=most-e.2.2) h4 (by omega) (by simpa using hl) (Option.map_eq_none_iff.1 this)
def Re(E:List Edge):List Nat→List Nat→Prop
 | [v],[]=>v=1
 |v::u::vs,i::l=>∃e,E[i]?=some e∧dK e v=some u∧Re E (u::vs) l
 |_,_=>False
theorem Re.way{E:List Edge}:∀{l vs rooms:List Nat} {v:Nat},Re E (v::vs) l→vs.Nodup→(∀x∈vs,x∉rooms)→Wg E rooms v l
 | [],[],_,_,h,_,_=>h
 | [],_::_,_,_,h,_,_=>h.elim
 |_::_,[],_,_,h,_,_=>h.elim
 |i::l,u::vs,rooms,v,⟨e,h1,h2,h3⟩,hn,hd=>⟨e,u,h1,h2,hd u (by simp),h3.way (af4.1 hn).2 fun x hx hr=>by
  rcases acH.1 hr with rfl|hr
  ·exact(af4.1 hn).1 hx
  ·exact hd x (acD _ hx) hr⟩
theorem Re.len{E:List Edge}:∀{l vs:List Nat},Re E vs l→vs.length=l.length+1
 | [],[_],_=>rfl
 | [],[],h=>h.elim
 | [],_::_::_,h=>h.elim
 |_::_,[],h=>h.elim
 |_::_,[_],h=>h.elim
 |i::l,v::u::vs,⟨_,_,_,h⟩=>by have:=h.len;simp at this ⊢;omega
theorem Re.cut{E:List Edge}:∀{l vs:List Nat} {v:Nat},Re E vs l→vs.Nodup→v∈vs→∃vs' l',Re E (v::vs') l'∧(v::vs').Nodup∧(∀x∈v::vs',x∈vs)∧Lq E l'≤Lq E l
 | [],[],_,h,_,_=>h.elim
 | [],[u],v,h,hn,hv=>by
   simp at hv;subst hv
   exact⟨[],[],h,by simp,fun _ h=>h,acG _⟩
 | [],_::_::_,_,h,_,_=>h.elim
 |_::_,[],_,h,_,_=>h.elim
 |_::_,[_],_,h,_,_=>h.elim
 |i::l,w::u::vs,v,h,hn,hv=>by
  rcases acH.1 hv with rfl|hv
  ·exact⟨_,_,h,hn,fun _ h=>h,acG _⟩
  ·obtain⟨_,_,_,h⟩:=h
   obtain⟨vs',l',k1,k2,k3,k4⟩:=h.cut (af4.1 hn).2 hv
   exact⟨vs',l',k1,k2,fun x hx=>acD _ (k3 x hx),by simp only[Lq];omega⟩
theorem uG{E:List Edge}{N:Nat}(hE:Zs E N)(h1:1<N){n v k:Nat}(h:Nx E 1 n v k):∃vs l,Re E (v::vs) l∧(v::vs).Nodup∧(∀x∈v::vs,x<N)∧Lq E l≤k:=by
 have one:∀{u v c k:Nat} {vs l:List Nat},(u,v,c)∈E∨(v,u,c)∈E→Re E (u::vs) l→(u::vs).Nodup→(∀x∈u::vs,x<N)→Lq E l≤k→∃vs l,Re E (v::vs) l∧(v::vs).Nodup∧(∀x∈v::vs,x<N)∧Lq E l≤k+c:=by
  intro u v c k vs l he hp hn hN hc
  by_cases hv:v∈u::vs
  ·obtain⟨vs',l',k1,k2,k3,k4⟩:=hp.cut hn hv
   exact⟨vs',l',k1,k2,fun x hx=>hN x (k3 x hx),by omega⟩
  ·have go:∀e:Edge,e∈E→dK e v=some u→e.2.2=c→v<N→∃vs l,Re E (v::vs) l∧(v::vs).Nodup∧(∀x∈v::vs,x<N)∧Lq E l≤k+c:=fun e he ht hec hvN=>by
    obtain⟨i,hi⟩:=akV he
    refine⟨u::vs,i::l,⟨e,hi,ht,hp⟩,af4.2 ⟨hv,hn⟩,fun x hx=>?_,?_⟩
    ·rcases acH.1 hx with rfl|hx
     ·exact hvN
     ·exact hN x hx
    ·simp only[Lq,hi,acF,akX];omega
   rcases he with he|he
   ·have:=hE _ _ _ he
    exact go _ he (by simp[dK,this.2.2.1]) rfl this.2.1
   ·exact go _ he (by simp[dK]) rfl (hE _ _ _ he).1
 induction h with
 |nil n=>exact⟨[],[],rfl,by simp,fun x hx=>by simp at hx;omega,acG _⟩
 |fwd h he ih=>
  obtain⟨vs,l,i1,i2,i3,i4⟩:=ih
  exact one (.inl he) i1 i2 i3 i4
 |bwd h he ih=>
  obtain⟨vs,l,i1,i2,i3,i4⟩:=ih
  exact one (.inr he) i1 i2 i3 i4
theorem iT:∀(N:Nat) (l:List Nat),l.Nodup→(∀x∈l,x<N)→l.length≤N
 |0,[],_,_=>by simp
 |0,a::l,_,h=>absurd (h a (by simp)) (by omega)
 |N+1,l,hn,h=>by
  by_cases e:N∈l
  ·have h1:=iT N (l.erase N) (hn.erase N) fun x hx=>by
    have h2:=h x (alE hx)
    have h3:x≠N:=fun e2=>by subst e2;exact(hn.not_mem_erase) hx
    omega
   rw[alF e]at h1
   omega
  ·exact Nat.le_succ_of_le (iT N l hn fun x hx=>by
    have h2:=h x hx
    have h3:x≠N:=fun e2=>e (e2▸hx)
    omega)
theorem rC{E:List Edge}{s u:Nat}{k:Nat}(h:aU E s u k):∀{n v j:Nat},Nx E u n v j→aU E s v (k+j):=by
 intro n v j w
 induction w with
 |nil=>exact h
 |fwd w he ih=>obtain h2:=ih.step (.inl he);rwa[ajS]at h2
 |bwd w he ih=>obtain h2:=ih.step (.inr he);rwa[ajS]at h2
theorem adO{E:List Edge}{s n v k:Nat}(w:Nx E s n v k):aU E v s k:=by
 induction w with
 |nil=>exact⟨0,.nil 0⟩
 | @fwd n a b c k w he ih=>
   obtain⟨m,w2⟩:=ih
   have:=rC ((show aU E b b 0 from⟨0,.nil 0⟩).step (.inr he)) w2
   rwa[agD,Nat.add_comm]at this
 | @bwd n a b c k w he ih=>
   obtain⟨m,w2⟩:=ih
   have:=rC ((show aU E a a 0 from⟨0,.nil 0⟩).step (.inl he)) w2
   rwa[agD,Nat.add_comm]at this
theorem aeX{E:List Edge}{N k:Nat}(hE:Zs E N)(h1:1<N)(h:aU E 0 1 k):∃l,Wg E [0] 0 l∧Lq E l≤k∧l.length<N:=by
 obtain⟨n,w⟩:=h
 obtain⟨m,w⟩:=adO w
 obtain⟨vs,l,k1,k2,k3,k4⟩:=uG hE h1 w
 refine⟨l,k1.way (af4.1 k2).2 fun x hx h=>?_,k4,?_⟩
 ·simp at h;subst h;exact(af4.1 k2).1 hx
 ·have:=iT N _ k2 k3
  have:=k1.len
  omega
theorem am2{E:List Edge}{N k most:Nat}(hE:Zs E N)(h1:1<N)(h:aU E 0 1 k)(hk:k≤most):∃l,Ik E N most [0] 0=some l:=by
 obtain⟨l,k1,k2,k3⟩:=aeX hE h1 h
 have:=agJ k1 (Nat.le_trans k2 hk) k3
 cases e:Ik E N most [0] 0 with
 |none=>exact absurd e this
 |some l=>exact⟨l,rfl⟩
theorem Wg.cst{E:List Edge}{s:Nat}:∀{l rooms:List Nat} {at_ k:Nat},Wg E rooms at_ l→aU E s at_ k→aU E s 1 (k+Lq E l)
 | [],_,_,_,h,hk=>by cases h;exact hk
 |i::l,_,_,k,⟨e,r,h1,h2,_,h4⟩,hk=>by
  have:=h4.cst (hk.step (Vt (afD h1) h2))
  simp only[Lq,h1,acF,akX]
  rwa[←ajS]
theorem Wg.len{E:List Edge}{N:Nat}(hE:Zs E N):∀{l rooms:List Nat} {at_:Nat},Wg E rooms at_ l→rooms.Nodup→(∀x∈rooms,x<N)→rooms.length+l.length≤N
 | [],rooms,_,_,hn,hx=>by simpa using iT N rooms hn hx
 |i::l,rooms,at_,⟨e,r,g1,g2,g3,g4⟩,hn,hx=>by
  have hr:r<N:=by
   rcases Vt (afD g1) g2 with h|h
   ·exact(hE _ _ _ h).2.1
   ·exact(hE _ _ _ h).1
  have:=g4.len hE (af4.2 ⟨g3,hn⟩) (fun x h=>by
   rcases acH.1 h with rfl|h
   ·exact hr
   ·exact hx x h)
  simp at this ⊢;omega
end Net
end Go.Ev
namespace Go.Ev
namespace Net
end Net
end Go.Ev
