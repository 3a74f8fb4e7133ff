/- The evaluator and its soundness. -/
import Derived.Test.YtckfcfcmfjfchaaDoorLibD
open And renaming intro→aaN
open Eq renaming trans→abY
open Option renaming bind_some→abZ,map_some→adC,some→ah8
open Nat renaming le_refl→ab0,zero_le→ab3
open List renaming all_eq_true→ab2,mem_cons_self→ag6,mem_cons_of_mem→ag7,nil_append→ag8,append_nil→ag9,cons_append→ahA,length_cons→ahC,replicate→ahJ,range→ai6,mem_of_getElem?→aj1,getElem?_eq_getElem→akA,getElem?_of_mem→akQ,foldl_cons→alS,mem_cons→alY,length_append→al1,getElem?_map→al4,length_nil→al6,set_cons_succ→amJ,mem_append→am4,getElem?_eq_some_iff→arW,getD_eq_getElem?_getD→ayD
open Bool renaming or_true→ahE,and_eq_true→ah0
set_option linter.unusedSimpArgs false
set_option linter.unusedVariables false
namespace Go.Ev
noncomputable section
set_option maxRecDepth 100000
def EVa:=PLift.up (aaN @ab6 (aaN @aiP (aaN @aI9 (aaN @adA (aaN @aa3 (aaN @af9 (aaN @adY (aaN @ahN (aaN @List.map_cons.{0,0} (aaN @List.map_nil.{0,0} (aaN @adC.{0,0} (aaN @Option.map_none.{0,0} (aaN @List.getElem?_cons_zero.{0} (aaN @List.getElem?_cons_succ.{0} (aaN @abZ.{0,0} (aaN @amS (aaN @aPX (aaN @aPN (aaN @akL (aaN @amH (aaN @aJ5 (aaN @aMV (aaN @azU (aaN @aAS (aaN @acM (aaN @aPU (aaN @akC (aaN @aiR (aaN @ahQ (aaN @aiC (aaN @ai5 (aaN @Nat.add_assoc (aaN @List.append_assoc.{0} @al1.{0})))))))))))))))))))))))))))))))))
def EVb:=PLift.up (aaN @List.length_replicate.{0} (aaN @List.length_map.{0,0} (aaN @Int.natCast_nonneg (aaN @Int.toNat_natCast (aaN @al4.{0,0} (aaN @aj0 (aaN @aaG (aaN @aiN (aaN @aFT (aaN @aRU (aaN @ai9 (aaN @aeK (aaN @aeU (aaN @anD (aaN @aQ0 (aaN @aRH (aaN @amK (aaN @aiQ (aaN @vI (aaN @afY (aaN @gB (aaN @ajA (aaN @acR (aaN @ahT (aaN @aPV (aaN @aQH (aaN @aQL (aaN @aPW (aaN @aRJ (aaN @aQF (aaN @aPT @aRI)))))))))))))))))))))))))))))))
def EVc:=PLift.up (aaN @akF (aaN @agF (aaN @ahS (aaN @eD (aaN @acQ (aaN @adN (aaN @ad0 (aaN @ajU (aaN @aI1 (aaN @afU (aaN @aRQ (aaN @acF (aaN @agP (aaN @adL (aaN @aaL (aaN @nR (aaN @oN (aaN @aeL (aaN @qD (aaN @oM (aaN @aeC (aaN @aa0 (aaN @abR (aaN @acY (aaN @aeN (aaN @ahI (aaN @aiY (aaN @anB (aaN @aj6 (aaN @ax9 @ah1))))))))))))))))))))))))))))))
def EVd:=PLift.up (aaN @aMZ (aaN @aI8 (aaN @aj9 (aaN @ag3 (aaN @aHO (aaN @akP (aaN @an9 (aaN @akM (aaN @am2 (aaN @aoF (aaN @axS (aaN @aMP (aaN @aMS (aaN @alI (aaN @List.all_cons.{0} (aaN @List.all_nil.{0} (aaN @ag8.{0} (aaN @ag9.{0} (aaN @ahA.{0} (aaN @ahC.{0} (aaN @al6.{0} (aaN @List.take_succ_cons.{0} (aaN @List.take_zero.{0} (aaN @List.drop_succ_cons.{0} (aaN @List.drop_zero.{0} (aaN @List.take_nil.{0} (aaN @List.set_cons_zero.{0} (aaN @amJ.{0} (aaN @ajZ @ao8)))))))))))))))))))))))))))))
def EVe:=PLift.up (aaN @alF (aaN @ahX (aaN @awE (aaN @asO (aaN @awW (aaN @ajD (aaN @awB (aaN @aiV (aaN @ahW (aaN @ao6 (aaN @anK (aaN @aAV (aaN @Bool.and_self (aaN @Bool.and_true (aaN @Bool.true_and (aaN @Bool.false_and (aaN @Bool.and_false (aaN @ahE (aaN @Bool.or_false (aaN @Bool.true_or (aaN @Bool.not_true (aaN @Bool.not_false (aaN @Nat.zero_add (aaN @Nat.add_zero (aaN @Bool.false_eq_true (aaN @true_and (aaN @and_true (aaN @and_self (aaN @ab0 (aaN @amG (aaN @ai7 (aaN @adD @acB))))))))))))))))))))))))))))))))
def EVf:=PLift.up (aaN @aQE (aaN @aRG (aaN @ah7 (aaN @aM0 (aaN @aI2 (aaN @yP (aaN @sT (aaN @acA (aaN @aoX (aaN @yU (aaN @aiJ (aaN @zP (aaN @aj8 (aaN @aRS (aaN @aRP (aaN @wE (aaN @af8 (aaN @agG (aaN @agL (aaN @aMH (aaN @acI (aaN @agD (aaN @ac5 (aaN @aSE (aaN @aiU @aSA)))))))))))))))))))))))))
def EVg:=PLift.up (aaN @ah2 (aaN @acG (aaN @abJ (aaN @xB (aaN @ajV (aaN @aMU (aaN @aFL (aaN @ajH (aaN @am6 (aaN @aeH (aaN @abH (aaN @alJ (aaN @aE5 (aaN @aiE (aaN @am8 (aaN @amM (aaN @amB (aaN @aoT (aaN @List.any_cons.{0} (aaN @List.any_nil.{0} (aaN @aoE (aaN @afH (aaN @rW (aaN @qG (aaN @zO (aaN @wK (aaN @List.replicate_succ.{0} (aaN @List.replicate_zero.{0} (aaN @or_self (aaN @ne_eq.{1} @not_true_eq_false))))))))))))))))))))))))))))))
def EVh:=PLift.up (aaN @atN (aaN @af4 (aaN @ad3 (aaN @abD (aaN @zM (aaN @aRM (aaN @afN @aiH)))))))
section
variable {P:Program} {O:Ui}
theorem azX{C:R→Prop}{b:Bool}{k:R}(hb:b=true)(h:True→C k):C (Ut b k):=alX hb (h trivial)
end
end
noncomputable section
open Go.RowKit
theorem zC(b:Nat):place [] b=(0,[b]):=abY rfl rfl
theorem vO(a b:Nat)(m:List Nat):place (a::m) b=if a=b then(0,a::m)else((place m b).1+1,a::(place m b).2):=by
 unfold place
 rw[List.idxOf?_cons]
 by_cases h:a=b
 ·simp[h]
 ·simp only[h,if_false,beq_iff_eq]
  cases List.idxOf? b m<;>simp
section
variable {P:Program} {O:Ui}
theorem ahP(d:Nat)(m:List Nat)(b:Bool):Sv (d+1) m (.bool b)=some (.bool b,m):=abY rfl rfl
theorem aFI(d:Nat)(m:List Nat)(k:IntKind)(n:Int):Sv (d+1) m (.int k n)=some (.int k n,m):=abY rfl rfl
theorem aAU(d:Nat)(m:List Nat)(n:Nat)(fl:Bool)(rows:List (List AV)):Sv (d+1) m (.imm n fl rows)=some (.imm n fl rows,m):=abY rfl rfl
theorem as0(d:Nat)(m:List Nat)(n:Nat)(fl nn:Bool)(rows:List (List AV)):Sv (d+1) m (Ux n fl nn rows)=some (Ux n fl nn rows,m):=Wx m (eD d n fl nn rows)
theorem aoM(d:Nat)(m:List Nat)(b r o:Nat):Sv (d+1) m (.ptr b r o)=some (.ptr (place m b).1 r o,(place m b).2):=abY rfl rfl
theorem aMR(d:Nat)(m:List Nat)(st b r len:Nat):Sv (d+1) m (.slr st b r len)=some (.slr st (place m b).1 r len,(place m b).2):=abY rfl rfl
def rfA(x:Option (List AV × List Nat)):Option (AV × List Nat):=x.map fun(cs,m)=>(.agg cs,m)
def rfT(x:Option (List AV × List Nat)):Option (AV × List Nat):=x.map fun(cs,m)=>(.tup cs,m)
theorem agX(cs:List AV)(m:List Nat):rfA (some (cs,m))=some (.agg cs,m):=abY rfl rfl
theorem acW(cs:List AV)(m:List Nat):rfT (some (cs,m))=some (.tup cs,m):=abY rfl rfl
theorem aK2(d:Nat)(m:List Nat)(cs:List AV):Sv (d+1) m (.agg cs)=rfA (Sv.refL (Sv d) m cs):=abY rfl rfl
theorem amX(d:Nat)(m:List Nat)(cs:List AV):Sv (d+1) m (.tup cs)=rfT (Sv.refL (Sv d) m cs):=abY rfl rfl
def rfG(fn:Fn)(a:List AV)(x:Option (List AV × List Nat)):Option (AV × List Nat):=x.map fun(b,m)=>(.func fn a b,m)
def rfF(fn:Fn)(d:Nat)(b:List AV)(x:Option (List AV × List Nat)):Option (AV × List Nat):=x.bind fun(a,m)=>rfG fn a (Sv.refL (Sv d) m b)
theorem acL(fn:Fn)(a b:List AV)(m:List Nat):rfG fn a (some (b,m))=some (.func fn a b,m):=abY rfl rfl
theorem ad6(fn:Fn)(d:Nat)(a b:List AV)(m:List Nat):rfF fn d b (some (a,m))=rfG fn a (Sv.refL (Sv d) m b):=abY rfl rfl
theorem aj3(d:Nat)(m:List Nat)(fn:Fn)(a b:List AV):Sv (d+1) m (.func fn a b)=rfF fn d b (Sv.refL (Sv d) m a):=abY rfl rfl
def rfD(v:AV)(x:Option (List AV × List Nat)):Option (List AV × List Nat):=x.map fun(vs,m)=>(v::vs,m)
def rfC(f:List Nat→AV→Option (AV × List Nat))(vs:List AV)(x:Option (AV × List Nat)):Option (List AV × List Nat):=x.bind fun(v,m)=>rfD v (Sv.refL f m vs)
theorem acN(v:AV)(vs:List AV)(m:List Nat):rfD v (some (vs,m))=some (v::vs,m):=abY rfl rfl
theorem agU(f:List Nat→AV→Option (AV × List Nat))(vs:List AV)(v:AV)(m:List Nat):rfC f vs (some (v,m))=rfD v (Sv.refL f m vs):=abY rfl rfl
theorem aiZ(f:List Nat→AV→Option (AV × List Nat))(m:List Nat):Sv.refL f m []=some ([],m):=abY rfl rfl
theorem acZ(f:List Nat→AV→Option (AV × List Nat))(m:List Nat)(v:AV)(vs:List AV):Sv.refL f m (v::vs)=rfC f vs (f m v):=abY rfl rfl
def rrD(cs:List AV)(x:Option (List (List AV) × List Nat)):Option (List (List AV) × List Nat):=x.map fun(rs,m)=>(cs::rs,m)
def rrC(rs:List (List AV))(x:Option (List AV × List Nat)):Option (List (List AV) × List Nat):=x.bind fun(cs,m)=>rrD cs (Yg m rs)
theorem ac2(cs:List AV)(rs:List (List AV))(m:List Nat):rrD cs (some (rs,m))=some (cs::rs,m):=abY rfl rfl
theorem afX(rs:List (List AV))(cs:List AV)(m:List Nat):rrC rs (some (cs,m))=rrD cs (Yg m rs):=abY rfl rfl
theorem amE(m:List Nat):Yg m []=some ([],m):=abY rfl rfl
theorem ai8(m:List Nat)(cs:List AV)(rs:List (List AV)):Yg m (cs::rs)=rrC rs (Sv.refL (Sv 8) m cs):=abY rfl rfl
def rbV(st:Nat)(w:Bool)(x:Option (List (List AV) × List Nat)):Option (CB × List Nat):=x.map fun(rows,m)=>(.live st false w rows,m)
theorem afW(st:Nat)(w:Bool)(rows:List (List AV))(m:List Nat):rbV st w (some (rows,m))=some (.live st false w rows,m):=abY rfl rfl
theorem aRF(m:List Nat)(st:Nat)(w:Bool)(rows:List (List AV)):mO m (.live st true w rows)=some (.live st true w rows,m):=abY rfl rfl
theorem aQZ(m:List Nat)(st:Nat)(w:Bool)(rows:List (List AV)):mO m (.live st false w rows)=rbV st w (Yg m rows):=abY rfl rfl
def pcE(c:CB)(x:Option (List CB × List Nat)):Option (List CB × List Nat):=x.map fun(cs,m)=>(c::cs,m)
def pcR(n:Nat)(h:Pv)(i:Nat)(x:Option (CB × List Nat)):Option (List CB × List Nat):=x.bind fun(c,m)=>pcE c (Xk n (hf h) (i+1) m)
def pcB(n:Nat)(h:Pv)(i:Nat)(m:List Nat)(x:Option CB):Option (List CB × List Nat):=x.bind fun c=>pcR n h i (mO m c)
def pcK(n:Nat)(h:Pv)(i:Nat)(m:List Nat)(x:Option Nat):Option (List CB × List Nat):=
 match x with
 |none=>some ([],m)
 |some b=>pcB n h i m (h[b]?)
theorem acU(c:CB)(cs:List CB)(m:List Nat):pcE c (some (cs,m))=some (c::cs,m):=abY rfl rfl
theorem adK(n:Nat)(h:Pv)(i:Nat)(c:CB)(m:List Nat):pcR n h i (some (c,m))=pcE c (Xk n (hf h) (i+1) m):=abY rfl rfl
theorem afP(n:Nat)(h:Pv)(i:Nat)(m:List Nat)(c:CB):pcB n h i m (some c)=pcR n h i (mO m c):=abY rfl rfl
theorem ab8(n:Nat)(h:Pv)(i:Nat)(m:List Nat):pcK n h i m none=some ([],m):=abY rfl rfl
theorem ad1(n:Nat)(h:Pv)(i:Nat)(m:List Nat)(b:Nat):pcK n h i m (some b)=pcB n h i m (h[b]?):=abY rfl rfl
theorem aPY(n:Nat)(h:Pv)(i:Nat)(m:List Nat):Xk (n+1) (hf h) i m=pcK n h i m (m[i]?):=by
 unfold Xk pcK
 cases m[i]?<;>rfl
def pkB(vs:List AV)(x:Option (List CB × List Nat)):Option (List AV × List CB × List Nat):=x.map fun(cs,m)=>(vs,cs,m)
def pkA(h:Pv)(x:Option (List AV × List Nat)):Option (List AV × List CB × List Nat):=x.bind fun(vs,m)=>pkB vs (Xk 5000 (hf h) 0 m)
theorem aeF(vs:List AV)(cs:List CB)(m:List Nat):pkB vs (some (cs,m))=some (vs,cs,m):=abY rfl rfl
theorem ac3(h:Pv)(vs:List AV)(m:List Nat):pkA h (some (vs,m))=pkB vs (Xk 5000 (hf h) 0 m):=abY rfl rfl
theorem aRO(h:Pv)(m:List Nat)(vs:List AV):Xb (hf h) m vs=pkA h (Sv.refL (Sv 8) m vs):=abY rfl rfl
def upK(h:Pv)(lent:List Nat)(v:Option AV)(ps ns:Option (List Py))(o:AV→Tn):OE:=v.bind fun v=>ps.bind fun ps=>ns.bind fun ns=>
 some (o v,(if lent.isEmpty|| !(hasImm 8 v||(ps++ns).any Py.hasImm)then []else Tu (hf h) lent)++ps++ns)
def crU(h:Pv)(base:Nat)(lent m:List Nat)(cs:List CB)(x:Option (Tn × Pv)):OE:=
 match x with
 |some (.ret v,h')=>upK h lent (Si 8 (Uh m base) v) (Vd (Uh m base) m cs (h'.take m.length)) (Wb (Uh m base) base (h'.drop m.length)) .ret
 |some (.pan v,h')=>upK h lent (Si 8 (Uh m base) v) (Vd (Uh m base) m cs (h'.take m.length)) (Wb (Uh m base) base (h'.drop m.length)) .pan
 |none=>none
def crP(O:Ui)(h:Pv)(base:Nat)(f:aP)(lent:List Nat)(x:Option (List AV × List CB × List Nat)):OE:=x.bind fun(vs,cs,m)=>
 if lent.any (m.contains ·)then none else crU h base lent m cs (O.call f vs (cs.map CB.clean))
def crQ(O:Ui)(h:Pv)(base:Nat)(f:aP)(lent:List Nat)(x:Option (List AV)):OE:=x.bind fun vs=>crP O h base f lent (Xb (hf h) [] vs)
theorem aTU(h:Pv)(base:Nat)(f:aP)(args:List AV):cr (nP O (hf h) base f args)=crQ O h base f (args.flatMap (Qv 12 (hf h))) (Rn (vB h) args):=by
 unfold nP Sj crQ vB
 cases Rn (Vn 12 (hf h)) args with
 |none=>rfl
 |some vs=>
  simp only[abZ]
  unfold crP
  cases Xb (hf h) [] vs with
  |none=>rfl
  |some x=>
   obtain⟨vs',cs,m⟩:=x
   simp only[abZ]
   split
   ·rfl
   ·cases O.call f vs' (cs.map CB.clean)with
    |none=>rfl
    |some y=>
     obtain⟨out,h'⟩:=y
     simp only[abZ,Xn]
     unfold crU upK
     cases out with
     |ret v=>
      simp only[Tn.v]
      cases Si 8 (Uh m base) v with
      |none=>rfl
      |some v=>
       cases Vd (Uh m base) m cs (h'.take m.length)with
       |none=>rfl
       |some ps=>cases Wb (Uh m base) base (h'.drop m.length)<;>rfl
     |pan v=>
      simp only[Tn.v]
      cases Si 8 (Uh m base) v with
      |none=>rfl
      |some v=>
       cases Vd (Uh m base) m cs (h'.take m.length)with
       |none=>rfl
       |some ps=>cases Wb (Uh m base) base (h'.drop m.length)<;>rfl
theorem af7(h:Pv)(base:Nat)(f:aP)(lent:List Nat)(vs:List AV):crQ O h base f lent (some vs)=crP O h base f lent (Xb (hf h) [] vs):=abY rfl rfl
theorem aeS(h:Pv)(base:Nat)(f:aP)(lent:List Nat)(vs:List AV)(cs:List CB)(m:List Nat):crP O h base f lent (some (vs,cs,m))=if lent.any (m.contains ·)=true then none else crU h base lent m cs (O.call f vs (cs.map CB.clean)):=abY rfl rfl
theorem ah6(h:Pv)(base:Nat)(lent m:List Nat)(cs:List CB)(v:AV)(h':Pv):crU h base lent m cs (some (.ret v,h'))=upK h lent (Si 8 (Uh m base) v) (Vd (Uh m base) m cs (h'.take m.length)) (Wb (Uh m base) base (h'.drop m.length)) .ret:=abY rfl rfl
theorem ag0(h:Pv)(lent:List Nat)(v:AV)(ps ns:List Py)(o:AV→Tn):upK h lent (some v) (some ps) (some ns) o=some (o v,(if(lent.isEmpty|| !(hasImm 8 v||(ps++ns).any Py.hasImm))=true then []else Tu (hf h) lent)++ps++ns):=abY rfl rfl
theorem akD(st:Nat)(fl w:Bool)(rows:List (List AV)):CB.clean (.live st fl w rows)=.live st fl false rows:=abY rfl rfl
theorem akI(d:Nat)(g:HF)(b:Bool):Qv (d+1) g (.bool b)=[]:=abY rfl rfl
theorem amL(d:Nat)(g:HF)(k:IntKind)(n:Int):Qv (d+1) g (.int k n)=[]:=abY rfl rfl
theorem aIU(d:Nat)(g:HF)(b r o:Nat):Qv (d+1) g (.ptr b r o)=[]:=abY rfl rfl
theorem ajJ(d:Nat)(g:HF)(fn:Fn)(a b:List AV):Qv (d+1) g (.func fn a b)=[]:=abY rfl rfl
theorem amU(d:Nat)(g:HF)(n:Nat)(fl nn:Bool)(rows:List (List AV)):Qv (d+1) g (Ux n fl nn rows)=[]:=cH g (d:=1) (by omega) (eD 0 n fl nn rows)
theorem aI3(d:Nat)(g:HF)(cs:List AV):Qv (d+1) g (.agg cs)=cs.flatMap (Qv d g):=abY rfl rfl
def lvS(b:Nat)(c:Option CB)(q:AV→List Nat)(r len:Nat):List Nat:=
 b::match c with
 |some (.live _ fl _ rows)=>if r+len≤rows.length then(if fl then []else((rows.drop r).take len).flatMap fun cs=>cs.flatMap q)else []
 |some (.frz _ fl rows)=>if r+len≤rows.length then(if fl then []else((rows.drop r).take len).flatMap fun cs=>cs.flatMap q)else []
 |_=>[]
theorem aK8(d:Nat)(h:Pv)(st b r len:Nat):Qv (d+1) (hf h) (.slr st b r len)=lvS b (h[b]?) (Qv d (hf h)) r len:=by
 have e:Qv (d+1) (hf h) (.slr st b r len)=b::(match Uf (hf h) b r len with|some (_,fl,rows)=>if fl then []else rows.flatMap fun cs=>cs.flatMap (Qv d (hf h))|none=>[]):=rfl
 rw[e]
 generalize Qv d (hf h)=q
 unfold Uf lvS
 have eh:hf h b=h[b]?:=rfl
 rw[eh]
 cases h[b]? with
 |none=>rfl
 |some c=>
  cases c with
  |live st fl w rows=>simp only;by_cases hq:r+len≤rows.length<;>simp[hq]
  |frz st fl rows=>simp only;by_cases hq:r+len≤rows.length<;>simp[hq]
  |_=>rfl
theorem aQB(b:Nat)(st:Nat)(w:Bool)(rows:List (List AV))(q:AV→List Nat)(r len:Nat):lvS b (some (.live st true w rows)) q r len=[b]:=by simp[lvS]
theorem aQU(m:List Nat)(base i:Nat):Uh m base i=if i<m.length then m.getD i base else base+(i-m.length):=abY rfl rfl
theorem ajO(d:Nat)(f:Nat→Nat)(b:Bool):Si (d+1) f (.bool b)=some (.bool b):=abY rfl rfl
theorem aK3(d:Nat)(f:Nat→Nat)(k:IntKind)(n:Int):Si (d+1) f (.int k n)=some (.int k n):=abY rfl rfl
theorem aFJ(d:Nat)(f:Nat→Nat)(n:Nat)(fl nn:Bool)(rows:List (List AV)):Si (d+1) f (Ux n fl nn rows)=some (Ux n fl nn rows):=Xz f (eD d n fl nn rows)
theorem aAT(d:Nat)(f:Nat→Nat)(b r o:Nat):Si (d+1) f (.ptr b r o)=some (.ptr (f b) r o):=abY rfl rfl
theorem anF(d:Nat)(f:Nat→Nat)(st b r len:Nat):Si (d+1) f (.slr st b r len)=some (.slr st (f b) r len):=abY rfl rfl
def rnA(x:Option (List AV)):Option AV:=x.map .agg
def rnT(x:Option (List AV)):Option AV:=x.map .tup
theorem afT(cs:List AV):rnA (some cs)=some (.agg cs):=abY rfl rfl
theorem ae4(cs:List AV):rnT (some cs)=some (.tup cs):=abY rfl rfl
theorem anA(d:Nat)(f:Nat→Nat)(cs:List AV):Si (d+1) f (.agg cs)=rnA (Rn (Si d f) cs):=abY rfl rfl
theorem anG(d:Nat)(f:Nat→Nat)(cs:List AV):Si (d+1) f (.tup cs)=rnT (Rn (Si d f) cs):=abY rfl rfl
def rnG(fn:Fn)(a:List AV)(x:Option (List AV)):Option AV:=x.map fun b=>.func fn a b
def rnF(fn:Fn)(b:Option (List AV))(x:Option (List AV)):Option AV:=x.bind fun a=>rnG fn a b
theorem ab7(fn:Fn)(a b:List AV):rnG fn a (some b)=some (.func fn a b):=abY rfl rfl
theorem acH(fn:Fn)(b:Option (List AV))(a:List AV):rnF fn b (some a)=rnG fn a b:=abY rfl rfl
theorem akX(d:Nat)(f:Nat→Nat)(fn:Fn)(a b:List AV):Si (d+1) f (.func fn a b)=rnF fn (Rn (Si d f) b) (Rn (Si d f) a):=abY rfl rfl
def rbW(st:Nat)(w:Bool)(x:Option (List (List AV))):Option CB:=x.map (.live st false w)
theorem agY(st:Nat)(w:Bool)(rows:List (List AV)):rbW st w (some rows)=some (.live st false w rows):=abY rfl rfl
theorem aRD(f:Nat→Nat)(st:Nat)(w:Bool)(rows:List (List AV)):Wy f (.live st true w rows)=some (.live st true w rows):=abY rfl rfl
theorem aQ4(f:Nat→Nat)(st:Nat)(w:Bool)(rows:List (List AV)):Wy f (.live st false w rows)=rbW st w (Rn (Rn (Si 8 f)) rows):=abY rfl rfl
def peE(b:Nat)(c:Option CB)(x:Option (List Py)):Option (List Py):=c.bind fun c=>x.map fun es=>.put b c::es
def peK(f:Nat→Nat)(b:Nat)(c:CB)(same bad:Bool)(x:Option (List Py)):Option (List Py):=bif same then x else bif bad then none else peE b (Wy f c) x
theorem aR9(f:Nat→Nat)(b:Nat)(c:CB)(bad:Bool)(x:Option (List Py)):peK f b c true bad x=x:=abY rfl rfl
theorem aMQ(f:Nat→Nat):Vd f [] [] []=some []:=abY rfl rfl
theorem ak0(f:Nat→Nat)(b:Nat)(m:List Nat)(c₀ c:CB)(cs₀ cs:List CB):Vd f (b::m) (c₀::cs₀) (c::cs)=peK f b c (c₀.same c) (c.unw|| !c₀.isLive) (Vd f m cs₀ cs):=by
 conv=>lhs;unfold Vd
 unfold peK
 cases c₀.same c with
 |true=>rfl
 |false=>
  cases(c.unw|| !c₀.isLive)with
  |true=>rfl
  |false=>
   simp only[cond_false,peE]
theorem aiT(a:Nat)(b c:Bool)(r:List (List AV))(st:Nat)(fl w:Bool)(rows:List (List AV)):CB.same (.live a b c r) (.live st fl w rows)= !w:=abY rfl rfl
theorem ah5(st:Nat)(fl w:Bool)(rows:List (List AV)):CB.unw (.live st fl w rows)= !w:=abY rfl rfl
theorem akH(st:Nat)(fl w:Bool)(rows:List (List AV)):CB.isLive (.live st fl w rows)=true:=abY rfl rfl
def neK(base:Nat)(c:Option CB)(x:Option (List Py)):Option (List Py):=c.bind fun c=>x.map fun es=>.new base c::es
theorem afQ(base:Nat)(c:CB)(es:List Py):neK base (some c) (some es)=some (.new base c::es):=abY rfl rfl
theorem am1(f:Nat→Nat)(base:Nat):Wb f base []=some []:=abY rfl rfl
theorem ahR(f:Nat→Nat)(base:Nat)(c:CB)(cs:List CB):Wb f base (c::cs)=neK base (Wy f c) (Wb f (base+1) cs):=abY rfl rfl
theorem aiA(d:Nat)(fn:Fn)(a b:List AV):hasImm (d+1) (.func fn a b)=(a.any (hasImm d)||b.any (hasImm d)):=abY rfl rfl
theorem amI(b:Nat)(c:CB):Py.hasImm (.new b c)=c.hasImm:=abY rfl rfl
theorem aR1(st:Nat)(w:Bool)(rows:List (List AV)):CB.hasImm (.live st true w rows)=false:=abY rfl rfl
theorem aQM(st:Nat)(w:Bool)(rows:List (List AV)):CB.hasImm (.live st false w rows)=rows.any fun cs=>cs.any (Ev.hasImm 8):=abY rfl rfl
theorem anL(h:Pv)(b r o:Nat):vB h (.ptr b r o)=some (.ptr b r o):=abY rfl rfl
theorem akE(h:Pv)(cs:List AV):vB h (.agg cs)=rdA (Rn (Vn 11 (hf h)) cs):=abY rfl rfl
theorem zT(l:List AV):rdA (some l)=some (.agg l):=abY rfl rfl
theorem aiD(d:Nat)(h:Pv)(b:Bool):Vn (d+1) (hf h) (.bool b)=some (.bool b):=abY rfl rfl
theorem ap7(d:Nat)(h:Pv)(k:IntKind)(n:Int):Vn (d+1) (hf h) (.int k n)=some (.int k n):=abY rfl rfl
theorem am7(d:Nat)(h:Pv)(n b r len:Nat):Vn (d+1) (hf h) (.slr n b r len)=rdS (Ub d (hf h)) (h[b]?) r len:=by
 have e:Vn (d+1) (hf h) (.slr n b r len)=(Uf (hf h) b r len).bind fun x=>if x.2.1=true then some (.imm x.1 true x.2.2)else(Rn (Rn (Ub d (hf h))) x.2.2).map (.imm x.1 false):=rfl
 rw[e]
 generalize Ub d (hf h)=q
 unfold Uf rdS
 have eh:hf h b=h[b]?:=rfl
 rw[eh]
 cases h[b]? with
 |none=>rfl
 |some c=>
  cases c with
  |live st fl w rows=>
   simp only[rdR]
   by_cases hq:r+len≤rows.length
   ·cases fl<;>simp[hq]
   ·simp[hq]
  |frz st fl rows=>
   simp only[rdR]
   by_cases hq:r+len≤rows.length
   ·cases fl<;>simp[hq]
   ·simp[hq]
  |_=>rfl
def mfK(f:Nat)(a b:Option (List AV)):OE:=a.bind fun a=>b.bind fun b=>some (.ret (.func (.func f) a b),[])
theorem ab5(f:Nat)(a b:List AV):mfK f (some a) (some b)=some (.ret (.func (.func f) a b),[]):=abY rfl rfl
theorem aRR(t:List AV)(h:Pv)(f:Nat)(a b:Array Operand):Tz O P t h (.makeFunc (.func f) a b)=mfK f (Rk t a.toList) (Rk t b.toList):=by
 rw[Sl _ _ _ rfl]
 simp only[exec,mfK]
 cases Rk t a.toList with
 |none=>rfl
 |some a=>cases Rk t b.toList<;>rfl
def msK(n:Nat)(z:AV)(base:Nat)(l c:Option AV):OE:=
 match l,c with
 |some (.int .i64 l),some (.int .i64 c)=>if 0≤l∧l≤c∧c≤2 ^ 40∧(Qc z).all AV.isCell=true then some (.ret (.slr n base 0 l.toNat),[.new base (.live n ((Qc z).all AV.flat) false (ahJ l.toNat (Qc z)))])else none
 |_,_=>none
theorem aeQ(n:Nat)(z:AV)(base:Nat)(l c:Int):msK n z base (some (.int .i64 l)) (some (.int .i64 c))=if 0≤l∧l≤c∧c≤2 ^ 40∧(Qc z).all AV.isCell=true then some (.ret (.slr n base 0 l.toNat),[.new base (.live n ((Qc z).all AV.flat) false (ahJ l.toNat (Qc z)))])else none:=abY rfl rfl
def msO(P:Program)(ty:TypeId)(base:Nat)(l c:Option AV):OE:=rD (l.bind fun l=>c.bind fun c=>Vg P base ty l c)
theorem aSC(t:List AV)(h:Pv)(ty:TypeId)(l c:Operand):Tz O P t h (.makeSlice ty l c)=msO P ty h.length (Qa t l) (Qa t c):=Sl _ _ _ rfl
theorem aP3{ty e:TypeId}{n b:Nat}{z:AV}(he:eX P ty=some e)(hn:aK P e=some n)(hb:byT P e=some b)(hz:Wc P e=some z)(ok:(decide (b≤2 ^ 7)&&decide (n≠0)&&decide ((Qc z).length=n))=true)(base:Nat)(l c:Option AV):
 msO P ty base l c=msK n z base l c:=by
 simp only[ah0,decide_eq_true_eq]at ok
 unfold msO msK
 cases l with
 |none=>rfl
 |some l=>
  cases c with
  |none=>cases l<;>first|rfl|(rename_i k _;cases k<;>rfl)
  |some c=>
   simp only[abZ,Vg,he,hn,hb,hz]
   cases l with
   |int k l=>
    cases c with
    |int k' c=>
     cases k<;>cases k'<;>first|rfl|skip
     simp only[ok.1.1,ok.1.2,ok.2,ne_eq,not_false_eq_true,true_and]
     split<;>rfl
    |_=>cases k<;>rfl
   |_=>rfl
def srS(q:Nat)(c:Option CB)(r len:Nat):Option (Bool × List (List AV)):=
 match c with
 |some (.live st fl _ rows)=>if r+len≤rows.length∧st=q then some (fl,(rows.drop r).take len)else none
 |some (.frz st fl rows)=>if r+len≤rows.length∧st=q then some (fl,(rows.drop r).take len)else none
 |_=>none
def srK(q:Nat)(h:Pv)(x:Option AV):Option (Bool × List (List AV)):=
 match x with
 |some .nils=>some (true,[])
 |some (.imm st fl rows)=>if st=q then some (fl,rows)else none
 |some (.slr _ b r len)=>srS q (h[b]?) r len
 |_=>none
theorem ac8(q st:Nat)(fl w:Bool)(rows:List (List AV))(r len:Nat):srS q (some (.live st fl w rows)) r len=if r+len≤rows.length∧st=q then some (fl,(rows.drop r).take len)else none:=abY rfl rfl
theorem agQ(q:Nat)(h:Pv):srK q h (some .nils)=some (true,[]):=abY rfl rfl
theorem xO(q:Nat)(h:Pv)(st:Nat)(fl:Bool)(rows:List (List AV)):srK q h (some (.imm st fl rows))=if st=q then some (fl,rows)else none:=abY rfl rfl
theorem yX(q:Nat)(h:Pv)(st b r len:Nat):srK q h (some (.slr st b r len))=srS q (h[b]?) r len:=abY rfl rfl
def apS(n base b r len:Nat)(nfl:Bool)(new:List (List AV))(c:Option CB):OE:=
 match c with
 |some (.live st fl _ rows)=>if st=n∧r+len=rows.length∧len+new.length≤2 ^ 39 then some (.ret (.slr st base 0 (len+new.length)),[.put b .dead,.new base (.live st (fl&&nfl) false (rows.drop r++new))])else none
 |_=>none
theorem aeA(n base b r len:Nat)(nfl:Bool)(new:List (List AV))(st:Nat)(fl w:Bool)(rows:List (List AV)):apS n base b r len nfl new (some (.live st fl w rows))=if st=n∧r+len=rows.length∧len+new.length≤2 ^ 39 then some (.ret (.slr st base 0 (len+new.length)),[.put b .dead,.new base (.live st (fl&&nfl) false (rows.drop r++new))])else none:=abY rfl rfl
def apK(n:Nat)(h:Pv)(s:Option AV)(x:Option (Bool × List (List AV))):OE:=
 match s,x with
 |some .nils,some (_,[])=>some (.ret .nils,[])
 |some (.slr a b r l),some (_,[])=>some (.ret (.slr a b r l),[])
 |some (.imm a b r),some (_,[])=>some (.ret (.imm a b r),[])
 |some .nils,some (nfl,r::new)=>if(r::new).length≤2 ^ 39 then some (.ret (.slr n h.length 0 (r::new).length),[.new h.length (.live n nfl false (r::new))])else none
 |some (.slr _ b r len),some (nfl,q::new)=>apS n h.length b r len nfl (q::new) (h[b]?)
 |_,_=>none
theorem aoD(n:Nat)(h:Pv)(a b r l:Nat)(nfl:Bool):apK n h (some (.slr a b r l)) (some (nfl,[]))=some (.ret (.slr a b r l),[]):=abY rfl rfl
theorem xF(n:Nat)(h:Pv)(nfl:Bool)(r:List AV)(new:List (List AV)):apK n h (some .nils) (some (nfl,r::new))=if(r::new).length≤2 ^ 39 then some (.ret (.slr n h.length 0 (r::new).length),[.new h.length (.live n nfl false (r::new))])else none:=abY rfl rfl
theorem afJ(n:Nat)(h:Pv)(a b r len:Nat)(nfl:Bool)(q:List AV)(new:List (List AV)):apK n h (some (.slr a b r len)) (some (nfl,q::new))=apS n h.length b r len nfl (q::new) (h[b]?):=abY rfl rfl
def apO(P:Program)(ty:TypeId)(h:Pv)(s x:Option AV):OE:=rD (s.bind fun s=>x.bind fun x=>Uw P (hf h) h.length ty s x)
theorem alW(t:List AV)(h:Pv)(s x:Operand)(ty ty1 e1:TypeId)(hu:P.underlying ty1=some (.slice e1)):Tz O P t h (.call ⟨.builtin .append,#[s,x],#[ty,ty1]⟩)=apO P ty h (Qa t s) (Qa t x):=by
 rw[Sl _ _ _ rfl]
 simp only[exec,Rk,apO]
 cases Qa t s with
 |none=>rfl
 |some a=>
  cases Qa t x with
  |none=>rfl
  |some b=>
   simp only[abZ,adC]
   have e0:(#[ty,ty1]:Array TypeId)[0]?=some ty:=rfl
   have e1:(#[ty,ty1]:Array TypeId)[1]?=some ty1:=rfl
   simp only[e0,e1,abZ,hu]
theorem aeM{ty e:TypeId}{n b:Nat}{z:AV}(he:eX P ty=some e)(hn:aK P e=some n)(hb:byT P e=some b)(hz:Wc P e=some z)(ok:(decide (b≤2 ^ 7)&&decide (n≠0)&&decide ((Qc z).length=n))=true)(h:Pv)(s x:AV)(hx:∀q,x≠.str q):
 apO P ty h (some s) (some x)=apK n h (some s) (srK n h (some x)):=by
 simp only[ah0,decide_eq_true_eq]at ok
 have hbad:¬(n=0∨2 ^ 7<b∨(Qc z).length≠n):=by
  rintro(h1|h1|h1)
  ·exact ok.1.2 h1
  ·omega
  ·exact h1 ok.2
 unfold apO
 simp only[abZ,Uw,he,hn,hb,hz]
 have key:∀(nfl:Bool) (new:List (List AV)) (fs:List Rw),rD (if n=0∨2 ^ 7<b∨(Qc z).length≠n then none else
  match s,new with
  |s,[]=>match s with
   | .nils| .slr _ _ _ _| .imm _ _ _=>some ⟨s,[],fs⟩
   |_=>none
  | .nils,new=>if new.length≤2 ^ 39 then some ⟨.slr n h.length 0 new.length,[.new h.length (.live n nfl false new)],fs⟩else none
  | .slr _ b r len,new=>
    match hf h b with
    |some (.live st fl _ rows)=>
     if st=n∧r+len=rows.length∧len+new.length≤2 ^ 39 then
      some ⟨.slr st h.length 0 (len+new.length),[.put b .dead,.new h.length (.live st (fl&&nfl) false (rows.drop r++new))],.blk b::fs⟩
     else none
    |_=>none
  |_,_=>none)=apK n h (some s) (some (nfl,new)):=fun nfl new fs=>by
  rw[if_neg hbad]
  cases new with
  |nil=>cases s<;>rfl
  |cons q new=>
   cases s with
   |nils=>simp only[xF];split<;>rfl
   |slr a b r len=>
    simp only[afJ]
    unfold apS
    have eh:hf h b=h[b]?:=rfl
    rw[eh]
    cases h[b]? with
    |none=>rfl
    |some c=>
     cases c with
     |live st fl w rows=>simp only;split<;>rfl
     |_=>rfl
   |_=>rfl
 cases x with
 |nils=>exact key true [] []
 |imm st fl rows=>
  simp only[Sr,xO,hn,ah8.injEq]
  by_cases hq:n=st
  ·subst hq;simp only[if_true,abZ];exact key fl rows []
  ·rw[if_neg hq,if_neg (fun e=>hq e.symm)]
   cases s<;>rfl
 |slr st b' r len=>
  simp only[Sr,yX,hn,Uf,srS]
  have eh:hf h b'=h[b']?:=rfl
  rw[eh]
  cases h[b']? with
  |none=>cases s<;>rfl
  |some c=>
   cases c with
   |live st fl w rows=>
    simp only
    by_cases hq:r+len≤rows.length
    ·simp only[hq,if_true,abZ,true_and,ah8.injEq]
     by_cases hq2:n=st
     ·subst hq2;simp only[if_true,abZ];exact key fl _ _
     ·rw[if_neg hq2,if_neg (fun e=>hq2 e.symm)];cases s<;>rfl
    ·simp only[hq,if_false,false_and];cases s<;>rfl
   |frz st fl rows=>
    simp only
    by_cases hq:r+len≤rows.length
    ·simp only[hq,if_true,abZ,true_and,ah8.injEq]
     by_cases hq2:n=st
     ·subst hq2;simp only[if_true,abZ];exact key fl _ _
     ·rw[if_neg hq2,if_neg (fun e=>hq2 e.symm)];cases s<;>rfl
    ·simp only[hq,if_false,false_and];cases s<;>rfl
   |_=>cases s<;>rfl
 |str q=>exact(hx q rfl).elim
 |_=>cases s<;>rfl
def rtK(Q:Tn→Pv→Prop)(x:Option (List AV × List CB × List Nat)):Prop:=
 match x with
 |some ([v],cs,_)=>Q (.ret v) cs
 |_=>False
theorem afC(Q:Tn→Pv→Prop)(v:AV)(cs:List CB)(m:List Nat):rtK Q (some ([v],cs,m))=Q (.ret v) cs:=abY rfl rfl
theorem al0{q:Nat}{vs:List AV}{h:Pv}{Q:Tn→Pv→Prop}:Rt q (some vs) h Q=rtK Q (Xb (hf h) (ai6 q) [aD vs]):=by
 unfold Rt ajP
 simp only[abZ,bI]
 cases hp:Xb (hf h) (ai6 q) [aD vs]with
 |none=>simp[rtK]
 |some x=>
  obtain⟨ws,cs,m⟩:=x
  simp only[abZ]
  match ws with
  | [v]=>
    simp only[rtK,adC]
    exact propext ⟨fun⟨o,h',e,k⟩=>by cases e;exact k,fun k=>⟨_,_,rfl,k⟩⟩
  | []=>simp[rtK]
  |_::_::_=>simp[rtK]
theorem aFM(vs:List AV)(h:Pv)(Q:Tn→Pv→Prop):Rt1 0 (some vs) h Q=rtK Q (Xb (hf h) [] [aD vs]):=al0
theorem ahZ(q:Nat)(vs:List AV)(h:Pv)(Q:Tn→Pv→Prop):Rt (q+1) (some vs) h Q=rtK Q (Xb (hf h) (ai6 (q+1)) [aD vs]):=al0
end
end
noncomputable section
set_option maxRecDepth 100000
def EVi:=PLift.up (aaN @zC (aaN @vO (aaN @ahP (aaN @aFI (aaN @aAU (aaN @as0 (aaN @aoM (aaN @aMR (aaN @agX (aaN @acW (aaN @aK2 (aaN @amX (aaN @acL (aaN @ad6 (aaN @aj3 (aaN @acN (aaN @agU (aaN @aiZ (aaN @acZ (aaN @ac2 (aaN @afX (aaN @amE (aaN @ai8 (aaN @afW (aaN @aRF (aaN @aQZ (aaN @acU (aaN @adK (aaN @afP @ab8)))))))))))))))))))))))))))))
def EVj:=PLift.up (aaN @ad1 (aaN @aPY (aaN @aeF (aaN @ac3 (aaN @aRO (aaN @aTU (aaN @af7 (aaN @aeS (aaN @ah6 (aaN @ag0 (aaN @akD (aaN @akI (aaN @amL (aaN @aIU (aaN @ajJ (aaN @amU (aaN @aI3 (aaN @aK8 (aaN @aQB (aaN @aQU (aaN @ajO (aaN @aK3 (aaN @aFJ (aaN @aAT (aaN @anF @afT)))))))))))))))))))))))))
def EVk:=PLift.up (aaN @ae4 (aaN @anA (aaN @anG (aaN @ab7 (aaN @acH (aaN @akX (aaN @agY (aaN @aRD (aaN @aQ4 (aaN @aR9 (aaN @aMQ (aaN @ak0 (aaN @aiT (aaN @ah5 (aaN @akH (aaN @afQ (aaN @am1 (aaN @ahR (aaN @aiA (aaN @amI (aaN @aR1 (aaN @aQM @anL))))))))))))))))))))))
def EVl:=PLift.up (aaN @akE (aaN @zT (aaN @aiD (aaN @ap7 (aaN @am7 (aaN @ab5 (aaN @aRR (aaN @aeQ (aaN @aSC (aaN @ac8 (aaN @agQ (aaN @xO (aaN @yX (aaN @aeA (aaN @aoD (aaN @xF (aaN @afJ (aaN @afC (aaN @aFM (aaN @ahZ (aaN @List.flatMap_cons.{0,0} (aaN @List.flatMap_nil.{0,0} (aaN @List.isEmpty_nil.{0} (aaN @List.isEmpty_cons.{0} (aaN @List.getD_cons_zero.{0} (aaN @List.range_succ (aaN @List.range_zero (aaN @List.contains_nil.{0} @List.contains_cons.{0}))))))))))))))))))))))))))))
def EVm:=PLift.up (aaN @List.getElem?_nil.{0} @abP)
end
noncomputable section
theorem vT{n:Nat}{fl nn:Bool}{rows:List (List AV)}(h:rows≠[]):Ux n fl nn rows=.imm n fl rows:=by
 cases rows with
 |nil=>exact(h rfl).elim
 |cons r rs=>rfl
theorem dK(n:Nat)(fl:Bool)(rows:List (List AV)):Ux n fl true rows=.imm n fl rows:=by cases rows<;>rfl
section
variable {P:Program} {t e:TypeId} (hu:P.underlying t=some (.slice e))
include hu
theorem rY(n:Nat)(fl:Bool)(rows:List (List AV)):Yk P .eql t (.imm n fl rows) .nils=some (.bool false):=by simp[Yk,nZ,hu]
end
def am9(v:Option AV)(ns:Option (List Py)):Option Xc:=v.bind fun v=>ns.map fun ns=>⟨.ret v,ns,[]⟩
theorem aaF(v:AV)(ns:List Py):am9 (some v) (some ns)=some ⟨.ret v,ns,[]⟩:=abY rfl rfl
theorem ag2(base:Nat)(v:AV)(c:CB)(cs:List CB):ac0 base (some (.ret v,c::cs))=am9 (Si 8 (fun i=>base+i) v) (Wb (fun i=>base+i) base (c::cs)):=by
 simp only[ac0,am9,abZ,Tn.v,Tn.map]
def aMW(h:Pv)(lent:List Nat)(v:Option AV)(ns:Option (List Py)):OE:=v.bind fun v=>ns.map fun ns=>(.ret v,(if lent.isEmpty|| !(hasImm 8 v||ns.any Py.hasImm)then []else Tu (hf h) lent)++ns)
theorem aaT(h:Pv)(lent:List Nat)(v:AV)(ns:List Py):aMW h lent (some v) (some ns)=some (.ret v,(if(lent.isEmpty|| !(hasImm 8 v||ns.any Py.hasImm))=true then []else Tu (hf h) lent)++ns):=abY rfl rfl
theorem adH(h:Pv)(base:Nat)(lent:List Nat)(v:AV)(c:CB)(cs:List CB):crR h base lent (some (.ret v,c::cs))=aMW h lent (Si 8 (fun i=>base+i) v) (Wb (fun i=>base+i) base (c::cs)):=by
 simp only[crR,aMW,abZ,Tn.v,Tn.map]
section
variable {O:Ui}
theorem aQ7(h:Pv)(f:Nat)(args:List AV):shC O h f args=if(jJ args||O.md f)=true then shK h (O.call (.sh f) args (Xj h))else cr (Sj O (hf h) h.length (.fn f) args):=abY rfl rfl
end
theorem amF(b r o:Nat)(l:List AV):jJ (.ptr b r o::l)=false:=abY rfl rfl
theorem amN(a b r n:Nat)(l:List AV):jJ (.slr a b r n::l)=false:=abY rfl rfl
theorem aPP(b:Nat)(l:List AV):jJ (.yl b::l)=true:=abY rfl rfl
theorem amQ:Xj []=[]:=abY rfl rfl
theorem akG(c:CB)(h:Pv):Xj (c::h)=c.clean::Xj h:=abY rfl rfl
theorem anJ(h h':Pv):Xj (h++h')=Xj h++Xj h':=List.map_append
theorem anR(h:Pv)(b:Nat):(Xj h)[b]?=(h[b]?).map CB.clean:=by simp[Xj]
theorem aPS(ps:List Nat)(a b:Code)(t:List AV)(st:Xl):CB.clean (.lp ps a b t st)=.lp ps a b t st:=abY rfl rfl
def Re(h:Pv):Bool:=h.all fun c=>c.quiet c.clean
theorem yK:∀{h:Pv} (_:Re h=true) (i:Nat) (l:Pv),Sz i h (Xj h++l)=some (Wa (i+h.length) l)
 | [],_,i,l=>by simp[Xj,Sz]
 |c::h,hq,i,l=>by
  simp only[Re,List.all_cons,ah0]at hq
  have ih:=yK (h:=h) hq.2 (i+1) l
  simp only[Xj,List.map_cons,ahA,Sz,hq.1,cond_true]at ih ⊢
  rw[ih,ahC]
  congr 2;omega
theorem pW:∀(cs:List CB) (i:Nat) (h:Pv),Rx h (Wa i cs)=h++cs
 | [],i,h=>by simp[Wa,Rx]
 |c::cs,i,h=>by simp[Wa,Rx,aE,pW cs]
theorem qK(h:Pv)(o:Tn)(h':Pv):shK h (some (o,h'))=(Sz 0 h h').map fun es=>(o,es):=abY rfl rfl
def EVo:=PLift.up (aaN @am3 (aaN @amT (aaN @aRC (aaN @aiI (aaN @aMY (aaN @akS (aaN @awT (aaN @anO @anH))))))))
def EVn:=PLift.up (aaN @aaF (aaN @ag2 (aaN @aaT @adH)))
def EVp:=PLift.up (aaN @aQ7 (aaN @amF (aaN @amN (aaN @aPP (aaN @amQ (aaN @akG (aaN @anJ (aaN @anR @aPS))))))))
end
noncomputable section
def aC:CB→Option (Nat × Bool × List (List AV))
 | .live st fl _ rows=>some (st,fl,rows)
 | .frz st fl rows=>some (st,fl,rows)
 |_=>none
end
noncomputable section
open Go.RowKit
section
variable {P:Program} {O:Ui} {pr:Yv}
def fnS(P:Program)(rs:List ResultVar)(x:R):Option (Tn × Pv):=
 match x with
 |some (.normal,s)|some (.ret,s)=>(aO P s rs).map fun vs=>(.ret (aD vs),s.h)
 |some (.pan v,s)=>some (.pan v,s.h)
 |_=>none
theorem aFH{f:Nat}{fn:Func}(hf:P.funcs[f]?=some fn){c:Code}(hb:fn.body=some c){args:List AV}(hl:args.length≤fn.ntmps)(h:Pv):
 evS O P f args h=fnS P fn.results.toList (Rr O P Wz c [] ⟨mk fn.ntmps (eU args),h⟩):=by
 unfold evS
 simp only[hf,hb]
 rw[aeG _ _ hl]
 cases Rr O P Wz c [] ⟨mk fn.ntmps (eU args),h⟩with
 |none=>rfl
 |some x=>
  obtain⟨e,s⟩:=x
  cases e<;>rfl
def FnS(P:Program)(rs:List ResultVar)(Q:Tn→Pv→Prop)(x:R):Prop:=∃o h,fnS P rs x=some (o,h)∧Q o h
def RtS(vs:Option (List AV))(h:Pv)(Q:Tn→Pv→Prop):Prop:=
 match vs with
 |some vs=>Q (.ret (aD vs)) h
 |none=>False
theorem wJ(rs:List ResultVar)(Q:Tn→Pv→Prop)(t:List AV)(h:Pv):FnS P rs Q (some (.ret,⟨t,h⟩))=RtS (aO P ⟨t,h⟩ rs) h Q:=by
 cases hr:aO P ⟨t,h⟩ rs with
 |none=>simp[FnS,fnS,RtS,hr]
 |some vs=>
  have e:fnS P rs (some (.ret,⟨t,h⟩))=some (.ret (aD vs),h):=by simp[fnS,hr]
  exact propext (Iff.intro (fun⟨o,h',e',q⟩=>by rw[e]at e';cases e';exact q) (fun q=>⟨_,_,e,q⟩))
theorem Zv(rs:List ResultVar)(Q:Tn→Pv→Prop)(t:List AV)(h:Pv):FnS P rs Q (some (.normal,⟨t,h⟩))=RtS (aO P ⟨t,h⟩ rs) h Q:=by
 rw[←wJ];rfl
theorem ae9(vs:List AV)(h:Pv)(Q:Tn→Pv→Prop):RtS (some vs) h Q=Q (.ret (aD vs)) h:=abY rfl rfl
theorem ad5{rs:List ResultVar}{Q:Tn→Pv→Prop}:¬FnS P rs Q none:=fun⟨_,_,h,_⟩=>by simp[fnS]at h
def ShQ(O:Ui)(f:Nat)(args:List AV)(h:Pv)(Q:Tn→Pv→Prop):Prop:=∃o h',O.call (.sh f) args h=some (o,h')∧Q o h'
theorem ShQ.start{f:Nat}{fn:Func}{c:Code}{args:List AV}{h:Pv}{Q:Tn→Pv→Prop}(hp:pr f=none)(hf:P.funcs[f]?=some fn)(hb:fn.body=some c)(hl:Nat.ble args.length fn.ntmps=true)
 (he:FnS P fn.results.toList Q (Rr (om P pr) P 5000 c [] ⟨mk fn.ntmps (eU args),h⟩)):ShQ (om P pr) f args h Q:=by
 obtain⟨o,h',e,q⟩:=he
 exact⟨o,h',alT hp ((aFH hf hb (Nat.le_of_ble_eq_true hl) h).trans e),q⟩
theorem ShQ.eq{f:Nat}{args:List AV}{h:Pv}{o:Tn}{h':Pv}(k:ShQ O f args h fun o1 h1=>(o1,h1)=(o,h')):O.call (.sh f) args h=some (o,h'):=by
 obtain⟨o1,h1,e,q⟩:=k
 rw[e,q]
def ncK(x:Option AV):OE:=
 match x with
 |some (.ptr b r o)=>some (.ret (.ptr b r o),[])
 |some (.iptr cs)=>some (.ret (.iptr cs),[])
 |some (.func (.func f) a c)=>some (.ret (.func (.func f) a c),[])
 |_=>none
theorem anN(b r o:Nat):ncK (some (.ptr b r o))=some (.ret (.ptr b r o),[]):=abY rfl rfl
theorem aR0(t:List AV)(h:Pv)(x:Operand):Tz O P t h (.nilCheck x)=ncK (Qa t x):=by
 rw[Sl _ _ _ rfl]
 simp only[exec,ncK]
 cases Qa t x with
 |none=>rfl
 |some v=>
  cases v with
  |func fn a c=>cases fn<;>rfl
  |_=>rfl
theorem aRA(t:List AV)(h:Pv)(x:Operand):hU O P t h (.nilCheck x)=some []:=abY rfl rfl
end
def EVq:=PLift.up (aaN @wJ (aaN @Zv (aaN @ae9 (aaN @anN (aaN @aR0 @aRA)))))
end
noncomputable section
open Go.RowKit
section
variable {P:Program} {O:Ui}
end
section
variable {P:Program} (ty:TypeId)
end
theorem qO{α:Type}{f:α→Option α}:∀{l:List α},(∀x∈l,f x=some x)→Rn f l=some l
 | [],_=>rfl
 |a::l,h=>by simp only[Rn,h a (ag6 ..),abZ,qO (fun x hx=>h x (ag7 _ hx)),adC]
theorem aMT{n:Nat}{h:Pv}{nfl:Bool}{rows:List (List AV)}(hr:rows≠[])(hl:rows.length≤549755813888):apK n h (some .nils) (some (nfl,rows))=some (.ret (.slr n h.length 0 rows.length),[.new h.length (.live n nfl false rows)]):=by
 cases rows with
 |nil=>exact(hr rfl).elim
 |cons r new=>rw[xF,if_pos (by simpa using hl)]
end
noncomputable section
open Go.RowKit
section
variable {P:Program} {O:Ui} {pr:Yv}
def rnX(O:Ui)(P:Program)(n:Nat)(k:List Qj)(t:List AV)(b:Nat)(h2:Pv)(x:Option CB):R:=
 match x with
 |some (.lp _ _ _ _ .ready)=>Rq (Rr O P n) k .normal ⟨t,h2.set b .dead⟩
 |some (.lp _ _ _ _ (.done .ret))=>Rq (Rr O P n) k .ret ⟨t,h2.set b .dead⟩
 |some (.lp _ _ _ _ (.done (.exit i)))=>Rq (Rr O P n) k (.exit i) ⟨t,h2.set b .dead⟩
 |_=>none
def rnE(O:Ui)(P:Program)(n:Nat)(k:List Qj)(t:List AV)(b:Nat)(h1:Pv)(x:OE):R:=
 match x with
 |some (.ret _,es)=>rnX O P n k t b (Rx h1 es) ((Rx h1 es)[b]?)
 |_=>none
def rnC(O:Ui)(h1:Pv)(b:Nat)(fv:Option AV):OE:=
 match fv with
 |some (.func (.func g) a c)=>cr (Tv O (hf h1) h1.length (aY g (a++[.yl b]++c)) (a++[.yl b]++c))
 |_=>none
theorem aP1(n:Nat)(k:List Qj)(t:List AV)(b:Nat)(h1:Pv)(x:Option Xc):
 (x.bind fun d=>match d.out with
   | .ret _=>
     let h2:=Rx h1 d.es
     match h2[b]? with
     |some (.lp _ _ _ _ .ready)=>Rq (Rr O P n) k .normal ⟨t,h2.set b .dead⟩
     |some (.lp _ _ _ _ (.done .ret))=>Rq (Rr O P n) k .ret ⟨t,h2.set b .dead⟩
     |some (.lp _ _ _ _ (.done (.exit i)))=>Rq (Rr O P n) k (.exit i) ⟨t,h2.set b .dead⟩
     |_=>none
   | .pan _=>none)=rnE O P n k t b h1 (cr x):=by
 cases x with
 |none=>rfl
 |some d=>
  obtain⟨o,es,fs⟩:=d
  cases o<;>rfl
theorem aFG(n:Nat)(f:Operand)(ps:Array Nat)(asg body:Code)(k:List Qj)(t:List AV)(h:Pv):
 Rr O P (n+1) (.rangeFunc f ps asg body) k ⟨t,h⟩=rnE O P n k t h.length (h++[.lp ps.toList asg body t .ready]) (rnC O (h++[.lp ps.toList asg body t .ready]) h.length (Qa t f)):=by
 simp only[Rr,rnC]
 cases Qa t f with
 |none=>rfl
 |some v=>
  simp only[abZ]
  cases v with
  |func fn a c=>
   cases fn with
   |func g=>exact aP1 n k t h.length _ _
   |_=>rfl
  |_=>rfl
theorem amC(h1:Pv)(b g:Nat)(a c:List AV):rnC O h1 b (some (.func (.func g) a c))=if nW (a++[.yl b]++c)=true then shC O h1 g (a++[.yl b]++c)else cr (Sj O (hf h1) h1.length (.fn g) (a++[.yl b]++c)):=ag4 h1 g _
theorem aj7(n:Nat)(k:List Qj)(t:List AV)(b:Nat)(h1:Pv)(v:AV)(es:List Py):rnE O P n k t b h1 (some (.ret v,es))=rnX O P n k t b (Rx h1 es) ((Rx h1 es)[b]?):=abY rfl rfl
theorem zW(n:Nat)(k:List Qj)(t:List AV)(b:Nat)(h2:Pv)(ps:List Nat)(asg body:Code)(tm:List AV):rnX O P n k t b h2 (some (.lp ps asg body tm .ready))=Rq (Rr O P n) k .normal ⟨t,h2.set b .dead⟩:=abY rfl rfl
def slK(h:Pv)(b:Nat)(ok:Xl→Bool)(st:Xl)(x:Option CB):Option Pv:=
 match x with
 |some (.lp ps asg body tmps st')=>if ok st' then some (h.set b (.lp ps asg body tmps st))else none
 |_=>none
theorem aQI(h:Pv)(b:Nat)(ok:Xl→Bool)(st:Xl):Yy h b ok st=slK h b ok st (h[b]?):=by
 unfold Yy slK
 cases h[b]? with
 |none=>rfl
 |some c=>cases c<;>rfl
theorem agT(h:Pv)(b:Nat)(st:Xl)(ps:List Nat)(asg body:Code)(tm:List AV):slK h b Xl.isReady st (some (.lp ps asg body tm .ready))=some (h.set b (.lp ps asg body tm st)):=abY rfl rfl
theorem alH(h:Pv)(b:Nat)(st:Xl)(ps:List Nat)(asg body:Code)(tm:List AV):slK h b Xl.isBusy st (some (.lp ps asg body tm .busy))=some (h.set b (.lp ps asg body tm st)):=abY rfl rfl
def aj2(O:Ui)(P:Program)(body:Code)(t:List AV)(x:Option Pv):R:=
 match x with
 |some h1=>Rr O P 5000 body [] ⟨t,h1⟩
 |none=>none
def agN(O:Ui)(P:Program)(b:Nat)(body:Code)(x:R):R:=
 match x with
 |some (.normal,s)=>aj2 O P body s.tmps (Yy s.h b Xl.isReady .busy)
 |_=>none
def uU(r:Bool)(x:Option Pv):Option (Tn × Pv):=x.map fun h2=>(.ret (.bool r),h2)
def aaJ(b:Nat)(x:R):Option (Tn × Pv):=
 match x with
 |some (.normal,s)=>uU true (Yy s.h b Xl.isBusy .ready)
 |some (.ret,s)=>uU false (Yy s.h b Xl.isBusy (.done .ret))
 |some (.exit i,s)=>uU false (Yy s.h b Xl.isBusy (.done (.exit i)))
 |_=>none
theorem abW(body:Code)(t:List AV)(h:Pv):aj2 O P body t (some h)=Rr O P 5000 body [] ⟨t,h⟩:=abY rfl rfl
theorem tM(b:Nat)(body:Code)(t:List AV)(h:Pv):agN O P b body (some (.normal,⟨t,h⟩))=aj2 O P body t (Yy h b Xl.isReady .busy):=abY rfl rfl
theorem aaK(r:Bool)(h:Pv):uU r (some h)=some (.ret (.bool r),h):=abY rfl rfl
theorem acJ{vs:List AV}{b:Nat}{h:Pv}{ps:List Nat}{asg body:Code}{tm:List AV}{st:Xl}(hb:h[b]?=some (.lp ps asg body tm st))(hl:ps.length=vs.length):
 Ye O P (vs++[.yl b]) h=aaJ b (agN O P b body (Rr O P 5000 asg [] ⟨Zl tm ps vs,h⟩)):=by
 unfold Ye
 simp only[List.reverse_append,List.reverse_cons,List.reverse_nil,ag8,ahA,List.reverse_reverse,List.length_reverse,hb,hl,if_true,Wz]
 cases Rr O P 5000 asg [] ⟨Zl tm ps vs,h⟩with
 |none=>rfl
 |some x=>
  obtain⟨e,s⟩:=x
  cases e with
  |normal=>
   simp only[abZ,agN]
   cases Yy s.h b Xl.isReady .busy with
   |none=>rfl
   |some h1=>
    simp only[abZ,aj2]
    cases Rr O P 5000 body [] ⟨s.tmps,h1⟩with
    |none=>rfl
    |some y=>
     obtain⟨e,s⟩:=y
     cases e with
     |normal=>simp only[abZ,Zd,aaJ,uU];cases Yy s.h b Xl.isBusy .ready<;>rfl
     |ret=>simp only[abZ,Zd,aaJ,uU];cases Yy s.h b Xl.isBusy (.done .ret)<;>rfl
     |exit i=>simp only[abZ,Zd,aaJ,uU];cases Yy s.h b Xl.isBusy (.done (.exit i))<;>rfl
     |pan v=>rfl
  |_=>rfl
def RnE(b:Nat)(Q:Tn→Pv→Prop)(x:R):Prop:=∃o h',aaJ b x=some (o,h')∧Q o h'
def RnQ(O:Ui)(args:List AV)(h:Pv)(Q:Tn→Pv→Prop):Prop:=∃o h',O.call .round args h=some (o,h')∧Q o h'
theorem RnQ.start{vs:List AV}{b:Nat}{h:Pv}{ps:List Nat}{asg body:Code}{tm:List AV}{st:Xl}{Q:Tn→Pv→Prop}(hb:h[b]?=some (.lp ps asg body tm st))(hl:ps.length=vs.length)
 (he:RnE b Q (agN (om P pr) P b body (Rr (om P pr) P 5000 asg [] ⟨Zl tm ps vs,h⟩))):RnQ (om P pr) (vs++[.yl b]) h Q:=by
 obtain⟨o,h',e,q⟩:=he
 exact⟨o,h',tD ((acJ hb hl).trans e),q⟩
theorem aMC{C:R→Prop}{n f b:Nat}{k:List Qj}{t:List AV}{h1 h2:Pv}{args:List AV}{Q:Tn→Pv→Prop}(hq:ShQ O f args h2 Q)(hk:∀o h',Q o h'→C (rnE O P n k t b h1 (shK h1 (some (o,h'))))):C (rnE O P n k t b h1 (shK h1 (O.call (.sh f) args h2))):=by
 obtain⟨o,h',e,q⟩:=hq
 rw[e];exact hk o h' q
theorem zK(b:Nat)(Q:Tn→Pv→Prop)(t:List AV)(h:Pv):RnE b Q (some (.normal,⟨t,h⟩))=∃o h',uU true (Yy h b Xl.isBusy .ready)=some (o,h')∧Q o h':=abY rfl rfl
theorem ac6{b:Nat}{Q:Tn→Pv→Prop}:¬RnE b Q none:=fun⟨_,_,h,_⟩=>by simp[aaJ]at h
theorem ahY(n:Nat)(t:Tm)(p:Nat)(ps:List Nat)(v:AV)(vs:List AV):Zl (mk n t) (p::ps) (v::vs)=Zl (mk n (up t p v)) ps vs:=by
 simp only[Zl,adG]
theorem at6(n:Nat)(t:Tm)(vs:List AV):Zl (mk n t) [] vs=mk n t:=by cases vs<;>rfl
end
def wS(f:Nat→Nat):Rw→Rw
 | .cells b o n=>.cells (f b) o n
 | .blk b=>.blk (f b)
 | .all=>.all
def lgF(f:Nat→Nat)(log:bQ):List (List Rw × List Rw):=log.map fun x=>(x.1.map fun e=>wS f e.foot,x.2.map (wS f))
def vQ(x y:List Rw × List Rw):Bool:=x.1.any (fun f=>(y.1++y.2).any f.meets)||y.1.any (fun f=>x.2.any f.meets)
def agE(ops:List Oper)(lg:List (List Rw × List Rw)):Bool:=
 (kF ops).all fun(i,j)=>match lg[i]?,lg[j]? with
   |some x,some y=> !vQ x y
   |_,_=>false
def Su(n q:Nat)(b:Nat):Nat:=if b<q then b else b-n+1000
theorem Qm{n q b:Nat}(h:b<q):Su n q b=b:=by simp[Su,h]
theorem tX(f:Nat→Nat)(x y:Rw)(h:x.meets y=true):(wS f x).meets (wS f y)=true:=by
 cases x<;>cases y<;>simp_all[Rw.meets,wS]
theorem ae1(f:Nat→Nat)(x y:List Py × List Rw)(h:Zk x y=true):vQ (x.1.map fun e=>wS f e.foot,x.2.map (wS f)) (y.1.map fun e=>wS f e.foot,y.2.map (wS f))=true:=by
 simp only[Zk,vQ,Bool.or_eq_true,List.any_eq_true,am4,List.mem_map]at h ⊢
 rcases h with⟨a,⟨e,he,rfl⟩,b,hb,hm⟩|⟨a,⟨e,he,rfl⟩,b,hb,hm⟩
 ·refine .inl ⟨_,⟨e,he,rfl⟩,wS f b,?_,tX f _ _ hm⟩
  rcases hb with⟨e',he',rfl⟩|hb
  ·exact .inl ⟨e',he',rfl⟩
  ·exact .inr ⟨b,hb,rfl⟩
 ·exact .inr ⟨_,⟨e,he,rfl⟩,wS f b,⟨b,hb,rfl⟩,tX f _ _ hm⟩
theorem ajT(f:Nat→Nat){ops:List Oper}{log:bQ}(h:agE ops (lgF f log)=true):Tt ops log=true:=by
 simp only[agE,Tt,ab2]at h ⊢
 rintro⟨i,j⟩ hij
 have:=h (i,j) hij
 simp only[lgF,al4]at this ⊢
 cases hi:log[i]? with
 |none=>simp[hi]at this
 |some x=>
  cases hj:log[j]? with
  |none=>simp[hi,hj]at this
  |some y=>
   simp only[hi,hj,adC,Bool.not_eq_true',Bool.not_eq_eq_eq_not]at this ⊢
   cases hc:Zk x y with
   |false=>rfl
   |true=>rw[ae1 f x y hc]at this;cases this
theorem Qx(n q:Nat){C:R→Prop}{ops:List Oper}{log:bQ}{k:R}(hb:agE ops (lgF (Su n q) log)=true)(h:True→C k):C (Ut (Tt ops log) k):=azX (ajT _ hb) h
theorem Qw(f:Nat→Nat):lgF f []=[]:=abY rfl rfl
theorem Qo(f:Nat→Nat)(x:List Py)(y:List Rw)(l:bQ):lgF f ((x,y)::l)=(x.map (fun e=>wS f e.foot),y.map (wS f))::lgF f l:=abY rfl rfl
theorem Qh(f:Nat→Nat)(b o n:Nat):wS f (.cells b o n)=.cells (f b) o n:=abY rfl rfl
theorem Qz(f:Nat→Nat)(b:Nat):wS f (.blk b)=.blk (f b):=abY rfl rfl
theorem Qy(b:Nat)(c:CB):Py.foot (.new b c)=.blk b:=abY rfl rfl
theorem Qg(b r o:Nat)(vs:List AV):Py.foot (.cells b r o vs)=.cells b o vs.length:=abY rfl rfl
section
variable {P:Program} {O:Ui}
end
def EVs:=PLift.up (aaN @aFG (aaN @amC (aaN @aj7 (aaN @zW (aaN @aQI (aaN @agT (aaN @alH (aaN @abW (aaN @tM (aaN @aaK (aaN @zK (aaN @ahY @at6))))))))))))
end
noncomputable section
open Go.RowKit
set_option maxRecDepth 100000
def EVZ:=PLift.up (aaN EVa.down (aaN EVb.down (aaN EVc.down (aaN EVd.down (aaN EVe.down (aaN EVf.down (aaN EVg.down (aaN EVh.down (aaN EVi.down (aaN EVj.down (aaN EVk.down (aaN EVl.down (aaN EVm.down (aaN EVn.down (aaN EVo.down (aaN EVp.down EVq.down))))))))))))))))
section
variable {P:Program} {O:Ui}
class NoN(C:R→Prop):Prop where
 no:¬C none
instance{q:Nat}{rs:List ResultVar}{Q:Tn→Pv→Prop}:NoN (FnE P q rs Q):=⟨agC⟩
instance{rs:List ResultVar}{Q:Tn→Pv→Prop}:NoN (FnS P rs Q):=⟨ad5⟩
instance{N:Nat}{J:Tm→Pv→Prop}{Q:Ex→St→Prop}:NoN (rA N J Q):=⟨ag1⟩
instance{b:Nat}{Q:Tn→Pv→Prop}:NoN (RnE b Q):=⟨ac6⟩
end
end
noncomputable section
open Go.RowKit
set_option maxRecDepth 100000
section
variable {P:Program} {O:Ui}
class Spl(r:R)(b:outParam Bool)(x y:outParam R):Prop where
 sp:∀{C:R→Prop},(b=true→C x)→(b=false→C y)→C r
instance{n:Nat}{k:List Qj}{d:Option Nat}{op:Op}{cs:List CO}{b w:Bool}{t:List AV}{h:Pv}:Spl (zH O P n k d op cs (.bool b) w t h) b (zH O P n k d op cs (.bool true) w t h) (zH O P n k d op cs (.bool false) w t h):=⟨aR3⟩
instance{n:Nat}{x y:Code}{k:List Qj}{g:Bool}{s:St}:Spl (cdK O P n x y k (some (.bool g)) s) g (Rr O P n x k s) (Rr O P n y k s):=⟨aQ2⟩
instance{n:Nat}{k:List Qj}{d:Option Nat}{op:Op}{cs:List CO}{b w:Bool}{t:List AV}{h:Pv}:Spl (rqG O P n k d op cs (.bool b) w t h) b (rqG O P n k d op cs (.bool true) w t h) (rqG O P n k d op cs (.bool false) w t h):=⟨aQ1⟩
instance{n:Nat}{k:List Qj}{d:Option Nat}{op:Op}{cs:List CO}{b w:Bool}{t:List AV}{h:Pv}:Spl (rwG O P n k d op cs (.bool b) w t h) b (rwG O P n k d op cs (.bool true) w t h) (rwG O P n k d op cs (.bool false) w t h):=⟨aR4⟩
instance{n:Nat}{k:List Qj}{ops:List Oper}{d:Option Nat}{op:Op}{cs:List CO}{b w:Bool}{t:List AV}{h:Pv}{log:bQ}:Spl (rlG O P n k ops d op cs (.bool b) w t h log) b (rlG O P n k ops d op cs (.bool true) w t h log) (rlG O P n k ops d op cs (.bool false) w t h log):=⟨aR2⟩
theorem Rj{C:R→Prop}{r x y:R}{b:Bool}(h1:b=true→C x)(h2:b=false→C y)(s:Spl r b x y:=by infer_instance):C r:=s.sp h1 h2
class Drw(i:Nat)(r:R)(c:outParam Bool)(r':outParam R):Prop where
 dr:∀{C:R→Prop},¬C none→c=true→C r'→C r
instance{b:Bool}{k:R}:Drw 0 (Ut b k) b k:=⟨fun _=>alX⟩
instance{n id:Nat}{ops:Array Oper}{k:List Qj}{t:List AV}{h:Pv}:Drw 1 (Rr O P (n+1) (.region id ops true) k ⟨t,h⟩) (Ys ops.toList&&xY ops.toList) (rw O P n k (ops.toList.map (Vk ops.toList)) t h):=⟨fun h=>aQD h⟩
instance{n id:Nat}{ops:Array Oper}{k:List Qj}{t:List AV}{h:Pv}:Drw 2 (Rr O P (n+1) (.region id ops true) k ⟨t,h⟩) (Ys ops.toList&&aSB ops.toList) (rq O P n k (ops.toList.map (Vk ops.toList)) t h):=⟨fun h=>aRW h⟩
instance{n id:Nat}{ops:Array Oper}{k:List Qj}{t:List AV}{h:Pv}:Drw 3 (Rr O P (n+1) (.region id ops true) k ⟨t,h⟩) (Ys ops.toList) (rl O P n k ops.toList (ops.toList.map (Vk ops.toList)) t h []):=⟨fun h=>aR5 h⟩
structure Dw(r r':R):Prop where
 dr:∀{C:R→Prop},¬C none→C r'→C r
theorem dg{r r':R}{c:Bool}[d:Drw 0 r c r'](h:c=true:=by kernel_rfl):Dw r r':=⟨fun n k=>d.dr n h k⟩
theorem dw(i:Nat){r r':R}{c:Bool}[d:Drw i r c r'](h:c=true:=by decide+kernel):Dw r r':=⟨fun n k=>d.dr n h k⟩
theorem fd{C:R→Prop}{r r':R}[n:NoN C](k:C r')(e:Dw r r':=by first|exact dg|exact dw 1|exact dw 2|exact dw 3):C r:=e.dr n.no k
theorem Yn{C:R→Prop}{r r':R}[n:NoN C](k:C r')(e:Dw r r':=by first|exact dw 1|exact dw 2|exact dw 3):C r:=e.dr n.no k
end
section
variable {P:Program} {O:Ui}
def Un(O:Ui)(P:Program)(n:Nat)(k:List Qj)(c:Code)(C:R→Prop):R→Prop
 |some (.normal,s)=>C (lpK O P n k (O.loop c s))
 |some (e,s)=>C (Rq (Rr O P n) k e s)
 |none=>False
instance{n:Nat}{k:List Qj}{c:Code}{C:R→Prop}:NoN (Un O P n k c C):=⟨fun h=>h⟩
end
def EE:=PLift.up (aaN EVZ.down (aaN @Vk.eq_1 (aaN @Qa.eq_1 (aaN @Qa.eq_2 (aaN @Qa.eq_4 (aaN @Rk.eq_1 (aaN @Rk.eq_2 (aaN @pL.eq_3 (aaN @fG.eq_1 (aaN @fG.eq_2 (aaN @fG.eq_4 (aaN @fG.eq_5 (aaN @fG.eq_6 (aaN @Rx.eq_1 (aaN @Rx.eq_2 (aaN @aE.eq_1 (aaN @aE.eq_2 (aaN @aE.eq_3 (aaN @Xe.eq_1 (aaN @Ru.eq_1 (aaN @bsK.eq_1 (aaN @aD.eq_1 (aaN @aD.eq_2 (aaN @decide_true @decide_false))))))))))))))))))))))))
def EF:=PLift.up (aaN EE.down EE.down)
def EG:=PLift.up (aaN EF.down EVs.down)
end
noncomputable section
open Go.RowKit
end
end Go.Ev
namespace Go.Ev
open Go.RowKit
structure Kp(lent:List Nat)(H H1:Pv):Prop where
 len:H.length≤H1.length
 rows:∀b,b<H.length→(hf H1 b).bind aC=(hf H b).bind aC
 same:∀b,b<H.length→b∉lent→H1[b]?=H[b]?
end Go.Ev
namespace Go.Ev
noncomputable section
open Go.RowKit
theorem To{C:R→Prop}[n:NoN C]{r:R}(h:∀K:R→Prop,NoN K→(∀x,C x→K x)→K r):C r:=h C n fun _ h=>h
end
noncomputable section
open Go.RowKit
section
variable {P:Program} {O:Ui}
def slx(P:Program)(ty:TypeId)(a:Option AV)(l h:Option (Option AV)):OE:=r1 (a.bind fun a=>l.bind fun l=>h.bind fun h=>nD P ty a l h)
theorem acV(t:List AV)(h:Pv)(ty:TypeId)(x:Operand)(lo hi:Option Operand):Tz O P t h (.slice ty x lo hi none)=slx P ty (Qa t x) (jO t lo) (jO t hi):=by
 rw[Sl _ _ _ rfl]
 simp only[exec,slx]
 cases Qa t x with
 |none=>rfl
 |some a=>
  cases jO t lo with
  |none=>rfl
  |some l=>
   cases jO t hi with
   |none=>rfl
   |some h=>exact Vm _
def oS(x:Option AV):Option (Option AV):=x.map some
theorem aiW(v:AV):oS (some v)=some (some v):=abY rfl rfl
theorem aa9(t:List AV):jO t none=some none:=abY rfl rfl
theorem abU(t:List AV)(x:Operand):jO t (some x)=oS (Qa t x):=abY rfl rfl
end
end
noncomputable section
set_option maxRecDepth 100000
section
variable {P:Program} {G:Nat→Option Obj}
end
section
variable {P:Program}
end
def EVu:=PLift.up (aaN @ajC (aaN @oW (aaN @acV (aaN @aa9 (aaN @abU @aiW)))))
end
noncomputable section
section
variable {α:Type}
end
end
section
def Zn:Pv→Pv→Pv
 | [],h'=>h'
 |c₀::h,[]=>c₀::h
 |c₀::h,c::h'=>(bif c₀.quiet c then c₀ else c.mark)::Zn h h'
def vL(h h':Pv):Prop:=h.length≤h'.length∧∀(i:Nat) (c₀ c:CB),h[i]?=some c₀→h'[i]?=some c→c₀.quiet c=true∨c₀.isLive=true
theorem gW:∀(h h' pre:Pv),vL h h'→∃es,Sz pre.length h h'=some es∧Rx (pre++h) es=pre++Zn h h'
 | [],h',pre,_=>⟨_,rfl,by simp[pW,Zn]⟩
 |c₀::h,[],pre,ok=>by simp[vL]at ok
 |c₀::h,c::h',pre,ok=>by
  have ok':vL h h':=⟨by simpa using ok.1,fun i a b h1 h2=>ok.2 (i+1) a b (by simpa using h1) (by simpa using h2)⟩
  cases hq:c₀.quiet c with
  |true=>
   obtain⟨es,e1,e2⟩:=gW h h' (pre++[c₀]) ok'
   refine⟨es,?_,?_⟩
   ·simp only[Sz,hq,cond_true]
    simpa using e1
   ·simpa [Zn,hq]using e2
  |false=>
   have hl:c₀.isLive=true:=by
    rcases ok.2 0 c₀ c rfl rfl with h|h
    ·rw[hq]at h;cases h
    ·exact h
   obtain⟨es,e1,e2⟩:=gW h h' (pre++[c.mark]) ok'
   refine⟨.put pre.length c.mark::es,?_,?_⟩
   ·simp only[Sz,hq,hl,cond_false,cond_true]
    simp only[al1,ahC,al6]at e1
    rw[e1];rfl
   ·simp only[Rx,aE,Zn,hq,cond_false]
    have:(pre++c₀::h).set pre.length c.mark=(pre++[c.mark])++h:=by simp
    rw[this,e2];simp
theorem iJ:∀{h h':Pv},h.length≤h'.length→(Zn h h').length=h'.length
 | [],h',_=>rfl
 |c₀::h,[],hl=>by simp at hl
 |c₀::h,c::h',hl=>by simp[Zn,iJ (h:=h) (h':=h') (by simpa using hl)]
theorem bN:∀{h h':Pv} {i:Nat} {c₀ c:CB},h[i]?=some c₀→h'[i]?=some c→c₀.quiet c=true→(Zn h h')[i]?=some c₀
 | [],h',i,c₀,c,h1,_,_=>by simp at h1
 |a::h,[],i,c₀,c,_,h2,_=>by simp at h2
 |a::h,b::h',0,c₀,c,h1,h2,hq=>by
  simp at h1 h2;subst h1 h2;simp[Zn,hq]
 |a::h,b::h',i+1,c₀,c,h1,h2,hq=>by
  simp at h1 h2;simpa [Zn]using bN h1 h2 hq
theorem iI:∀{h h':Pv} {i:Nat} {c₀ c:CB},h[i]?=some c₀→h'[i]?=some c→c₀.quiet c=false→(Zn h h')[i]?=some c.mark
 | [],h',i,c₀,c,h1,_,_=>by simp at h1
 |a::h,[],i,c₀,c,_,h2,_=>by simp at h2
 |a::h,b::h',0,c₀,c,h1,h2,hq=>by
  simp at h1 h2;subst h1 h2;simp[Zn,hq]
 |a::h,b::h',i+1,c₀,c,h1,h2,hq=>by
  simp at h1 h2;simpa [Zn]using iI h1 h2 hq
theorem lJ:∀{h h':Pv} {i:Nat},h.length≤h'.length→h.length≤i→(Zn h h')[i]?=h'[i]?
 | [],h',i,_,_=>rfl
 |a::h,[],i,hl,_=>by simp at hl
 |a::h,b::h',0,_,hi=>by simp at hi
 |a::h,b::h',i+1,hl,hi=>by
  simpa [Zn]using lJ (h:=h) (h':=h') (i:=i) (by simpa using hl) (by simpa using hi)
theorem Vs{h:Pv}{i:Nat}{c:CB}(hc:h[i]?=some c):(Xj h)[i]?=some c.clean:=by simp[Xj,hc]
theorem Uc(h:Pv):(Xj h).length=h.length:=by simp[Xj]
theorem wG(c:CB):aC c.clean=aC c:=by cases c<;>rfl
theorem aaD(c:CB):aC c.mark=aC c:=by cases c<;>rfl
theorem qI{O:Ui}{H:Pv}{f:Nat}{args:List AV}{Q:Tn→Pv→Prop}(hd:nW args=true)(hm:O.md f=true)(K:ShQ O f args (Xj H) Q)(ok:∀o G,Q o G→vL H G):
 ∃o G es,cl O H (some (.func (.func f) [] [])) (some args)=some (o,es)∧Rx H es=Zn H G∧Q o G:=by
 obtain⟨o,G,hc,hq⟩:=K
 obtain⟨es,e1,e2⟩:=gW H G [] (ok o G hq)
 refine⟨o,G,es,?_,by simpa using e2,hq⟩
 rw[ad0]
 simp only[ag8,ag9,hd,if_true,shC,hm,ahE,hc]
 rw[qK]
 have e1':Sz 0 H G=some es:=e1
 rw[e1'];rfl
structure jK(X:List Nat)(H H1:Pv):Prop where
 len:H.length≤H1.length
 same:∀b,b<H.length→b∉X→H1[b]?=H[b]?
theorem jK.app(H l:Pv):jK [] H (H++l):=⟨by simp,fun b hb _=>List.getElem?_append_left hb⟩
end
noncomputable section
open Go.RowKit
theorem ajF{O:Ui}{H:Pv}{f:Nat}{args:List AV}{o:Tn}{l:Pv}(hd:nW args=true)(hm:O.md f=true)(hc:O.call (.sh f) args (Xj H)=some (o,Xj H++l))(hq:Re H=true):
 cl O H (some (.func (.func f) [] [])) (some args)=some (o,Wa H.length l):=by
 rw[ad0]
 simp only[ag8,ag9,hd,if_true,shC,hm,ahE,hc]
 rw[qK,yK hq]
 simp
theorem alE{O:Ui}{H:Pv}{f:Nat}{args:List AV}{o:Tn}(hd:nW args=true)(hm:O.md f=true)(hc:O.call (.sh f) args (Xj H)=some (o,Xj H))(hq:Re H=true):
 cl O H (some (.func (.func f) [] [])) (some args)=some (o,[]):=by
 have:=ajF (l:=[]) hd hm (by simpa using hc) hq
 simpa [Wa]using this
theorem fP{H:Pv}(h:∀c∈H,c.quiet c.clean=true):Re H=true:=by simp only[Re,ab2];exact h
theorem Vh{H:Pv}(h:Re H=true){b:Nat}{c:CB}(hb:H[b]?=some c):c.quiet c.clean=true:=by
 simp only[Re,ab2]at h
 exact h c (aj1 hb)
theorem Ul{H l:Pv}(h:Re H=true)(hl:Re l=true):Re (H++l)=true:=by
 simp only[Re,ab2,am4]at h hl ⊢
 exact fun c hc=>hc.elim (h c) (hl c)
theorem Uk{H:Pv}(h:Re H=true)(b:Nat){c:CB}(hc:c.quiet c.clean=true):Re (H.set b c)=true:=by
 simp only[Re,ab2]at h ⊢
 exact fun x hx=>(List.mem_or_eq_of_mem_set hx).elim (h x) (fun e=>e▸hc)
theorem sJ{c:CB}(h:c.quiet c.clean=true):c.clean.quiet c.clean.clean=true:=by cases c<;>first|rfl|exact h
theorem bU{H:Pv}(h:Re H=true):Re (Xj H)=true:=by
 simp only[Re,Xj,ab2,List.mem_map]at h ⊢
 rintro c ⟨c0,h0,rfl⟩
 exact sJ (h c0 h0)
theorem lS{c:CB}(h:c.quiet c.clean=true):c.mark.quiet c.mark.clean=true:=by cases c<;>first|rfl|exact h
theorem Xh{H0 G:Pv}{X:List Nat}(hq:Re H0=true)(K:jK X (Xj H0) G)(hX:∀b∈X,b<H0.length∧∀c0 c,H0[b]?=some c0→G[b]?=some c→c0.isLive=true∧c0.quiet c=false):
 vL H0 G∧(Zn H0 G).length=G.length∧(∀b,H0.length≤b→(Zn H0 G)[b]?=G[b]?)∧(∀b,b<H0.length→b∉X→(Zn H0 G)[b]?=H0[b]?)∧(∀b∈X,∀c,G[b]?=some c→(Zn H0 G)[b]?=some c.mark):=by
 have hlen:H0.length≤G.length:=by have:=K.len;rwa[Uc]at this
 have old:∀b c0,H0[b]?=some c0→b∉X→G[b]?=some c0.clean:=fun b c0 h0 hb=>by
  rw[K.same b (by rw[Uc];exact(arW.1 h0).1) hb,Vs h0]
 refine⟨⟨hlen,fun b c0 c h0 h1=>?_⟩,iJ hlen,fun b hb=>lJ hlen hb,fun b hb hn=>?_,fun b hb c hc=>?_⟩
 ·by_cases hb:b∈X
  ·exact .inr ((hX b hb).2 c0 c h0 h1).1
  ·rw[old b c0 h0 hb]at h1;cases h1
   exact .inl (Vh hq h0)
 ·obtain⟨c0,h0⟩:∃c,H0[b]?=some c:=⟨_,akA hb⟩
  rw[h0];exact bN h0 (old b c0 h0 hn) (Vh hq h0)
 ·obtain⟨h1,h2⟩:=hX b hb
  obtain⟨c0,h0⟩:∃c,H0[b]?=some c:=⟨_,akA h1⟩
  exact iI h0 hc (h2 c0 c h0 hc).2
theorem eL{H0 G:Pv}{X:List Nat}(hq:Re H0=true)(K:jK X (Xj H0) G)(hX:∀b∈X,b<H0.length∧∀c0 c,H0[b]?=some c0→G[b]?=some c→c0.isLive=true∧c0.quiet c=false)(hg:Re G=true):Re (Zn H0 G)=true:=by
 obtain⟨_,k1,k2,k3,k4⟩:=Xh hq K hX
 refine fP fun c hc=>?_
 obtain⟨b,hb⟩:=akQ hc
 by_cases h1:b<H0.length
 ·by_cases h2:b∈X
  ·obtain⟨c1,h3⟩:∃c,G[b]?=some c:=⟨_,akA (by rw[←k1];exact(arW.1 hb).1)⟩
   rw[k4 b h2 c1 h3]at hb;cases hb
   exact lS (Vh hg h3)
  ·rw[k3 b h1 h2]at hb;exact Vh hq hb
 ·rw[k2 b (by omega)]at hb;exact Vh hg hb
theorem aa1{H0 G:Pv}{X:List Nat}(hq:Re H0=true)(K:jK X (Xj H0) G)(hX:∀b∈X,b<H0.length∧∀c0 c,H0[b]?=some c0→G[b]?=some c→c0.isLive=true∧c0.quiet c=false)(b:Nat):(hf (Zn H0 G) b).bind aC=(hf G b).bind aC:=by
 obtain⟨_,k1,k2,k3,k4⟩:=Xh hq K hX
 show((Zn H0 G)[b]?).bind aC=(G[b]?).bind aC
 by_cases h1:b<H0.length
 ·by_cases h2:b∈X
  ·cases h3:G[b]? with
   |none=>rw[List.getElem?_eq_none_iff]at h3;have h4:=K.len;rw[Uc]at h4;omega
   |some c1=>rw[k4 b h2 c1 h3];exact aaD c1
  ·rw[k3 b h1 h2,K.same b (by rw[Uc];exact h1) h2]
   cases h3:H0[b]? with
   |none=>simp[Xj,h3]
   |some c=>rw[Vs h3];exact(wG c).symm
 ·rw[k2 b (by omega)]
end
end Go.Ev
namespace Go.Ev
namespace Net
abbrev Edge:=Nat × Nat × Nat
inductive Zj(E:List Edge)(s:Nat):Nat→Nat→Nat→Prop
 |nil (n:Nat):Zj E s n s 0
 |fwd {n a b c k:Nat} (h:Zj E s n a k) (he:(a,b,c)∈E):Zj E s (n+1) b (k+c)
 |bwd {n a b c k:Nat} (h:Zj E s n b k) (he:(a,b,c)∈E):Zj E s (n+1) a (k+c)
def Stp(E:List Edge)(u v c:Nat):Prop:=(u,v,c)∈E∨(v,u,c)∈E
theorem Zj.step{E:List Edge}{s n u v k c:Nat}(h:Zj E s n u k)(hs:Stp E u v c):Zj E s (n+1) v (k+c):=hs.elim (fun e=>.fwd h e) (fun e=>.bwd h e)
theorem Zj.cases'{E:List Edge}{s n v k:Nat}(h:Zj E s n v k):(v=s∧k=0)∨∃m u j c,n=m+1∧Zj E s m u j∧Stp E u v c∧k=j+c:=by
 cases h with
 |nil=>exact .inl ⟨rfl,rfl⟩
 |fwd h he=>exact .inr ⟨_,_,_,_,rfl,h,.inl he,rfl⟩
 |bwd h he=>exact .inr ⟨_,_,_,_,rfl,h,.inr he,rfl⟩
theorem Zj.more{E:List Edge}{s n v k:Nat}(h:Zj E s n v k):∀{m:Nat},n≤m→Zj E s m v k:=by
 induction h with
 |nil n=>exact fun _=>.nil _
 |fwd h he ih=>
  intro m hm
  obtain⟨m,rfl⟩:∃j,m=j+1:=⟨m-1,by omega⟩
  exact .fwd (ih (by omega)) he
 |bwd h he ih=>
  intro m hm
  obtain⟨m,rfl⟩:∃j,m=j+1:=⟨m-1,by omega⟩
  exact .bwd (ih (by omega)) he
def vA(E:List Edge)(s v k:Nat):Prop:=∃n,Zj E s n v k
theorem vA.step{E:List Edge}{s u v k c:Nat}(h:vA E s u k)(hs:Stp E u v c):vA E s v (k+c):=by obtain⟨n,h⟩:=h;exact⟨_,h.step hs⟩
def kU(E:List Edge)(s v k:Nat):Prop:=vA E s v k∧∀j,vA E s v j→k≤j
theorem least{p:Nat→Prop}:(∃n,p n)→∃n,p n∧∀j,p j→n≤j:=fun⟨n,hn⟩=>by
 induction n using Nat.strongRecOn with
 |ind n ih=>
  by_cases h:∃j,j<n∧p j
  ·obtain⟨j,h1,h2⟩:=h;exact ih j h1 h2
  ·exact⟨n,hn,fun j hj=>Nat.le_of_not_lt fun hlt=>h ⟨j,hlt,hj⟩⟩
theorem kU.ex{E:List Edge}{s v k:Nat}(h:vA E s v k):∃j,kU E s v j:=least ⟨k,h⟩
theorem kU.eq{E:List Edge}{s v k j:Nat}(h1:kU E s v k)(h2:kU E s v j):k=j:=Nat.le_antisymm (h1.2 j h2.1) (h2.2 k h1.1)
def cX(E:List Edge)(s n v:Nat):Prop:=∃k,kU E s v k∧Zj E s n v k
theorem cX.more{E:List Edge}{s n m v:Nat}(h:cX E s n v)(hm:n≤m):cX E s m v:=by obtain⟨k,h1,h2⟩:=h;exact⟨k,h1,h2.more hm⟩
theorem cX.prev{E:List Edge}{s n v:Nat}(h:cX E s (n+1) v):v=s∨∃u c k,cX E s n u∧kU E s u k∧Stp E u v c∧kU E s v (k+c):=by
 obtain⟨k,h1,h2⟩:=h
 rcases h2.cases' with⟨h,_⟩|⟨m,u,j,c,hm,hw,hs,rfl⟩
 ·exact .inl h
 ·cases hm
  have hl:kU E s u j:=⟨⟨_,hw⟩,fun i hi=>by have:=h1.2 _ (hi.step hs);omega⟩
  exact .inr ⟨u,c,j,⟨j,hl,hw⟩,hl,hs,h1⟩
theorem cX.next{E:List Edge}{s n u v c k:Nat}(h:cX E s n u)(hu:kU E s u k)(hs:Stp E u v c)(hv:kU E s v (k+c)):cX E s (n+1) v:=by
 obtain⟨j,h1,h2⟩:=h
 cases h1.eq hu
 exact⟨_,hv,h2.step hs⟩
theorem kU.src{E:List Edge}{s:Nat}:kU E s s 0:=⟨⟨0,.nil 0⟩,fun j _=>ab3 j⟩
theorem cX.src{E:List Edge}{s:Nat}(n:Nat):cX E s n s:=⟨0,kU.src,.nil n⟩
theorem cX.stable{E:List Edge}{s n:Nat}(h:∀v,cX E s (n+1) v→cX E s n v):∀m v,cX E s m v→cX E s n v
 |0,v,hv=>hv.more (ab3 n)
 |m+1,v,hv=>by
  rcases hv.prev with rfl|⟨u,c,k,h1,h2,h3,h4⟩
  ·exact cX.src n
  ·exact h v ((cX.stable h m u h1).next h2 h3 h4)
noncomputable def lA(p:Nat→Prop):Nat→Nat
 |0=>0
 |N+1=>lA p N+(@ite Nat (p N) (Classical.propDecidable _) 1 0)
theorem vK(p:Nat→Prop):∀N,lA p N≤N
 |0=>ab0 0
 |N+1=>by
  have:=vK p N
  unfold lA
  split<;>omega
theorem tN{p q:Nat→Prop}(h:∀v,p v→q v):∀N,lA p N≤lA q N
 |0=>ab0 0
 |N+1=>by
  have:=tN h N
  unfold lA
  split
  ·rename_i h1;rw[if_pos (h _ h1)];omega
  ·split<;>omega
theorem wM{p q:Nat→Prop}(h:∀v,p v→q v){v:Nat}(hq:q v)(hp:¬p v):∀{N:Nat},v<N→lA p N+1≤lA q N
 |0,hv=>by omega
 |N+1,hv=>by
  unfold lA
  by_cases e:v=N
  ·subst e
   have:=tN h v
   rw[if_neg hp,if_pos hq];omega
  ·have:=wM h hq hp (N:=N) (by omega)
   split
   ·rename_i h1;rw[if_pos (h _ h1)];omega
   ·split<;>omega
theorem yR{p:Nat→Prop}{v:Nat}(hp:p v):∀{N:Nat},v<N→1≤lA p N
 |0,hv=>by omega
 |N+1,hv=>by
  unfold lA
  by_cases e:v=N
  ·subst e;rw[if_pos hp];omega
  ·have:=yR hp (N:=N) (by omega);split<;>omega
theorem ajG{E:List Edge}{s N:Nat}(hs:s<N)(hE:∀a b c,(a,b,c)∈E→a<N∧b<N):∀m v,cX E s m v→cX E s (N-1) v:=by
 have lt:∀m v,cX E s m v→v<N:=fun m=>by
  induction m with
  |zero=>
   intro v ⟨k,_,h⟩
   rcases h.cases' with⟨rfl,_⟩|⟨_,_,_,_,h,_⟩
   ·exact hs
   ·cases h
  |succ m ih=>
   intro v hv
   rcases hv.prev with rfl|⟨u,c,k,h1,h2,h3,h4⟩
   ·exact hs
   ·rcases h3 with h3|h3
    ·exact(hE _ _ _ h3).2
    ·exact(hE _ _ _ h3).1
 have grow:∀n,(∃k,k≤n∧∀v,cX E s (k+1) v→cX E s k v)∨n+1≤lA (cX E s n) N:=fun n=>by
  induction n with
  |zero=>exact .inr (yR (cX.src 0) hs)
  |succ n ih=>
   rcases ih with⟨k,h1,h2⟩|h
   ·exact .inl ⟨k,by omega,h2⟩
   ·by_cases e:∀v,cX E s (n+1) v→cX E s n v
    ·exact .inl ⟨n,by omega,e⟩
    ·obtain⟨v,hv⟩:=Classical.not_forall.1 e
     have h1:cX E s (n+1) v:=Classical.byContradiction fun h=>hv fun h'=>(h h').elim
     have h2:¬cX E s n v:=fun h=>hv fun _=>h
     have:=wM (p:=cX E s n) (q:=cX E s (n+1)) (fun v h=>h.more (Nat.le_succ n)) h1 h2 (lt _ v h1)
     exact .inr (by omega)
 intro m v hv
 rcases grow N with⟨k,h1,h2⟩|h
 ·by_cases e:k≤N-1
  ·exact(cX.stable h2 m v hv).more e
  ·
   have hk:k=N:=by omega
   rcases grow (N-1)with⟨k',h1',h2'⟩|h'
   ·exact(cX.stable h2' m v hv).more h1'
   ·exact Classical.byContradiction fun hn=>by
     have:=wM (p:=cX E s (N-1)) (q:=fun _=>True) (fun _ _=>trivial) trivial hn (lt _ v hv)
     have:=vK (fun _=>True) N
     omega
 ·have:=vK (cX E s N) N;omega
theorem kU.lvl{E:List Edge}{s N v k:Nat}(hs:s<N)(hE:∀a b c,(a,b,c)∈E→a<N∧b<N)(h:kU E s v k):cX E s (N-1) v:=by
 obtain⟨n,hw⟩:=h.1
 exact ajG hs hE n v ⟨k,h,hw⟩
theorem Zj.le{E:List Edge}{s n v k:Nat}(hc:∀a b c,(a,b,c)∈E→c≤1)(h:Zj E s n v k):k≤n:=by
 induction h with
 |nil=>omega
 |fwd h he ih=>have:=hc _ _ _ he;omega
 |bwd h he ih=>have:=hc _ _ _ he;omega
theorem kU.le{E:List Edge}{s N v k:Nat}(hs:s<N)(hE:∀a b c,(a,b,c)∈E→a<N∧b<N)(hc:∀a b c,(a,b,c)∈E→c≤1)(h:kU E s v k):k≤N-1:=by
 obtain⟨j,h1,h2⟩:=h.lvl hs hE
 cases h1.eq h
 exact h2.le hc
def dD(E:List Edge)(s N far:Nat)(d:Nat→Nat):Prop:=∀v,v<N→(∀k,kU E s v k→d v=k)∧((∀k,¬vA E s v k)→d v=far)
theorem ad9{E:List Edge}{s N far:Nat}{d:Nat→Nat}(h0:d s=0)(hr:∀v,v<N→d v=far∨vA E s v (d v))(hc:∀u v c,Stp E u v c→d v≤d u+c)(hf:∀v k,kU E s v k→k<far):dD E s N far d:=fun v hv=>by
 have le:∀n v k,Zj E s n v k→d v≤k:=fun n v k h=>by
  induction h with
  |nil=>omega
  |fwd h he ih=>have:=hc _ _ _ (.inl he);omega
  |bwd h he ih=>have:=hc _ _ _ (.inr he);omega
 refine⟨fun k hk=>?_,fun h=>?_⟩
 ·obtain⟨n,hn⟩:=hk.1
  have h1:=le n v k hn
  rcases hr v hv with h|h
  ·have:=hf v k hk;omega
  ·have:=hk.2 _ h;omega
 ·rcases hr v hv with h1|h1
  ·exact h1
  ·exact(h _ h1).elim
def kV(d:List Nat)(e:Edge):List Nat:=(d.set e.2.1 (min (d.getD e.2.1 0) (d.getD e.1 0+e.2.2))).set e.1 (min (d.getD e.1 0) (d.getD e.2.1 0+e.2.2))
def aQC(E:List Edge)(d:List Nat):List Nat:=E.foldl kV d
def kW(E:List Edge):Nat→List Nat→List Nat
 |0,d=>d
 |n+1,d=>kW E n (aQC E d)
theorem lX(d:List Nat)(e:Edge):(kV d e).length=d.length:=by simp[kV]
theorem gZ{d:List Nat}{i v x:Nat}(hi:i<d.length):(d.set i x).getD v 0=if i=v then x else d.getD v 0:=by
 simp only[ayD]
 by_cases h:i=v
 ·subst h;rw[List.getElem?_set_self hi,if_pos rfl];rfl
 ·rw[List.getElem?_set_ne h,if_neg h]
theorem qF{d:List Nat}{a b c:Nat}(ha:a<d.length)(hb:b<d.length)(hab:a≠b)(v:Nat):(kV d (a,b,c)).getD v 0=if v=a then min (d.getD a 0) (d.getD b 0+c)else if v=b then min (d.getD b 0) (d.getD a 0+c)else d.getD v 0:=by
 unfold kV
 rw[gZ (by simpa using ha),gZ hb]
 by_cases h1:v=a
 ·subst h1;simp
 ·rw[if_neg (fun e=>h1 e.symm),if_neg h1]
  by_cases h2:v=b
  ·subst h2;simp
  ·rw[if_neg (fun e=>h2 e.symm),if_neg h2]
structure mD(E:List Edge)(s N far:Nat)(d:List Nat):Prop where
 len:d.length=N
 src:d.getD s 0=0
 real:∀v,v<N→d.getD v 0=far∨vA E s v (d.getD v 0)
 le:∀v,v<N→d.getD v 0≤far
theorem mD.one{E:List Edge}{s N far:Nat}{d:List Nat}(I:mD E s N far d){a b c:Nat}(he:(a,b,c)∈E)(ha:a<N)(hb:b<N)(hab:a≠b):mD E s N far (kV d (a,b,c)):=by
 have hl:=I.len
 have at_:=fun v=>qF (d:=d) (c:=c) (by omega) (by omega) hab v
 have mn:∀u v,u<N→v<N→Stp E u v c→(min (d.getD v 0) (d.getD u 0+c)=far∨vA E s v (min (d.getD v 0) (d.getD u 0+c))):=fun u v hu hv hs=>by
  have h1:=I.le v hv
  rcases Nat.le_total (d.getD v 0) (d.getD u 0+c)with h|h
  ·rw[Nat.min_eq_left h];exact I.real v hv
  ·rw[Nat.min_eq_right h]
   rcases I.real u hu with hh|hh
   ·left;omega
   ·exact .inr (hh.step hs)
 refine⟨by rw[lX,hl],?_,fun v hv=>?_,fun v hv=>?_⟩
 ·rw[at_]
  have:=I.src
  split
  ·rename_i h;subst h;rw[this];simp
  ·split
   ·rename_i h;subst h;rw[this];simp
   ·exact this
 ·rw[at_]
  split
  ·rename_i h;subst h;exact mn b v hb hv (.inr he)
  ·split
   ·rename_i h;subst h;exact mn a v ha hv (.inl he)
   ·exact I.real v hv
 ·rw[at_]
  split
  ·rename_i h;subst h;have:=I.le v hv;omega
  ·split
   ·rename_i h;subst h;have:=I.le v hv;omega
   ·exact I.le v hv
def nX(E:List Edge)(N:Nat):Prop:=∀a b c,(a,b,c)∈E→a<N∧b<N∧a≠b∧c≤1
theorem xJ{d:List Nat}{a b c:Nat}(ha:a<d.length)(hb:b<d.length)(hab:a≠b)(v:Nat):(kV d (a,b,c)).getD v 0≤d.getD v 0:=by
 rw[qF ha hb hab]
 split
 ·rename_i h;subst h;omega
 ·split
  ·rename_i h;subst h;omega
  ·exact ab0 _
theorem qZ:∀{L:List Edge} {d:List Nat} {N:Nat},d.length=N→nX L N→∀v,(L.foldl kV d).getD v 0≤d.getD v 0
 | [],d,N,_,_,v=>ab0 _
 |(a,b,c)::L,d,N,hl,hE,v=>by
  have h:=hE a b c (ag6 ..)
  have h1:=qZ (L:=L) (d:=kV d (a,b,c)) (by rw[lX,hl]) (fun a b c hm=>hE a b c (ag7 _ hm)) v
  have h2:=xJ (d:=d) (c:=c) (by omega) (by omega) h.2.2.1 v
  rw[alS];omega
theorem ac7{E:List Edge}{s N far:Nat}:∀{L:List Edge} {d:List Nat},(∀e∈L,e∈E)→nX E N→mD E s N far d→mD E s N far (L.foldl kV d)
 | [],d,_,_,I=>I
 |(a,b,c)::L,d,hs,hE,I=>by
  have he:=hs _ (ag6 ..)
  have h:=hE a b c he
  rw[alS]
  exact ac7 (L:=L) (fun e hm=>hs e (ag7 _ hm)) hE (I.one he h.1 h.2.1 h.2.2.1)
theorem lO{N:Nat}:∀{L:List Edge} {d:List Nat},d.length=N→nX L N→∀{u v c k:Nat},(u,v,c)∈L∨(v,u,c)∈L→d.getD u 0≤k→(L.foldl kV d).getD v 0≤k+c
 | [],d,_,_,u,v,c,k,h,_=>by rcases h with h|h<;>cases h
 |(a,b,e)::L,d,hl,hE,u,v,c,k,h,hk=>by
  have q:=hE a b e (ag6 ..)
  have hE':nX L N:=fun a b c hm=>hE a b c (ag7 _ hm)
  have hl':(kV d (a,b,e)).length=N:=by rw[lX,hl]
  have key:(u=a∧v=b∧c=e)∨(u=b∧v=a∧c=e)∨((u,v,c)∈L∨(v,u,c)∈L):=by
   rcases h with h|h
   ·rcases alY.1 h with h|h
    ·cases h;exact .inl ⟨rfl,rfl,rfl⟩
    ·exact .inr (.inr (.inl h))
   ·rcases alY.1 h with h|h
    ·cases h;exact .inr (.inl ⟨rfl,rfl,rfl⟩)
    ·exact .inr (.inr (.inr h))
  rw[alS]
  have at_:=fun v=>qF (d:=d) (c:=e) (by omega) (by omega) q.2.2.1 v
  rcases key with⟨rfl,rfl,rfl⟩|⟨rfl,rfl,rfl⟩|h
  ·have h1:=qZ hl' hE' v
   rw[at_ v,if_neg (fun e=>q.2.2.1 e.symm),if_pos rfl]at h1
   omega
  ·have h1:=qZ hl' hE' v
   rw[at_ v,if_pos rfl]at h1
   omega
  ·have h2:=xJ (d:=d) (c:=e) (by omega) (by omega) q.2.2.1 u
   exact lO hl' hE' h (by omega)
theorem qN{E:List Edge}{s N far:Nat}(hE:nX E N):∀(n:Nat) {d:List Nat},mD E s N far d→mD E s N far (kW E n d)
 |0,d,I=>I
 |n+1,d,I=>qN hE n (ac7 (fun _ h=>h) hE I)
theorem nN(E:List Edge):∀(n:Nat) (d:List Nat),kW E (n+1) d=aQC E (kW E n d)
 |0,d=>rfl
 |n+1,d=>by rw[kW,nN E n];rfl
theorem sW{E:List Edge}{s N far:Nat}(hE:nX E N){d:List Nat}(I:mD E s N far d):∀(n:Nat) {v k:Nat},cX E s n v→kU E s v k→(kW E n d).getD v 0≤k
 |0,v,k,⟨j,h1,h2⟩,hk=>by
  rcases h2.cases' with⟨rfl,rfl⟩|⟨_,_,_,_,h,_⟩
  ·rw[kW,I.src];exact ab3 _
  ·cases h
 |n+1,v,k,hv,hk=>by
  rw[nN]
  have J:=qN hE n I
  rcases hv.prev with rfl|⟨u,c,j,h1,h2,h3,h4⟩
  ·have K:=qN hE (n+1) I
   rw[nN]at K
   rw[K.src];exact ab3 _
  ·cases h4.eq hk
   exact lO J.len hE h3 (sW hE I n h1 h2)
theorem wH{E:List Edge}{s N far:Nat}(hs:s<N)(hE:nX E N)(hf:N≤far){d:List Nat}(I:mD E s N far d){n:Nat}(hn:N-1≤n):dD E s N far (fun v=>(kW E n d).getD v 0):=fun v hv=>by
 have J:=qN hE n I
 have hE1:∀a b c,(a,b,c)∈E→a<N∧b<N:=fun a b c h=>⟨(hE a b c h).1,(hE a b c h).2.1⟩
 have hE2:∀a b c,(a,b,c)∈E→c≤1:=fun a b c h=>(hE a b c h).2.2.2
 refine⟨fun k hk=>?_,fun h=>?_⟩
 ·have h1:=sW hE I n ((hk.lvl hs hE1).more hn) hk
  have h2:=hk.le hs hE1 hE2
  rcases J.real v hv with h|h
  ·simp only[h]at h1 ⊢;omega
  ·have:=hk.2 _ h;simp only;omega
 ·rcases J.real v hv with h1|h1
  ·exact h1
  ·exact(h _ h1).elim
end Net
end Go.Ev
namespace Go.Ev
namespace Net
structure iU(E:List Edge)(s N far:Nat)(d q:List Nat)(X:Nat→Nat→Nat→Prop):Prop where
 i:mD E s N far d
 w:∀r∈q,r<N
 tr:∀u v c,Stp E u v c→u∈q∨X u v c∨d.getD v 0≤d.getD u 0+c
def bZ(E:List Edge)(r i u v c:Nat):Prop:=u=r∧∃j,i≤j∧(E[j]?=some (r,v,c)∨E[j]?=some (v,r,c))
theorem iU.take{E:List Edge}{s N far:Nat}{d q:List Nat}{r:Nat}(I:iU E s N far d (r::q) (fun _ _ _=>False)):r<N∧iU E s N far d q (bZ E r 0):=by
 refine⟨I.w r (ag6 ..),I.i,fun u hu=>I.w u (ag7 _ hu),fun u v c h=>?_⟩
 rcases I.tr u v c h with h1|h1|h1
 ·rcases alY.1 h1 with rfl|h1
  ·right;left
   refine⟨rfl,?_⟩
   rcases h with h|h
   ·obtain⟨j,hj⟩:=akQ h;exact⟨j,ab3 j,.inl hj⟩
   ·obtain⟨j,hj⟩:=akQ h;exact⟨j,ab3 j,.inr hj⟩
  ·exact .inl h1
 ·exact h1.elim
 ·exact .inr (.inr h1)
theorem bZ.next{E:List Edge}{r i u v c:Nat}(h:bZ E r i u v c):bZ E r (i+1) u v c∨(u=r∧(E[i]?=some (r,v,c)∨E[i]?=some (v,r,c))):=by
 obtain⟨h1,j,h2,h3⟩:=h
 by_cases e:i=j
 ·subst e;exact .inr ⟨h1,h3⟩
 ·exact .inl ⟨h1,j,by omega,h3⟩
theorem iU.skip{E:List Edge}{s N far:Nat}{d q:List Nat}{r i a b c:Nat}(I:iU E s N far d q (bZ E r i))(hi:E[i]?=some (a,b,c))(ha:r≠a)(hb:r≠b):iU E s N far d q (bZ E r (i+1)):=by
 refine⟨I.i,I.w,fun u v c' h=>?_⟩
 rcases I.tr u v c' h with h1|h1|h1
 ·exact .inl h1
 ·rcases h1.next with h1|⟨_,h2|h2⟩
  ·exact .inr (.inl h1)
  ·rw[hi]at h2;cases h2;exact(ha rfl).elim
  ·rw[hi]at h2;cases h2;exact(hb rfl).elim
 ·exact .inr (.inr h1)
theorem iU.same{E:List Edge}{s N far:Nat}{d q:List Nat}{r i t c:Nat}(I:iU E s N far d q (bZ E r i))(hi:E[i]?=some (r,t,c)∨E[i]?=some (t,r,c))(hn:d.getD t 0≤d.getD r 0+c):iU E s N far d q (bZ E r (i+1)):=by
 refine⟨I.i,I.w,fun u v c' h=>?_⟩
 rcases I.tr u v c' h with h1|h1|h1
 ·exact .inl h1
 ·rcases h1.next with h1|⟨rfl,h2⟩
  ·exact .inr (.inl h1)
  ·right;right
   rcases hi with h3|h3<;>rcases h2 with h2|h2<;>(rw[h3]at h2;cases h2;exact hn)
 ·exact .inr (.inr h1)
theorem iU.less{E:List Edge}{s N far:Nat}{d q q':List Nat}{r i t c:Nat}(I:iU E s N far d q (bZ E r i))(hr:r<N)(ht:t<N)(hrt:r≠t)(hi:E[i]?=some (r,t,c)∨E[i]?=some (t,r,c))(hn:d.getD r 0+c<d.getD t 0)(hq:∀x,x∈q'↔x=t∨x∈q):iU E s N far (d.set t (d.getD r 0+c)) q' (bZ E r (i+1)):=by
 have hl:=I.i.len
 have at_:=fun v=>gZ (d:=d) (v:=v) (x:=d.getD r 0+c) (show t<d.length by omega)
 have hst:Stp E r t c:=hi.elim (fun h=>.inl (aj1 h)) (fun h=>.inr (aj1 h))
 have hfar:=I.i.le t ht
 have le:∀v,(d.set t (d.getD r 0+c)).getD v 0≤d.getD v 0:=fun v=>by
  rw[at_];split
  ·rename_i h;subst h;omega
  ·exact ab0 _
 refine⟨⟨by simpa using hl,?_,fun v hv=>?_,fun v hv=>?_⟩,fun x hx=>?_,fun u v c' h=>?_⟩
 ·rw[at_];split
  ·rename_i h;subst h;have:=I.i.src;omega
  ·exact I.i.src
 ·rw[at_];split
  ·rename_i h;subst h
   rcases I.i.real r hr with h|h
   ·omega
   ·exact .inr (h.step hst)
  ·exact I.i.real v hv
 ·have:=le v;have:=I.i.le v hv;omega
 ·rcases(hq x).1 hx with rfl|h
  ·exact ht
  ·exact I.w x h
 ·by_cases hu:u=t
  ·exact .inl ((hq u).2 (.inl hu))
  ·have hdu:(d.set t (d.getD r 0+c)).getD u 0=d.getD u 0:=by rw[at_,if_neg (fun e=>hu e.symm)]
   rcases I.tr u v c' h with h1|h1|h1
   ·exact .inl ((hq u).2 (.inr h1))
   ·rcases h1.next with h1|⟨rfl,h2⟩
    ·exact .inr (.inl h1)
    ·right;right
     have hvt:v=t∧c'=c:=by
      rcases hi with h3|h3<;>rcases h2 with h2|h2<;>(rw[h3]at h2;cases h2;first|exact⟨rfl,rfl⟩|exact(hrt rfl).elim)
     obtain⟨rfl,rfl⟩:=hvt
     rw[hdu,at_,if_pos rfl]
     exact ab0 _
   ·right;right
    have:=le v
    rw[hdu];omega
theorem bZ.none{E:List Edge}{r i u v c:Nat}(hi:E.length≤i):¬bZ E r i u v c:=fun⟨_,j,h1,h2⟩=>by
 rw[List.getElem?_eq_none (by omega)]at h2
 rcases h2 with h2|h2<;>cases h2
theorem iU.done{E:List Edge}{s N far:Nat}{d q:List Nat}{r i:Nat}(I:iU E s N far d q (bZ E r i))(hi:E.length≤i):iU E s N far d q (fun _ _ _=>False):=
 ⟨I.i,I.w,fun u v c h=>(I.tr u v c h).imp id fun h=>h.elim (fun h=>(bZ.none hi h).elim) .inr⟩
theorem ajM{d:List Nat}:∀{t x:Nat},t<d.length→(d.set t x).sum+d.getD t 0=d.sum+x:=by
 induction d with
 |nil=>intro t x h;simp at h
 |cons a d ih=>
  intro t x h
  cases t with
  |zero=>simp;omega
  |succ t=>
   have:=ih (t:=t) (x:=x) (by simpa using h)
   simp only[amJ,List.sum_cons,List.getD_cons_succ]
   omega
theorem agS{d:List Nat}{t x:Nat}(ht:t<d.length)(hx:x<d.getD t 0):(d.set t x).sum<d.sum:=by
 have:=ajM (d:=d) (x:=x) ht
 omega
theorem iU.right{E:List Edge}{s N far:Nat}{d:List Nat}(hs:s<N)(hE:nX E N)(hf:N≤far)(I:iU E s N far d [] (fun _ _ _=>False)):dD E s N far (fun v=>d.getD v 0):=by
 refine ad9 I.i.src I.i.real (fun u v c h=>?_) fun v k hk=>?_
 ·rcases I.tr u v c h with h1|h1|h1
  ·cases h1
  ·exact h1.elim
  ·exact h1
 ·have:=hk.le hs (fun a b c h=>⟨(hE a b c h).1,(hE a b c h).2.1⟩) (fun a b c h=>(hE a b c h).2.2.2)
  omega
theorem dD.num{E:List Edge}{s N far far':Nat}{d d':Nat→Nat}(h:dD E s N far d)(h':dD E s N far' d')(hf:N≤far)(hf':N≤far')(hs:s<N)(hE:nX E N){v:Nat}(hv:v<N):(d v=far↔d' v=far')∧(d v≠far→d v=d' v)∧(d v≠far→d v<N):=by
 have hE1:∀a b c,(a,b,c)∈E→a<N∧b<N:=fun a b c h=>⟨(hE a b c h).1,(hE a b c h).2.1⟩
 have hE2:∀a b c,(a,b,c)∈E→c≤1:=fun a b c h=>(hE a b c h).2.2.2
 by_cases e:∃k,vA E s v k
 ·obtain⟨k,hk⟩:=e
  obtain⟨j,hj⟩:=kU.ex hk
  have h1:=(h v hv).1 j hj
  have h2:=(h' v hv).1 j hj
  have h3:=hj.le hs hE1 hE2
  rw[h1,h2]
  exact⟨⟨fun e=>by omega,fun e=>by omega⟩,fun _=>rfl,fun _=>by omega⟩
 ·have hn:∀k,¬vA E s v k:=fun k hk=>e ⟨k,hk⟩
  have h1:=(h v hv).2 hn
  have h2:=(h' v hv).2 hn
  rw[h1,h2]
  exact⟨⟨fun _=>rfl,fun _=>rfl⟩,fun h=>(h rfl).elim,fun h=>(h rfl).elim⟩
end Net
end Go.Ev
namespace Go.Ev
namespace Net
def Yz(N s far:Nat):List Nat:=(ahJ N far).set s 0
theorem lF{N s far v:Nat}(hs:s<N)(hv:v<N):(Yz N s far).getD v 0=if s=v then 0 else far:=by
 unfold Yz
 rw[gZ (by simpa using hs)]
 split
 ·rfl
 ·simp[ayD,hv]
theorem vU{E:List Edge}{N s far:Nat}(hs:s<N):mD E s N far (Yz N s far):=by
 refine⟨by simp[Yz],by rw[lF hs hs,if_pos rfl],fun v hv=>?_,fun v hv=>?_⟩
 ·rw[lF hs hv]
  split
  ·rename_i h;subst h;exact .inr ⟨0,.nil 0⟩
  ·exact .inl rfl
 ·rw[lF hs hv];split<;>omega
theorem aiF{E:List Edge}{N s far:Nat}(hs:s<N)(hE:nX E N):iU E s N far (Yz N s far) [s] (fun _ _ _=>False):=by
 refine⟨vU hs,fun r hr=>by simp at hr;omega,fun u v c h=>?_⟩
 have hb:u<N∧v<N:=h.elim (fun h=>⟨(hE _ _ _ h).1,(hE _ _ _ h).2.1⟩) (fun h=>⟨(hE _ _ _ h).2.1,(hE _ _ _ h).1⟩)
 by_cases e:u=s
 ·exact .inl (by simp[e])
 ·right;right
  rw[lF hs hb.1,if_neg (fun h=>e h.symm)]
  have:=(vU (E:=E) (far:=far) hs).le v hb.2
  omega
def oI(E:List Edge)(N len:Nat):Nat:=if 1000≤(kW E N (Yz N 0 1000)).getD 1 0 then len+1 else(kW E N (Yz N 0 1000)).getD 1 0
theorem fQ{E:List Edge}{N:Nat}(hN:2≤N)(hN2:N≤1000)(hE:nX E N):dD E 0 N 1000 (fun v=>(kW E N (Yz N 0 1000)).getD v 0):=
 wH (by omega) hE hN2 (vU (by omega)) (by omega)
theorem amD{E:List Edge}{N far len:Nat}(hN:2≤N)(hN2:N≤1000)(hf:N≤far)(hE:nX E N){d:Nat→Nat}(h:dD E 0 N far d):(if d 1=far then len+1 else d 1)=oI E N len:=by
 obtain⟨h1,h2,h3⟩:=dD.num (fQ hN hN2 hE) h hN2 hf (by omega) hE (v:=1) (by omega)
 unfold oI
 by_cases e:(kW E N (Yz N 0 1000)).getD 1 0=1000
 ·rw[if_pos (h1.1 e),if_pos (by rw[e];exact ab0 _)]
 ·have:=h3 e
  rw[if_neg (fun h=>e (h1.2 h)),if_neg (by omega)]
  exact(h2 e).symm
end Net
end Go.Ev
namespace Go.Ev
namespace Net
end Net
end Go.Ev
namespace Go.Ev
namespace Net
theorem nX.ends{E:List Edge}{N:Nat}(h:nX E N):∀a b c,(a,b,c)∈E→a<N∧b<N:=fun a b c e=>⟨(h a b c e).1,(h a b c e).2.1⟩
theorem nX.one{E:List Edge}{N:Nat}(h:nX E N):∀a b c,(a,b,c)∈E→c≤1:=fun a b c e=>(h a b c e).2.2.2
theorem yD{E:List Edge}{N len k:Nat}(hN:2≤N)(hN2:N≤1000)(hE:nX E N)(h:kU E 0 1 k):oI E N len=k∧k<N:=by
 have h1:=(fQ hN hN2 hE 1 (by omega)).1 k h
 have h2:=h.le (s:=0) (by omega) hE.ends hE.one
 simp only at h1
 unfold oI
 rw[h1,if_neg (by omega)]
 exact⟨rfl,by omega⟩
theorem xN{E:List Edge}{N len:Nat}(hN:2≤N)(hN2:N≤1000)(hE:nX E N)(h:∀k,¬vA E 0 1 k):oI E N len=len+1:=by
 have h1:=(fQ hN hN2 hE 1 (by omega)).2 h
 simp only at h1
 unfold oI
 rw[h1,if_pos (ab0 _)]
def Tgh(E E':List Edge):Prop:=∀a b c',(a,b,c')∈E'→∃c,(a,b,c)∈E∧c≤c'
theorem Zj.tgh{E E':List Edge}(h:Tgh E E'){s n v k:Nat}(hw:Zj E' s n v k):∃k',k'≤k∧Zj E s n v k':=by
 induction hw with
 |nil n=>exact⟨0,ab0 _,.nil n⟩
 |fwd _ he ih=>
  obtain⟨k',h1,h2⟩:=ih
  obtain⟨c,h3,h4⟩:=h _ _ _ he
  exact⟨k'+c,by omega,.fwd h2 h3⟩
 |bwd _ he ih=>
  obtain⟨k',h1,h2⟩:=ih
  obtain⟨c,h3,h4⟩:=h _ _ _ he
  exact⟨k'+c,by omega,.bwd h2 h3⟩
def mW(E E':List Edge):Prop:=∀a b c,(a,b,c)∈E→∃c',(a,b,c')∈E'
theorem Zj.ends{E E':List Edge}(h:mW E E'){s n v k:Nat}(hw:Zj E s n v k):∃k',Zj E' s n v k':=by
 induction hw with
 |nil n=>exact⟨0,.nil n⟩
 |fwd _ he ih=>
  obtain⟨k',h2⟩:=ih
  obtain⟨c,h3⟩:=h _ _ _ he
  exact⟨k'+c,.fwd h2 h3⟩
 |bwd _ he ih=>
  obtain⟨k',h2⟩:=ih
  obtain⟨c,h3⟩:=h _ _ _ he
  exact⟨k'+c,.bwd h2 h3⟩
theorem af6{E E':List Edge}{N len:Nat}(hN:2≤N)(hN2:N≤1000)(hE:nX E N)(hE':nX E' N)(h:Tgh E E')(he:mW E E'):oI E N len≤oI E' N len:=by
 by_cases hp:∃k,vA E' 0 1 k
 ·obtain⟨k,hk⟩:=hp
  obtain⟨j,hj⟩:=kU.ex hk
  obtain⟨n,hn⟩:=hj.1
  obtain⟨i,hi,hw⟩:=hn.tgh h
  obtain⟨m,hm⟩:=kU.ex (E:=E) ⟨n,hw⟩
  rw[(yD hN hN2 hE hm).1,(yD hN hN2 hE' hj).1]
  exact Nat.le_trans (hm.2 i ⟨n,hw⟩) hi
 ·have h1:∀k,¬vA E' 0 1 k:=fun k hk=>hp ⟨k,hk⟩
  have h2:∀k,¬vA E 0 1 k:=fun k ⟨n,hk⟩=>by
   obtain⟨k',hk'⟩:=hk.ends he
   exact h1 k' ⟨n,hk'⟩
  rw[xN hN hN2 hE h2,xN hN hN2 hE' h1]
  exact ab0 _
end Net
end Go.Ev
