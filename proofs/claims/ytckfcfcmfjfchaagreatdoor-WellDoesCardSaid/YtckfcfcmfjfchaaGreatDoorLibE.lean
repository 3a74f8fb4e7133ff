/- The evaluator and its soundness. -/
import Derived.Test.YtckfcfcmfjfchaaGreatDoorLibD
open And renaming intro→abY
open Eq renaming trans→abZ
open Option renaming bind_some→ab1,map_some→asR,some→as2
open Nat renaming le_refl→ah0,zero_le→alG
open List renaming mem_cons_self→ao5,mem_cons_of_mem→ao7,all_eq_true→ao9,foldl_cons→aqG,replicate→aqM,range→atQ,nil_append→auH,mem_of_getElem?→avE,getElem?_eq_getElem→avO,getElem?_of_mem→avQ,mem_cons→avT,cons_append→ax1,length_cons→ax2,append_nil→ax3,getElem?_eq_some_iff→ax4,getD_eq_getElem?_getD→ax5
open Bool renaming and_eq_true→aq1
set_option linter.unusedSimpArgs false
set_option linter.unusedVariables false
namespace Go.Ev
noncomputable section
open Go.RowKit
theorem aCK(b:Nat):place [] b=(0,[b]):=abZ rfl rfl
theorem ayE(a b:Nat)(m:List Nat):place (a::m) b=if a=b then(0,a::m)else((place m b).1+1,a::(place m b).2):=by
 unfold place
 rw[List.idxOf?_cons]
 by_cases h:a=b
 ·simp[h]
 ·simp only[h,if_false,beq_iff_eq]
  cases List.idxOf? b m<;>simp
section
variable {P:Program} {O:Dh}
theorem aKH(d:Nat)(m:List Nat)(b:Bool):Bw (d+1) m (.bool b)=some (.bool b,m):=abZ rfl rfl
theorem aM5(d:Nat)(m:List Nat)(k:IntKind)(n:Int):Bw (d+1) m (.int k n)=some (.int k n,m):=abZ rfl rfl
theorem aQ3(d:Nat)(m:List Nat)(n:Nat)(fl:Bool)(rows:List (List AV)):Bw (d+1) m (.imm n fl rows)=some (.imm n fl rows,m):=abZ rfl rfl
theorem aNW(d:Nat)(m:List Nat)(n:Nat)(fl nn:Bool)(rows:List (List AV)):Bw (d+1) m (Dn n fl nn rows)=some (Dn n fl nn rows,m):=Gp m (Oa d n fl nn rows)
theorem aRN(d:Nat)(m:List Nat)(b r o:Nat):Bw (d+1) m (.ptr b r o)=some (.ptr (place m b).1 r o,(place m b).2):=abZ rfl rfl
theorem aNG(d:Nat)(m:List Nat)(st b r len:Nat):Bw (d+1) m (.slr st b r len)=some (.slr st (place m b).1 r len,(place m b).2):=abZ rfl rfl
def rfA(x:Option (List AV × List Nat)):Option (AV × List Nat):=x.map fun(cs,m)=>(.agg cs,m)
def rfT(x:Option (List AV × List Nat)):Option (AV × List Nat):=x.map fun(cs,m)=>(.tup cs,m)
theorem aGQ(cs:List AV)(m:List Nat):rfA (some (cs,m))=some (.agg cs,m):=abZ rfl rfl
theorem aGV(cs:List AV)(m:List Nat):rfT (some (cs,m))=some (.tup cs,m):=abZ rfl rfl
theorem aN6(d:Nat)(m:List Nat)(cs:List AV):Bw (d+1) m (.agg cs)=rfA (Bw.refL (Bw d) m cs):=abZ rfl rfl
theorem aQR(d:Nat)(m:List Nat)(cs:List AV):Bw (d+1) m (.tup cs)=rfT (Bw.refL (Bw d) m cs):=abZ rfl rfl
def rfG(fn:Fn)(a:List AV)(x:Option (List AV × List Nat)):Option (AV × List Nat):=x.map fun(b,m)=>(.func fn a b,m)
def rfF(fn:Fn)(d:Nat)(b:List AV)(x:Option (List AV × List Nat)):Option (AV × List Nat):=x.bind fun(a,m)=>rfG fn a (Bw.refL (Bw d) m b)
theorem aGY(fn:Fn)(a b:List AV)(m:List Nat):rfG fn a (some (b,m))=some (.func fn a b,m):=abZ rfl rfl
theorem aF7(fn:Fn)(d:Nat)(a b:List AV)(m:List Nat):rfF fn d b (some (a,m))=rfG fn a (Bw.refL (Bw d) m b):=abZ rfl rfl
theorem aKW(d:Nat)(m:List Nat)(fn:Fn)(a b:List AV):Bw (d+1) m (.func fn a b)=rfF fn d b (Bw.refL (Bw d) m a):=abZ rfl rfl
def rfD(v:AV)(x:Option (List AV × List Nat)):Option (List AV × List Nat):=x.map fun(vs,m)=>(v::vs,m)
def rfC(f:List Nat→AV→Option (AV × List Nat))(vs:List AV)(x:Option (AV × List Nat)):Option (List AV × List Nat):=x.bind fun(v,m)=>rfD v (Bw.refL f m vs)
theorem aHF(v:AV)(vs:List AV)(m:List Nat):rfD v (some (vs,m))=some (v::vs,m):=abZ rfl rfl
theorem aEK(f:List Nat→AV→Option (AV × List Nat))(vs:List AV)(v:AV)(m:List Nat):rfC f vs (some (v,m))=rfD v (Bw.refL f m vs):=abZ rfl rfl
theorem aKG(f:List Nat→AV→Option (AV × List Nat))(m:List Nat):Bw.refL f m []=some ([],m):=abZ rfl rfl
theorem aEO(f:List Nat→AV→Option (AV × List Nat))(m:List Nat)(v:AV)(vs:List AV):Bw.refL f m (v::vs)=rfC f vs (f m v):=abZ rfl rfl
def rrD(cs:List AV)(x:Option (List (List AV) × List Nat)):Option (List (List AV) × List Nat):=x.map fun(rs,m)=>(cs::rs,m)
def rrC(rs:List (List AV))(x:Option (List AV × List Nat)):Option (List (List AV) × List Nat):=x.bind fun(cs,m)=>rrD cs (Ic m rs)
theorem aEE(cs:List AV)(rs:List (List AV))(m:List Nat):rrD cs (some (rs,m))=some (cs::rs,m):=abZ rfl rfl
theorem aFU(rs:List (List AV))(cs:List AV)(m:List Nat):rrC rs (some (cs,m))=rrD cs (Ic m rs):=abZ rfl rfl
theorem aSN(m:List Nat):Ic m []=some ([],m):=abZ rfl rfl
theorem aJG(m:List Nat)(cs:List AV)(rs:List (List AV)):Ic m (cs::rs)=rrC rs (Bw.refL (Bw 8) m cs):=abZ rfl rfl
def rbV(st:Nat)(w:Bool)(x:Option (List (List AV) × List Nat)):Option (CB × List Nat):=x.map fun(rows,m)=>(.live st false w rows,m)
theorem aGJ(st:Nat)(w:Bool)(rows:List (List AV))(m:List Nat):rbV st w (some (rows,m))=some (.live st false w rows,m):=abZ rfl rfl
theorem aUT(m:List Nat)(st:Nat)(w:Bool)(rows:List (List AV)):arU m (.live st true w rows)=some (.live st true w rows,m):=abZ rfl rfl
theorem aUO(m:List Nat)(st:Nat)(w:Bool)(rows:List (List AV)):arU m (.live st false w rows)=rbV st w (Ic m rows):=abZ rfl rfl
def pcE(c:CB)(x:Option (List CB × List Nat)):Option (List CB × List Nat):=x.map fun(cs,m)=>(c::cs,m)
def pcR(n:Nat)(h:Aa)(i:Nat)(x:Option (CB × List Nat)):Option (List CB × List Nat):=x.bind fun(c,m)=>pcE c (Hh n (hf h) (i+1) m)
def pcB(n:Nat)(h:Aa)(i:Nat)(m:List Nat)(x:Option CB):Option (List CB × List Nat):=x.bind fun c=>pcR n h i (arU m c)
def pcK(n:Nat)(h:Aa)(i:Nat)(m:List Nat)(x:Option Nat):Option (List CB × List Nat):=
 match x with
 |none=>some ([],m)
 |some b=>pcB n h i m (h[b]?)
theorem aHI(c:CB)(cs:List CB)(m:List Nat):pcE c (some (cs,m))=some (c::cs,m):=abZ rfl rfl
theorem aFR(n:Nat)(h:Aa)(i:Nat)(c:CB)(m:List Nat):pcR n h i (some (c,m))=pcE c (Hh n (hf h) (i+1) m):=abZ rfl rfl
theorem aFF(n:Nat)(h:Aa)(i:Nat)(m:List Nat)(c:CB):pcB n h i m (some c)=pcR n h i (arU m c):=abZ rfl rfl
theorem aHL(n:Nat)(h:Aa)(i:Nat)(m:List Nat):pcK n h i m none=some ([],m):=abZ rfl rfl
theorem aEZ(n:Nat)(h:Aa)(i:Nat)(m:List Nat)(b:Nat):pcK n h i m (some b)=pcB n h i m (h[b]?):=abZ rfl rfl
theorem aVN(n:Nat)(h:Aa)(i:Nat)(m:List Nat):Hh (n+1) (hf h) i m=pcK n h i m (m[i]?):=by
 unfold Hh pcK
 cases m[i]?<;>rfl
def pkB(vs:List AV)(x:Option (List CB × List Nat)):Option (List AV × List CB × List Nat):=x.map fun(cs,m)=>(vs,cs,m)
def pkA(h:Aa)(x:Option (List AV × List Nat)):Option (List AV × List CB × List Nat):=x.bind fun(vs,m)=>pkB vs (Hh 5000 (hf h) 0 m)
theorem aFP(vs:List AV)(cs:List CB)(m:List Nat):pkB vs (some (cs,m))=some (vs,cs,m):=abZ rfl rfl
theorem aGO(h:Aa)(vs:List AV)(m:List Nat):pkA h (some (vs,m))=pkB vs (Hh 5000 (hf h) 0 m):=abZ rfl rfl
theorem aUG(h:Aa)(m:List Nat)(vs:List AV):Gy (hf h) m vs=pkA h (Bw.refL (Bw 8) m vs):=abZ rfl rfl
def upK(h:Aa)(lent:List Nat)(v:Option AV)(ps ns:Option (List Ac))(o:AV→Cm):OE:=v.bind fun v=>ps.bind fun ps=>ns.bind fun ns=>
 some (o v,(if lent.isEmpty|| !(hasImm 8 v||(ps++ns).any Ac.hasImm)then []else Dm (hf h) lent)++ps++ns)
def crU(h:Aa)(base:Nat)(lent m:List Nat)(cs:List CB)(x:Option (Cm × Aa)):OE:=
 match x with
 |some (.ret v,h')=>upK h lent (Bo 8 (Dj m base) v) (Ed (Dj m base) m cs (h'.take m.length)) (Gk (Dj m base) base (h'.drop m.length)) .ret
 |some (.pan v,h')=>upK h lent (Bo 8 (Dj m base) v) (Ed (Dj m base) m cs (h'.take m.length)) (Gk (Dj m base) base (h'.drop m.length)) .pan
 |none=>none
def crP(O:Dh)(h:Aa)(base:Nat)(f:Lo)(lent:List Nat)(x:Option (List AV × List CB × List Nat)):OE:=x.bind fun(vs,cs,m)=>
 if lent.any (m.contains ·)then none else crU h base lent m cs (O.call f vs (cs.map CB.clean))
def crQ(O:Dh)(h:Aa)(base:Nat)(f:Lo)(lent:List Nat)(x:Option (List AV)):OE:=x.bind fun vs=>crP O h base f lent (Gy (hf h) [] vs)
theorem aWW(h:Aa)(base:Nat)(f:Lo)(args:List AV):cr (aq7 O (hf h) base f args)=crQ O h base f (args.flatMap (Am 12 (hf h))) (Ax (rdV h) args):=by
 unfold aq7 Bn crQ rdV
 cases Ax (En 12 (hf h)) args with
 |none=>rfl
 |some vs=>
  simp only[ab1]
  unfold crP
  cases Gy (hf h) [] vs with
  |none=>rfl
  |some x=>
   obtain⟨vs',cs,m⟩:=x
   simp only[ab1]
   split
   ·rfl
   ·cases O.call f vs' (cs.map CB.clean)with
    |none=>rfl
    |some y=>
     obtain⟨out,h'⟩:=y
     simp only[ab1,Hl]
     unfold crU upK
     cases out with
     |ret v=>
      simp only[Cm.v]
      cases Bo 8 (Dj m base) v with
      |none=>rfl
      |some v=>
       cases Ed (Dj m base) m cs (h'.take m.length)with
       |none=>rfl
       |some ps=>cases Gk (Dj m base) base (h'.drop m.length)<;>rfl
     |pan v=>
      simp only[Cm.v]
      cases Bo 8 (Dj m base) v with
      |none=>rfl
      |some v=>
       cases Ed (Dj m base) m cs (h'.take m.length)with
       |none=>rfl
       |some ps=>cases Gk (Dj m base) base (h'.drop m.length)<;>rfl
theorem aDU(h:Aa)(base:Nat)(f:Lo)(lent:List Nat)(vs:List AV):crQ O h base f lent (some vs)=crP O h base f lent (Gy (hf h) [] vs):=abZ rfl rfl
theorem aFW(h:Aa)(base:Nat)(f:Lo)(lent:List Nat)(vs:List AV)(cs:List CB)(m:List Nat):crP O h base f lent (some (vs,cs,m))=if lent.any (m.contains ·)=true then none else crU h base lent m cs (O.call f vs (cs.map CB.clean)):=abZ rfl rfl
theorem aJT(h:Aa)(base:Nat)(lent m:List Nat)(cs:List CB)(v:AV)(h':Aa):crU h base lent m cs (some (.ret v,h'))=upK h lent (Bo 8 (Dj m base) v) (Ed (Dj m base) m cs (h'.take m.length)) (Gk (Dj m base) base (h'.drop m.length)) .ret:=abZ rfl rfl
theorem aDT(h:Aa)(lent:List Nat)(v:AV)(ps ns:List Ac)(o:AV→Cm):upK h lent (some v) (some ps) (some ns) o=some (o v,(if(lent.isEmpty|| !(hasImm 8 v||(ps++ns).any Ac.hasImm))=true then []else Dm (hf h) lent)++ps++ns):=abZ rfl rfl
theorem aJ6(st:Nat)(fl w:Bool)(rows:List (List AV)):CB.clean (.live st fl w rows)=.live st fl false rows:=abZ rfl rfl
theorem aIW(d:Nat)(g:HF)(b:Bool):Am (d+1) g (.bool b)=[]:=abZ rfl rfl
theorem aM8(d:Nat)(g:HF)(k:IntKind)(n:Int):Am (d+1) g (.int k n)=[]:=abZ rfl rfl
theorem aSG(d:Nat)(g:HF)(b r o:Nat):Am (d+1) g (.ptr b r o)=[]:=abZ rfl rfl
theorem aIQ(d:Nat)(g:HF)(fn:Fn)(a b:List AV):Am (d+1) g (.func fn a b)=[]:=abZ rfl rfl
theorem aNN(d:Nat)(g:HF)(n:Nat)(fl nn:Bool)(rows:List (List AV)):Am (d+1) g (Dn n fl nn rows)=[]:=Ox g (d:=1) (by omega) (Oa 0 n fl nn rows)
theorem aQA(d:Nat)(g:HF)(cs:List AV):Am (d+1) g (.agg cs)=cs.flatMap (Am d g):=abZ rfl rfl
def lvS(b:Nat)(c:Option CB)(q:AV→List Nat)(r len:Nat):List Nat:=
 b::match c with
 |some (.live _ fl _ rows)=>if r+len≤rows.length then(if fl then []else((rows.drop r).take len).flatMap fun cs=>cs.flatMap q)else []
 |some (.frz _ fl rows)=>if r+len≤rows.length then(if fl then []else((rows.drop r).take len).flatMap fun cs=>cs.flatMap q)else []
 |_=>[]
theorem aSQ(d:Nat)(h:Aa)(st b r len:Nat):Am (d+1) (hf h) (.slr st b r len)=lvS b (h[b]?) (Am d (hf h)) r len:=by
 have e:Am (d+1) (hf h) (.slr st b r len)=b::(match Dl (hf h) b r len with|some (_,fl,rows)=>if fl then []else rows.flatMap fun cs=>cs.flatMap (Am d (hf h))|none=>[]):=rfl
 rw[e]
 generalize Am d (hf h)=q
 unfold Dl lvS
 have eh:hf h b=h[b]?:=rfl
 rw[eh]
 cases h[b]? with
 |none=>rfl
 |some c=>
  cases c with
  |live st fl w rows=>simp only;by_cases hq:r+len≤rows.length<;>simp[hq]
  |frz st fl rows=>simp only;by_cases hq:r+len≤rows.length<;>simp[hq]
  |_=>rfl
theorem aUY(b:Nat)(st:Nat)(w:Bool)(rows:List (List AV))(q:AV→List Nat)(r len:Nat):lvS b (some (.live st true w rows)) q r len=[b]:=by simp[lvS]
theorem aVI(m:List Nat)(base i:Nat):Dj m base i=if i<m.length then m.getD i base else base+(i-m.length):=abZ rfl rfl
theorem aKP(d:Nat)(f:Nat→Nat)(b:Bool):Bo (d+1) f (.bool b)=some (.bool b):=abZ rfl rfl
theorem aSH(d:Nat)(f:Nat→Nat)(k:IntKind)(n:Int):Bo (d+1) f (.int k n)=some (.int k n):=abZ rfl rfl
theorem aOB(d:Nat)(f:Nat→Nat)(n:Nat)(fl nn:Bool)(rows:List (List AV)):Bo (d+1) f (Dn n fl nn rows)=some (Dn n fl nn rows):=Hn f (Oa d n fl nn rows)
theorem aNX(d:Nat)(f:Nat→Nat)(b r o:Nat):Bo (d+1) f (.ptr b r o)=some (.ptr (f b) r o):=abZ rfl rfl
theorem aM7(d:Nat)(f:Nat→Nat)(st b r len:Nat):Bo (d+1) f (.slr st b r len)=some (.slr st (f b) r len):=abZ rfl rfl
def rnA(x:Option (List AV)):Option AV:=x.map .agg
def rnT(x:Option (List AV)):Option AV:=x.map .tup
theorem aFY(cs:List AV):rnA (some cs)=some (.agg cs):=abZ rfl rfl
theorem aGK(cs:List AV):rnT (some cs)=some (.tup cs):=abZ rfl rfl
theorem aSJ(d:Nat)(f:Nat→Nat)(cs:List AV):Bo (d+1) f (.agg cs)=rnA (Ax (Bo d f) cs):=abZ rfl rfl
theorem aO2(d:Nat)(f:Nat→Nat)(cs:List AV):Bo (d+1) f (.tup cs)=rnT (Ax (Bo d f) cs):=abZ rfl rfl
def rnG(fn:Fn)(a:List AV)(x:Option (List AV)):Option AV:=x.map fun b=>.func fn a b
def rnF(fn:Fn)(b:Option (List AV))(x:Option (List AV)):Option AV:=x.bind fun a=>rnG fn a b
theorem aGR(fn:Fn)(a b:List AV):rnG fn a (some b)=some (.func fn a b):=abZ rfl rfl
theorem aD9(fn:Fn)(b:Option (List AV))(a:List AV):rnF fn b (some a)=rnG fn a b:=abZ rfl rfl
theorem aJC(d:Nat)(f:Nat→Nat)(fn:Fn)(a b:List AV):Bo (d+1) f (.func fn a b)=rnF fn (Ax (Bo d f) b) (Ax (Bo d f) a):=abZ rfl rfl
def rbW(st:Nat)(w:Bool)(x:Option (List (List AV))):Option CB:=x.map (.live st false w)
theorem aDG(st:Nat)(w:Bool)(rows:List (List AV)):rbW st w (some rows)=some (.live st false w rows):=abZ rfl rfl
theorem aU7(f:Nat→Nat)(st:Nat)(w:Bool)(rows:List (List AV)):Gw f (.live st true w rows)=some (.live st true w rows):=abZ rfl rfl
theorem aT4(f:Nat→Nat)(st:Nat)(w:Bool)(rows:List (List AV)):Gw f (.live st false w rows)=rbW st w (Ax (Ax (Bo 8 f)) rows):=abZ rfl rfl
def peE(b:Nat)(c:Option CB)(x:Option (List Ac)):Option (List Ac):=c.bind fun c=>x.map fun es=>.put b c::es
def peK(f:Nat→Nat)(b:Nat)(c:CB)(same bad:Bool)(x:Option (List Ac)):Option (List Ac):=bif same then x else bif bad then none else peE b (Gw f c) x
theorem aUN(f:Nat→Nat)(b:Nat)(c:CB)(bad:Bool)(x:Option (List Ac)):peK f b c true bad x=x:=abZ rfl rfl
theorem aPM(f:Nat→Nat):Ed f [] [] []=some []:=abZ rfl rfl
theorem aLF(f:Nat→Nat)(b:Nat)(m:List Nat)(c₀ c:CB)(cs₀ cs:List CB):Ed f (b::m) (c₀::cs₀) (c::cs)=peK f b c (c₀.same c) (c.unw|| !c₀.isLive) (Ed f m cs₀ cs):=by
 conv=>lhs;unfold Ed
 unfold peK
 cases c₀.same c with
 |true=>rfl
 |false=>
  cases(c.unw|| !c₀.isLive)with
  |true=>rfl
  |false=>
   simp only[cond_false,peE]
theorem aJW(a:Nat)(b c:Bool)(r:List (List AV))(st:Nat)(fl w:Bool)(rows:List (List AV)):CB.same (.live a b c r) (.live st fl w rows)= !w:=abZ rfl rfl
theorem aLH(st:Nat)(fl w:Bool)(rows:List (List AV)):CB.unw (.live st fl w rows)= !w:=abZ rfl rfl
theorem aJV(st:Nat)(fl w:Bool)(rows:List (List AV)):CB.isLive (.live st fl w rows)=true:=abZ rfl rfl
def neK(base:Nat)(c:Option CB)(x:Option (List Ac)):Option (List Ac):=c.bind fun c=>x.map fun es=>.new base c::es
theorem aHZ(base:Nat)(c:CB)(es:List Ac):neK base (some c) (some es)=some (.new base c::es):=abZ rfl rfl
theorem aO0(f:Nat→Nat)(base:Nat):Gk f base []=some []:=abZ rfl rfl
theorem aJM(f:Nat→Nat)(base:Nat)(c:CB)(cs:List CB):Gk f base (c::cs)=neK base (Gw f c) (Gk f (base+1) cs):=abZ rfl rfl
theorem aJJ(d:Nat)(fn:Fn)(a b:List AV):hasImm (d+1) (.func fn a b)=(a.any (hasImm d)||b.any (hasImm d)):=abZ rfl rfl
theorem aSK(b:Nat)(c:CB):Ac.hasImm (.new b c)=c.hasImm:=abZ rfl rfl
theorem aTW(st:Nat)(w:Bool)(rows:List (List AV)):CB.hasImm (.live st true w rows)=false:=abZ rfl rfl
theorem aVB(st:Nat)(w:Bool)(rows:List (List AV)):CB.hasImm (.live st false w rows)=rows.any fun cs=>cs.any (Ev.hasImm 8):=abZ rfl rfl
theorem aPD(h:Aa)(b r o:Nat):rdV h (.ptr b r o)=some (.ptr b r o):=abZ rfl rfl
theorem aKQ(h:Aa)(cs:List AV):rdV h (.agg cs)=rdA (Ax (En 11 (hf h)) cs):=abZ rfl rfl
theorem aA4(l:List AV):rdA (some l)=some (.agg l):=abZ rfl rfl
theorem aIK(d:Nat)(h:Aa)(b:Bool):En (d+1) (hf h) (.bool b)=some (.bool b):=abZ rfl rfl
theorem aN3(d:Nat)(h:Aa)(k:IntKind)(n:Int):En (d+1) (hf h) (.int k n)=some (.int k n):=abZ rfl rfl
theorem aOX(d:Nat)(h:Aa)(n:Nat)(fl nn:Bool)(rows:List (List AV)):En (d+1) (hf h) (Dn n fl nn rows)=some (Dn n fl nn rows):=Oe _ (d:=1) (by omega) (Oa 0 n fl nn rows)
theorem aOE(d:Nat)(h:Aa)(n b r len:Nat):En (d+1) (hf h) (.slr n b r len)=rdS (Dc d (hf h)) (h[b]?) r len:=by
 have e:En (d+1) (hf h) (.slr n b r len)=(Dl (hf h) b r len).bind fun x=>if x.2.1=true then some (.imm x.1 true x.2.2)else(Ax (Ax (Dc d (hf h))) x.2.2).map (.imm x.1 false):=rfl
 rw[e]
 generalize Dc d (hf h)=q
 unfold Dl rdS
 have eh:hf h b=h[b]?:=rfl
 rw[eh]
 cases h[b]? with
 |none=>rfl
 |some c=>
  cases c with
  |live st fl w rows=>
   simp only[rdR]
   by_cases hq:r+len≤rows.length
   ·cases fl<;>simp[hq]
   ·simp[hq]
  |frz st fl rows=>
   simp only[rdR]
   by_cases hq:r+len≤rows.length
   ·cases fl<;>simp[hq]
   ·simp[hq]
  |_=>rfl
def mfK(f:Nat)(a b:Option (List AV)):OE:=a.bind fun a=>b.bind fun b=>some (.ret (.func (.func f) a b),[])
theorem aF4(f:Nat)(a b:List AV):mfK f (some a) (some b)=some (.ret (.func (.func f) a b),[]):=abZ rfl rfl
theorem aVZ(t:List AV)(h:Aa)(f:Nat)(a b:Array Operand):Ci O P t h (.makeFunc (.func f) a b)=mfK f (Av t a.toList) (Av t b.toList):=by
 rw[Bq _ _ _ rfl]
 simp only[exec,mfK]
 cases Av t a.toList with
 |none=>rfl
 |some a=>cases Av t b.toList<;>rfl
def msK(n:Nat)(z:AV)(base:Nat)(l c:Option AV):OE:=
 match l,c with
 |some (.int .i64 l),some (.int .i64 c)=>if 0≤l∧l≤c∧c≤2 ^ 40∧(Af z).all AV.isCell=true then some (.ret (.slr n base 0 l.toNat),[.new base (.live n ((Af z).all AV.flat) false (aqM l.toNat (Af z)))])else none
 |_,_=>none
theorem aG5(n:Nat)(z:AV)(base:Nat)(l c:Int):msK n z base (some (.int .i64 l)) (some (.int .i64 c))=if 0≤l∧l≤c∧c≤2 ^ 40∧(Af z).all AV.isCell=true then some (.ret (.slr n base 0 l.toNat),[.new base (.live n ((Af z).all AV.flat) false (aqM l.toNat (Af z)))])else none:=abZ rfl rfl
def msO(P:Program)(ty:TypeId)(base:Nat)(l c:Option AV):OE:=rD (l.bind fun l=>c.bind fun c=>Ej P base ty l c)
theorem aUB(t:List AV)(h:Aa)(ty:TypeId)(l c:Operand):Ci O P t h (.makeSlice ty l c)=msO P ty h.length (Ad t l) (Ad t c):=Bq _ _ _ rfl
theorem aVL{ty e:TypeId}{n b:Nat}{z:AV}(he:ak5 P ty=some e)(hn:Ll P e=some n)(hb:byT P e=some b)(hz:Gv P e=some z)(ok:(decide (b≤2 ^ 7)&&decide (n≠0)&&decide ((Af z).length=n))=true)(base:Nat)(l c:Option AV):
 msO P ty base l c=msK n z base l c:=by
 simp only[aq1,decide_eq_true_eq]at ok
 unfold msO msK
 cases l with
 |none=>rfl
 |some l=>
  cases c with
  |none=>cases l<;>first|rfl|(rename_i k _;cases k<;>rfl)
  |some c=>
   simp only[ab1,Ej,he,hn,hb,hz]
   cases l with
   |int k l=>
    cases c with
    |int k' c=>
     cases k<;>cases k'<;>first|rfl|skip
     simp only[ok.1.1,ok.1.2,ok.2,ne_eq,not_false_eq_true,true_and]
     split<;>rfl
    |_=>cases k<;>rfl
   |_=>rfl
def srS(q:Nat)(c:Option CB)(r len:Nat):Option (Bool × List (List AV)):=
 match c with
 |some (.live st fl _ rows)=>if r+len≤rows.length∧st=q then some (fl,(rows.drop r).take len)else none
 |some (.frz st fl rows)=>if r+len≤rows.length∧st=q then some (fl,(rows.drop r).take len)else none
 |_=>none
def srK(q:Nat)(h:Aa)(x:Option AV):Option (Bool × List (List AV)):=
 match x with
 |some .nils=>some (true,[])
 |some (.imm st fl rows)=>if st=q then some (fl,rows)else none
 |some (.slr _ b r len)=>srS q (h[b]?) r len
 |_=>none
theorem aEF(q st:Nat)(fl w:Bool)(rows:List (List AV))(r len:Nat):srS q (some (.live st fl w rows)) r len=if r+len≤rows.length∧st=q then some (fl,(rows.drop r).take len)else none:=abZ rfl rfl
theorem aEU(q:Nat)(h:Aa):srK q h (some .nils)=some (true,[]):=abZ rfl rfl
theorem az2(q:Nat)(h:Aa)(st:Nat)(fl:Bool)(rows:List (List AV)):srK q h (some (.imm st fl rows))=if st=q then some (fl,rows)else none:=abZ rfl rfl
theorem aAA(q:Nat)(h:Aa)(st b r len:Nat):srK q h (some (.slr st b r len))=srS q (h[b]?) r len:=abZ rfl rfl
def apS(n base b r len:Nat)(nfl:Bool)(new:List (List AV))(c:Option CB):OE:=
 match c with
 |some (.live st fl _ rows)=>if st=n∧r+len=rows.length∧len+new.length≤2 ^ 39 then some (.ret (.slr st base 0 (len+new.length)),[.put b .dead,.new base (.live st (fl&&nfl) false (rows.drop r++new))])else none
 |_=>none
theorem aEQ(n base b r len:Nat)(nfl:Bool)(new:List (List AV))(st:Nat)(fl w:Bool)(rows:List (List AV)):apS n base b r len nfl new (some (.live st fl w rows))=if st=n∧r+len=rows.length∧len+new.length≤2 ^ 39 then some (.ret (.slr st base 0 (len+new.length)),[.put b .dead,.new base (.live st (fl&&nfl) false (rows.drop r++new))])else none:=abZ rfl rfl
def apK(n:Nat)(h:Aa)(s:Option AV)(x:Option (Bool × List (List AV))):OE:=
 match s,x with
 |some .nils,some (_,[])=>some (.ret .nils,[])
 |some (.slr a b r l),some (_,[])=>some (.ret (.slr a b r l),[])
 |some (.imm a b r),some (_,[])=>some (.ret (.imm a b r),[])
 |some .nils,some (nfl,r::new)=>if(r::new).length≤2 ^ 39 then some (.ret (.slr n h.length 0 (r::new).length),[.new h.length (.live n nfl false (r::new))])else none
 |some (.slr _ b r len),some (nfl,q::new)=>apS n h.length b r len nfl (q::new) (h[b]?)
 |_,_=>none
theorem aPF(n:Nat)(h:Aa)(a b r l:Nat)(nfl:Bool):apK n h (some (.slr a b r l)) (some (nfl,[]))=some (.ret (.slr a b r l),[]):=abZ rfl rfl
theorem ax8(n:Nat)(h:Aa)(nfl:Bool)(r:List AV)(new:List (List AV)):apK n h (some .nils) (some (nfl,r::new))=if(r::new).length≤2 ^ 39 then some (.ret (.slr n h.length 0 (r::new).length),[.new h.length (.live n nfl false (r::new))])else none:=abZ rfl rfl
theorem aEB(n:Nat)(h:Aa)(a b r len:Nat)(nfl:Bool)(q:List AV)(new:List (List AV)):apK n h (some (.slr a b r len)) (some (nfl,q::new))=apS n h.length b r len nfl (q::new) (h[b]?):=abZ rfl rfl
def apO(P:Program)(ty:TypeId)(h:Aa)(s x:Option AV):OE:=rD (s.bind fun s=>x.bind fun x=>Ec P (hf h) h.length ty s x)
theorem aH3(t:List AV)(h:Aa)(s x:Operand)(ty ty1 e1:TypeId)(hu:P.underlying ty1=some (.slice e1)):Ci O P t h (.call ⟨.builtin .append,#[s,x],#[ty,ty1]⟩)=apO P ty h (Ad t s) (Ad t x):=by
 rw[Bq _ _ _ rfl]
 simp only[exec,Av,apO]
 cases Ad t s with
 |none=>rfl
 |some a=>
  cases Ad t x with
  |none=>rfl
  |some b=>
   simp only[ab1,asR]
   have e0:(#[ty,ty1]:Array TypeId)[0]?=some ty:=rfl
   have e1:(#[ty,ty1]:Array TypeId)[1]?=some ty1:=rfl
   simp only[e0,e1,ab1,hu]
theorem azZ{ty e:TypeId}{n b:Nat}{z:AV}(he:ak5 P ty=some e)(hn:Ll P e=some n)(hb:byT P e=some b)(hz:Gv P e=some z)(ok:(decide (b≤2 ^ 7)&&decide (n≠0)&&decide ((Af z).length=n))=true)(h:Aa)(s x:AV)(hx:∀q,x≠.str q):
 apO P ty h (some s) (some x)=apK n h (some s) (srK n h (some x)):=by
 simp only[aq1,decide_eq_true_eq]at ok
 have hbad:¬(n=0∨2 ^ 7<b∨(Af z).length≠n):=by
  rintro(h1|h1|h1)
  ·exact ok.1.2 h1
  ·omega
  ·exact h1 ok.2
 unfold apO
 simp only[ab1,Ec,he,hn,hb,hz]
 have key:∀(nfl:Bool) (new:List (List AV)) (fs:List Cb),rD (if n=0∨2 ^ 7<b∨(Af z).length≠n then none else
  match s,new with
  |s,[]=>match s with
   | .nils| .slr _ _ _ _| .imm _ _ _=>some ⟨s,[],fs⟩
   |_=>none
  | .nils,new=>if new.length≤2 ^ 39 then some ⟨.slr n h.length 0 new.length,[.new h.length (.live n nfl false new)],fs⟩else none
  | .slr _ b r len,new=>
    match hf h b with
    |some (.live st fl _ rows)=>
     if st=n∧r+len=rows.length∧len+new.length≤2 ^ 39 then
      some ⟨.slr st h.length 0 (len+new.length),[.put b .dead,.new h.length (.live st (fl&&nfl) false (rows.drop r++new))],.blk b::fs⟩
     else none
    |_=>none
  |_,_=>none)=apK n h (some s) (some (nfl,new)):=fun nfl new fs=>by
  rw[if_neg hbad]
  cases new with
  |nil=>cases s<;>rfl
  |cons q new=>
   cases s with
   |nils=>simp only[ax8];split<;>rfl
   |slr a b r len=>
    simp only[aEB]
    unfold apS
    have eh:hf h b=h[b]?:=rfl
    rw[eh]
    cases h[b]? with
    |none=>rfl
    |some c=>
     cases c with
     |live st fl w rows=>simp only;split<;>rfl
     |_=>rfl
   |_=>rfl
 cases x with
 |nils=>exact key true [] []
 |imm st fl rows=>
  simp only[Bt,az2,hn,as2.injEq]
  by_cases hq:n=st
  ·subst hq;simp only[if_true,ab1];exact key fl rows []
  ·rw[if_neg hq,if_neg (fun e=>hq e.symm)]
   cases s<;>rfl
 |slr st b' r len=>
  simp only[Bt,aAA,hn,Dl,srS]
  have eh:hf h b'=h[b']?:=rfl
  rw[eh]
  cases h[b']? with
  |none=>cases s<;>rfl
  |some c=>
   cases c with
   |live st fl w rows=>
    simp only
    by_cases hq:r+len≤rows.length
    ·simp only[hq,if_true,ab1,true_and,as2.injEq]
     by_cases hq2:n=st
     ·subst hq2;simp only[if_true,ab1];exact key fl _ _
     ·rw[if_neg hq2,if_neg (fun e=>hq2 e.symm)];cases s<;>rfl
    ·simp only[hq,if_false,false_and];cases s<;>rfl
   |frz st fl rows=>
    simp only
    by_cases hq:r+len≤rows.length
    ·simp only[hq,if_true,ab1,true_and,as2.injEq]
     by_cases hq2:n=st
     ·subst hq2;simp only[if_true,ab1];exact key fl _ _
     ·rw[if_neg hq2,if_neg (fun e=>hq2 e.symm)];cases s<;>rfl
    ·simp only[hq,if_false,false_and];cases s<;>rfl
   |_=>cases s<;>rfl
 |str q=>exact(hx q rfl).elim
 |_=>cases s<;>rfl
def rtK(Q:Cm→Aa→Prop)(x:Option (List AV × List CB × List Nat)):Prop:=
 match x with
 |some ([v],cs,_)=>Q (.ret v) cs
 |_=>False
theorem aHV(Q:Cm→Aa→Prop)(v:AV)(cs:List CB)(m:List Nat):rtK Q (some ([v],cs,m))=Q (.ret v) cs:=abZ rfl rfl
theorem aMA{q:Nat}{vs:List AV}{h:Aa}{Q:Cm→Aa→Prop}:Rt q (some vs) h Q=rtK Q (Gy (hf h) (atQ q) [Kq vs]):=by
 unfold Rt aKM
 simp only[ab1,Nc]
 cases hp:Gy (hf h) (atQ q) [Kq vs]with
 |none=>simp[rtK]
 |some x=>
  obtain⟨ws,cs,m⟩:=x
  simp only[ab1]
  match ws with
  | [v]=>
    simp only[rtK,asR]
    exact propext ⟨fun⟨o,h',e,k⟩=>by cases e;exact k,fun k=>⟨_,_,rfl,k⟩⟩
  | []=>simp[rtK]
  |_::_::_=>simp[rtK]
theorem aNH(vs:List AV)(h:Aa)(Q:Cm→Aa→Prop):Rt1 0 (some vs) h Q=rtK Q (Gy (hf h) [] [Kq vs]):=aMA
theorem aIY(q:Nat)(vs:List AV)(h:Aa)(Q:Cm→Aa→Prop):Rt (q+1) (some vs) h Q=rtK Q (Gy (hf h) (atQ (q+1)) [Kq vs]):=aMA
end
end
noncomputable section
set_option maxRecDepth 100000
def EVi:=PLift.up (abY @aCK (abY @ayE (abY @aKH (abY @aM5 (abY @aQ3 (abY @aNW (abY @aRN (abY @aNG (abY @aGQ (abY @aGV (abY @aN6 (abY @aQR (abY @aGY (abY @aF7 (abY @aKW (abY @aHF (abY @aEK (abY @aKG (abY @aEO (abY @aEE (abY @aFU (abY @aSN (abY @aJG (abY @aGJ (abY @aUT (abY @aUO (abY @aHI (abY @aFR (abY @aFF @aHL)))))))))))))))))))))))))))))
def EVj:=PLift.up (abY @aEZ (abY @aVN (abY @aFP (abY @aGO (abY @aUG (abY @aWW (abY @aDU (abY @aFW (abY @aJT (abY @aDT (abY @aJ6 (abY @aIW (abY @aM8 (abY @aSG (abY @aIQ (abY @aNN (abY @aQA (abY @aSQ (abY @aUY (abY @aVI (abY @aKP (abY @aSH (abY @aOB (abY @aNX (abY @aM7 @aFY)))))))))))))))))))))))))
def EVk:=PLift.up (abY @aGK (abY @aSJ (abY @aO2 (abY @aGR (abY @aD9 (abY @aJC (abY @aDG (abY @aU7 (abY @aT4 (abY @aUN (abY @aPM (abY @aLF (abY @aJW (abY @aLH (abY @aJV (abY @aHZ (abY @aO0 (abY @aJM (abY @aJJ (abY @aSK (abY @aTW (abY @aVB @aPD))))))))))))))))))))))
def EVl:=PLift.up (abY @aKQ (abY @aA4 (abY @aIK (abY @aN3 (abY @aOX (abY @aOE (abY @aF4 (abY @aVZ (abY @aG5 (abY @aUB (abY @aEF (abY @aEU (abY @az2 (abY @aAA (abY @aEQ (abY @aPF (abY @ax8 (abY @aEB (abY @aHV (abY @aNH (abY @aIY (abY @List.flatMap_cons.{0,0} (abY @List.flatMap_nil.{0,0} (abY @List.isEmpty_nil.{0} (abY @List.getD_cons_zero.{0} (abY @List.range_succ (abY @List.range_zero (abY @List.contains_nil.{0} @List.contains_cons.{0}))))))))))))))))))))))))))))
def EVm:=PLift.up (abY @List.getElem?_nil.{0} @aBC)
end
noncomputable section
theorem azA{n:Nat}{fl nn:Bool}{rows:List (List AV)}(h:rows≠[]):Dn n fl nn rows=.imm n fl rows:=by
 cases rows with
 |nil=>exact(h rfl).elim
 |cons r rs=>rfl
theorem asQ(n:Nat)(fl:Bool)(rows:List (List AV)):Dn n fl true rows=.imm n fl rows:=by cases rows<;>rfl
section
variable {P:Program} {t e:TypeId} (hu:P.underlying t=some (.slice e))
include hu
theorem awO(n:Nat)(fl:Bool)(rows:List (List AV)):Jj P .eql t (.imm n fl rows) .nils=some (.bool false):=by simp[Jj,aEq,hu]
end
def aPI(v:Option AV)(ns:Option (List Ac)):Option Gz:=v.bind fun v=>ns.map fun ns=>⟨.ret v,ns,[]⟩
theorem aAR(v:AV)(ns:List Ac):aPI (some v) (some ns)=some ⟨.ret v,ns,[]⟩:=abZ rfl rfl
theorem aHQ(base:Nat)(v:AV)(c:CB)(cs:List CB):ac0 base (some (.ret v,c::cs))=aPI (Bo 8 (fun i=>base+i) v) (Gk (fun i=>base+i) base (c::cs)):=by
 simp only[ac0,aPI,ab1,Cm.v,Cm.map]
section
variable {O:Dh}
theorem aUH(h:Aa)(f:Nat)(args:List AV):shC O h f args=if(aqP args||O.md f)=true then shK h (O.call (.sh f) args (Hf h))else cr (Bn O (hf h) h.length (.fn f) args):=abZ rfl rfl
end
theorem aQS(b r o:Nat)(l:List AV):aqP (.ptr b r o::l)=false:=abZ rfl rfl
theorem aV8(b:Nat)(l:List AV):aqP (.yl b::l)=true:=abZ rfl rfl
theorem aNZ:Hf []=[]:=abZ rfl rfl
theorem aLE(c:CB)(h:Aa):Hf (c::h)=c.clean::Hf h:=abZ rfl rfl
theorem aSP(h h':Aa):Hf (h++h')=Hf h++Hf h':=List.map_append
theorem aSU(h:Aa)(b:Nat):(Hf h)[b]?=(h[b]?).map CB.clean:=by simp[Hf]
theorem aVO(ps:List Nat)(a b:Code)(t:List AV)(st:Hk):CB.clean (.lp ps a b t st)=.lp ps a b t st:=abZ rfl rfl
def Aq(h:Aa):Bool:=h.all fun c=>c.quiet c.clean
theorem aAC:∀{h:Aa} (_:Aq h=true) (i:Nat) (l:Aa),Bz i h (Hf h++l)=some (Fz (i+h.length) l)
 | [],_,i,l=>by simp[Hf,Bz]
 |c::h,hq,i,l=>by
  simp only[Aq,List.all_cons,aq1]at hq
  have ih:=aAC (h:=h) hq.2 (i+1) l
  simp only[Hf,List.map_cons,ax1,Bz,hq.1,cond_true]at ih ⊢
  rw[ih,ax2]
  congr 2;omega
theorem atI:∀(cs:List CB) (i:Nat) (h:Aa),Bi h (Fz i cs)=h++cs
 | [],i,h=>by simp[Fz,Bi]
 |c::cs,i,h=>by simp[Fz,Bi,La,atI cs]
theorem auW(h:Aa)(o:Cm)(h':Aa):shK h (some (o,h'))=(Bz 0 h h').map fun es=>(o,es):=abZ rfl rfl
def EVo:=PLift.up (abY @aNR (abY @aO9 (abY @aUA (abY @aIC (abY @aNJ (abY @aNP @aNT))))))
def EVn:=PLift.up (abY @aAR @aHQ)
def EVp:=PLift.up (abY @aUH (abY @aQS (abY @aV8 (abY @aNZ (abY @aLE (abY @aSP (abY @aSU @aVO)))))))
end
noncomputable section
def Le:CB→Option (Nat × Bool × List (List AV))
 | .live st fl _ rows=>some (st,fl,rows)
 | .frz st fl rows=>some (st,fl,rows)
 |_=>none
end
noncomputable section
open Go.RowKit
section
variable {P:Program} {O:Dh} {pr:Jl}
def fnS(P:Program)(rs:List ResultVar)(x:R):Option (Cm × Aa):=
 match x with
 |some (.normal,s)|some (.ret,s)=>(Lp P s rs).map fun vs=>(.ret (Kq vs),s.h)
 |some (.pan v,s)=>some (.pan v,s.h)
 |_=>none
theorem aOG{f:Nat}{fn:Func}(hf:P.funcs[f]?=some fn){c:Code}(hb:fn.body=some c){args:List AV}(hl:args.length≤fn.ntmps)(h:Aa):
 evS O P f args h=fnS P fn.results.toList (Bf O P Gu c [] ⟨mk fn.ntmps (ent args),h⟩):=by
 unfold evS
 simp only[hf,hb]
 rw[aEC _ _ hl]
 cases Bf O P Gu c [] ⟨mk fn.ntmps (ent args),h⟩with
 |none=>rfl
 |some x=>
  obtain⟨e,s⟩:=x
  cases e<;>rfl
def FnS(P:Program)(rs:List ResultVar)(Q:Cm→Aa→Prop)(x:R):Prop:=∃o h,fnS P rs x=some (o,h)∧Q o h
def RtS(vs:Option (List AV))(h:Aa)(Q:Cm→Aa→Prop):Prop:=
 match vs with
 |some vs=>Q (.ret (Kq vs)) h
 |none=>False
theorem ayT(rs:List ResultVar)(Q:Cm→Aa→Prop)(t:List AV)(h:Aa):FnS P rs Q (some (.ret,⟨t,h⟩))=RtS (Lp P ⟨t,h⟩ rs) h Q:=by
 cases hr:Lp P ⟨t,h⟩ rs with
 |none=>simp[FnS,fnS,RtS,hr]
 |some vs=>
  have e:fnS P rs (some (.ret,⟨t,h⟩))=some (.ret (Kq vs),h):=by simp[fnS,hr]
  exact propext (Iff.intro (fun⟨o,h',e',q⟩=>by rw[e]at e';cases e';exact q) (fun q=>⟨_,_,e,q⟩))
theorem Jz(rs:List ResultVar)(Q:Cm→Aa→Prop)(t:List AV)(h:Aa):FnS P rs Q (some (.normal,⟨t,h⟩))=RtS (Lp P ⟨t,h⟩ rs) h Q:=by
 rw[←ayT];rfl
theorem aH0(vs:List AV)(h:Aa)(Q:Cm→Aa→Prop):RtS (some vs) h Q=Q (.ret (Kq vs)) h:=abZ rfl rfl
theorem aHU{rs:List ResultVar}{Q:Cm→Aa→Prop}:¬FnS P rs Q none:=fun⟨_,_,h,_⟩=>by simp[fnS]at h
def ShQ(O:Dh)(f:Nat)(args:List AV)(h:Aa)(Q:Cm→Aa→Prop):Prop:=∃o h',O.call (.sh f) args h=some (o,h')∧Q o h'
theorem ShQ.start{f:Nat}{fn:Func}{c:Code}{args:List AV}{h:Aa}{Q:Cm→Aa→Prop}(hp:pr f=none)(hf:P.funcs[f]?=some fn)(hb:fn.body=some c)(hl:Nat.ble args.length fn.ntmps=true)
 (he:FnS P fn.results.toList Q (Bf (om P pr) P 5000 c [] ⟨mk fn.ntmps (ent args),h⟩)):ShQ (om P pr) f args h Q:=by
 obtain⟨o,h',e,q⟩:=he
 exact⟨o,h',aL8 hp ((aOG hf hb (Nat.le_of_ble_eq_true hl) h).trans e),q⟩
theorem ShQ.eq{f:Nat}{args:List AV}{h:Aa}{o:Cm}{h':Aa}(k:ShQ O f args h fun o1 h1=>(o1,h1)=(o,h')):O.call (.sh f) args h=some (o,h'):=by
 obtain⟨o1,h1,e,q⟩:=k
 rw[e,q]
def ncK(x:Option AV):OE:=
 match x with
 |some (.ptr b r o)=>some (.ret (.ptr b r o),[])
 |some (.iptr cs)=>some (.ret (.iptr cs),[])
 |some (.func (.func f) a c)=>some (.ret (.func (.func f) a c),[])
 |_=>none
theorem aOF(b r o:Nat):ncK (some (.ptr b r o))=some (.ret (.ptr b r o),[]):=abZ rfl rfl
theorem aV2(t:List AV)(h:Aa)(x:Operand):Ci O P t h (.nilCheck x)=ncK (Ad t x):=by
 rw[Bq _ _ _ rfl]
 simp only[exec,ncK]
 cases Ad t x with
 |none=>rfl
 |some v=>
  cases v with
  |func fn a c=>cases fn<;>rfl
  |_=>rfl
theorem aT5(t:List AV)(h:Aa)(x:Operand):ftA O P t h (.nilCheck x)=some []:=abZ rfl rfl
end
def EVq:=PLift.up (abY @ayT (abY @Jz (abY @aH0 (abY @aOF (abY @aV2 @aT5)))))
end
noncomputable section
open Go.RowKit
section
variable {P:Program} {O:Dh}
end
section
variable {P:Program} (ty:TypeId)
end
theorem au6{α:Type}{f:α→Option α}:∀{l:List α},(∀x∈l,f x=some x)→Ax f l=some l
 | [],_=>rfl
 |a::l,h=>by simp only[Ax,h a (ao5 ..),ab1,au6 (fun x hx=>h x (ao7 _ hx)),asR]
theorem aSO{n:Nat}{h:Aa}{nfl:Bool}{rows:List (List AV)}(hr:rows≠[])(hl:rows.length≤549755813888):apK n h (some .nils) (some (nfl,rows))=some (.ret (.slr n h.length 0 rows.length),[.new h.length (.live n nfl false rows)]):=by
 cases rows with
 |nil=>exact(hr rfl).elim
 |cons r new=>rw[ax8,if_pos (by simpa using hl)]
end
noncomputable section
open Go.RowKit
section
variable {P:Program} {O:Dh} {pr:Jl}
def rnX(O:Dh)(P:Program)(n:Nat)(k:List Ai)(t:List AV)(b:Nat)(h2:Aa)(x:Option CB):R:=
 match x with
 |some (.lp _ _ _ _ .ready)=>Bc (Bf O P n) k .normal ⟨t,h2.set b .dead⟩
 |some (.lp _ _ _ _ (.done .ret))=>Bc (Bf O P n) k .ret ⟨t,h2.set b .dead⟩
 |some (.lp _ _ _ _ (.done (.exit i)))=>Bc (Bf O P n) k (.exit i) ⟨t,h2.set b .dead⟩
 |_=>none
def rnE(O:Dh)(P:Program)(n:Nat)(k:List Ai)(t:List AV)(b:Nat)(h1:Aa)(x:OE):R:=
 match x with
 |some (.ret _,es)=>rnX O P n k t b (Bi h1 es) ((Bi h1 es)[b]?)
 |_=>none
def rnC(O:Dh)(h1:Aa)(b:Nat)(fv:Option AV):OE:=
 match fv with
 |some (.func (.func g) a c)=>cr (Cj O (hf h1) h1.length (Md g (a++[.yl b]++c)) (a++[.yl b]++c))
 |_=>none
theorem aVX(n:Nat)(k:List Ai)(t:List AV)(b:Nat)(h1:Aa)(x:Option Gz):
 (x.bind fun d=>match d.out with
   | .ret _=>
     let h2:=Bi h1 d.es
     match h2[b]? with
     |some (.lp _ _ _ _ .ready)=>Bc (Bf O P n) k .normal ⟨t,h2.set b .dead⟩
     |some (.lp _ _ _ _ (.done .ret))=>Bc (Bf O P n) k .ret ⟨t,h2.set b .dead⟩
     |some (.lp _ _ _ _ (.done (.exit i)))=>Bc (Bf O P n) k (.exit i) ⟨t,h2.set b .dead⟩
     |_=>none
   | .pan _=>none)=rnE O P n k t b h1 (cr x):=by
 cases x with
 |none=>rfl
 |some d=>
  obtain⟨o,es,fs⟩:=d
  cases o<;>rfl
theorem aOQ(n:Nat)(f:Operand)(ps:Array Nat)(asg body:Code)(k:List Ai)(t:List AV)(h:Aa):
 Bf O P (n+1) (.rangeFunc f ps asg body) k ⟨t,h⟩=rnE O P n k t h.length (h++[.lp ps.toList asg body t .ready]) (rnC O (h++[.lp ps.toList asg body t .ready]) h.length (Ad t f)):=by
 simp only[Bf,rnC]
 cases Ad t f with
 |none=>rfl
 |some v=>
  simp only[ab1]
  cases v with
  |func fn a c=>
   cases fn with
   |func g=>exact aVX n k t h.length _ _
   |_=>rfl
  |_=>rfl
theorem aOY(h1:Aa)(b g:Nat)(a c:List AV):rnC O h1 b (some (.func (.func g) a c))=if hdR (a++[.yl b]++c)=true then shC O h1 g (a++[.yl b]++c)else cr (Bn O (hf h1) h1.length (.fn g) (a++[.yl b]++c)):=aHD h1 g _
theorem aIS(n:Nat)(k:List Ai)(t:List AV)(b:Nat)(h1:Aa)(v:AV)(es:List Ac):rnE O P n k t b h1 (some (.ret v,es))=rnX O P n k t b (Bi h1 es) ((Bi h1 es)[b]?):=abZ rfl rfl
theorem aBJ(n:Nat)(k:List Ai)(t:List AV)(b:Nat)(h2:Aa)(ps:List Nat)(asg body:Code)(tm:List AV):rnX O P n k t b h2 (some (.lp ps asg body tm .ready))=Bc (Bf O P n) k .normal ⟨t,h2.set b .dead⟩:=abZ rfl rfl
def slK(h:Aa)(b:Nat)(ok:Hk→Bool)(st:Hk)(x:Option CB):Option Aa:=
 match x with
 |some (.lp ps asg body tmps st')=>if ok st' then some (h.set b (.lp ps asg body tmps st))else none
 |_=>none
theorem aUD(h:Aa)(b:Nat)(ok:Hk→Bool)(st:Hk):Jh h b ok st=slK h b ok st (h[b]?):=by
 unfold Jh slK
 cases h[b]? with
 |none=>rfl
 |some c=>cases c<;>rfl
theorem aDN(h:Aa)(b:Nat)(st:Hk)(ps:List Nat)(asg body:Code)(tm:List AV):slK h b Hk.isReady st (some (.lp ps asg body tm .ready))=some (h.set b (.lp ps asg body tm st)):=abZ rfl rfl
theorem aKU(h:Aa)(b:Nat)(st:Hk)(ps:List Nat)(asg body:Code)(tm:List AV):slK h b Hk.isBusy st (some (.lp ps asg body tm .busy))=some (h.set b (.lp ps asg body tm st)):=abZ rfl rfl
def aLX(O:Dh)(P:Program)(body:Code)(t:List AV)(x:Option Aa):R:=
 match x with
 |some h1=>Bf O P 5000 body [] ⟨t,h1⟩
 |none=>none
def aEG(O:Dh)(P:Program)(b:Nat)(body:Code)(x:R):R:=
 match x with
 |some (.normal,s)=>aLX O P body s.tmps (Jh s.h b Hk.isReady .busy)
 |_=>none
def avL(r:Bool)(x:Option Aa):Option (Cm × Aa):=x.map fun h2=>(.ret (.bool r),h2)
def aBY(b:Nat)(x:R):Option (Cm × Aa):=
 match x with
 |some (.normal,s)=>avL true (Jh s.h b Hk.isBusy .ready)
 |some (.ret,s)=>avL false (Jh s.h b Hk.isBusy (.done .ret))
 |some (.exit i,s)=>avL false (Jh s.h b Hk.isBusy (.done (.exit i)))
 |_=>none
theorem aCR(body:Code)(t:List AV)(h:Aa):aLX O P body t (some h)=Bf O P 5000 body [] ⟨t,h⟩:=abZ rfl rfl
theorem axZ(b:Nat)(body:Code)(t:List AV)(h:Aa):aEG O P b body (some (.normal,⟨t,h⟩))=aLX O P body t (Jh h b Hk.isReady .busy):=abZ rfl rfl
theorem aA0(r:Bool)(h:Aa):avL r (some h)=some (.ret (.bool r),h):=abZ rfl rfl
theorem aC6{vs:List AV}{b:Nat}{h:Aa}{ps:List Nat}{asg body:Code}{tm:List AV}{st:Hk}(hb:h[b]?=some (.lp ps asg body tm st))(hl:ps.length=vs.length):
 Il O P (vs++[.yl b]) h=aBY b (aEG O P b body (Bf O P 5000 asg [] ⟨Jq tm ps vs,h⟩)):=by
 unfold Il
 simp only[List.reverse_append,List.reverse_cons,List.reverse_nil,auH,ax1,List.reverse_reverse,List.length_reverse,hb,hl,if_true,Gu]
 cases Bf O P 5000 asg [] ⟨Jq tm ps vs,h⟩with
 |none=>rfl
 |some x=>
  obtain⟨e,s⟩:=x
  cases e with
  |normal=>
   simp only[ab1,aEG]
   cases Jh s.h b Hk.isReady .busy with
   |none=>rfl
   |some h1=>
    simp only[ab1,aLX]
    cases Bf O P 5000 body [] ⟨s.tmps,h1⟩with
    |none=>rfl
    |some y=>
     obtain⟨e,s⟩:=y
     cases e with
     |normal=>simp only[ab1,Jd,aBY,avL];cases Jh s.h b Hk.isBusy .ready<;>rfl
     |ret=>simp only[ab1,Jd,aBY,avL];cases Jh s.h b Hk.isBusy (.done .ret)<;>rfl
     |exit i=>simp only[ab1,Jd,aBY,avL];cases Jh s.h b Hk.isBusy (.done (.exit i))<;>rfl
     |pan v=>rfl
  |_=>rfl
def RnE(b:Nat)(Q:Cm→Aa→Prop)(x:R):Prop:=∃o h',aBY b x=some (o,h')∧Q o h'
def RnQ(O:Dh)(args:List AV)(h:Aa)(Q:Cm→Aa→Prop):Prop:=∃o h',O.call .round args h=some (o,h')∧Q o h'
theorem RnQ.start{vs:List AV}{b:Nat}{h:Aa}{ps:List Nat}{asg body:Code}{tm:List AV}{st:Hk}{Q:Cm→Aa→Prop}(hb:h[b]?=some (.lp ps asg body tm st))(hl:ps.length=vs.length)
 (he:RnE b Q (aEG (om P pr) P b body (Bf (om P pr) P 5000 asg [] ⟨Jq tm ps vs,h⟩))):RnQ (om P pr) (vs++[.yl b]) h Q:=by
 obtain⟨o,h',e,q⟩:=he
 exact⟨o,h',axV ((aC6 hb hl).trans e),q⟩
theorem aN4{C:R→Prop}{n f b:Nat}{k:List Ai}{t:List AV}{h1 h2:Aa}{args:List AV}{Q:Cm→Aa→Prop}(hq:ShQ O f args h2 Q)(hk:∀o h',Q o h'→C (rnE O P n k t b h1 (shK h1 (some (o,h'))))):C (rnE O P n k t b h1 (shK h1 (O.call (.sh f) args h2))):=by
 obtain⟨o,h',e,q⟩:=hq
 rw[e];exact hk o h' q
theorem aBU(b:Nat)(Q:Cm→Aa→Prop)(t:List AV)(h:Aa):RnE b Q (some (.normal,⟨t,h⟩))=∃o h',avL true (Jh h b Hk.isBusy .ready)=some (o,h')∧Q o h':=abZ rfl rfl
theorem aDW{b:Nat}{Q:Cm→Aa→Prop}:¬RnE b Q none:=fun⟨_,_,h,_⟩=>by simp[aBY]at h
theorem aKI(n:Nat)(t:Tm)(p:Nat)(ps:List Nat)(v:AV)(vs:List AV):Jq (mk n t) (p::ps) (v::vs)=Jq (mk n (up t p v)) ps vs:=by
 simp only[Jq,aFX]
theorem aM4(n:Nat)(t:Tm)(vs:List AV):Jq (mk n t) [] vs=mk n t:=by cases vs<;>rfl
end
section
variable {P:Program} {O:Dh}
end
def EVs:=PLift.up (abY @aOQ (abY @aOY (abY @aIS (abY @aBJ (abY @aUD (abY @aDN (abY @aKU (abY @aCR (abY @axZ (abY @aA0 (abY @aBU (abY @aKI @aM4))))))))))))
end
noncomputable section
open Go.RowKit
set_option maxRecDepth 100000
def EVZ:=PLift.up (abY EVa.down (abY EVb.down (abY EVc.down (abY EVd.down (abY EVe.down (abY EVf.down (abY EVg.down (abY EVh.down (abY EVi.down (abY EVj.down (abY EVk.down (abY EVl.down (abY EVm.down (abY EVn.down (abY EVo.down (abY EVp.down EVq.down))))))))))))))))
section
variable {P:Program} {O:Dh}
class NoN(C:R→Prop):Prop where
 no:¬C none
instance{q:Nat}{rs:List ResultVar}{Q:Cm→Aa→Prop}:NoN (FnE P q rs Q):=⟨aHN⟩
instance{rs:List ResultVar}{Q:Cm→Aa→Prop}:NoN (FnS P rs Q):=⟨aHU⟩
instance{N:Nat}{J:Tm→Aa→Prop}{Q:Ex→St→Prop}:NoN (Rnd N J Q):=⟨aGA⟩
instance{b:Nat}{Q:Cm→Aa→Prop}:NoN (RnE b Q):=⟨aDW⟩
end
end
noncomputable section
open Go.RowKit
set_option maxRecDepth 100000
section
variable {P:Program} {O:Dh}
class Spl(r:R)(b:outParam Bool)(x y:outParam R):Prop where
 sp:∀{C:R→Prop},(b=true→C x)→(b=false→C y)→C r
instance{n:Nat}{k:List Ai}{d:Option Nat}{op:Op}{cs:List CO}{b w:Bool}{t:List AV}{h:Aa}:Spl (rcG O P n k d op cs (.bool b) w t h) b (rcG O P n k d op cs (.bool true) w t h) (rcG O P n k d op cs (.bool false) w t h):=⟨aV3⟩
instance{n:Nat}{x y:Code}{k:List Ai}{g:Bool}{s:St}:Spl (cdK O P n x y k (some (.bool g)) s) g (Bf O P n x k s) (Bf O P n y k s):=⟨aUW⟩
instance{n:Nat}{k:List Ai}{d:Option Nat}{op:Op}{cs:List CO}{b w:Bool}{t:List AV}{h:Aa}:Spl (rqG O P n k d op cs (.bool b) w t h) b (rqG O P n k d op cs (.bool true) w t h) (rqG O P n k d op cs (.bool false) w t h):=⟨aVF⟩
instance{n:Nat}{k:List Ai}{d:Option Nat}{op:Op}{cs:List CO}{b w:Bool}{t:List AV}{h:Aa}:Spl (rwG O P n k d op cs (.bool b) w t h) b (rwG O P n k d op cs (.bool true) w t h) (rwG O P n k d op cs (.bool false) w t h):=⟨aVU⟩
instance{n:Nat}{k:List Ai}{ops:List Oper}{d:Option Nat}{op:Op}{cs:List CO}{b w:Bool}{t:List AV}{h:Aa}{log:Log}:Spl (rlG O P n k ops d op cs (.bool b) w t h log) b (rlG O P n k ops d op cs (.bool true) w t h log) (rlG O P n k ops d op cs (.bool false) w t h log):=⟨aUC⟩
theorem Bj{C:R→Prop}{r x y:R}{b:Bool}(h1:b=true→C x)(h2:b=false→C y)(s:Spl r b x y:=by infer_instance):C r:=s.sp h1 h2
class Drw(i:Nat)(r:R)(c:outParam Bool)(r':outParam R):Prop where
 dr:∀{C:R→Prop},¬C none→c=true→C r'→C r
instance{b:Bool}{k:R}:Drw 0 (Ep b k) b k:=⟨fun _=>aU4⟩
instance{n id:Nat}{ops:Array Oper}{k:List Ai}{t:List AV}{h:Aa}:Drw 1 (Bf O P (n+1) (.region id ops true) k ⟨t,h⟩) (Ix ops.toList&&az6 ops.toList) (rw O P n k (ops.toList.map (Em ops.toList)) t h):=⟨fun h=>aVS h⟩
instance{n id:Nat}{ops:Array Oper}{k:List Ai}{t:List AV}{h:Aa}:Drw 2 (Bf O P (n+1) (.region id ops true) k ⟨t,h⟩) (Ix ops.toList&&aUE ops.toList) (rq O P n k (ops.toList.map (Em ops.toList)) t h):=⟨fun h=>aT2 h⟩
instance{n id:Nat}{ops:Array Oper}{k:List Ai}{t:List AV}{h:Aa}:Drw 3 (Bf O P (n+1) (.region id ops true) k ⟨t,h⟩) (Ix ops.toList) (rl O P n k ops.toList (ops.toList.map (Em ops.toList)) t h []):=⟨fun h=>aVW h⟩
structure Dw(r r':R):Prop where
 dr:∀{C:R→Prop},¬C none→C r'→C r
theorem dg{r r':R}{c:Bool}[d:Drw 0 r c r'](h:c=true:=by kernel_rfl):Dw r r':=⟨fun n k=>d.dr n h k⟩
theorem dw(i:Nat){r r':R}{c:Bool}[d:Drw i r c r'](h:c=true:=by decide+kernel):Dw r r':=⟨fun n k=>d.dr n h k⟩
theorem fd{C:R→Prop}{r r':R}[n:NoN C](k:C r')(e:Dw r r':=by first|exact dg|exact dw 1|exact dw 2|exact dw 3):C r:=e.dr n.no k
theorem fdl{C:R→Prop}{r r':R}[n:NoN C](k:C r')(e:Dw r r':=by first|exact dg|exact dw 1|exact dw 3):C r:=e.dr n.no k
end
section
variable {P:Program} {O:Dh}
def Un(O:Dh)(P:Program)(n:Nat)(k:List Ai)(c:Code)(C:R→Prop):R→Prop
 |some (.normal,s)=>C (lpK O P n k (O.loop c s))
 |some (e,s)=>C (Bc (Bf O P n) k e s)
 |none=>False
instance{n:Nat}{k:List Ai}{c:Code}{C:R→Prop}:NoN (Un O P n k c C):=⟨fun h=>h⟩
end
theorem aFD:IntKind.i64.wrap 1=1:=abZ rfl rfl
def EE:=PLift.up (abY EVZ.down (abY @aFD (abY @Em.eq_1 (abY @Ad.eq_1 (abY @Ad.eq_2 (abY @Ad.eq_4 (abY @Av.eq_1 (abY @Av.eq_2 (abY @atC.eq_3 (abY @ak7.eq_1 (abY @ak7.eq_2 (abY @ak7.eq_4 (abY @ak7.eq_5 (abY @ak7.eq_6 (abY @Bi.eq_1 (abY @Bi.eq_2 (abY @La.eq_1 (abY @La.eq_2 (abY @La.eq_3 (abY @Gx.eq_1 (abY @Bg.eq_1 (abY @bsK.eq_1 (abY @Kq.eq_1 (abY @Kq.eq_2 (abY @decide_true @decide_false)))))))))))))))))))))))))
def EF:=PLift.up (abY EE.down EE.down)
def EG:=PLift.up (abY EF.down EVs.down)
end
noncomputable section
open Go.RowKit
end
end Go.Ev
namespace Go.Ev
open Go.RowKit
structure Kp(lent:List Nat)(H H1:Aa):Prop where
 len:H.length≤H1.length
 rows:∀b,b<H.length→(hf H1 b).bind Le=(hf H b).bind Le
 same:∀b,b<H.length→b∉lent→H1[b]?=H[b]?
end Go.Ev
namespace Go.Ev
noncomputable section
open Go.RowKit
theorem Cf{C:R→Prop}[n:NoN C]{r:R}(h:∀K:R→Prop,NoN K→(∀x,C x→K x)→K r):C r:=h C n fun _ h=>h
end
noncomputable section
open Go.RowKit
section
variable {P:Program} {O:Dh}
def slx(P:Program)(ty:TypeId)(a:Option AV)(l h:Option (Option AV)):OE:=r1 (a.bind fun a=>l.bind fun l=>h.bind fun h=>arH P ty a l h)
theorem aC7(t:List AV)(h:Aa)(ty:TypeId)(x:Operand)(lo hi:Option Operand):Ci O P t h (.slice ty x lo hi none)=slx P ty (Ad t x) (apL t lo) (apL t hi):=by
 rw[Bq _ _ _ rfl]
 simp only[exec,slx]
 cases Ad t x with
 |none=>rfl
 |some a=>
  cases apL t lo with
  |none=>rfl
  |some l=>
   cases apL t hi with
   |none=>rfl
   |some h=>exact Eo _
def oS(x:Option AV):Option (Option AV):=x.map some
theorem aKJ(v:AV):oS (some v)=some (some v):=abZ rfl rfl
theorem aC0(t:List AV):apL t none=some none:=abZ rfl rfl
theorem aB5(t:List AV)(x:Operand):apL t (some x)=oS (Ad t x):=abZ rfl rfl
end
end
noncomputable section
set_option maxRecDepth 100000
section
variable {P:Program} {G:Nat→Option Obj}
end
section
variable {P:Program}
end
def EVu:=PLift.up (abY @aJS (abY @at7 (abY @aC7 (abY @aC0 (abY @aB5 @aKJ)))))
end
noncomputable section
section
variable {α:Type}
end
end
section
def Jt:Aa→Aa→Aa
 | [],h'=>h'
 |c₀::h,[]=>c₀::h
 |c₀::h,c::h'=>(bif c₀.quiet c then c₀ else c.mark)::Jt h h'
def azC(h h':Aa):Prop:=h.length≤h'.length∧∀(i:Nat) (c₀ c:CB),h[i]?=some c₀→h'[i]?=some c→c₀.quiet c=true∨c₀.isLive=true
theorem aoA:∀(h h' pre:Aa),azC h h'→∃es,Bz pre.length h h'=some es∧Bi (pre++h) es=pre++Jt h h'
 | [],h',pre,_=>⟨_,rfl,by simp[atI,Jt]⟩
 |c₀::h,[],pre,ok=>by simp[azC]at ok
 |c₀::h,c::h',pre,ok=>by
  have ok':azC h h':=⟨by simpa using ok.1,fun i a b h1 h2=>ok.2 (i+1) a b (by simpa using h1) (by simpa using h2)⟩
  cases hq:c₀.quiet c with
  |true=>
   obtain⟨es,e1,e2⟩:=aoA h h' (pre++[c₀]) ok'
   refine⟨es,?_,?_⟩
   ·simp only[Bz,hq,cond_true]
    simpa using e1
   ·simpa [Jt,hq]using e2
  |false=>
   have hl:c₀.isLive=true:=by
    rcases ok.2 0 c₀ c rfl rfl with h|h
    ·rw[hq]at h;cases h
    ·exact h
   obtain⟨es,e1,e2⟩:=aoA h h' (pre++[c.mark]) ok'
   refine⟨.put pre.length c.mark::es,?_,?_⟩
   ·simp only[Bz,hq,hl,cond_false,cond_true]
    simp only[List.length_append,ax2,List.length_nil]at e1
    rw[e1];rfl
   ·simp only[Bi,La,Jt,hq,cond_false]
    have:(pre++c₀::h).set pre.length c.mark=(pre++[c.mark])++h:=by simp
    rw[this,e2];simp
theorem aoR:∀{h h':Aa},h.length≤h'.length→(Jt h h').length=h'.length
 | [],h',_=>rfl
 |c₀::h,[],hl=>by simp at hl
 |c₀::h,c::h',hl=>by simp[Jt,aoR (h:=h) (h':=h') (by simpa using hl)]
theorem Nx:∀{h h':Aa} {i:Nat} {c₀ c:CB},h[i]?=some c₀→h'[i]?=some c→c₀.quiet c=true→(Jt h h')[i]?=some c₀
 | [],h',i,c₀,c,h1,_,_=>by simp at h1
 |a::h,[],i,c₀,c,_,h2,_=>by simp at h2
 |a::h,b::h',0,c₀,c,h1,h2,hq=>by
  simp at h1 h2;subst h1 h2;simp[Jt,hq]
 |a::h,b::h',i+1,c₀,c,h1,h2,hq=>by
  simp at h1 h2;simpa [Jt]using Nx h1 h2 hq
theorem anP:∀{h h':Aa} {i:Nat} {c₀ c:CB},h[i]?=some c₀→h'[i]?=some c→c₀.quiet c=false→(Jt h h')[i]?=some c.mark
 | [],h',i,c₀,c,h1,_,_=>by simp at h1
 |a::h,[],i,c₀,c,_,h2,_=>by simp at h2
 |a::h,b::h',0,c₀,c,h1,h2,hq=>by
  simp at h1 h2;subst h1 h2;simp[Jt,hq]
 |a::h,b::h',i+1,c₀,c,h1,h2,hq=>by
  simp at h1 h2;simpa [Jt]using anP h1 h2 hq
theorem aqY:∀{h h':Aa} {i:Nat},h.length≤h'.length→h.length≤i→(Jt h h')[i]?=h'[i]?
 | [],h',i,_,_=>rfl
 |a::h,[],i,hl,_=>by simp at hl
 |a::h,b::h',0,_,hi=>by simp at hi
 |a::h,b::h',i+1,hl,hi=>by
  simpa [Jt]using aqY (h:=h) (h':=h') (i:=i) (by simpa using hl) (by simpa using hi)
theorem Fh{h:Aa}{i:Nat}{c:CB}(hc:h[i]?=some c):(Hf h)[i]?=some c.clean:=by simp[Hf,hc]
theorem Db(h:Aa):(Hf h).length=h.length:=by simp[Hf]
theorem ayD(c:CB):Le c.clean=Le c:=by cases c<;>rfl
theorem aCZ(c:CB):Le c.mark=Le c:=by cases c<;>rfl
theorem auR{O:Dh}{H:Aa}{f:Nat}{args:List AV}{Q:Cm→Aa→Prop}(hd:hdR args=true)(hm:O.md f=true)(K:ShQ O f args (Hf H) Q)(ok:∀o G,Q o G→azC H G):
 ∃o G es,cl O H (some (.func (.func f) [] [])) (some args)=some (o,es)∧Bi H es=Jt H G∧Q o G:=by
 obtain⟨o,G,hc,hq⟩:=K
 obtain⟨es,e1,e2⟩:=aoA H G [] (ok o G hq)
 refine⟨o,G,es,?_,by simpa using e2,hq⟩
 rw[aH5]
 simp only[auH,ax3,hd,if_true,shC,hm,Bool.or_true,hc]
 rw[auW]
 have e1':Bz 0 H G=some es:=e1
 rw[e1'];rfl
structure apT(X:List Nat)(H H1:Aa):Prop where
 len:H.length≤H1.length
 same:∀b,b<H.length→b∉X→H1[b]?=H[b]?
theorem apT.app(H l:Aa):apT [] H (H++l):=⟨by simp,fun b hb _=>List.getElem?_append_left hb⟩
end
noncomputable section
open Go.RowKit
theorem aJE{O:Dh}{H:Aa}{f:Nat}{args:List AV}{o:Cm}{l:Aa}(hd:hdR args=true)(hm:O.md f=true)(hc:O.call (.sh f) args (Hf H)=some (o,Hf H++l))(hq:Aq H=true):
 cl O H (some (.func (.func f) [] [])) (some args)=some (o,Fz H.length l):=by
 rw[aH5]
 simp only[auH,ax3,hd,if_true,shC,hm,Bool.or_true,hc]
 rw[auW,aAC hq]
 simp
theorem aKN{O:Dh}{H:Aa}{f:Nat}{args:List AV}{o:Cm}(hd:hdR args=true)(hm:O.md f=true)(hc:O.call (.sh f) args (Hf H)=some (o,Hf H))(hq:Aq H=true):
 cl O H (some (.func (.func f) [] [])) (some args)=some (o,[]):=by
 have:=aJE (l:=[]) hd hm (by simpa using hc) hq
 simpa [Fz]using this
theorem alS{H:Aa}(h:∀c∈H,c.quiet c.clean=true):Aq H=true:=by simp only[Aq,ao9];exact h
theorem Ef{H:Aa}(h:Aq H=true){b:Nat}{c:CB}(hb:H[b]?=some c):c.quiet c.clean=true:=by
 simp only[Aq,ao9]at h
 exact h c (avE hb)
theorem Do{H l:Aa}(h:Aq H=true)(hl:Aq l=true):Aq (H++l)=true:=by
 simp only[Aq,ao9,List.mem_append]at h hl ⊢
 exact fun c hc=>hc.elim (h c) (hl c)
theorem Dp{H:Aa}(h:Aq H=true)(b:Nat){c:CB}(hc:c.quiet c.clean=true):Aq (H.set b c)=true:=by
 simp only[Aq,ao9]at h ⊢
 exact fun x hx=>(List.mem_or_eq_of_mem_set hx).elim (h x) (fun e=>e▸hc)
theorem axI{c:CB}(h:c.quiet c.clean=true):c.clean.quiet c.clean.clean=true:=by cases c<;>first|rfl|exact h
theorem Oi{H:Aa}(h:Aq H=true):Aq (Hf H)=true:=by
 simp only[Aq,Hf,ao9,List.mem_map]at h ⊢
 rintro c ⟨c0,h0,rfl⟩
 exact axI (h c0 h0)
theorem arV{c:CB}(h:c.quiet c.clean=true):c.mark.quiet c.mark.clean=true:=by cases c<;>first|rfl|exact h
theorem He{H0 G:Aa}{X:List Nat}(hq:Aq H0=true)(K:apT X (Hf H0) G)(hX:∀b∈X,b<H0.length∧∀c0 c,H0[b]?=some c0→G[b]?=some c→c0.isLive=true∧c0.quiet c=false):
 azC H0 G∧(Jt H0 G).length=G.length∧(∀b,H0.length≤b→(Jt H0 G)[b]?=G[b]?)∧(∀b,b<H0.length→b∉X→(Jt H0 G)[b]?=H0[b]?)∧(∀b∈X,∀c,G[b]?=some c→(Jt H0 G)[b]?=some c.mark):=by
 have hlen:H0.length≤G.length:=by have:=K.len;rwa[Db]at this
 have old:∀b c0,H0[b]?=some c0→b∉X→G[b]?=some c0.clean:=fun b c0 h0 hb=>by
  rw[K.same b (by rw[Db];exact(ax4.1 h0).1) hb,Fh h0]
 refine⟨⟨hlen,fun b c0 c h0 h1=>?_⟩,aoR hlen,fun b hb=>aqY hlen hb,fun b hb hn=>?_,fun b hb c hc=>?_⟩
 ·by_cases hb:b∈X
  ·exact .inr ((hX b hb).2 c0 c h0 h1).1
  ·rw[old b c0 h0 hb]at h1;cases h1
   exact .inl (Ef hq h0)
 ·obtain⟨c0,h0⟩:∃c,H0[b]?=some c:=⟨_,avO hb⟩
  rw[h0];exact Nx h0 (old b c0 h0 hn) (Ef hq h0)
 ·obtain⟨h1,h2⟩:=hX b hb
  obtain⟨c0,h0⟩:∃c,H0[b]?=some c:=⟨_,avO h1⟩
  exact anP h0 hc (h2 c0 c h0 hc).2
theorem ahM{H0 G:Aa}{X:List Nat}(hq:Aq H0=true)(K:apT X (Hf H0) G)(hX:∀b∈X,b<H0.length∧∀c0 c,H0[b]?=some c0→G[b]?=some c→c0.isLive=true∧c0.quiet c=false)(hg:Aq G=true):Aq (Jt H0 G)=true:=by
 obtain⟨_,k1,k2,k3,k4⟩:=He hq K hX
 refine alS fun c hc=>?_
 obtain⟨b,hb⟩:=avQ hc
 by_cases h1:b<H0.length
 ·by_cases h2:b∈X
  ·obtain⟨c1,h3⟩:∃c,G[b]?=some c:=⟨_,avO (by rw[←k1];exact(ax4.1 hb).1)⟩
   rw[k4 b h2 c1 h3]at hb;cases hb
   exact arV (Ef hg h3)
  ·rw[k3 b h1 h2]at hb;exact Ef hq hb
 ·rw[k2 b (by omega)]at hb;exact Ef hg hb
theorem aBQ{H0 G:Aa}{X:List Nat}(hq:Aq H0=true)(K:apT X (Hf H0) G)(hX:∀b∈X,b<H0.length∧∀c0 c,H0[b]?=some c0→G[b]?=some c→c0.isLive=true∧c0.quiet c=false)(b:Nat):(hf (Jt H0 G) b).bind Le=(hf G b).bind Le:=by
 obtain⟨_,k1,k2,k3,k4⟩:=He hq K hX
 show((Jt H0 G)[b]?).bind Le=(G[b]?).bind Le
 by_cases h1:b<H0.length
 ·by_cases h2:b∈X
  ·cases h3:G[b]? with
   |none=>rw[List.getElem?_eq_none_iff]at h3;have h4:=K.len;rw[Db]at h4;omega
   |some c1=>rw[k4 b h2 c1 h3];exact aCZ c1
  ·rw[k3 b h1 h2,K.same b (by rw[Db];exact h1) h2]
   cases h3:H0[b]? with
   |none=>simp[Hf,h3]
   |some c=>rw[Fh h3];exact(ayD c).symm
 ·rw[k2 b (by omega)]
end
end Go.Ev
namespace Go.Ev
namespace Net
abbrev Edge:=Nat × Nat × Nat
inductive Jn(E:List Edge)(s:Nat):Nat→Nat→Nat→Prop
 |nil (n:Nat):Jn E s n s 0
 |fwd {n a b c k:Nat} (h:Jn E s n a k) (he:(a,b,c)∈E):Jn E s (n+1) b (k+c)
 |bwd {n a b c k:Nat} (h:Jn E s n b k) (he:(a,b,c)∈E):Jn E s (n+1) a (k+c)
def Stp(E:List Edge)(u v c:Nat):Prop:=(u,v,c)∈E∨(v,u,c)∈E
theorem Jn.step{E:List Edge}{s n u v k c:Nat}(h:Jn E s n u k)(hs:Stp E u v c):Jn E s (n+1) v (k+c):=hs.elim (fun e=>.fwd h e) (fun e=>.bwd h e)
theorem Jn.cases'{E:List Edge}{s n v k:Nat}(h:Jn E s n v k):(v=s∧k=0)∨∃m u j c,n=m+1∧Jn E s m u j∧Stp E u v c∧k=j+c:=by
 cases h with
 |nil=>exact .inl ⟨rfl,rfl⟩
 |fwd h he=>exact .inr ⟨_,_,_,_,rfl,h,.inl he,rfl⟩
 |bwd h he=>exact .inr ⟨_,_,_,_,rfl,h,.inr he,rfl⟩
theorem Jn.more{E:List Edge}{s n v k:Nat}(h:Jn E s n v k):∀{m:Nat},n≤m→Jn E s m v k:=by
 induction h with
 |nil n=>exact fun _=>.nil _
 |fwd h he ih=>
  intro m hm
  obtain⟨m,rfl⟩:∃j,m=j+1:=⟨m-1,by omega⟩
  exact .fwd (ih (by omega)) he
 |bwd h he ih=>
  intro m hm
  obtain⟨m,rfl⟩:∃j,m=j+1:=⟨m-1,by omega⟩
  exact .bwd (ih (by omega)) he
def Cst(E:List Edge)(s v k:Nat):Prop:=∃n,Jn E s n v k
theorem Cst.step{E:List Edge}{s u v k c:Nat}(h:Cst E s u k)(hs:Stp E u v c):Cst E s v (k+c):=by obtain⟨n,h⟩:=h;exact⟨_,h.step hs⟩
def Lst(E:List Edge)(s v k:Nat):Prop:=Cst E s v k∧∀j,Cst E s v j→k≤j
theorem least{p:Nat→Prop}:(∃n,p n)→∃n,p n∧∀j,p j→n≤j:=fun⟨n,hn⟩=>by
 induction n using Nat.strongRecOn with
 |ind n ih=>
  by_cases h:∃j,j<n∧p j
  ·obtain⟨j,h1,h2⟩:=h;exact ih j h1 h2
  ·exact⟨n,hn,fun j hj=>Nat.le_of_not_lt fun hlt=>h ⟨j,hlt,hj⟩⟩
theorem Lst.ex{E:List Edge}{s v k:Nat}(h:Cst E s v k):∃j,Lst E s v j:=least ⟨k,h⟩
theorem Lst.eq{E:List Edge}{s v k j:Nat}(h1:Lst E s v k)(h2:Lst E s v j):k=j:=Nat.le_antisymm (h1.2 j h2.1) (h2.2 k h1.1)
def Lvl(E:List Edge)(s n v:Nat):Prop:=∃k,Lst E s v k∧Jn E s n v k
theorem Lvl.more{E:List Edge}{s n m v:Nat}(h:Lvl E s n v)(hm:n≤m):Lvl E s m v:=by obtain⟨k,h1,h2⟩:=h;exact⟨k,h1,h2.more hm⟩
theorem Lvl.prev{E:List Edge}{s n v:Nat}(h:Lvl E s (n+1) v):v=s∨∃u c k,Lvl E s n u∧Lst E s u k∧Stp E u v c∧Lst E s v (k+c):=by
 obtain⟨k,h1,h2⟩:=h
 rcases h2.cases' with⟨h,_⟩|⟨m,u,j,c,hm,hw,hs,rfl⟩
 ·exact .inl h
 ·cases hm
  have hl:Lst E s u j:=⟨⟨_,hw⟩,fun i hi=>by have:=h1.2 _ (hi.step hs);omega⟩
  exact .inr ⟨u,c,j,⟨j,hl,hw⟩,hl,hs,h1⟩
theorem Lvl.next{E:List Edge}{s n u v c k:Nat}(h:Lvl E s n u)(hu:Lst E s u k)(hs:Stp E u v c)(hv:Lst E s v (k+c)):Lvl E s (n+1) v:=by
 obtain⟨j,h1,h2⟩:=h
 cases h1.eq hu
 exact⟨_,hv,h2.step hs⟩
theorem Lst.src{E:List Edge}{s:Nat}:Lst E s s 0:=⟨⟨0,.nil 0⟩,fun j _=>alG j⟩
theorem Lvl.src{E:List Edge}{s:Nat}(n:Nat):Lvl E s n s:=⟨0,Lst.src,.nil n⟩
theorem Lvl.stable{E:List Edge}{s n:Nat}(h:∀v,Lvl E s (n+1) v→Lvl E s n v):∀m v,Lvl E s m v→Lvl E s n v
 |0,v,hv=>hv.more (alG n)
 |m+1,v,hv=>by
  rcases hv.prev with rfl|⟨u,c,k,h1,h2,h3,h4⟩
  ·exact Lvl.src n
  ·exact h v ((Lvl.stable h m u h1).next h2 h3 h4)
noncomputable def aqV(p:Nat→Prop):Nat→Nat
 |0=>0
 |N+1=>aqV p N+(@ite Nat (p N) (Classical.propDecidable _) 1 0)
theorem ay4(p:Nat→Prop):∀N,aqV p N≤N
 |0=>ah0 0
 |N+1=>by
  have:=ay4 p N
  unfold aqV
  split<;>omega
theorem av0{p q:Nat→Prop}(h:∀v,p v→q v):∀N,aqV p N≤aqV q N
 |0=>ah0 0
 |N+1=>by
  have:=av0 h N
  unfold aqV
  split
  ·rename_i h1;rw[if_pos (h _ h1)];omega
  ·split<;>omega
theorem azE{p q:Nat→Prop}(h:∀v,p v→q v){v:Nat}(hq:q v)(hp:¬p v):∀{N:Nat},v<N→aqV p N+1≤aqV q N
 |0,hv=>by omega
 |N+1,hv=>by
  unfold aqV
  by_cases e:v=N
  ·subst e
   have:=av0 h v
   rw[if_neg hp,if_pos hq];omega
  ·have:=azE h hq hp (N:=N) (by omega)
   split
   ·rename_i h1;rw[if_pos (h _ h1)];omega
   ·split<;>omega
theorem azK{p:Nat→Prop}{v:Nat}(hp:p v):∀{N:Nat},v<N→1≤aqV p N
 |0,hv=>by omega
 |N+1,hv=>by
  unfold aqV
  by_cases e:v=N
  ·subst e;rw[if_pos hp];omega
  ·have:=azK hp (N:=N) (by omega);split<;>omega
theorem aJU{E:List Edge}{s N:Nat}(hs:s<N)(hE:∀a b c,(a,b,c)∈E→a<N∧b<N):∀m v,Lvl E s m v→Lvl E s (N-1) v:=by
 have lt:∀m v,Lvl E s m v→v<N:=fun m=>by
  induction m with
  |zero=>
   intro v ⟨k,_,h⟩
   rcases h.cases' with⟨rfl,_⟩|⟨_,_,_,_,h,_⟩
   ·exact hs
   ·cases h
  |succ m ih=>
   intro v hv
   rcases hv.prev with rfl|⟨u,c,k,h1,h2,h3,h4⟩
   ·exact hs
   ·rcases h3 with h3|h3
    ·exact(hE _ _ _ h3).2
    ·exact(hE _ _ _ h3).1
 have grow:∀n,(∃k,k≤n∧∀v,Lvl E s (k+1) v→Lvl E s k v)∨n+1≤aqV (Lvl E s n) N:=fun n=>by
  induction n with
  |zero=>exact .inr (azK (Lvl.src 0) hs)
  |succ n ih=>
   rcases ih with⟨k,h1,h2⟩|h
   ·exact .inl ⟨k,by omega,h2⟩
   ·by_cases e:∀v,Lvl E s (n+1) v→Lvl E s n v
    ·exact .inl ⟨n,by omega,e⟩
    ·obtain⟨v,hv⟩:=Classical.not_forall.1 e
     have h1:Lvl E s (n+1) v:=Classical.byContradiction fun h=>hv fun h'=>(h h').elim
     have h2:¬Lvl E s n v:=fun h=>hv fun _=>h
     have:=azE (p:=Lvl E s n) (q:=Lvl E s (n+1)) (fun v h=>h.more (Nat.le_succ n)) h1 h2 (lt _ v h1)
     exact .inr (by omega)
 intro m v hv
 rcases grow N with⟨k,h1,h2⟩|h
 ·by_cases e:k≤N-1
  ·exact(Lvl.stable h2 m v hv).more e
  ·
   have hk:k=N:=by omega
   rcases grow (N-1)with⟨k',h1',h2'⟩|h'
   ·exact(Lvl.stable h2' m v hv).more h1'
   ·exact Classical.byContradiction fun hn=>by
     have:=azE (p:=Lvl E s (N-1)) (q:=fun _=>True) (fun _ _=>trivial) trivial hn (lt _ v hv)
     have:=ay4 (fun _=>True) N
     omega
 ·have:=ay4 (Lvl E s N) N;omega
theorem Lst.lvl{E:List Edge}{s N v k:Nat}(hs:s<N)(hE:∀a b c,(a,b,c)∈E→a<N∧b<N)(h:Lst E s v k):Lvl E s (N-1) v:=by
 obtain⟨n,hw⟩:=h.1
 exact aJU hs hE n v ⟨k,h,hw⟩
theorem Jn.le{E:List Edge}{s n v k:Nat}(hc:∀a b c,(a,b,c)∈E→c≤1)(h:Jn E s n v k):k≤n:=by
 induction h with
 |nil=>omega
 |fwd h he ih=>have:=hc _ _ _ he;omega
 |bwd h he ih=>have:=hc _ _ _ he;omega
theorem Lst.le{E:List Edge}{s N v k:Nat}(hs:s<N)(hE:∀a b c,(a,b,c)∈E→a<N∧b<N)(hc:∀a b c,(a,b,c)∈E→c≤1)(h:Lst E s v k):k≤N-1:=by
 obtain⟨j,h1,h2⟩:=h.lvl hs hE
 cases h1.eq h
 exact h2.le hc
def ag8(E:List Edge)(s N far:Nat)(d:Nat→Nat):Prop:=∀v,v<N→(∀k,Lst E s v k→d v=k)∧((∀k,¬Cst E s v k)→d v=far)
theorem aHW{E:List Edge}{s N far:Nat}{d:Nat→Nat}(h0:d s=0)(hr:∀v,v<N→d v=far∨Cst E s v (d v))(hc:∀u v c,Stp E u v c→d v≤d u+c)(hf:∀v k,Lst E s v k→k<far):ag8 E s N far d:=fun v hv=>by
 have le:∀n v k,Jn E s n v k→d v≤k:=fun n v k h=>by
  induction h with
  |nil=>omega
  |fwd h he ih=>have:=hc _ _ _ (.inl he);omega
  |bwd h he ih=>have:=hc _ _ _ (.inr he);omega
 refine⟨fun k hk=>?_,fun h=>?_⟩
 ·obtain⟨n,hn⟩:=hk.1
  have h1:=le n v k hn
  rcases hr v hv with h|h
  ·have:=hf v k hk;omega
  ·have:=hk.2 _ h;omega
 ·rcases hr v hv with h1|h1
  ·exact h1
  ·exact(h _ h1).elim
def Ou(d:List Nat)(e:Edge):List Nat:=(d.set e.2.1 (min (d.getD e.2.1 0) (d.getD e.1 0+e.2.2))).set e.1 (min (d.getD e.1 0) (d.getD e.2.1 0+e.2.2))
def aIH(E:List Edge)(d:List Nat):List Nat:=E.foldl Ou d
def Lq(E:List Edge):Nat→List Nat→List Nat
 |0,d=>d
 |n+1,d=>Lq E n (aIH E d)
theorem an5(d:List Nat)(e:Edge):(Ou d e).length=d.length:=by simp[Ou]
theorem aw2:∀(E:List Edge) (d:List Nat),(E.foldl Ou d).length=d.length
 | [],d=>rfl
 |e::E,d=>by rw[aqG,aw2 E,an5]
theorem aE8(E:List Edge)(d:List Nat):(aIH E d).length=d.length:=aw2 E d
theorem ar9(E:List Edge):∀n d,(Lq E n d).length=d.length
 |0,d=>rfl
 |n+1,d=>by rw[Lq,ar9 E n,aE8]
theorem an4{d:List Nat}{i v x:Nat}(hi:i<d.length):(d.set i x).getD v 0=if i=v then x else d.getD v 0:=by
 simp only[ax5]
 by_cases h:i=v
 ·subst h;rw[List.getElem?_set_self hi,if_pos rfl];rfl
 ·rw[List.getElem?_set_ne h,if_neg h]
theorem auY{d:List Nat}{a b c:Nat}(ha:a<d.length)(hb:b<d.length)(hab:a≠b)(v:Nat):(Ou d (a,b,c)).getD v 0=if v=a then min (d.getD a 0) (d.getD b 0+c)else if v=b then min (d.getD b 0) (d.getD a 0+c)else d.getD v 0:=by
 unfold Ou
 rw[an4 (by simpa using ha),an4 hb]
 by_cases h1:v=a
 ·subst h1;simp
 ·rw[if_neg (fun e=>h1 e.symm),if_neg h1]
  by_cases h2:v=b
  ·subst h2;simp
  ·rw[if_neg (fun e=>h2 e.symm),if_neg h2]
structure arT(E:List Edge)(s N far:Nat)(d:List Nat):Prop where
 len:d.length=N
 src:d.getD s 0=0
 real:∀v,v<N→d.getD v 0=far∨Cst E s v (d.getD v 0)
 le:∀v,v<N→d.getD v 0≤far
theorem arT.one{E:List Edge}{s N far:Nat}{d:List Nat}(I:arT E s N far d){a b c:Nat}(he:(a,b,c)∈E)(ha:a<N)(hb:b<N)(hab:a≠b):arT E s N far (Ou d (a,b,c)):=by
 have hl:=I.len
 have at_:=fun v=>auY (d:=d) (c:=c) (by omega) (by omega) hab v
 have mn:∀u v,u<N→v<N→Stp E u v c→(min (d.getD v 0) (d.getD u 0+c)=far∨Cst E s v (min (d.getD v 0) (d.getD u 0+c))):=fun u v hu hv hs=>by
  have h1:=I.le v hv
  rcases Nat.le_total (d.getD v 0) (d.getD u 0+c)with h|h
  ·rw[Nat.min_eq_left h];exact I.real v hv
  ·rw[Nat.min_eq_right h]
   rcases I.real u hu with hh|hh
   ·left;omega
   ·exact .inr (hh.step hs)
 refine⟨by rw[an5,hl],?_,fun v hv=>?_,fun v hv=>?_⟩
 ·rw[at_]
  have:=I.src
  split
  ·rename_i h;subst h;rw[this];simp
  ·split
   ·rename_i h;subst h;rw[this];simp
   ·exact this
 ·rw[at_]
  split
  ·rename_i h;subst h;exact mn b v hb hv (.inr he)
  ·split
   ·rename_i h;subst h;exact mn a v ha hv (.inl he)
   ·exact I.real v hv
 ·rw[at_]
  split
  ·rename_i h;subst h;have:=I.le v hv;omega
  ·split
   ·rename_i h;subst h;have:=I.le v hv;omega
   ·exact I.le v hv
def EOk(E:List Edge)(N:Nat):Prop:=∀a b c,(a,b,c)∈E→a<N∧b<N∧a≠b∧c≤1
theorem aAO{d:List Nat}{a b c:Nat}(ha:a<d.length)(hb:b<d.length)(hab:a≠b)(v:Nat):(Ou d (a,b,c)).getD v 0≤d.getD v 0:=by
 rw[auY ha hb hab]
 split
 ·rename_i h;subst h;omega
 ·split
  ·rename_i h;subst h;omega
  ·exact ah0 _
theorem auZ:∀{L:List Edge} {d:List Nat} {N:Nat},d.length=N→EOk L N→∀v,(L.foldl Ou d).getD v 0≤d.getD v 0
 | [],d,N,_,_,v=>ah0 _
 |(a,b,c)::L,d,N,hl,hE,v=>by
  have h:=hE a b c (ao5 ..)
  have h1:=auZ (L:=L) (d:=Ou d (a,b,c)) (by rw[an5,hl]) (fun a b c hm=>hE a b c (ao7 _ hm)) v
  have h2:=aAO (d:=d) (c:=c) (by omega) (by omega) h.2.2.1 v
  rw[aqG];omega
theorem azD{E:List Edge}{s N far:Nat}:∀{L:List Edge} {d:List Nat},(∀e∈L,e∈E)→EOk E N→arT E s N far d→arT E s N far (L.foldl Ou d)
 | [],d,_,_,I=>I
 |(a,b,c)::L,d,hs,hE,I=>by
  have he:=hs _ (ao5 ..)
  have h:=hE a b c he
  rw[aqG]
  exact azD (L:=L) (fun e hm=>hs e (ao7 _ hm)) hE (I.one he h.1 h.2.1 h.2.2.1)
theorem ar4{N:Nat}:∀{L:List Edge} {d:List Nat},d.length=N→EOk L N→∀{u v c k:Nat},(u,v,c)∈L∨(v,u,c)∈L→d.getD u 0≤k→(L.foldl Ou d).getD v 0≤k+c
 | [],d,_,_,u,v,c,k,h,_=>by rcases h with h|h<;>cases h
 |(a,b,e)::L,d,hl,hE,u,v,c,k,h,hk=>by
  have q:=hE a b e (ao5 ..)
  have hE':EOk L N:=fun a b c hm=>hE a b c (ao7 _ hm)
  have hl':(Ou d (a,b,e)).length=N:=by rw[an5,hl]
  have key:(u=a∧v=b∧c=e)∨(u=b∧v=a∧c=e)∨((u,v,c)∈L∨(v,u,c)∈L):=by
   rcases h with h|h
   ·rcases avT.1 h with h|h
    ·cases h;exact .inl ⟨rfl,rfl,rfl⟩
    ·exact .inr (.inr (.inl h))
   ·rcases avT.1 h with h|h
    ·cases h;exact .inr (.inl ⟨rfl,rfl,rfl⟩)
    ·exact .inr (.inr (.inr h))
  rw[aqG]
  have at_:=fun v=>auY (d:=d) (c:=e) (by omega) (by omega) q.2.2.1 v
  rcases key with⟨rfl,rfl,rfl⟩|⟨rfl,rfl,rfl⟩|h
  ·have h1:=auZ hl' hE' v
   rw[at_ v,if_neg (fun e=>q.2.2.1 e.symm),if_pos rfl]at h1
   omega
  ·have h1:=auZ hl' hE' v
   rw[at_ v,if_pos rfl]at h1
   omega
  ·have h2:=aAO (d:=d) (c:=e) (by omega) (by omega) q.2.2.1 u
   exact ar4 hl' hE' h (by omega)
theorem asN{E:List Edge}{s N far:Nat}(hE:EOk E N):∀(n:Nat) {d:List Nat},arT E s N far d→arT E s N far (Lq E n d)
 |0,d,I=>I
 |n+1,d,I=>asN hE n (azD (fun _ h=>h) hE I)
theorem aoQ(E:List Edge):∀(n:Nat) (d:List Nat),Lq E (n+1) d=aIH E (Lq E n d)
 |0,d=>rfl
 |n+1,d=>by rw[Lq,aoQ E n];rfl
theorem avW{E:List Edge}{s N far:Nat}(hE:EOk E N){d:List Nat}(I:arT E s N far d):∀(n:Nat) {v k:Nat},Lvl E s n v→Lst E s v k→(Lq E n d).getD v 0≤k
 |0,v,k,⟨j,h1,h2⟩,hk=>by
  rcases h2.cases' with⟨rfl,rfl⟩|⟨_,_,_,_,h,_⟩
  ·rw[Lq,I.src];exact alG _
  ·cases h
 |n+1,v,k,hv,hk=>by
  rw[aoQ]
  have J:=asN hE n I
  rcases hv.prev with rfl|⟨u,c,j,h1,h2,h3,h4⟩
  ·have K:=asN hE (n+1) I
   rw[aoQ]at K
   rw[K.src];exact alG _
  ·cases h4.eq hk
   exact ar4 J.len hE h3 (avW hE I n h1 h2)
theorem ay0{E:List Edge}{s N far:Nat}(hs:s<N)(hE:EOk E N)(hf:N≤far){d:List Nat}(I:arT E s N far d){n:Nat}(hn:N-1≤n):ag8 E s N far (fun v=>(Lq E n d).getD v 0):=fun v hv=>by
 have J:=asN hE n I
 have hE1:∀a b c,(a,b,c)∈E→a<N∧b<N:=fun a b c h=>⟨(hE a b c h).1,(hE a b c h).2.1⟩
 have hE2:∀a b c,(a,b,c)∈E→c≤1:=fun a b c h=>(hE a b c h).2.2.2
 refine⟨fun k hk=>?_,fun h=>?_⟩
 ·have h1:=avW hE I n ((hk.lvl hs hE1).more hn) hk
  have h2:=hk.le hs hE1 hE2
  rcases J.real v hv with h|h
  ·simp only[h]at h1 ⊢;omega
  ·have:=hk.2 _ h;simp only;omega
 ·rcases J.real v hv with h1|h1
  ·exact h1
  ·exact(h _ h1).elim
end Net
end Go.Ev
namespace Go.Ev
namespace Net
structure DqI(E:List Edge)(s N far:Nat)(d q:List Nat)(X:Nat→Nat→Nat→Prop):Prop where
 i:arT E s N far d
 w:∀r∈q,r<N
 tr:∀u v c,Stp E u v c→u∈q∨X u v c∨d.getD v 0≤d.getD u 0+c
def Ny(E:List Edge)(r i u v c:Nat):Prop:=u=r∧∃j,i≤j∧(E[j]?=some (r,v,c)∨E[j]?=some (v,r,c))
theorem DqI.take{E:List Edge}{s N far:Nat}{d q:List Nat}{r:Nat}(I:DqI E s N far d (r::q) (fun _ _ _=>False)):r<N∧DqI E s N far d q (Ny E r 0):=by
 refine⟨I.w r (ao5 ..),I.i,fun u hu=>I.w u (ao7 _ hu),fun u v c h=>?_⟩
 rcases I.tr u v c h with h1|h1|h1
 ·rcases avT.1 h1 with rfl|h1
  ·right;left
   refine⟨rfl,?_⟩
   rcases h with h|h
   ·obtain⟨j,hj⟩:=avQ h;exact⟨j,alG j,.inl hj⟩
   ·obtain⟨j,hj⟩:=avQ h;exact⟨j,alG j,.inr hj⟩
  ·exact .inl h1
 ·exact h1.elim
 ·exact .inr (.inr h1)
theorem Ny.next{E:List Edge}{r i u v c:Nat}(h:Ny E r i u v c):Ny E r (i+1) u v c∨(u=r∧(E[i]?=some (r,v,c)∨E[i]?=some (v,r,c))):=by
 obtain⟨h1,j,h2,h3⟩:=h
 by_cases e:i=j
 ·subst e;exact .inr ⟨h1,h3⟩
 ·exact .inl ⟨h1,j,by omega,h3⟩
theorem DqI.skip{E:List Edge}{s N far:Nat}{d q:List Nat}{r i a b c:Nat}(I:DqI E s N far d q (Ny E r i))(hi:E[i]?=some (a,b,c))(ha:r≠a)(hb:r≠b):DqI E s N far d q (Ny E r (i+1)):=by
 refine⟨I.i,I.w,fun u v c' h=>?_⟩
 rcases I.tr u v c' h with h1|h1|h1
 ·exact .inl h1
 ·rcases h1.next with h1|⟨_,h2|h2⟩
  ·exact .inr (.inl h1)
  ·rw[hi]at h2;cases h2;exact(ha rfl).elim
  ·rw[hi]at h2;cases h2;exact(hb rfl).elim
 ·exact .inr (.inr h1)
theorem DqI.same{E:List Edge}{s N far:Nat}{d q:List Nat}{r i t c:Nat}(I:DqI E s N far d q (Ny E r i))(hi:E[i]?=some (r,t,c)∨E[i]?=some (t,r,c))(hn:d.getD t 0≤d.getD r 0+c):DqI E s N far d q (Ny E r (i+1)):=by
 refine⟨I.i,I.w,fun u v c' h=>?_⟩
 rcases I.tr u v c' h with h1|h1|h1
 ·exact .inl h1
 ·rcases h1.next with h1|⟨rfl,h2⟩
  ·exact .inr (.inl h1)
  ·right;right
   rcases hi with h3|h3<;>rcases h2 with h2|h2<;>(rw[h3]at h2;cases h2;exact hn)
 ·exact .inr (.inr h1)
theorem DqI.less{E:List Edge}{s N far:Nat}{d q q':List Nat}{r i t c:Nat}(I:DqI E s N far d q (Ny E r i))(hr:r<N)(ht:t<N)(hrt:r≠t)(hi:E[i]?=some (r,t,c)∨E[i]?=some (t,r,c))(hn:d.getD r 0+c<d.getD t 0)(hq:∀x,x∈q'↔x=t∨x∈q):DqI E s N far (d.set t (d.getD r 0+c)) q' (Ny E r (i+1)):=by
 have hl:=I.i.len
 have at_:=fun v=>an4 (d:=d) (v:=v) (x:=d.getD r 0+c) (show t<d.length by omega)
 have hst:Stp E r t c:=hi.elim (fun h=>.inl (avE h)) (fun h=>.inr (avE h))
 have hfar:=I.i.le t ht
 have le:∀v,(d.set t (d.getD r 0+c)).getD v 0≤d.getD v 0:=fun v=>by
  rw[at_];split
  ·rename_i h;subst h;omega
  ·exact ah0 _
 refine⟨⟨by simpa using hl,?_,fun v hv=>?_,fun v hv=>?_⟩,fun x hx=>?_,fun u v c' h=>?_⟩
 ·rw[at_];split
  ·rename_i h;subst h;have:=I.i.src;omega
  ·exact I.i.src
 ·rw[at_];split
  ·rename_i h;subst h
   rcases I.i.real r hr with h|h
   ·omega
   ·exact .inr (h.step hst)
  ·exact I.i.real v hv
 ·have:=le v;have:=I.i.le v hv;omega
 ·rcases(hq x).1 hx with rfl|h
  ·exact ht
  ·exact I.w x h
 ·by_cases hu:u=t
  ·exact .inl ((hq u).2 (.inl hu))
  ·have hdu:(d.set t (d.getD r 0+c)).getD u 0=d.getD u 0:=by rw[at_,if_neg (fun e=>hu e.symm)]
   rcases I.tr u v c' h with h1|h1|h1
   ·exact .inl ((hq u).2 (.inr h1))
   ·rcases h1.next with h1|⟨rfl,h2⟩
    ·exact .inr (.inl h1)
    ·right;right
     have hvt:v=t∧c'=c:=by
      rcases hi with h3|h3<;>rcases h2 with h2|h2<;>(rw[h3]at h2;cases h2;first|exact⟨rfl,rfl⟩|exact(hrt rfl).elim)
     obtain⟨rfl,rfl⟩:=hvt
     rw[hdu,at_,if_pos rfl]
     exact ah0 _
   ·right;right
    have:=le v
    rw[hdu];omega
theorem Ny.none{E:List Edge}{r i u v c:Nat}(hi:E.length≤i):¬Ny E r i u v c:=fun⟨_,j,h1,h2⟩=>by
 rw[List.getElem?_eq_none (by omega)]at h2
 rcases h2 with h2|h2<;>cases h2
theorem DqI.done{E:List Edge}{s N far:Nat}{d q:List Nat}{r i:Nat}(I:DqI E s N far d q (Ny E r i))(hi:E.length≤i):DqI E s N far d q (fun _ _ _=>False):=
 ⟨I.i,I.w,fun u v c h=>(I.tr u v c h).imp id fun h=>h.elim (fun h=>(Ny.none hi h).elim) .inr⟩
theorem aJX{d:List Nat}:∀{t x:Nat},t<d.length→(d.set t x).sum+d.getD t 0=d.sum+x:=by
 induction d with
 |nil=>intro t x h;simp at h
 |cons a d ih=>
  intro t x h
  cases t with
  |zero=>simp;omega
  |succ t=>
   have:=ih (t:=t) (x:=x) (by simpa using h)
   simp only[List.set_cons_succ,List.sum_cons,List.getD_cons_succ]
   omega
theorem aHC{d:List Nat}{t x:Nat}(ht:t<d.length)(hx:x<d.getD t 0):(d.set t x).sum<d.sum:=by
 have:=aJX (d:=d) (x:=x) ht
 omega
theorem DqI.right{E:List Edge}{s N far:Nat}{d:List Nat}(hs:s<N)(hE:EOk E N)(hf:N≤far)(I:DqI E s N far d [] (fun _ _ _=>False)):ag8 E s N far (fun v=>d.getD v 0):=by
 refine aHW I.i.src I.i.real (fun u v c h=>?_) fun v k hk=>?_
 ·rcases I.tr u v c h with h1|h1|h1
  ·cases h1
  ·exact h1.elim
  ·exact h1
 ·have:=hk.le hs (fun a b c h=>⟨(hE a b c h).1,(hE a b c h).2.1⟩) (fun a b c h=>(hE a b c h).2.2.2)
  omega
theorem ag8.num{E:List Edge}{s N far far':Nat}{d d':Nat→Nat}(h:ag8 E s N far d)(h':ag8 E s N far' d')(hf:N≤far)(hf':N≤far')(hs:s<N)(hE:EOk E N){v:Nat}(hv:v<N):(d v=far↔d' v=far')∧(d v≠far→d v=d' v)∧(d v≠far→d v<N):=by
 have hE1:∀a b c,(a,b,c)∈E→a<N∧b<N:=fun a b c h=>⟨(hE a b c h).1,(hE a b c h).2.1⟩
 have hE2:∀a b c,(a,b,c)∈E→c≤1:=fun a b c h=>(hE a b c h).2.2.2
 by_cases e:∃k,Cst E s v k
 ·obtain⟨k,hk⟩:=e
  obtain⟨j,hj⟩:=Lst.ex hk
  have h1:=(h v hv).1 j hj
  have h2:=(h' v hv).1 j hj
  have h3:=hj.le hs hE1 hE2
  rw[h1,h2]
  exact⟨⟨fun e=>by omega,fun e=>by omega⟩,fun _=>rfl,fun _=>by omega⟩
 ·have hn:∀k,¬Cst E s v k:=fun k hk=>e ⟨k,hk⟩
  have h1:=(h v hv).2 hn
  have h2:=(h' v hv).2 hn
  rw[h1,h2]
  exact⟨⟨fun _=>rfl,fun _=>rfl⟩,fun h=>(h rfl).elim,fun h=>(h rfl).elim⟩
end Net
end Go.Ev
namespace Go.Ev
namespace Net
def Dy(N s far:Nat):List Nat:=(aqM N far).set s 0
theorem aq5{N s far v:Nat}(hs:s<N)(hv:v<N):(Dy N s far).getD v 0=if s=v then 0 else far:=by
 unfold Dy
 rw[an4 (by simpa using hs)]
 split
 ·rfl
 ·simp[ax5,hv]
theorem avD{E:List Edge}{N s far:Nat}(hs:s<N):arT E s N far (Dy N s far):=by
 refine⟨by simp[Dy],by rw[aq5 hs hs,if_pos rfl],fun v hv=>?_,fun v hv=>?_⟩
 ·rw[aq5 hs hv]
  split
  ·rename_i h;subst h;exact .inr ⟨0,.nil 0⟩
  ·exact .inl rfl
 ·rw[aq5 hs hv];split<;>omega
theorem aLA{E:List Edge}{N s far:Nat}(hs:s<N)(hE:EOk E N):DqI E s N far (Dy N s far) [s] (fun _ _ _=>False):=by
 refine⟨avD hs,fun r hr=>by simp at hr;omega,fun u v c h=>?_⟩
 have hb:u<N∧v<N:=h.elim (fun h=>⟨(hE _ _ _ h).1,(hE _ _ _ h).2.1⟩) (fun h=>⟨(hE _ _ _ h).2.1,(hE _ _ _ h).1⟩)
 by_cases e:u=s
 ·exact .inl (by simp[e])
 ·right;right
  rw[aq5 hs hb.1,if_neg (fun h=>e h.symm)]
  have:=(avD (E:=E) (far:=far) hs).le v hb.2
  omega
def aqQ(E:List Edge)(N len:Nat):Nat:=if 1000≤(Lq E N (Dy N 0 1000)).getD 1 0 then len+1 else(Lq E N (Dy N 0 1000)).getD 1 0
theorem alA{E:List Edge}{N:Nat}(hN:2≤N)(hN2:N≤1000)(hE:EOk E N):ag8 E 0 N 1000 (fun v=>(Lq E N (Dy N 0 1000)).getD v 0):=
 ay0 (by omega) hE hN2 (avD (by omega)) (by omega)
theorem aQG{E:List Edge}{N far len:Nat}(hN:2≤N)(hN2:N≤1000)(hf:N≤far)(hE:EOk E N){d:Nat→Nat}(h:ag8 E 0 N far d):(if d 1=far then len+1 else d 1)=aqQ E N len:=by
 obtain⟨h1,h2,h3⟩:=ag8.num (alA hN hN2 hE) h hN2 hf (by omega) hE (v:=1) (by omega)
 unfold aqQ
 by_cases e:(Lq E N (Dy N 0 1000)).getD 1 0=1000
 ·rw[if_pos (h1.1 e),if_pos (by rw[e];exact ah0 _)]
 ·have:=h3 e
  rw[if_neg (fun h=>e (h1.2 h)),if_neg (by omega)]
  exact(h2 e).symm
end Net
end Go.Ev
namespace Go.Ev
namespace Net
end Net
end Go.Ev
namespace Go.Ev
namespace Net
theorem EOk.ends{E:List Edge}{N:Nat}(h:EOk E N):∀a b c,(a,b,c)∈E→a<N∧b<N:=fun a b c e=>⟨(h a b c e).1,(h a b c e).2.1⟩
theorem EOk.one{E:List Edge}{N:Nat}(h:EOk E N):∀a b c,(a,b,c)∈E→c≤1:=fun a b c e=>(h a b c e).2.2.2
theorem aAK{E:List Edge}{N len k:Nat}(hN:2≤N)(hN2:N≤1000)(hE:EOk E N)(h:Lst E 0 1 k):aqQ E N len=k∧k<N:=by
 have h1:=(alA hN hN2 hE 1 (by omega)).1 k h
 have h2:=h.le (s:=0) (by omega) hE.ends hE.one
 simp only at h1
 unfold aqQ
 rw[h1,if_neg (by omega)]
 exact⟨rfl,by omega⟩
theorem azI{E:List Edge}{N len:Nat}(hN:2≤N)(hN2:N≤1000)(hE:EOk E N)(h:∀k,¬Cst E 0 1 k):aqQ E N len=len+1:=by
 have h1:=(alA hN hN2 hE 1 (by omega)).2 h
 simp only at h1
 unfold aqQ
 rw[h1,if_pos (ah0 _)]
def Tgh(E E':List Edge):Prop:=∀a b c',(a,b,c')∈E'→∃c,(a,b,c)∈E∧c≤c'
theorem Jn.tgh{E E':List Edge}(h:Tgh E E'){s n v k:Nat}(hw:Jn E' s n v k):∃k',k'≤k∧Jn E s n v k':=by
 induction hw with
 |nil n=>exact⟨0,ah0 _,.nil n⟩
 |fwd _ he ih=>
  obtain⟨k',h1,h2⟩:=ih
  obtain⟨c,h3,h4⟩:=h _ _ _ he
  exact⟨k'+c,by omega,.fwd h2 h3⟩
 |bwd _ he ih=>
  obtain⟨k',h1,h2⟩:=ih
  obtain⟨c,h3,h4⟩:=h _ _ _ he
  exact⟨k'+c,by omega,.bwd h2 h3⟩
def ar5(E E':List Edge):Prop:=∀a b c,(a,b,c)∈E→∃c',(a,b,c')∈E'
theorem Jn.ends{E E':List Edge}(h:ar5 E E'){s n v k:Nat}(hw:Jn E s n v k):∃k',Jn E' s n v k':=by
 induction hw with
 |nil n=>exact⟨0,.nil n⟩
 |fwd _ he ih=>
  obtain⟨k',h2⟩:=ih
  obtain⟨c,h3⟩:=h _ _ _ he
  exact⟨k'+c,.fwd h2 h3⟩
 |bwd _ he ih=>
  obtain⟨k',h2⟩:=ih
  obtain⟨c,h3⟩:=h _ _ _ he
  exact⟨k'+c,.bwd h2 h3⟩
theorem aHE{E E':List Edge}{N len:Nat}(hN:2≤N)(hN2:N≤1000)(hE:EOk E N)(hE':EOk E' N)(h:Tgh E E')(he:ar5 E E'):aqQ E N len≤aqQ E' N len:=by
 by_cases hp:∃k,Cst E' 0 1 k
 ·obtain⟨k,hk⟩:=hp
  obtain⟨j,hj⟩:=Lst.ex hk
  obtain⟨n,hn⟩:=hj.1
  obtain⟨i,hi,hw⟩:=hn.tgh h
  obtain⟨m,hm⟩:=Lst.ex (E:=E) ⟨n,hw⟩
  rw[(aAK hN hN2 hE hm).1,(aAK hN hN2 hE' hj).1]
  exact Nat.le_trans (hm.2 i ⟨n,hw⟩) hi
 ·have h1:∀k,¬Cst E' 0 1 k:=fun k hk=>hp ⟨k,hk⟩
  have h2:∀k,¬Cst E 0 1 k:=fun k ⟨n,hk⟩=>by
   obtain⟨k',hk'⟩:=hk.ends he
   exact h1 k' ⟨n,hk'⟩
  rw[azI hN hN2 hE h2,azI hN hN2 hE' h1]
  exact ah0 _
end Net
end Go.Ev
