/- The evaluator and its soundness. -/
import Derived.Test.YtckfcfcmfjfchaaDoorLibD
open And renaming intro→an9
open Eq renaming trans→aoC
open Option renaming bind_some→aoD,map_some→awB,some→awE
open Nat renaming le_refl→ap7,zero_le→ap8
open List renaming mem_cons_self→arW,mem_cons_of_mem→ar8,all_eq_true→asO,foldl_cons→as0,replicate→atN,range→awT,nil_append→awW,mem_of_getElem?→axS,getElem?_eq_getElem→ax9,getElem?_of_mem→ayD,mem_cons→azU,getElem?_nil→azX,cons_append→aAS,length_cons→aAT,append_nil→aAU,getElem?_eq_some_iff→aAV,getD_eq_getElem?_getD→aBG
open Bool renaming and_eq_true→at6
set_option linter.unusedSimpArgs false
set_option linter.unusedVariables false
namespace Go.Ev
noncomputable section
open Go.RowKit
theorem ayW(b:Nat):place [] b=(0,[b]):=aoC rfl rfl
theorem awU(a b:Nat)(m:List Nat):place (a::m) b=if a=b then(0,a::m)else((place m b).1+1,a::(place m b).2):=by
 unfold place
 rw[List.idxOf?_cons]
 by_cases h:a=b
 ·simp[h]
 ·simp only[h,if_false,beq_iff_eq]
  cases List.idxOf? b m<;>simp
section
variable {P:Program} {O:Db}
theorem aG6(d:Nat)(m:List Nat)(b:Bool):Bn (d+1) m (.bool b)=some (.bool b,m):=aoC rfl rfl
theorem aLY(d:Nat)(m:List Nat)(k:IntKind)(n:Int):Bn (d+1) m (.int k n)=some (.int k n,m):=aoC rfl rfl
theorem aJH(d:Nat)(m:List Nat)(n:Nat)(fl:Bool)(rows:List (List AV)):Bn (d+1) m (.imm n fl rows)=some (.imm n fl rows,m):=aoC rfl rfl
theorem aKL(d:Nat)(m:List Nat)(n:Nat)(fl nn:Bool)(rows:List (List AV)):Bn (d+1) m (Eg n fl nn rows)=some (Eg n fl nn rows,m):=Ge m (Lt d n fl nn rows)
theorem aJV(d:Nat)(m:List Nat)(b r o:Nat):Bn (d+1) m (.ptr b r o)=some (.ptr (place m b).1 r o,(place m b).2):=aoC rfl rfl
theorem aLH(d:Nat)(m:List Nat)(st b r len:Nat):Bn (d+1) m (.slr st b r len)=some (.slr st (place m b).1 r len,(place m b).2):=aoC rfl rfl
def rfA(x:Option (List AV × List Nat)):Option (AV × List Nat):=x.map fun(cs,m)=>(.agg cs,m)
def rfT(x:Option (List AV × List Nat)):Option (AV × List Nat):=x.map fun(cs,m)=>(.tup cs,m)
theorem aDK(cs:List AV)(m:List Nat):rfA (some (cs,m))=some (.agg cs,m):=aoC rfl rfl
theorem aBZ(cs:List AV)(m:List Nat):rfT (some (cs,m))=some (.tup cs,m):=aoC rfl rfl
theorem aKT(d:Nat)(m:List Nat)(cs:List AV):Bn (d+1) m (.agg cs)=rfA (Bn.refL (Bn d) m cs):=aoC rfl rfl
theorem aL9(d:Nat)(m:List Nat)(cs:List AV):Bn (d+1) m (.tup cs)=rfT (Bn.refL (Bn d) m cs):=aoC rfl rfl
def rfG(fn:Fn)(a:List AV)(x:Option (List AV × List Nat)):Option (AV × List Nat):=x.map fun(b,m)=>(.func fn a b,m)
def rfF(fn:Fn)(d:Nat)(b:List AV)(x:Option (List AV × List Nat)):Option (AV × List Nat):=x.bind fun(a,m)=>rfG fn a (Bn.refL (Bn d) m b)
theorem aAW(fn:Fn)(a b:List AV)(m:List Nat):rfG fn a (some (b,m))=some (.func fn a b,m):=aoC rfl rfl
theorem aD3(fn:Fn)(d:Nat)(a b:List AV)(m:List Nat):rfF fn d b (some (a,m))=rfG fn a (Bn.refL (Bn d) m b):=aoC rfl rfl
theorem aGJ(d:Nat)(m:List Nat)(fn:Fn)(a b:List AV):Bn (d+1) m (.func fn a b)=rfF fn d b (Bn.refL (Bn d) m a):=aoC rfl rfl
def rfD(v:AV)(x:Option (List AV × List Nat)):Option (List AV × List Nat):=x.map fun(vs,m)=>(v::vs,m)
def rfC(f:List Nat→AV→Option (AV × List Nat))(vs:List AV)(x:Option (AV × List Nat)):Option (List AV × List Nat):=x.bind fun(v,m)=>rfD v (Bn.refL f m vs)
theorem aEQ(v:AV)(vs:List AV)(m:List Nat):rfD v (some (vs,m))=some (v::vs,m):=aoC rfl rfl
theorem aDO(f:List Nat→AV→Option (AV × List Nat))(vs:List AV)(v:AV)(m:List Nat):rfC f vs (some (v,m))=rfD v (Bn.refL f m vs):=aoC rfl rfl
theorem aH5(f:List Nat→AV→Option (AV × List Nat))(m:List Nat):Bn.refL f m []=some ([],m):=aoC rfl rfl
theorem aB0(f:List Nat→AV→Option (AV × List Nat))(m:List Nat)(v:AV)(vs:List AV):Bn.refL f m (v::vs)=rfC f vs (f m v):=aoC rfl rfl
def rrD(cs:List AV)(x:Option (List (List AV) × List Nat)):Option (List (List AV) × List Nat):=x.map fun(rs,m)=>(cs::rs,m)
def rrC(rs:List (List AV))(x:Option (List AV × List Nat)):Option (List (List AV) × List Nat):=x.bind fun(cs,m)=>rrD cs (Hi m rs)
theorem aCP(cs:List AV)(rs:List (List AV))(m:List Nat):rrD cs (some (rs,m))=some (cs::rs,m):=aoC rfl rfl
theorem aEA(rs:List (List AV))(cs:List AV)(m:List Nat):rrC rs (some (cs,m))=rrD cs (Hi m rs):=aoC rfl rfl
theorem aJZ(m:List Nat):Hi m []=some ([],m):=aoC rfl rfl
theorem aF8(m:List Nat)(cs:List AV)(rs:List (List AV)):Hi m (cs::rs)=rrC rs (Bn.refL (Bn 8) m cs):=aoC rfl rfl
def rbV(st:Nat)(w:Bool)(x:Option (List (List AV) × List Nat)):Option (CB × List Nat):=x.map fun(rows,m)=>(.live st false w rows,m)
theorem aE1(st:Nat)(w:Bool)(rows:List (List AV))(m:List Nat):rbV st w (some (rows,m))=some (.live st false w rows,m):=aoC rfl rfl
theorem aOA(m:List Nat)(st:Nat)(w:Bool)(rows:List (List AV)):arP m (.live st true w rows)=some (.live st true w rows,m):=aoC rfl rfl
theorem aNT(m:List Nat)(st:Nat)(w:Bool)(rows:List (List AV)):arP m (.live st false w rows)=rbV st w (Hi m rows):=aoC rfl rfl
def pcE(c:CB)(x:Option (List CB × List Nat)):Option (List CB × List Nat):=x.map fun(cs,m)=>(c::cs,m)
def pcR(n:Nat)(h:Aa)(i:Nat)(x:Option (CB × List Nat)):Option (List CB × List Nat):=x.bind fun(c,m)=>pcE c (Gq n (hf h) (i+1) m)
def pcB(n:Nat)(h:Aa)(i:Nat)(m:List Nat)(x:Option CB):Option (List CB × List Nat):=x.bind fun c=>pcR n h i (arP m c)
def pcK(n:Nat)(h:Aa)(i:Nat)(m:List Nat)(x:Option Nat):Option (List CB × List Nat):=
 match x with
 |none=>some ([],m)
 |some b=>pcB n h i m (h[b]?)
theorem aCI(c:CB)(cs:List CB)(m:List Nat):pcE c (some (cs,m))=some (c::cs,m):=aoC rfl rfl
theorem aFD(n:Nat)(h:Aa)(i:Nat)(c:CB)(m:List Nat):pcR n h i (some (c,m))=pcE c (Gq n (hf h) (i+1) m):=aoC rfl rfl
theorem aEO(n:Nat)(h:Aa)(i:Nat)(m:List Nat)(c:CB):pcB n h i m (some c)=pcR n h i (arP m c):=aoC rfl rfl
theorem aA5(n:Nat)(h:Aa)(i:Nat)(m:List Nat):pcK n h i m none=some ([],m):=aoC rfl rfl
theorem aDS(n:Nat)(h:Aa)(i:Nat)(m:List Nat)(b:Nat):pcK n h i m (some b)=pcB n h i m (h[b]?):=aoC rfl rfl
theorem aOL(n:Nat)(h:Aa)(i:Nat)(m:List Nat):Gq (n+1) (hf h) i m=pcK n h i m (m[i]?):=by
 unfold Gq pcK
 cases m[i]?<;>rfl
def pkB(vs:List AV)(x:Option (List CB × List Nat)):Option (List AV × List CB × List Nat):=x.map fun(cs,m)=>(vs,cs,m)
def pkA(h:Aa)(x:Option (List AV × List Nat)):Option (List AV × List CB × List Nat):=x.bind fun(vs,m)=>pkB vs (Gq 5000 (hf h) 0 m)
theorem aBL(vs:List AV)(cs:List CB)(m:List Nat):pkB vs (some (cs,m))=some (vs,cs,m):=aoC rfl rfl
theorem aC4(h:Aa)(vs:List AV)(m:List Nat):pkA h (some (vs,m))=pkB vs (Gq 5000 (hf h) 0 m):=aoC rfl rfl
theorem aOV(h:Aa)(m:List Nat)(vs:List AV):Gl (hf h) m vs=pkA h (Bn.refL (Bn 8) m vs):=aoC rfl rfl
def upK(h:Aa)(lent:List Nat)(v:Option AV)(ps ns:Option (List Ab))(o:AV→Cb):OE:=v.bind fun v=>ps.bind fun ps=>ns.bind fun ns=>
 some (o v,(if lent.isEmpty|| !(hasImm 8 v||(ps++ns).any Ab.hasImm)then []else Dc (hf h) lent)++ps++ns)
def crU(h:Aa)(base:Nat)(lent m:List Nat)(cs:List CB)(x:Option (Cb × Aa)):OE:=
 match x with
 |some (.ret v,h')=>upK h lent (Bi 8 (Ci m base) v) (Ea (Ci m base) m cs (h'.take m.length)) (Fq (Ci m base) base (h'.drop m.length)) .ret
 |some (.pan v,h')=>upK h lent (Bi 8 (Ci m base) v) (Ea (Ci m base) m cs (h'.take m.length)) (Fq (Ci m base) base (h'.drop m.length)) .pan
 |none=>none
def crP(O:Db)(h:Aa)(base:Nat)(f:Jr)(lent:List Nat)(x:Option (List AV × List CB × List Nat)):OE:=x.bind fun(vs,cs,m)=>
 if lent.any (m.contains ·)then none else crU h base lent m cs (O.call f vs (cs.map CB.clean))
def crQ(O:Db)(h:Aa)(base:Nat)(f:Jr)(lent:List Nat)(x:Option (List AV)):OE:=x.bind fun vs=>crP O h base f lent (Gl (hf h) [] vs)
theorem aQS(h:Aa)(base:Nat)(f:Jr)(args:List AV):cr (arT O (hf h) base f args)=crQ O h base f (args.flatMap (Ak 12 (hf h))) (Ax (rdV h) args):=by
 unfold arT Bg crQ rdV
 cases Ax (Ek 12 (hf h)) args with
 |none=>rfl
 |some vs=>
  simp only[aoD]
  unfold crP
  cases Gl (hf h) [] vs with
  |none=>rfl
  |some x=>
   obtain⟨vs',cs,m⟩:=x
   simp only[aoD]
   split
   ·rfl
   ·cases O.call f vs' (cs.map CB.clean)with
    |none=>rfl
    |some y=>
     obtain⟨out,h'⟩:=y
     simp only[aoD,Gs]
     unfold crU upK
     cases out with
     |ret v=>
      simp only[Cb.v]
      cases Bi 8 (Ci m base) v with
      |none=>rfl
      |some v=>
       cases Ea (Ci m base) m cs (h'.take m.length)with
       |none=>rfl
       |some ps=>cases Fq (Ci m base) base (h'.drop m.length)<;>rfl
     |pan v=>
      simp only[Cb.v]
      cases Bi 8 (Ci m base) v with
      |none=>rfl
      |some v=>
       cases Ea (Ci m base) m cs (h'.take m.length)with
       |none=>rfl
       |some ps=>cases Fq (Ci m base) base (h'.drop m.length)<;>rfl
theorem aBH(h:Aa)(base:Nat)(f:Jr)(lent:List Nat)(vs:List AV):crQ O h base f lent (some vs)=crP O h base f lent (Gl (hf h) [] vs):=aoC rfl rfl
theorem aCF(h:Aa)(base:Nat)(f:Jr)(lent:List Nat)(vs:List AV)(cs:List CB)(m:List Nat):crP O h base f lent (some (vs,cs,m))=if lent.any (m.contains ·)=true then none else crU h base lent m cs (O.call f vs (cs.map CB.clean)):=aoC rfl rfl
theorem aHB(h:Aa)(base:Nat)(lent m:List Nat)(cs:List CB)(v:AV)(h':Aa):crU h base lent m cs (some (.ret v,h'))=upK h lent (Bi 8 (Ci m base) v) (Ea (Ci m base) m cs (h'.take m.length)) (Fq (Ci m base) base (h'.drop m.length)) .ret:=aoC rfl rfl
theorem aC8(h:Aa)(lent:List Nat)(v:AV)(ps ns:List Ab)(o:AV→Cb):upK h lent (some v) (some ps) (some ns) o=some (o v,(if(lent.isEmpty|| !(hasImm 8 v||(ps++ns).any Ab.hasImm))=true then []else Dc (hf h) lent)++ps++ns):=aoC rfl rfl
theorem aIO(st:Nat)(fl w:Bool)(rows:List (List AV)):CB.clean (.live st fl w rows)=.live st fl false rows:=aoC rfl rfl
theorem aHI(d:Nat)(g:HF)(b:Bool):Ak (d+1) g (.bool b)=[]:=aoC rfl rfl
theorem aLW(d:Nat)(g:HF)(k:IntKind)(n:Int):Ak (d+1) g (.int k n)=[]:=aoC rfl rfl
theorem aK7(d:Nat)(g:HF)(b r o:Nat):Ak (d+1) g (.ptr b r o)=[]:=aoC rfl rfl
theorem aFX(d:Nat)(g:HF)(fn:Fn)(a b:List AV):Ak (d+1) g (.func fn a b)=[]:=aoC rfl rfl
theorem aKP(d:Nat)(g:HF)(n:Nat)(fl nn:Bool)(rows:List (List AV)):Ak (d+1) g (Eg n fl nn rows)=[]:=Nw g (d:=1) (by omega) (Lt 0 n fl nn rows)
theorem aLG(d:Nat)(g:HF)(cs:List AV):Ak (d+1) g (.agg cs)=cs.flatMap (Ak d g):=aoC rfl rfl
def lvS(b:Nat)(c:Option CB)(q:AV→List Nat)(r len:Nat):List Nat:=
 b::match c with
 |some (.live _ fl _ rows)=>if r+len≤rows.length then(if fl then []else((rows.drop r).take len).flatMap fun cs=>cs.flatMap q)else []
 |some (.frz _ fl rows)=>if r+len≤rows.length then(if fl then []else((rows.drop r).take len).flatMap fun cs=>cs.flatMap q)else []
 |_=>[]
theorem aMF(d:Nat)(h:Aa)(st b r len:Nat):Ak (d+1) (hf h) (.slr st b r len)=lvS b (h[b]?) (Ak d (hf h)) r len:=by
 have e:Ak (d+1) (hf h) (.slr st b r len)=b::(match Dl (hf h) b r len with|some (_,fl,rows)=>if fl then []else rows.flatMap fun cs=>cs.flatMap (Ak d (hf h))|none=>[]):=rfl
 rw[e]
 generalize Ak d (hf h)=q
 unfold Dl lvS
 have eh:hf h b=h[b]?:=rfl
 rw[eh]
 cases h[b]? with
 |none=>rfl
 |some c=>
  cases c with
  |live st fl w rows=>simp only;by_cases hq:r+len≤rows.length<;>simp[hq]
  |frz st fl rows=>simp only;by_cases hq:r+len≤rows.length<;>simp[hq]
  |_=>rfl
theorem aNH(b:Nat)(st:Nat)(w:Bool)(rows:List (List AV))(q:AV→List Nat)(r len:Nat):lvS b (some (.live st true w rows)) q r len=[b]:=by simp[lvS]
theorem aO0(m:List Nat)(base i:Nat):Ci m base i=if i<m.length then m.getD i base else base+(i-m.length):=aoC rfl rfl
theorem aGH(d:Nat)(f:Nat→Nat)(b:Bool):Bi (d+1) f (.bool b)=some (.bool b):=aoC rfl rfl
theorem aJT(d:Nat)(f:Nat→Nat)(k:IntKind)(n:Int):Bi (d+1) f (.int k n)=some (.int k n):=aoC rfl rfl
theorem aKZ(d:Nat)(f:Nat→Nat)(n:Nat)(fl nn:Bool)(rows:List (List AV)):Bi (d+1) f (Eg n fl nn rows)=some (Eg n fl nn rows):=Gy f (Lt d n fl nn rows)
theorem aJU(d:Nat)(f:Nat→Nat)(b r o:Nat):Bi (d+1) f (.ptr b r o)=some (.ptr (f b) r o):=aoC rfl rfl
theorem aLX(d:Nat)(f:Nat→Nat)(st b r len:Nat):Bi (d+1) f (.slr st b r len)=some (.slr st (f b) r len):=aoC rfl rfl
def rnA(x:Option (List AV)):Option AV:=x.map .agg
def rnT(x:Option (List AV)):Option AV:=x.map .tup
theorem aCO(cs:List AV):rnA (some cs)=some (.agg cs):=aoC rfl rfl
theorem aBY(cs:List AV):rnT (some cs)=some (.tup cs):=aoC rfl rfl
theorem aJF(d:Nat)(f:Nat→Nat)(cs:List AV):Bi (d+1) f (.agg cs)=rnA (Ax (Bi d f) cs):=aoC rfl rfl
theorem aL6(d:Nat)(f:Nat→Nat)(cs:List AV):Bi (d+1) f (.tup cs)=rnT (Ax (Bi d f) cs):=aoC rfl rfl
def rnG(fn:Fn)(a:List AV)(x:Option (List AV)):Option AV:=x.map fun b=>.func fn a b
def rnF(fn:Fn)(b:Option (List AV))(x:Option (List AV)):Option AV:=x.bind fun a=>rnG fn a b
theorem aC5(fn:Fn)(a b:List AV):rnG fn a (some b)=some (.func fn a b):=aoC rfl rfl
theorem aB2(fn:Fn)(b:Option (List AV))(a:List AV):rnF fn b (some a)=rnG fn a b:=aoC rfl rfl
theorem aHQ(d:Nat)(f:Nat→Nat)(fn:Fn)(a b:List AV):Bi (d+1) f (.func fn a b)=rnF fn (Ax (Bi d f) b) (Ax (Bi d f) a):=aoC rfl rfl
def rbW(st:Nat)(w:Bool)(x:Option (List (List AV))):Option CB:=x.map (.live st false w)
theorem aBR(st:Nat)(w:Bool)(rows:List (List AV)):rbW st w (some rows)=some (.live st false w rows):=aoC rfl rfl
theorem aOO(f:Nat→Nat)(st:Nat)(w:Bool)(rows:List (List AV)):Gm f (.live st true w rows)=some (.live st true w rows):=aoC rfl rfl
theorem aNV(f:Nat→Nat)(st:Nat)(w:Bool)(rows:List (List AV)):Gm f (.live st false w rows)=rbW st w (Ax (Ax (Bi 8 f)) rows):=aoC rfl rfl
def peE(b:Nat)(c:Option CB)(x:Option (List Ab)):Option (List Ab):=c.bind fun c=>x.map fun es=>.put b c::es
def peK(f:Nat→Nat)(b:Nat)(c:CB)(same bad:Bool)(x:Option (List Ab)):Option (List Ab):=bif same then x else bif bad then none else peE b (Gm f c) x
theorem aNE(f:Nat→Nat)(b:Nat)(c:CB)(bad:Bool)(x:Option (List Ab)):peK f b c true bad x=x:=aoC rfl rfl
theorem aLS(f:Nat→Nat):Ea f [] [] []=some []:=aoC rfl rfl
theorem aGP(f:Nat→Nat)(b:Nat)(m:List Nat)(c₀ c:CB)(cs₀ cs:List CB):Ea f (b::m) (c₀::cs₀) (c::cs)=peK f b c (c₀.same c) (c.unw|| !c₀.isLive) (Ea f m cs₀ cs):=by
 conv=>lhs;unfold Ea
 unfold peK
 cases c₀.same c with
 |true=>rfl
 |false=>
  cases(c.unw|| !c₀.isLive)with
  |true=>rfl
  |false=>
   simp only[cond_false,peE]
theorem aHN(a:Nat)(b c:Bool)(r:List (List AV))(st:Nat)(fl w:Bool)(rows:List (List AV)):CB.same (.live a b c r) (.live st fl w rows)= !w:=aoC rfl rfl
theorem aIC(st:Nat)(fl w:Bool)(rows:List (List AV)):CB.unw (.live st fl w rows)= !w:=aoC rfl rfl
theorem aID(st:Nat)(fl w:Bool)(rows:List (List AV)):CB.isLive (.live st fl w rows)=true:=aoC rfl rfl
def neK(base:Nat)(c:Option CB)(x:Option (List Ab)):Option (List Ab):=c.bind fun c=>x.map fun es=>.new base c::es
theorem aCL(base:Nat)(c:CB)(es:List Ab):neK base (some c) (some es)=some (.new base c::es):=aoC rfl rfl
theorem aLP(f:Nat→Nat)(base:Nat):Fq f base []=some []:=aoC rfl rfl
theorem aG4(f:Nat→Nat)(base:Nat)(c:CB)(cs:List CB):Fq f base (c::cs)=neK base (Gm f c) (Fq f (base+1) cs):=aoC rfl rfl
theorem aFZ(d:Nat)(fn:Fn)(a b:List AV):hasImm (d+1) (.func fn a b)=(a.any (hasImm d)||b.any (hasImm d)):=aoC rfl rfl
theorem aJ3(b:Nat)(c:CB):Ab.hasImm (.new b c)=c.hasImm:=aoC rfl rfl
theorem aOY(st:Nat)(w:Bool)(rows:List (List AV)):CB.hasImm (.live st true w rows)=false:=aoC rfl rfl
theorem aM6(st:Nat)(w:Bool)(rows:List (List AV)):CB.hasImm (.live st false w rows)=rows.any fun cs=>cs.any (Ev.hasImm 8):=aoC rfl rfl
theorem aMI(h:Aa)(b r o:Nat):rdV h (.ptr b r o)=some (.ptr b r o):=aoC rfl rfl
theorem aH6(h:Aa)(cs:List AV):rdV h (.agg cs)=rdA (Ax (Ek 11 (hf h)) cs):=aoC rfl rfl
theorem az0(l:List AV):rdA (some l)=some (.agg l):=aoC rfl rfl
theorem aGG(d:Nat)(h:Aa)(b:Bool):Ek (d+1) (hf h) (.bool b)=some (.bool b):=aoC rfl rfl
theorem aJY(d:Nat)(h:Aa)(k:IntKind)(n:Int):Ek (d+1) (hf h) (.int k n)=some (.int k n):=aoC rfl rfl
theorem aK6(d:Nat)(h:Aa)(n:Nat)(fl nn:Bool)(rows:List (List AV)):Ek (d+1) (hf h) (Eg n fl nn rows)=some (Eg n fl nn rows):=Lh _ (d:=1) (by omega) (Lt 0 n fl nn rows)
def mfK(f:Nat)(a b:Option (List AV)):OE:=a.bind fun a=>b.bind fun b=>some (.ret (.func (.func f) a b),[])
theorem aD8(f:Nat)(a b:List AV):mfK f (some a) (some b)=some (.ret (.func (.func f) a b),[]):=aoC rfl rfl
theorem aOR(t:List AV)(h:Aa)(f:Nat)(a b:Array Operand):Cd O P t h (.makeFunc (.func f) a b)=mfK f (Ar t a.toList) (Ar t b.toList):=by
 rw[Bl _ _ _ rfl]
 simp only[exec,mfK]
 cases Ar t a.toList with
 |none=>rfl
 |some a=>cases Ar t b.toList<;>rfl
def msK(n:Nat)(z:AV)(base:Nat)(l c:Option AV):OE:=
 match l,c with
 |some (.int .i64 l),some (.int .i64 c)=>if 0≤l∧l≤c∧c≤2 ^ 40∧(Ae z).all AV.isCell=true then some (.ret (.slr n base 0 l.toNat),[.new base (.live n ((Ae z).all AV.flat) false (atN l.toNat (Ae z)))])else none
 |_,_=>none
theorem aDA(n:Nat)(z:AV)(base:Nat)(l c:Int):msK n z base (some (.int .i64 l)) (some (.int .i64 c))=if 0≤l∧l≤c∧c≤2 ^ 40∧(Ae z).all AV.isCell=true then some (.ret (.slr n base 0 l.toNat),[.new base (.live n ((Ae z).all AV.flat) false (atN l.toNat (Ae z)))])else none:=aoC rfl rfl
def msO(P:Program)(ty:TypeId)(base:Nat)(l c:Option AV):OE:=rD (l.bind fun l=>c.bind fun c=>Ec P base ty l c)
theorem aNG(t:List AV)(h:Aa)(ty:TypeId)(l c:Operand):Cd O P t h (.makeSlice ty l c)=msO P ty h.length (Ac t l) (Ac t c):=Bl _ _ _ rfl
theorem aO2{ty e:TypeId}{n b:Nat}{z:AV}(he:ahK P ty=some e)(hn:Js P e=some n)(hb:byT P e=some b)(hz:Hn P e=some z)(ok:(decide (b≤2 ^ 7)&&decide (n≠0)&&decide ((Ae z).length=n))=true)(base:Nat)(l c:Option AV):
 msO P ty base l c=msK n z base l c:=by
 simp only[at6,decide_eq_true_eq]at ok
 unfold msO msK
 cases l with
 |none=>rfl
 |some l=>
  cases c with
  |none=>cases l<;>first|rfl|(rename_i k _;cases k<;>rfl)
  |some c=>
   simp only[aoD,Ec,he,hn,hb,hz]
   cases l with
   |int k l=>
    cases c with
    |int k' c=>
     cases k<;>cases k'<;>first|rfl|skip
     simp only[ok.1.1,ok.1.2,ok.2,ne_eq,not_false_eq_true,true_and]
     split<;>rfl
    |_=>cases k<;>rfl
   |_=>rfl
def srS(q:Nat)(c:Option CB)(r len:Nat):Option (Bool × List (List AV)):=
 match c with
 |some (.live st fl _ rows)=>if r+len≤rows.length∧st=q then some (fl,(rows.drop r).take len)else none
 |some (.frz st fl rows)=>if r+len≤rows.length∧st=q then some (fl,(rows.drop r).take len)else none
 |_=>none
def srK(q:Nat)(h:Aa)(x:Option AV):Option (Bool × List (List AV)):=
 match x with
 |some .nils=>some (true,[])
 |some (.imm st fl rows)=>if st=q then some (fl,rows)else none
 |some (.slr _ b r len)=>srS q (h[b]?) r len
 |_=>none
theorem aEC(q st:Nat)(fl w:Bool)(rows:List (List AV))(r len:Nat):srS q (some (.live st fl w rows)) r len=if r+len≤rows.length∧st=q then some (fl,(rows.drop r).take len)else none:=aoC rfl rfl
theorem aDE(q:Nat)(h:Aa):srK q h (some .nils)=some (true,[]):=aoC rfl rfl
theorem aHX(q:Nat)(h:Aa)(st:Nat)(fl:Bool)(rows:List (List AV)):srK q h (some (.imm st fl rows))=if st=q then some (fl,rows)else none:=aoC rfl rfl
theorem ayP(q:Nat)(h:Aa)(st b r len:Nat):srK q h (some (.slr st b r len))=srS q (h[b]?) r len:=aoC rfl rfl
def apS(n base b r len:Nat)(nfl:Bool)(new:List (List AV))(c:Option CB):OE:=
 match c with
 |some (.live st fl _ rows)=>if st=n∧r+len=rows.length∧len+new.length≤2 ^ 39 then some (.ret (.slr st base 0 (len+new.length)),[.put b .dead,.new base (.live st (fl&&nfl) false (rows.drop r++new))])else none
 |_=>none
theorem aCX(n base b r len:Nat)(nfl:Bool)(new:List (List AV))(st:Nat)(fl w:Bool)(rows:List (List AV)):apS n base b r len nfl new (some (.live st fl w rows))=if st=n∧r+len=rows.length∧len+new.length≤2 ^ 39 then some (.ret (.slr st base 0 (len+new.length)),[.put b .dead,.new base (.live st (fl&&nfl) false (rows.drop r++new))])else none:=aoC rfl rfl
def apK(n:Nat)(h:Aa)(s:Option AV)(x:Option (Bool × List (List AV))):OE:=
 match s,x with
 |some .nils,some (_,[])=>some (.ret .nils,[])
 |some (.slr a b r l),some (_,[])=>some (.ret (.slr a b r l),[])
 |some (.imm a b r),some (_,[])=>some (.ret (.imm a b r),[])
 |some .nils,some (nfl,r::new)=>if(r::new).length≤2 ^ 39 then some (.ret (.slr n h.length 0 (r::new).length),[.new h.length (.live n nfl false (r::new))])else none
 |some (.slr _ b r len),some (nfl,q::new)=>apS n h.length b r len nfl (q::new) (h[b]?)
 |_,_=>none
theorem aJ7(n:Nat)(h:Aa)(a b r l:Nat)(nfl:Bool):apK n h (some (.slr a b r l)) (some (nfl,[]))=some (.ret (.slr a b r l),[]):=aoC rfl rfl
theorem aBN(n:Nat)(h:Aa)(nfl:Bool)(r:List AV)(new:List (List AV)):apK n h (some .nils) (some (nfl,r::new))=if(r::new).length≤2 ^ 39 then some (.ret (.slr n h.length 0 (r::new).length),[.new h.length (.live n nfl false (r::new))])else none:=aoC rfl rfl
theorem aEF(n:Nat)(h:Aa)(a b r len:Nat)(nfl:Bool)(q:List AV)(new:List (List AV)):apK n h (some (.slr a b r len)) (some (nfl,q::new))=apS n h.length b r len nfl (q::new) (h[b]?):=aoC rfl rfl
def apO(P:Program)(ty:TypeId)(h:Aa)(s x:Option AV):OE:=rD (s.bind fun s=>x.bind fun x=>Dy P (hf h) h.length ty s x)
theorem aI6(t:List AV)(h:Aa)(s x:Operand)(ty ty1 e1:TypeId)(hu:P.underlying ty1=some (.slice e1)):Cd O P t h (.call ⟨.builtin .append,#[s,x],#[ty,ty1]⟩)=apO P ty h (Ac t s) (Ac t x):=by
 rw[Bl _ _ _ rfl]
 simp only[exec,Ar,apO]
 cases Ac t s with
 |none=>rfl
 |some a=>
  cases Ac t x with
  |none=>rfl
  |some b=>
   simp only[aoD,awB]
   have e0:(#[ty,ty1]:Array TypeId)[0]?=some ty:=rfl
   have e1:(#[ty,ty1]:Array TypeId)[1]?=some ty1:=rfl
   simp only[e0,e1,aoD,hu]
theorem aB3{ty e:TypeId}{n b:Nat}{z:AV}(he:ahK P ty=some e)(hn:Js P e=some n)(hb:byT P e=some b)(hz:Hn P e=some z)(ok:(decide (b≤2 ^ 7)&&decide (n≠0)&&decide ((Ae z).length=n))=true)(h:Aa)(s x:AV)(hx:∀q,x≠.str q):
 apO P ty h (some s) (some x)=apK n h (some s) (srK n h (some x)):=by
 simp only[at6,decide_eq_true_eq]at ok
 have hbad:¬(n=0∨2 ^ 7<b∨(Ae z).length≠n):=by
  rintro(h1|h1|h1)
  ·exact ok.1.2 h1
  ·omega
  ·exact h1 ok.2
 unfold apO
 simp only[aoD,Dy,he,hn,hb,hz]
 have key:∀(nfl:Bool) (new:List (List AV)) (fs:List Bq),rD (if n=0∨2 ^ 7<b∨(Ae z).length≠n then none else
  match s,new with
  |s,[]=>match s with
   | .nils| .slr _ _ _ _| .imm _ _ _=>some ⟨s,[],fs⟩
   |_=>none
  | .nils,new=>if new.length≤2 ^ 39 then some ⟨.slr n h.length 0 new.length,[.new h.length (.live n nfl false new)],fs⟩else none
  | .slr _ b r len,new=>
    match hf h b with
    |some (.live st fl _ rows)=>
     if st=n∧r+len=rows.length∧len+new.length≤2 ^ 39 then
      some ⟨.slr st h.length 0 (len+new.length),[.put b .dead,.new h.length (.live st (fl&&nfl) false (rows.drop r++new))],.blk b::fs⟩
     else none
    |_=>none
  |_,_=>none)=apK n h (some s) (some (nfl,new)):=fun nfl new fs=>by
  rw[if_neg hbad]
  cases new with
  |nil=>cases s<;>rfl
  |cons q new=>
   cases s with
   |nils=>simp only[aBN];split<;>rfl
   |slr a b r len=>
    simp only[aEF]
    unfold apS
    have eh:hf h b=h[b]?:=rfl
    rw[eh]
    cases h[b]? with
    |none=>rfl
    |some c=>
     cases c with
     |live st fl w rows=>simp only;split<;>rfl
     |_=>rfl
   |_=>rfl
 cases x with
 |nils=>exact key true [] []
 |imm st fl rows=>
  simp only[Bj,aHX,hn,awE.injEq]
  by_cases hq:n=st
  ·subst hq;simp only[if_true,aoD];exact key fl rows []
  ·rw[if_neg hq,if_neg (fun e=>hq e.symm)]
   cases s<;>rfl
 |slr st b' r len=>
  simp only[Bj,ayP,hn,Dl,srS]
  have eh:hf h b'=h[b']?:=rfl
  rw[eh]
  cases h[b']? with
  |none=>cases s<;>rfl
  |some c=>
   cases c with
   |live st fl w rows=>
    simp only
    by_cases hq:r+len≤rows.length
    ·simp only[hq,if_true,aoD,true_and,awE.injEq]
     by_cases hq2:n=st
     ·subst hq2;simp only[if_true,aoD];exact key fl _ _
     ·rw[if_neg hq2,if_neg (fun e=>hq2 e.symm)];cases s<;>rfl
    ·simp only[hq,if_false,false_and];cases s<;>rfl
   |frz st fl rows=>
    simp only
    by_cases hq:r+len≤rows.length
    ·simp only[hq,if_true,aoD,true_and,awE.injEq]
     by_cases hq2:n=st
     ·subst hq2;simp only[if_true,aoD];exact key fl _ _
     ·rw[if_neg hq2,if_neg (fun e=>hq2 e.symm)];cases s<;>rfl
    ·simp only[hq,if_false,false_and];cases s<;>rfl
   |_=>cases s<;>rfl
 |str q=>exact(hx q rfl).elim
 |_=>cases s<;>rfl
def rtK(Q:Cb→Aa→Prop)(x:Option (List AV × List CB × List Nat)):Prop:=
 match x with
 |some ([v],cs,_)=>Q (.ret v) cs
 |_=>False
theorem aE4(Q:Cb→Aa→Prop)(v:AV)(cs:List CB)(m:List Nat):rtK Q (some ([v],cs,m))=Q (.ret v) cs:=aoC rfl rfl
theorem aI4{q:Nat}{vs:List AV}{h:Aa}{Q:Cb→Aa→Prop}:Rt q (some vs) h Q=rtK Q (Gl (hf h) (awT q) [Jm vs]):=by
 unfold Rt aHL
 simp only[aoD,Kx]
 cases hp:Gl (hf h) (awT q) [Jm vs]with
 |none=>simp[rtK]
 |some x=>
  obtain⟨ws,cs,m⟩:=x
  simp only[aoD]
  match ws with
  | [v]=>
    simp only[rtK,awB]
    exact propext ⟨fun⟨o,h',e,k⟩=>by cases e;exact k,fun k=>⟨_,_,rfl,k⟩⟩
  | []=>simp[rtK]
  |_::_::_=>simp[rtK]
theorem aK9(vs:List AV)(h:Aa)(Q:Cb→Aa→Prop):Rt1 0 (some vs) h Q=rtK Q (Gl (hf h) [] [Jm vs]):=aI4
theorem aHZ(q:Nat)(vs:List AV)(h:Aa)(Q:Cb→Aa→Prop):Rt (q+1) (some vs) h Q=rtK Q (Gl (hf h) (awT (q+1)) [Jm vs]):=aI4
end
end
noncomputable section
set_option maxRecDepth 100000
def EVi:=PLift.up (an9 @ayW (an9 @awU (an9 @aG6 (an9 @aLY (an9 @aJH (an9 @aKL (an9 @aJV (an9 @aLH (an9 @aDK (an9 @aBZ (an9 @aKT (an9 @aL9 (an9 @aAW (an9 @aD3 (an9 @aGJ (an9 @aEQ (an9 @aDO (an9 @aH5 (an9 @aB0 (an9 @aCP (an9 @aEA (an9 @aJZ (an9 @aF8 (an9 @aE1 (an9 @aOA (an9 @aNT (an9 @aCI (an9 @aFD (an9 @aEO @aA5)))))))))))))))))))))))))))))
def EVj:=PLift.up (an9 @aDS (an9 @aOL (an9 @aBL (an9 @aC4 (an9 @aOV (an9 @aQS (an9 @aBH (an9 @aCF (an9 @aHB (an9 @aC8 (an9 @aIO (an9 @aHI (an9 @aLW (an9 @aK7 (an9 @aFX (an9 @aKP (an9 @aLG (an9 @aMF (an9 @aNH (an9 @aO0 (an9 @aGH (an9 @aJT (an9 @aKZ (an9 @aJU (an9 @aLX @aCO)))))))))))))))))))))))))
def EVk:=PLift.up (an9 @aBY (an9 @aJF (an9 @aL6 (an9 @aC5 (an9 @aB2 (an9 @aHQ (an9 @aBR (an9 @aOO (an9 @aNV (an9 @aNE (an9 @aLS (an9 @aGP (an9 @aHN (an9 @aIC (an9 @aID (an9 @aCL (an9 @aLP (an9 @aG4 (an9 @aFZ (an9 @aJ3 (an9 @aOY (an9 @aM6 @aMI))))))))))))))))))))))
def EVl:=PLift.up (an9 @aH6 (an9 @az0 (an9 @aGG (an9 @aJY (an9 @aK6 (an9 @aD8 (an9 @aOR (an9 @aDA (an9 @aNG (an9 @aEC (an9 @aDE (an9 @ayP (an9 @aCX (an9 @aJ7 (an9 @aBN (an9 @aEF (an9 @aE4 (an9 @aK9 (an9 @aHZ (an9 @List.flatMap_cons.{0,0} (an9 @List.flatMap_nil.{0,0} (an9 @List.isEmpty_nil.{0} (an9 @List.getD_cons_zero.{0} (an9 @List.range_succ (an9 @List.range_zero (an9 @List.contains_nil.{0} @List.contains_cons.{0}))))))))))))))))))))))))))
def EVm:=PLift.up (an9 @azX.{0} @azX.{0})
end
noncomputable section
theorem aD5(n:Nat)(fl:Bool)(rows:List (List AV)):Eg n fl true rows=.imm n fl rows:=by cases rows<;>rfl
section
variable {P:Program} {t e:TypeId} (hu:P.underlying t=some (.slice e))
include hu
end
def aJ2(v:Option AV)(ns:Option (List Ab)):Option Gk:=v.bind fun v=>ns.map fun ns=>⟨.ret v,ns,[]⟩
theorem az5(v:AV)(ns:List Ab):aJ2 (some v) (some ns)=some ⟨.ret v,ns,[]⟩:=aoC rfl rfl
theorem aBI(base:Nat)(v:AV)(c:CB)(cs:List CB):ac0 base (some (.ret v,c::cs))=aJ2 (Bi 8 (fun i=>base+i) v) (Fq (fun i=>base+i) base (c::cs)):=by
 simp only[ac0,aJ2,aoD,Cb.v,Cb.map]
section
variable {O:Db}
theorem aOS(h:Aa)(f:Nat)(args:List AV):shC O h f args=if(ap3 args||O.md f)=true then shK h (O.call (.sh f) args (Gp h))else cr (Bg O (hf h) h.length (.fn f) args):=aoC rfl rfl
end
theorem aLN(b r o:Nat)(l:List AV):ap3 (.ptr b r o::l)=false:=aoC rfl rfl
theorem aO5(b:Nat)(l:List AV):ap3 (.yl b::l)=true:=aoC rfl rfl
theorem aL3:Gp []=[]:=aoC rfl rfl
theorem aG9(c:CB)(h:Aa):Gp (c::h)=c.clean::Gp h:=aoC rfl rfl
theorem aL0(h h':Aa):Gp (h++h')=Gp h++Gp h':=List.map_append
theorem aLZ(h:Aa)(b:Nat):(Gp h)[b]?=(h[b]?).map CB.clean:=by simp[Gp]
theorem aOF(ps:List Nat)(a b:Code)(t:List AV)(st:Gt):CB.clean (.lp ps a b t st)=.lp ps a b t st:=aoC rfl rfl
def Ao(h:Aa):Bool:=h.all fun c=>c.quiet c.clean
theorem ayI:∀{h:Aa} (_:Ao h=true) (i:Nat) (l:Aa),Bo i h (Gp h++l)=some (Fa (i+h.length) l)
 | [],_,i,l=>by simp[Gp,Bo]
 |c::h,hq,i,l=>by
  simp only[Ao,List.all_cons,at6]at hq
  have ih:=ayI (h:=h) hq.2 (i+1) l
  simp only[Gp,List.map_cons,aAS,Bo,hq.1,cond_true]at ih ⊢
  rw[ih,aAT]
  congr 2;omega
theorem asB:∀(cs:List CB) (i:Nat) (h:Aa),Bc h (Fa i cs)=h++cs
 | [],i,h=>by simp[Fa,Bc]
 |c::cs,i,h=>by simp[Fa,Bc,Jc,asB cs]
theorem atS(h:Aa)(o:Cb)(h':Aa):shK h (some (o,h'))=(Bo 0 h h').map fun es=>(o,es):=aoC rfl rfl
def EVo:=PLift.up (an9 @aKF (an9 @aMJ (an9 @aNU (an9 @aHD (an9 @aJJ (an9 @aKO @aK1))))))
def EVn:=PLift.up (an9 @az5 @aBI)
def EVp:=PLift.up (an9 @aOS (an9 @aLN (an9 @aO5 (an9 @aL3 (an9 @aG9 (an9 @aL0 (an9 @aLZ @aOF)))))))
end
noncomputable section
def Jf:CB→Option (Nat × Bool × List (List AV))
 | .live st fl _ rows=>some (st,fl,rows)
 | .frz st fl rows=>some (st,fl,rows)
 |_=>none
end
noncomputable section
open Go.RowKit
section
variable {P:Program} {O:Db} {pr:Ht}
def fnS(P:Program)(rs:List ResultVar)(x:R):Option (Cb × Aa):=
 match x with
 |some (.normal,s)|some (.ret,s)=>(Jt P s rs).map fun vs=>(.ret (Jm vs),s.h)
 |some (.pan v,s)=>some (.pan v,s.h)
 |_=>none
theorem aJG{f:Nat}{fn:Func}(hf:P.funcs[f]?=some fn){c:Code}(hb:fn.body=some c){args:List AV}(hl:args.length≤fn.ntmps)(h:Aa):
 evS O P f args h=fnS P fn.results.toList (Az O P Gg c [] ⟨mk fn.ntmps (ent args),h⟩):=by
 unfold evS
 simp only[hf,hb]
 rw[aEW _ _ hl]
 cases Az O P Gg c [] ⟨mk fn.ntmps (ent args),h⟩with
 |none=>rfl
 |some x=>
  obtain⟨e,s⟩:=x
  cases e<;>rfl
def FnS(P:Program)(rs:List ResultVar)(Q:Cb→Aa→Prop)(x:R):Prop:=∃o h,fnS P rs x=some (o,h)∧Q o h
def RtS(vs:Option (List AV))(h:Aa)(Q:Cb→Aa→Prop):Prop:=
 match vs with
 |some vs=>Q (.ret (Jm vs)) h
 |none=>False
theorem axF(rs:List ResultVar)(Q:Cb→Aa→Prop)(t:List AV)(h:Aa):FnS P rs Q (some (.ret,⟨t,h⟩))=RtS (Jt P ⟨t,h⟩ rs) h Q:=by
 cases hr:Jt P ⟨t,h⟩ rs with
 |none=>simp[FnS,fnS,RtS,hr]
 |some vs=>
  have e:fnS P rs (some (.ret,⟨t,h⟩))=some (.ret (Jm vs),h):=by simp[fnS,hr]
  exact propext (Iff.intro (fun⟨o,h',e',q⟩=>by rw[e]at e';cases e';exact q) (fun q=>⟨_,_,e,q⟩))
theorem Ja(rs:List ResultVar)(Q:Cb→Aa→Prop)(t:List AV)(h:Aa):FnS P rs Q (some (.normal,⟨t,h⟩))=RtS (Jt P ⟨t,h⟩ rs) h Q:=by
 rw[←axF];rfl
theorem aA0(vs:List AV)(h:Aa)(Q:Cb→Aa→Prop):RtS (some vs) h Q=Q (.ret (Jm vs)) h:=aoC rfl rfl
theorem aCK{rs:List ResultVar}{Q:Cb→Aa→Prop}:¬FnS P rs Q none:=fun⟨_,_,h,_⟩=>by simp[fnS]at h
def ShQ(O:Db)(f:Nat)(args:List AV)(h:Aa)(Q:Cb→Aa→Prop):Prop:=∃o h',O.call (.sh f) args h=some (o,h')∧Q o h'
theorem ShQ.start{f:Nat}{fn:Func}{c:Code}{args:List AV}{h:Aa}{Q:Cb→Aa→Prop}(hp:pr f=none)(hf:P.funcs[f]?=some fn)(hb:fn.body=some c)(hl:Nat.ble args.length fn.ntmps=true)
 (he:FnS P fn.results.toList Q (Az (om P pr) P 5000 c [] ⟨mk fn.ntmps (ent args),h⟩)):ShQ (om P pr) f args h Q:=by
 obtain⟨o,h',e,q⟩:=he
 exact⟨o,h',aJB hp ((aJG hf hb (Nat.le_of_ble_eq_true hl) h).trans e),q⟩
theorem ShQ.eq{f:Nat}{args:List AV}{h:Aa}{o:Cb}{h':Aa}(k:ShQ O f args h fun o1 h1=>(o1,h1)=(o,h')):O.call (.sh f) args h=some (o,h'):=by
 obtain⟨o1,h1,e,q⟩:=k
 rw[e,q]
def ncK(x:Option AV):OE:=
 match x with
 |some (.ptr b r o)=>some (.ret (.ptr b r o),[])
 |some (.iptr cs)=>some (.ret (.iptr cs),[])
 |some (.func (.func f) a c)=>some (.ret (.func (.func f) a c),[])
 |_=>none
theorem aKB(b r o:Nat):ncK (some (.ptr b r o))=some (.ret (.ptr b r o),[]):=aoC rfl rfl
theorem aN4(t:List AV)(h:Aa)(x:Operand):Cd O P t h (.nilCheck x)=ncK (Ac t x):=by
 rw[Bl _ _ _ rfl]
 simp only[exec,ncK]
 cases Ac t x with
 |none=>rfl
 |some v=>
  cases v with
  |func fn a c=>cases fn<;>rfl
  |_=>rfl
end
def EVq:=PLift.up (an9 @axF (an9 @Ja (an9 @aA0 (an9 @aKB @aN4))))
end
noncomputable section
open Go.RowKit
section
variable {P:Program} {O:Db}
end
section
variable {P:Program} (ty:TypeId)
end
theorem atC{α:Type}{f:α→Option α}:∀{l:List α},(∀x∈l,f x=some x)→Ax f l=some l
 | [],_=>rfl
 |a::l,h=>by simp only[Ax,h a (arW ..),aoD,atC (fun x hx=>h x (ar8 _ hx)),awB]
end
noncomputable section
open Go.RowKit
section
variable {P:Program} {O:Db} {pr:Ht}
def rnX(O:Db)(P:Program)(n:Nat)(k:List Ah)(t:List AV)(b:Nat)(h2:Aa)(x:Option CB):R:=
 match x with
 |some (.lp _ _ _ _ .ready)=>Aw (Az O P n) k .normal ⟨t,h2.set b .dead⟩
 |some (.lp _ _ _ _ (.done .ret))=>Aw (Az O P n) k .ret ⟨t,h2.set b .dead⟩
 |some (.lp _ _ _ _ (.done (.exit i)))=>Aw (Az O P n) k (.exit i) ⟨t,h2.set b .dead⟩
 |_=>none
def rnE(O:Db)(P:Program)(n:Nat)(k:List Ah)(t:List AV)(b:Nat)(h1:Aa)(x:OE):R:=
 match x with
 |some (.ret _,es)=>rnX O P n k t b (Bc h1 es) ((Bc h1 es)[b]?)
 |_=>none
def rnC(O:Db)(h1:Aa)(b:Nat)(fv:Option AV):OE:=
 match fv with
 |some (.func (.func g) a c)=>cr (Bz O (hf h1) h1.length (Ko g (a++[.yl b]++c)) (a++[.yl b]++c))
 |_=>none
theorem aOT(n:Nat)(k:List Ah)(t:List AV)(b:Nat)(h1:Aa)(x:Option Gk):
 (x.bind fun d=>match d.out with
   | .ret _=>
     let h2:=Bc h1 d.es
     match h2[b]? with
     |some (.lp _ _ _ _ .ready)=>Aw (Az O P n) k .normal ⟨t,h2.set b .dead⟩
     |some (.lp _ _ _ _ (.done .ret))=>Aw (Az O P n) k .ret ⟨t,h2.set b .dead⟩
     |some (.lp _ _ _ _ (.done (.exit i)))=>Aw (Az O P n) k (.exit i) ⟨t,h2.set b .dead⟩
     |_=>none
   | .pan _=>none)=rnE O P n k t b h1 (cr x):=by
 cases x with
 |none=>rfl
 |some d=>
  obtain⟨o,es,fs⟩:=d
  cases o<;>rfl
theorem aME(n:Nat)(f:Operand)(ps:Array Nat)(asg body:Code)(k:List Ah)(t:List AV)(h:Aa):
 Az O P (n+1) (.rangeFunc f ps asg body) k ⟨t,h⟩=rnE O P n k t h.length (h++[.lp ps.toList asg body t .ready]) (rnC O (h++[.lp ps.toList asg body t .ready]) h.length (Ac t f)):=by
 simp only[Az,rnC]
 cases Ac t f with
 |none=>rfl
 |some v=>
  simp only[aoD]
  cases v with
  |func fn a c=>
   cases fn with
   |func g=>exact aOT n k t h.length _ _
   |_=>rfl
  |_=>rfl
theorem aLO(h1:Aa)(b g:Nat)(a c:List AV):rnC O h1 b (some (.func (.func g) a c))=if hdR (a++[.yl b]++c)=true then shC O h1 g (a++[.yl b]++c)else cr (Bg O (hf h1) h1.length (.fn g) (a++[.yl b]++c)):=aCU h1 g _
theorem aG1(n:Nat)(k:List Ah)(t:List AV)(b:Nat)(h1:Aa)(v:AV)(es:List Ab):rnE O P n k t b h1 (some (.ret v,es))=rnX O P n k t b (Bc h1 es) ((Bc h1 es)[b]?):=aoC rfl rfl
theorem ay9(n:Nat)(k:List Ah)(t:List AV)(b:Nat)(h2:Aa)(ps:List Nat)(asg body:Code)(tm:List AV):rnX O P n k t b h2 (some (.lp ps asg body tm .ready))=Aw (Az O P n) k .normal ⟨t,h2.set b .dead⟩:=aoC rfl rfl
def slK(h:Aa)(b:Nat)(ok:Gt→Bool)(st:Gt)(x:Option CB):Option Aa:=
 match x with
 |some (.lp ps asg body tmps st')=>if ok st' then some (h.set b (.lp ps asg body tmps st))else none
 |_=>none
theorem aOD(h:Aa)(b:Nat)(ok:Gt→Bool)(st:Gt):Ij h b ok st=slK h b ok st (h[b]?):=by
 unfold Ij slK
 cases h[b]? with
 |none=>rfl
 |some c=>cases c<;>rfl
theorem aDD(h:Aa)(b:Nat)(st:Gt)(ps:List Nat)(asg body:Code)(tm:List AV):slK h b Gt.isReady st (some (.lp ps asg body tm .ready))=some (h.set b (.lp ps asg body tm st)):=aoC rfl rfl
theorem aGK(h:Aa)(b:Nat)(st:Gt)(ps:List Nat)(asg body:Code)(tm:List AV):slK h b Gt.isBusy st (some (.lp ps asg body tm .busy))=some (h.set b (.lp ps asg body tm st)):=aoC rfl rfl
def aG3(O:Db)(P:Program)(body:Code)(t:List AV)(x:Option Aa):R:=
 match x with
 |some h1=>Az O P 5000 body [] ⟨t,h1⟩
 |none=>none
def aDN(O:Db)(P:Program)(b:Nat)(body:Code)(x:R):R:=
 match x with
 |some (.normal,s)=>aG3 O P body s.tmps (Ij s.h b Gt.isReady .busy)
 |_=>none
def auQ(r:Bool)(x:Option Aa):Option (Cb × Aa):=x.map fun h2=>(.ret (.bool r),h2)
def azD(b:Nat)(x:R):Option (Cb × Aa):=
 match x with
 |some (.normal,s)=>auQ true (Ij s.h b Gt.isBusy .ready)
 |some (.ret,s)=>auQ false (Ij s.h b Gt.isBusy (.done .ret))
 |some (.exit i,s)=>auQ false (Ij s.h b Gt.isBusy (.done (.exit i)))
 |_=>none
theorem aAJ(body:Code)(t:List AV)(h:Aa):aG3 O P body t (some h)=Az O P 5000 body [] ⟨t,h⟩:=aoC rfl rfl
theorem au9(b:Nat)(body:Code)(t:List AV)(h:Aa):aDN O P b body (some (.normal,⟨t,h⟩))=aG3 O P body t (Ij h b Gt.isReady .busy):=aoC rfl rfl
theorem azF(r:Bool)(h:Aa):auQ r (some h)=some (.ret (.bool r),h):=aoC rfl rfl
theorem aBO{vs:List AV}{b:Nat}{h:Aa}{ps:List Nat}{asg body:Code}{tm:List AV}{st:Gt}(hb:h[b]?=some (.lp ps asg body tm st))(hl:ps.length=vs.length):
 He O P (vs++[.yl b]) h=azD b (aDN O P b body (Az O P 5000 asg [] ⟨Ip tm ps vs,h⟩)):=by
 unfold He
 simp only[List.reverse_append,List.reverse_cons,List.reverse_nil,awW,aAS,List.reverse_reverse,List.length_reverse,hb,hl,if_true,Gg]
 cases Az O P 5000 asg [] ⟨Ip tm ps vs,h⟩with
 |none=>rfl
 |some x=>
  obtain⟨e,s⟩:=x
  cases e with
  |normal=>
   simp only[aoD,aDN]
   cases Ij s.h b Gt.isReady .busy with
   |none=>rfl
   |some h1=>
    simp only[aoD,aG3]
    cases Az O P 5000 body [] ⟨s.tmps,h1⟩with
    |none=>rfl
    |some y=>
     obtain⟨e,s⟩:=y
     cases e with
     |normal=>simp only[aoD,Ie,azD,auQ];cases Ij s.h b Gt.isBusy .ready<;>rfl
     |ret=>simp only[aoD,Ie,azD,auQ];cases Ij s.h b Gt.isBusy (.done .ret)<;>rfl
     |exit i=>simp only[aoD,Ie,azD,auQ];cases Ij s.h b Gt.isBusy (.done (.exit i))<;>rfl
     |pan v=>rfl
  |_=>rfl
def RnE(b:Nat)(Q:Cb→Aa→Prop)(x:R):Prop:=∃o h',azD b x=some (o,h')∧Q o h'
def RnQ(O:Db)(args:List AV)(h:Aa)(Q:Cb→Aa→Prop):Prop:=∃o h',O.call .round args h=some (o,h')∧Q o h'
theorem RnQ.start{vs:List AV}{b:Nat}{h:Aa}{ps:List Nat}{asg body:Code}{tm:List AV}{st:Gt}{Q:Cb→Aa→Prop}(hb:h[b]?=some (.lp ps asg body tm st))(hl:ps.length=vs.length)
 (he:RnE b Q (aDN (om P pr) P b body (Az (om P pr) P 5000 asg [] ⟨Ip tm ps vs,h⟩))):RnQ (om P pr) (vs++[.yl b]) h Q:=by
 obtain⟨o,h',e,q⟩:=he
 exact⟨o,h',atY ((aBO hb hl).trans e),q⟩
theorem aKC{C:R→Prop}{n f b:Nat}{k:List Ah}{t:List AV}{h1 h2:Aa}{args:List AV}{Q:Cb→Aa→Prop}(hq:ShQ O f args h2 Q)(hk:∀o h',Q o h'→C (rnE O P n k t b h1 (shK h1 (some (o,h'))))):C (rnE O P n k t b h1 (shK h1 (O.call (.sh f) args h2))):=by
 obtain⟨o,h',e,q⟩:=hq
 rw[e];exact hk o h' q
theorem ayT(b:Nat)(Q:Cb→Aa→Prop)(t:List AV)(h:Aa):RnE b Q (some (.normal,⟨t,h⟩))=∃o h',auQ true (Ij h b Gt.isBusy .ready)=some (o,h')∧Q o h':=aoC rfl rfl
theorem aDJ{b:Nat}{Q:Cb→Aa→Prop}:¬RnE b Q none:=fun⟨_,_,h,_⟩=>by simp[azD]at h
theorem aF7(n:Nat)(t:Tm)(p:Nat)(ps:List Nat)(v:AV)(vs:List AV):Ip (mk n t) (p::ps) (v::vs)=Ip (mk n (up t p v)) ps vs:=by
 simp only[Ip,aEU]
theorem aLF(n:Nat)(t:Tm)(vs:List AV):Ip (mk n t) [] vs=mk n t:=by cases vs<;>rfl
end
section
variable {P:Program} {O:Db}
end
def EVs:=PLift.up (an9 @aME (an9 @aLO (an9 @aG1 (an9 @ay9 (an9 @aOD (an9 @aDD (an9 @aGK (an9 @aAJ (an9 @au9 (an9 @azF (an9 @ayT (an9 @aF7 @aLF))))))))))))
end
noncomputable section
open Go.RowKit
set_option maxRecDepth 100000
def EVZ:=PLift.up (an9 EVa.down (an9 EVb.down (an9 EVc.down (an9 EVd.down (an9 EVe.down (an9 EVf.down (an9 EVg.down (an9 EVh.down (an9 EVi.down (an9 EVj.down (an9 EVk.down (an9 EVl.down (an9 EVm.down (an9 EVn.down (an9 EVo.down (an9 EVp.down EVq.down))))))))))))))))
section
variable {P:Program} {O:Db}
class NoN(C:R→Prop):Prop where
 no:¬C none
instance{q:Nat}{rs:List ResultVar}{Q:Cb→Aa→Prop}:NoN (FnE P q rs Q):=⟨aCB⟩
instance{rs:List ResultVar}{Q:Cb→Aa→Prop}:NoN (FnS P rs Q):=⟨aCK⟩
instance{N:Nat}{J:Tm→Aa→Prop}{Q:Ex→St→Prop}:NoN (Rnd N J Q):=⟨aD4⟩
instance{b:Nat}{Q:Cb→Aa→Prop}:NoN (RnE b Q):=⟨aDJ⟩
end
end
noncomputable section
open Go.RowKit
set_option maxRecDepth 100000
section
variable {P:Program} {O:Db}
class Spl(r:R)(b:outParam Bool)(x y:outParam R):Prop where
 sp:∀{C:R→Prop},(b=true→C x)→(b=false→C y)→C r
instance{n:Nat}{k:List Ah}{d:Option Nat}{op:Op}{cs:List CO}{b w:Bool}{t:List AV}{h:Aa}:Spl (rcG O P n k d op cs (.bool b) w t h) b (rcG O P n k d op cs (.bool true) w t h) (rcG O P n k d op cs (.bool false) w t h):=⟨aO9⟩
instance{n:Nat}{x y:Code}{k:List Ah}{g:Bool}{s:St}:Spl (cdK O P n x y k (some (.bool g)) s) g (Az O P n x k s) (Az O P n y k s):=⟨aOH⟩
instance{n:Nat}{k:List Ah}{d:Option Nat}{op:Op}{cs:List CO}{b w:Bool}{t:List AV}{h:Aa}:Spl (rqG O P n k d op cs (.bool b) w t h) b (rqG O P n k d op cs (.bool true) w t h) (rqG O P n k d op cs (.bool false) w t h):=⟨aN7⟩
instance{n:Nat}{k:List Ah}{d:Option Nat}{op:Op}{cs:List CO}{b w:Bool}{t:List AV}{h:Aa}:Spl (rwG O P n k d op cs (.bool b) w t h) b (rwG O P n k d op cs (.bool true) w t h) (rwG O P n k d op cs (.bool false) w t h):=⟨aM1⟩
instance{n:Nat}{k:List Ah}{ops:List Oper}{d:Option Nat}{op:Op}{cs:List CO}{b w:Bool}{t:List AV}{h:Aa}{log:Of}:Spl (rlG O P n k ops d op cs (.bool b) w t h log) b (rlG O P n k ops d op cs (.bool true) w t h log) (rlG O P n k ops d op cs (.bool false) w t h log):=⟨aNY⟩
theorem Dp{C:R→Prop}{r x y:R}{b:Bool}(h1:b=true→C x)(h2:b=false→C y)(s:Spl r b x y:=by infer_instance):C r:=s.sp h1 h2
class Drw(i:Nat)(r:R)(c:outParam Bool)(r':outParam R):Prop where
 dr:∀{C:R→Prop},¬C none→c=true→C r'→C r
instance{b:Bool}{k:R}:Drw 0 (Ei b k) b k:=⟨fun _=>aO1⟩
instance{n id:Nat}{ops:Array Oper}{k:List Ah}{t:List AV}{h:Aa}:Drw 1 (Az O P (n+1) (.region id ops true) k ⟨t,h⟩) (Hu ops.toList&&axU ops.toList) (rw O P n k (ops.toList.map (Ef ops.toList)) t h):=⟨fun h=>aPC h⟩
instance{n id:Nat}{ops:Array Oper}{k:List Ah}{t:List AV}{h:Aa}:Drw 2 (Az O P (n+1) (.region id ops true) k ⟨t,h⟩) (Hu ops.toList&&aNP ops.toList) (rq O P n k (ops.toList.map (Ef ops.toList)) t h):=⟨fun h=>aNQ h⟩
instance{n id:Nat}{ops:Array Oper}{k:List Ah}{t:List AV}{h:Aa}:Drw 3 (Az O P (n+1) (.region id ops true) k ⟨t,h⟩) (Hu ops.toList) (rl O P n k ops.toList (ops.toList.map (Ef ops.toList)) t h []):=⟨fun h=>aM5 h⟩
structure Dw(r r':R):Prop where
 dr:∀{C:R→Prop},¬C none→C r'→C r
theorem dg{r r':R}{c:Bool}[d:Drw 0 r c r'](h:c=true:=by kernel_rfl):Dw r r':=⟨fun n k=>d.dr n h k⟩
theorem dw(i:Nat){r r':R}{c:Bool}[d:Drw i r c r'](h:c=true:=by decide+kernel):Dw r r':=⟨fun n k=>d.dr n h k⟩
theorem fd{C:R→Prop}{r r':R}[n:NoN C](k:C r')(e:Dw r r':=by first|exact dg|exact dw 1|exact dw 2|exact dw 3):C r:=e.dr n.no k
theorem fdl{C:R→Prop}{r r':R}[n:NoN C](k:C r')(e:Dw r r':=by first|exact dg|exact dw 1|exact dw 3):C r:=e.dr n.no k
end
section
variable {P:Program} {O:Db}
def Un(O:Db)(P:Program)(n:Nat)(k:List Ah)(c:Code)(C:R→Prop):R→Prop
 |some (.normal,s)=>C (lpK O P n k (O.loop c s))
 |some (e,s)=>C (Aw (Az O P n) k e s)
 |none=>False
instance{n:Nat}{k:List Ah}{c:Code}{C:R→Prop}:NoN (Un O P n k c C):=⟨fun h=>h⟩
theorem aNR{pr:Ht}{C:R→Prop}[N:NoN C]{n:Nat}{k:List Ah}{c:Code}{s:St}(h:Un (om P pr) P n k c C (Az (om P pr) P 5000 c [] s)):C (lpK (om P pr) P n k ((om P pr).loop c s)):=by
 cases hm:Az (om P pr) P 5000 c [] s with
 |none=>rw[hm]at h;exact h.elim
 |some x=>
  obtain⟨e,s'⟩:=x
  rw[hm]at h
  cases e with
  |normal=>
   replace h:C (lpK (om P pr) P n k ((om P pr).loop c s')):=h
   cases hl:(om P pr).loop c s' with
   |none=>rw[hl]at h;exact(N.no h).elim
   |some y=>
    obtain⟨e,s''⟩:=y
    rw[hl]at h
    rw[Nc hm hl];exact h
  |exit i=>rw[Dv hm (by simp)];exact h
  |ret=>rw[Dv hm (by simp)];exact h
  |pan v=>rw[Dv hm (by simp)];exact h
end
theorem aBC:IntKind.i64.wrap 1=1:=aoC rfl rfl
def EE:=PLift.up (an9 EVZ.down (an9 @aBC (an9 @Ef.eq_1 (an9 @Ac.eq_1 (an9 @Ac.eq_2 (an9 @Ac.eq_4 (an9 @Ar.eq_1 (an9 @Ar.eq_2 (an9 @asJ.eq_3 (an9 @ahG.eq_1 (an9 @ahG.eq_2 (an9 @ahG.eq_4 (an9 @ahG.eq_5 (an9 @ahG.eq_6 (an9 @Bc.eq_1 (an9 @Bc.eq_2 (an9 @Jc.eq_1 (an9 @Jc.eq_2 (an9 @Jc.eq_3 (an9 @Gj.eq_1 (an9 @Ba.eq_1 (an9 @bsK.eq_1 (an9 @Jm.eq_1 (an9 @Jm.eq_2 (an9 @decide_true @decide_false)))))))))))))))))))))))))
def EF:=PLift.up (an9 EE.down EE.down)
def EG:=PLift.up (an9 EF.down EVs.down)
end
noncomputable section
open Go.RowKit
end
end Go.Ev
namespace Go.Ev
open Go.RowKit
structure Kp(lent:List Nat)(H H1:Aa):Prop where
 len:H.length≤H1.length
 rows:∀b,b<H.length→(hf H1 b).bind Jf=(hf H b).bind Jf
 same:∀b,b<H.length→b∉lent→H1[b]?=H[b]?
end Go.Ev
namespace Go.Ev
noncomputable section
open Go.RowKit
theorem Bw{C:R→Prop}[n:NoN C]{r:R}(h:∀K:R→Prop,NoN K→(∀x,C x→K x)→K r):C r:=h C n fun _ h=>h
end
noncomputable section
open Go.RowKit
section
variable {P:Program} {O:Db}
def slx(P:Program)(ty:TypeId)(a:Option AV)(l h:Option (Option AV)):OE:=r1 (a.bind fun a=>l.bind fun l=>h.bind fun h=>aqQ P ty a l h)
theorem aES(t:List AV)(h:Aa)(ty:TypeId)(x:Operand)(lo hi:Option Operand):Cd O P t h (.slice ty x lo hi none)=slx P ty (Ac t x) (aoW t lo) (aoW t hi):=by
 rw[Bl _ _ _ rfl]
 simp only[exec,slx]
 cases Ac t x with
 |none=>rfl
 |some a=>
  cases aoW t lo with
  |none=>rfl
  |some l=>
   cases aoW t hi with
   |none=>rfl
   |some h=>exact Eh _
def oS(x:Option AV):Option (Option AV):=x.map some
theorem aIF(v:AV):oS (some v)=some (some v):=aoC rfl rfl
theorem azG(t:List AV):aoW t none=some none:=aoC rfl rfl
theorem azA(t:List AV)(x:Operand):aoW t (some x)=oS (Ac t x):=aoC rfl rfl
end
end
noncomputable section
set_option maxRecDepth 100000
section
variable {P:Program} {G:Nat→Option Obj}
end
section
variable {P:Program}
end
def EVu:=PLift.up (an9 @aES (an9 @azG (an9 @azA @aIF)))
end
noncomputable section
section
variable {α:Type}
end
end
section
def It:Aa→Aa→Aa
 | [],h'=>h'
 |c₀::h,[]=>c₀::h
 |c₀::h,c::h'=>(bif c₀.quiet c then c₀ else c.mark)::It h h'
def awL(h h':Aa):Prop:=h.length≤h'.length∧∀(i:Nat) (c₀ c:CB),h[i]?=some c₀→h'[i]?=some c→c₀.quiet c=true∨c₀.isLive=true
theorem anV:∀(h h' pre:Aa),awL h h'→∃es,Bo pre.length h h'=some es∧Bc (pre++h) es=pre++It h h'
 | [],h',pre,_=>⟨_,rfl,by simp[asB,It]⟩
 |c₀::h,[],pre,ok=>by simp[awL]at ok
 |c₀::h,c::h',pre,ok=>by
  have ok':awL h h':=⟨by simpa using ok.1,fun i a b h1 h2=>ok.2 (i+1) a b (by simpa using h1) (by simpa using h2)⟩
  cases hq:c₀.quiet c with
  |true=>
   obtain⟨es,e1,e2⟩:=anV h h' (pre++[c₀]) ok'
   refine⟨es,?_,?_⟩
   ·simp only[Bo,hq,cond_true]
    simpa using e1
   ·simpa [It,hq]using e2
  |false=>
   have hl:c₀.isLive=true:=by
    rcases ok.2 0 c₀ c rfl rfl with h|h
    ·rw[hq]at h;cases h
    ·exact h
   obtain⟨es,e1,e2⟩:=anV h h' (pre++[c.mark]) ok'
   refine⟨.put pre.length c.mark::es,?_,?_⟩
   ·simp only[Bo,hq,hl,cond_false,cond_true]
    simp only[List.length_append,aAT,List.length_nil]at e1
    rw[e1];rfl
   ·simp only[Bc,Jc,It,hq,cond_false]
    have:(pre++c₀::h).set pre.length c.mark=(pre++[c.mark])++h:=by simp
    rw[this,e2];simp
theorem amA:∀{h h':Aa},h.length≤h'.length→(It h h').length=h'.length
 | [],h',_=>rfl
 |c₀::h,[],hl=>by simp at hl
 |c₀::h,c::h',hl=>by simp[It,amA (h:=h) (h':=h') (by simpa using hl)]
theorem Lj:∀{h h':Aa} {i:Nat} {c₀ c:CB},h[i]?=some c₀→h'[i]?=some c→c₀.quiet c=true→(It h h')[i]?=some c₀
 | [],h',i,c₀,c,h1,_,_=>by simp at h1
 |a::h,[],i,c₀,c,_,h2,_=>by simp at h2
 |a::h,b::h',0,c₀,c,h1,h2,hq=>by
  simp at h1 h2;subst h1 h2;simp[It,hq]
 |a::h,b::h',i+1,c₀,c,h1,h2,hq=>by
  simp at h1 h2;simpa [It]using Lj h1 h2 hq
theorem anZ:∀{h h':Aa} {i:Nat} {c₀ c:CB},h[i]?=some c₀→h'[i]?=some c→c₀.quiet c=false→(It h h')[i]?=some c.mark
 | [],h',i,c₀,c,h1,_,_=>by simp at h1
 |a::h,[],i,c₀,c,_,h2,_=>by simp at h2
 |a::h,b::h',0,c₀,c,h1,h2,hq=>by
  simp at h1 h2;subst h1 h2;simp[It,hq]
 |a::h,b::h',i+1,c₀,c,h1,h2,hq=>by
  simp at h1 h2;simpa [It]using anZ h1 h2 hq
theorem aqB:∀{h h':Aa} {i:Nat},h.length≤h'.length→h.length≤i→(It h h')[i]?=h'[i]?
 | [],h',i,_,_=>rfl
 |a::h,[],i,hl,_=>by simp at hl
 |a::h,b::h',0,_,hi=>by simp at hi
 |a::h,b::h',i+1,hl,hi=>by
  simpa [It]using aqB (h:=h) (h':=h') (i:=i) (by simpa using hl) (by simpa using hi)
theorem Es{h:Aa}{i:Nat}{c:CB}(hc:h[i]?=some c):(Gp h)[i]?=some c.clean:=by simp[Gp,hc]
theorem Cf(h:Aa):(Gp h).length=h.length:=by simp[Gp]
theorem axB(c:CB):Jf c.clean=Jf c:=by cases c<;>rfl
theorem aAR(c:CB):Jf c.mark=Jf c:=by cases c<;>rfl
theorem atT{O:Db}{H:Aa}{f:Nat}{args:List AV}{Q:Cb→Aa→Prop}(hd:hdR args=true)(hm:O.md f=true)(K:ShQ O f args (Gp H) Q)(ok:∀o G,Q o G→awL H G):
 ∃o G es,cl O H (some (.func (.func f) [] [])) (some args)=some (o,es)∧Bc H es=It H G∧Q o G:=by
 obtain⟨o,G,hc,hq⟩:=K
 obtain⟨es,e1,e2⟩:=anV H G [] (ok o G hq)
 refine⟨o,G,es,?_,by simpa using e2,hq⟩
 rw[aET]
 simp only[awW,aAU,hd,if_true,shC,hm,Bool.or_true,hc]
 rw[atS]
 have e1':Bo 0 H G=some es:=e1
 rw[e1'];rfl
structure aoN(X:List Nat)(H H1:Aa):Prop where
 len:H.length≤H1.length
 same:∀b,b<H.length→b∉X→H1[b]?=H[b]?
theorem aoN.app(H l:Aa):aoN [] H (H++l):=⟨by simp,fun b hb _=>List.getElem?_append_left hb⟩
end
noncomputable section
open Go.RowKit
theorem aF5{O:Db}{H:Aa}{f:Nat}{args:List AV}{o:Cb}{l:Aa}(hd:hdR args=true)(hm:O.md f=true)(hc:O.call (.sh f) args (Gp H)=some (o,Gp H++l))(hq:Ao H=true):
 cl O H (some (.func (.func f) [] [])) (some args)=some (o,Fa H.length l):=by
 rw[aET]
 simp only[awW,aAU,hd,if_true,shC,hm,Bool.or_true,hc]
 rw[atS,ayI hq]
 simp
theorem aGL{O:Db}{H:Aa}{f:Nat}{args:List AV}{o:Cb}(hd:hdR args=true)(hm:O.md f=true)(hc:O.call (.sh f) args (Gp H)=some (o,Gp H))(hq:Ao H=true):
 cl O H (some (.func (.func f) [] [])) (some args)=some (o,[]):=by
 have:=aF5 (l:=[]) hd hm (by simpa using hc) hq
 simpa [Fa]using this
theorem ak7{H:Aa}(h:∀c∈H,c.quiet c.clean=true):Ao H=true:=by simp only[Ao,asO];exact h
theorem Ed{H:Aa}(h:Ao H=true){b:Nat}{c:CB}(hb:H[b]?=some c):c.quiet c.clean=true:=by
 simp only[Ao,asO]at h
 exact h c (axS hb)
theorem Dh{H l:Aa}(h:Ao H=true)(hl:Ao l=true):Ao (H++l)=true:=by
 simp only[Ao,asO,List.mem_append]at h hl ⊢
 exact fun c hc=>hc.elim (h c) (hl c)
theorem Df{H:Aa}(h:Ao H=true)(b:Nat){c:CB}(hc:c.quiet c.clean=true):Ao (H.set b c)=true:=by
 simp only[Ao,asO]at h ⊢
 exact fun x hx=>(List.mem_or_eq_of_mem_set hx).elim (h x) (fun e=>e▸hc)
theorem awA{c:CB}(h:c.quiet c.clean=true):c.clean.quiet c.clean.clean=true:=by cases c<;>first|rfl|exact h
theorem Mc{H:Aa}(h:Ao H=true):Ao (Gp H)=true:=by
 simp only[Ao,Gp,asO,List.mem_map]at h ⊢
 rintro c ⟨c0,h0,rfl⟩
 exact awA (h c0 h0)
theorem arR{c:CB}(h:c.quiet c.clean=true):c.mark.quiet c.mark.clean=true:=by cases c<;>first|rfl|exact h
theorem Gn{H0 G:Aa}{X:List Nat}(hq:Ao H0=true)(K:aoN X (Gp H0) G)(hX:∀b∈X,b<H0.length∧∀c0 c,H0[b]?=some c0→G[b]?=some c→c0.isLive=true∧c0.quiet c=false):
 awL H0 G∧(It H0 G).length=G.length∧(∀b,H0.length≤b→(It H0 G)[b]?=G[b]?)∧(∀b,b<H0.length→b∉X→(It H0 G)[b]?=H0[b]?)∧(∀b∈X,∀c,G[b]?=some c→(It H0 G)[b]?=some c.mark):=by
 have hlen:H0.length≤G.length:=by have:=K.len;rwa[Cf]at this
 have old:∀b c0,H0[b]?=some c0→b∉X→G[b]?=some c0.clean:=fun b c0 h0 hb=>by
  rw[K.same b (by rw[Cf];exact(aAV.1 h0).1) hb,Es h0]
 refine⟨⟨hlen,fun b c0 c h0 h1=>?_⟩,amA hlen,fun b hb=>aqB hlen hb,fun b hb hn=>?_,fun b hb c hc=>?_⟩
 ·by_cases hb:b∈X
  ·exact .inr ((hX b hb).2 c0 c h0 h1).1
  ·rw[old b c0 h0 hb]at h1;cases h1
   exact .inl (Ed hq h0)
 ·obtain⟨c0,h0⟩:∃c,H0[b]?=some c:=⟨_,ax9 hb⟩
  rw[h0];exact Lj h0 (old b c0 h0 hn) (Ed hq h0)
 ·obtain⟨h1,h2⟩:=hX b hb
  obtain⟨c0,h0⟩:∃c,H0[b]?=some c:=⟨_,ax9 h1⟩
  exact anZ h0 hc (h2 c0 c h0 hc).2
theorem adT{H0 G:Aa}{X:List Nat}(hq:Ao H0=true)(K:aoN X (Gp H0) G)(hX:∀b∈X,b<H0.length∧∀c0 c,H0[b]?=some c0→G[b]?=some c→c0.isLive=true∧c0.quiet c=false)(hg:Ao G=true):Ao (It H0 G)=true:=by
 obtain⟨_,k1,k2,k3,k4⟩:=Gn hq K hX
 refine ak7 fun c hc=>?_
 obtain⟨b,hb⟩:=ayD hc
 by_cases h1:b<H0.length
 ·by_cases h2:b∈X
  ·obtain⟨c1,h3⟩:∃c,G[b]?=some c:=⟨_,ax9 (by rw[←k1];exact(aAV.1 hb).1)⟩
   rw[k4 b h2 c1 h3]at hb;cases hb
   exact arR (Ed hg h3)
  ·rw[k3 b h1 h2]at hb;exact Ed hq hb
 ·rw[k2 b (by omega)]at hb;exact Ed hg hb
theorem azT{H0 G:Aa}{X:List Nat}(hq:Ao H0=true)(K:aoN X (Gp H0) G)(hX:∀b∈X,b<H0.length∧∀c0 c,H0[b]?=some c0→G[b]?=some c→c0.isLive=true∧c0.quiet c=false)(b:Nat):(hf (It H0 G) b).bind Jf=(hf G b).bind Jf:=by
 obtain⟨_,k1,k2,k3,k4⟩:=Gn hq K hX
 show((It H0 G)[b]?).bind Jf=(G[b]?).bind Jf
 by_cases h1:b<H0.length
 ·by_cases h2:b∈X
  ·cases h3:G[b]? with
   |none=>rw[List.getElem?_eq_none_iff]at h3;have h4:=K.len;rw[Cf]at h4;omega
   |some c1=>rw[k4 b h2 c1 h3];exact aAR c1
  ·rw[k3 b h1 h2,K.same b (by rw[Cf];exact h1) h2]
   cases h3:H0[b]? with
   |none=>simp[Gp,h3]
   |some c=>rw[Es h3];exact(axB c).symm
 ·rw[k2 b (by omega)]
end
end Go.Ev
namespace Go.Ev
namespace Net
abbrev Edge:=Nat × Nat × Nat
inductive Me(E:List Edge)(s:Nat):Nat→Nat→Nat→Prop
 |nil (n:Nat):Me E s n s 0
 |fwd {n a b c k:Nat} (h:Me E s n a k) (he:(a,b,c)∈E):Me E s (n+1) b (k+c)
 |bwd {n a b c k:Nat} (h:Me E s n b k) (he:(a,b,c)∈E):Me E s (n+1) a (k+c)
def Stp(E:List Edge)(u v c:Nat):Prop:=(u,v,c)∈E∨(v,u,c)∈E
theorem Me.step{E:List Edge}{s n u v k c:Nat}(h:Me E s n u k)(hs:Stp E u v c):Me E s (n+1) v (k+c):=hs.elim (fun e=>.fwd h e) (fun e=>.bwd h e)
theorem Me.cases'{E:List Edge}{s n v k:Nat}(h:Me E s n v k):(v=s∧k=0)∨∃m u j c,n=m+1∧Me E s m u j∧Stp E u v c∧k=j+c:=by
 cases h with
 |nil=>exact .inl ⟨rfl,rfl⟩
 |fwd h he=>exact .inr ⟨_,_,_,_,rfl,h,.inl he,rfl⟩
 |bwd h he=>exact .inr ⟨_,_,_,_,rfl,h,.inr he,rfl⟩
theorem Me.more{E:List Edge}{s n v k:Nat}(h:Me E s n v k):∀{m:Nat},n≤m→Me E s m v k:=by
 induction h with
 |nil n=>exact fun _=>.nil _
 |fwd h he ih=>
  intro m hm
  obtain⟨m,rfl⟩:∃j,m=j+1:=⟨m-1,by omega⟩
  exact .fwd (ih (by omega)) he
 |bwd h he ih=>
  intro m hm
  obtain⟨m,rfl⟩:∃j,m=j+1:=⟨m-1,by omega⟩
  exact .bwd (ih (by omega)) he
def Cst(E:List Edge)(s v k:Nat):Prop:=∃n,Me E s n v k
theorem Cst.step{E:List Edge}{s u v k c:Nat}(h:Cst E s u k)(hs:Stp E u v c):Cst E s v (k+c):=by obtain⟨n,h⟩:=h;exact⟨_,h.step hs⟩
def Lst(E:List Edge)(s v k:Nat):Prop:=Cst E s v k∧∀j,Cst E s v j→k≤j
theorem least{p:Nat→Prop}:(∃n,p n)→∃n,p n∧∀j,p j→n≤j:=fun⟨n,hn⟩=>by
 induction n using Nat.strongRecOn with
 |ind n ih=>
  by_cases h:∃j,j<n∧p j
  ·obtain⟨j,h1,h2⟩:=h;exact ih j h1 h2
  ·exact⟨n,hn,fun j hj=>Nat.le_of_not_lt fun hlt=>h ⟨j,hlt,hj⟩⟩
theorem Lst.ex{E:List Edge}{s v k:Nat}(h:Cst E s v k):∃j,Lst E s v j:=least ⟨k,h⟩
theorem Lst.eq{E:List Edge}{s v k j:Nat}(h1:Lst E s v k)(h2:Lst E s v j):k=j:=Nat.le_antisymm (h1.2 j h2.1) (h2.2 k h1.1)
def Oe(E:List Edge)(s n v:Nat):Prop:=∃k,Lst E s v k∧Me E s n v k
theorem Oe.more{E:List Edge}{s n m v:Nat}(h:Oe E s n v)(hm:n≤m):Oe E s m v:=by obtain⟨k,h1,h2⟩:=h;exact⟨k,h1,h2.more hm⟩
theorem Oe.prev{E:List Edge}{s n v:Nat}(h:Oe E s (n+1) v):v=s∨∃u c k,Oe E s n u∧Lst E s u k∧Stp E u v c∧Lst E s v (k+c):=by
 obtain⟨k,h1,h2⟩:=h
 rcases h2.cases' with⟨h,_⟩|⟨m,u,j,c,hm,hw,hs,rfl⟩
 ·exact .inl h
 ·cases hm
  have hl:Lst E s u j:=⟨⟨_,hw⟩,fun i hi=>by have:=h1.2 _ (hi.step hs);omega⟩
  exact .inr ⟨u,c,j,⟨j,hl,hw⟩,hl,hs,h1⟩
theorem Oe.next{E:List Edge}{s n u v c k:Nat}(h:Oe E s n u)(hu:Lst E s u k)(hs:Stp E u v c)(hv:Lst E s v (k+c)):Oe E s (n+1) v:=by
 obtain⟨j,h1,h2⟩:=h
 cases h1.eq hu
 exact⟨_,hv,h2.step hs⟩
theorem Lst.src{E:List Edge}{s:Nat}:Lst E s s 0:=⟨⟨0,.nil 0⟩,fun j _=>ap8 j⟩
theorem Oe.src{E:List Edge}{s:Nat}(n:Nat):Oe E s n s:=⟨0,Lst.src,.nil n⟩
theorem Oe.stable{E:List Edge}{s n:Nat}(h:∀v,Oe E s (n+1) v→Oe E s n v):∀m v,Oe E s m v→Oe E s n v
 |0,v,hv=>hv.more (ap8 n)
 |m+1,v,hv=>by
  rcases hv.prev with rfl|⟨u,c,k,h1,h2,h3,h4⟩
  ·exact Oe.src n
  ·exact h v ((Oe.stable h m u h1).next h2 h3 h4)
noncomputable def ap0(p:Nat→Prop):Nat→Nat
 |0=>0
 |N+1=>ap0 p N+(@ite Nat (p N) (Classical.propDecidable _) 1 0)
theorem axP(p:Nat→Prop):∀N,ap0 p N≤N
 |0=>ap7 0
 |N+1=>by
  have:=axP p N
  unfold ap0
  split<;>omega
theorem av9{p q:Nat→Prop}(h:∀v,p v→q v):∀N,ap0 p N≤ap0 q N
 |0=>ap7 0
 |N+1=>by
  have:=av9 h N
  unfold ap0
  split
  ·rename_i h1;rw[if_pos (h _ h1)];omega
  ·split<;>omega
theorem awG{p q:Nat→Prop}(h:∀v,p v→q v){v:Nat}(hq:q v)(hp:¬p v):∀{N:Nat},v<N→ap0 p N+1≤ap0 q N
 |0,hv=>by omega
 |N+1,hv=>by
  unfold ap0
  by_cases e:v=N
  ·subst e
   have:=av9 h v
   rw[if_neg hp,if_pos hq];omega
  ·have:=awG h hq hp (N:=N) (by omega)
   split
   ·rename_i h1;rw[if_pos (h _ h1)];omega
   ·split<;>omega
theorem ayH{p:Nat→Prop}{v:Nat}(hp:p v):∀{N:Nat},v<N→1≤ap0 p N
 |0,hv=>by omega
 |N+1,hv=>by
  unfold ap0
  by_cases e:v=N
  ·subst e;rw[if_pos hp];omega
  ·have:=ayH hp (N:=N) (by omega);split<;>omega
theorem aII{E:List Edge}{s N:Nat}(hs:s<N)(hE:∀a b c,(a,b,c)∈E→a<N∧b<N):∀m v,Oe E s m v→Oe E s (N-1) v:=by
 have lt:∀m v,Oe E s m v→v<N:=fun m=>by
  induction m with
  |zero=>
   intro v ⟨k,_,h⟩
   rcases h.cases' with⟨rfl,_⟩|⟨_,_,_,_,h,_⟩
   ·exact hs
   ·cases h
  |succ m ih=>
   intro v hv
   rcases hv.prev with rfl|⟨u,c,k,h1,h2,h3,h4⟩
   ·exact hs
   ·rcases h3 with h3|h3
    ·exact(hE _ _ _ h3).2
    ·exact(hE _ _ _ h3).1
 have grow:∀n,(∃k,k≤n∧∀v,Oe E s (k+1) v→Oe E s k v)∨n+1≤ap0 (Oe E s n) N:=fun n=>by
  induction n with
  |zero=>exact .inr (ayH (Oe.src 0) hs)
  |succ n ih=>
   rcases ih with⟨k,h1,h2⟩|h
   ·exact .inl ⟨k,by omega,h2⟩
   ·by_cases e:∀v,Oe E s (n+1) v→Oe E s n v
    ·exact .inl ⟨n,by omega,e⟩
    ·obtain⟨v,hv⟩:=Classical.not_forall.1 e
     have h1:Oe E s (n+1) v:=Classical.byContradiction fun h=>hv fun h'=>(h h').elim
     have h2:¬Oe E s n v:=fun h=>hv fun _=>h
     have:=awG (p:=Oe E s n) (q:=Oe E s (n+1)) (fun v h=>h.more (Nat.le_succ n)) h1 h2 (lt _ v h1)
     exact .inr (by omega)
 intro m v hv
 rcases grow N with⟨k,h1,h2⟩|h
 ·by_cases e:k≤N-1
  ·exact(Oe.stable h2 m v hv).more e
  ·
   have hk:k=N:=by omega
   rcases grow (N-1)with⟨k',h1',h2'⟩|h'
   ·exact(Oe.stable h2' m v hv).more h1'
   ·exact Classical.byContradiction fun hn=>by
     have:=awG (p:=Oe E s (N-1)) (q:=fun _=>True) (fun _ _=>trivial) trivial hn (lt _ v hv)
     have:=axP (fun _=>True) N
     omega
 ·have:=axP (Oe E s N) N;omega
theorem Lst.lvl{E:List Edge}{s N v k:Nat}(hs:s<N)(hE:∀a b c,(a,b,c)∈E→a<N∧b<N)(h:Lst E s v k):Oe E s (N-1) v:=by
 obtain⟨n,hw⟩:=h.1
 exact aII hs hE n v ⟨k,h,hw⟩
theorem Me.le{E:List Edge}{s n v k:Nat}(hc:∀a b c,(a,b,c)∈E→c≤1)(h:Me E s n v k):k≤n:=by
 induction h with
 |nil=>omega
 |fwd h he ih=>have:=hc _ _ _ he;omega
 |bwd h he ih=>have:=hc _ _ _ he;omega
theorem Lst.le{E:List Edge}{s N v k:Nat}(hs:s<N)(hE:∀a b c,(a,b,c)∈E→a<N∧b<N)(hc:∀a b c,(a,b,c)∈E→c≤1)(h:Lst E s v k):k≤N-1:=by
 obtain⟨j,h1,h2⟩:=h.lvl hs hE
 cases h1.eq h
 exact h2.le hc
def On(E:List Edge)(s N far:Nat)(d:Nat→Nat):Prop:=∀v,v<N→(∀k,Lst E s v k→d v=k)∧((∀k,¬Cst E s v k)→d v=far)
theorem aBA{E:List Edge}{s N far:Nat}{d:Nat→Nat}(h0:d s=0)(hr:∀v,v<N→d v=far∨Cst E s v (d v))(hc:∀u v c,Stp E u v c→d v≤d u+c)(hf:∀v k,Lst E s v k→k<far):On E s N far d:=fun v hv=>by
 have le:∀n v k,Me E s n v k→d v≤k:=fun n v k h=>by
  induction h with
  |nil=>omega
  |fwd h he ih=>have:=hc _ _ _ (.inl he);omega
  |bwd h he ih=>have:=hc _ _ _ (.inr he);omega
 refine⟨fun k hk=>?_,fun h=>?_⟩
 ·obtain⟨n,hn⟩:=hk.1
  have h1:=le n v k hn
  rcases hr v hv with h|h
  ·have:=hf v k hk;omega
  ·have:=hk.2 _ h;omega
 ·rcases hr v hv with h1|h1
  ·exact h1
  ·exact(h _ h1).elim
def Nn(d:List Nat)(e:Edge):List Nat:=(d.set e.2.1 (min (d.getD e.2.1 0) (d.getD e.1 0+e.2.2))).set e.1 (min (d.getD e.1 0) (d.getD e.2.1 0+e.2.2))
def aG8(E:List Edge)(d:List Nat):List Nat:=E.foldl Nn d
def Ju(E:List Edge):Nat→List Nat→List Nat
 |0,d=>d
 |n+1,d=>Ju E n (aG8 E d)
theorem anW(d:List Nat)(e:Edge):(Nn d e).length=d.length:=by simp[Nn]
theorem au6:∀(E:List Edge) (d:List Nat),(E.foldl Nn d).length=d.length
 | [],d=>rfl
 |e::E,d=>by rw[as0,au6 E,anW]
theorem aE6(E:List Edge)(d:List Nat):(aG8 E d).length=d.length:=au6 E d
theorem aqF(E:List Edge):∀n d,(Ju E n d).length=d.length
 |0,d=>rfl
 |n+1,d=>by rw[Ju,aqF E n,aE6]
theorem an5{d:List Nat}{i v x:Nat}(hi:i<d.length):(d.set i x).getD v 0=if i=v then x else d.getD v 0:=by
 simp only[aBG]
 by_cases h:i=v
 ·subst h;rw[List.getElem?_set_self hi,if_pos rfl];rfl
 ·rw[List.getElem?_set_ne h,if_neg h]
theorem atU{d:List Nat}{a b c:Nat}(ha:a<d.length)(hb:b<d.length)(hab:a≠b)(v:Nat):(Nn d (a,b,c)).getD v 0=if v=a then min (d.getD a 0) (d.getD b 0+c)else if v=b then min (d.getD b 0) (d.getD a 0+c)else d.getD v 0:=by
 unfold Nn
 rw[an5 (by simpa using ha),an5 hb]
 by_cases h1:v=a
 ·subst h1;simp
 ·rw[if_neg (fun e=>h1 e.symm),if_neg h1]
  by_cases h2:v=b
  ·subst h2;simp
  ·rw[if_neg (fun e=>h2 e.symm),if_neg h2]
structure aqW(E:List Edge)(s N far:Nat)(d:List Nat):Prop where
 len:d.length=N
 src:d.getD s 0=0
 real:∀v,v<N→d.getD v 0=far∨Cst E s v (d.getD v 0)
 le:∀v,v<N→d.getD v 0≤far
theorem aqW.one{E:List Edge}{s N far:Nat}{d:List Nat}(I:aqW E s N far d){a b c:Nat}(he:(a,b,c)∈E)(ha:a<N)(hb:b<N)(hab:a≠b):aqW E s N far (Nn d (a,b,c)):=by
 have hl:=I.len
 have at_:=fun v=>atU (d:=d) (c:=c) (by omega) (by omega) hab v
 have mn:∀u v,u<N→v<N→Stp E u v c→(min (d.getD v 0) (d.getD u 0+c)=far∨Cst E s v (min (d.getD v 0) (d.getD u 0+c))):=fun u v hu hv hs=>by
  have h1:=I.le v hv
  rcases Nat.le_total (d.getD v 0) (d.getD u 0+c)with h|h
  ·rw[Nat.min_eq_left h];exact I.real v hv
  ·rw[Nat.min_eq_right h]
   rcases I.real u hu with hh|hh
   ·left;omega
   ·exact .inr (hh.step hs)
 refine⟨by rw[anW,hl],?_,fun v hv=>?_,fun v hv=>?_⟩
 ·rw[at_]
  have:=I.src
  split
  ·rename_i h;subst h;rw[this];simp
  ·split
   ·rename_i h;subst h;rw[this];simp
   ·exact this
 ·rw[at_]
  split
  ·rename_i h;subst h;exact mn b v hb hv (.inr he)
  ·split
   ·rename_i h;subst h;exact mn a v ha hv (.inl he)
   ·exact I.real v hv
 ·rw[at_]
  split
  ·rename_i h;subst h;have:=I.le v hv;omega
  ·split
   ·rename_i h;subst h;have:=I.le v hv;omega
   ·exact I.le v hv
def EOk(E:List Edge)(N:Nat):Prop:=∀a b c,(a,b,c)∈E→a<N∧b<N∧a≠b∧c≤1
theorem ayF{d:List Nat}{a b c:Nat}(ha:a<d.length)(hb:b<d.length)(hab:a≠b)(v:Nat):(Nn d (a,b,c)).getD v 0≤d.getD v 0:=by
 rw[atU ha hb hab]
 split
 ·rename_i h;subst h;omega
 ·split
  ·rename_i h;subst h;omega
  ·exact ap7 _
theorem as6:∀{L:List Edge} {d:List Nat} {N:Nat},d.length=N→EOk L N→∀v,(L.foldl Nn d).getD v 0≤d.getD v 0
 | [],d,N,_,_,v=>ap7 _
 |(a,b,c)::L,d,N,hl,hE,v=>by
  have h:=hE a b c (arW ..)
  have h1:=as6 (L:=L) (d:=Nn d (a,b,c)) (by rw[anW,hl]) (fun a b c hm=>hE a b c (ar8 _ hm)) v
  have h2:=ayF (d:=d) (c:=c) (by omega) (by omega) h.2.2.1 v
  rw[as0];omega
theorem axM{E:List Edge}{s N far:Nat}:∀{L:List Edge} {d:List Nat},(∀e∈L,e∈E)→EOk E N→aqW E s N far d→aqW E s N far (L.foldl Nn d)
 | [],d,_,_,I=>I
 |(a,b,c)::L,d,hs,hE,I=>by
  have he:=hs _ (arW ..)
  have h:=hE a b c he
  rw[as0]
  exact axM (L:=L) (fun e hm=>hs e (ar8 _ hm)) hE (I.one he h.1 h.2.1 h.2.2.1)
theorem arE{N:Nat}:∀{L:List Edge} {d:List Nat},d.length=N→EOk L N→∀{u v c k:Nat},(u,v,c)∈L∨(v,u,c)∈L→d.getD u 0≤k→(L.foldl Nn d).getD v 0≤k+c
 | [],d,_,_,u,v,c,k,h,_=>by rcases h with h|h<;>cases h
 |(a,b,e)::L,d,hl,hE,u,v,c,k,h,hk=>by
  have q:=hE a b e (arW ..)
  have hE':EOk L N:=fun a b c hm=>hE a b c (ar8 _ hm)
  have hl':(Nn d (a,b,e)).length=N:=by rw[anW,hl]
  have key:(u=a∧v=b∧c=e)∨(u=b∧v=a∧c=e)∨((u,v,c)∈L∨(v,u,c)∈L):=by
   rcases h with h|h
   ·rcases azU.1 h with h|h
    ·cases h;exact .inl ⟨rfl,rfl,rfl⟩
    ·exact .inr (.inr (.inl h))
   ·rcases azU.1 h with h|h
    ·cases h;exact .inr (.inl ⟨rfl,rfl,rfl⟩)
    ·exact .inr (.inr (.inr h))
  rw[as0]
  have at_:=fun v=>atU (d:=d) (c:=e) (by omega) (by omega) q.2.2.1 v
  rcases key with⟨rfl,rfl,rfl⟩|⟨rfl,rfl,rfl⟩|h
  ·have h1:=as6 hl' hE' v
   rw[at_ v,if_neg (fun e=>q.2.2.1 e.symm),if_pos rfl]at h1
   omega
  ·have h1:=as6 hl' hE' v
   rw[at_ v,if_pos rfl]at h1
   omega
  ·have h2:=ayF (d:=d) (c:=e) (by omega) (by omega) q.2.2.1 u
   exact arE hl' hE' h (by omega)
theorem aqM{E:List Edge}{s N far:Nat}(hE:EOk E N):∀(n:Nat) {d:List Nat},aqW E s N far d→aqW E s N far (Ju E n d)
 |0,d,I=>I
 |n+1,d,I=>aqM hE n (axM (fun _ h=>h) hE I)
theorem anY(E:List Edge):∀(n:Nat) (d:List Nat),Ju E (n+1) d=aG8 E (Ju E n d)
 |0,d=>rfl
 |n+1,d=>by rw[Ju,anY E n];rfl
theorem avO{E:List Edge}{s N far:Nat}(hE:EOk E N){d:List Nat}(I:aqW E s N far d):∀(n:Nat) {v k:Nat},Oe E s n v→Lst E s v k→(Ju E n d).getD v 0≤k
 |0,v,k,⟨j,h1,h2⟩,hk=>by
  rcases h2.cases' with⟨rfl,rfl⟩|⟨_,_,_,_,h,_⟩
  ·rw[Ju,I.src];exact ap8 _
  ·cases h
 |n+1,v,k,hv,hk=>by
  rw[anY]
  have J:=aqM hE n I
  rcases hv.prev with rfl|⟨u,c,j,h1,h2,h3,h4⟩
  ·have K:=aqM hE (n+1) I
   rw[anY]at K
   rw[K.src];exact ap8 _
  ·cases h4.eq hk
   exact arE J.len hE h3 (avO hE I n h1 h2)
theorem awN{E:List Edge}{s N far:Nat}(hs:s<N)(hE:EOk E N)(hf:N≤far){d:List Nat}(I:aqW E s N far d){n:Nat}(hn:N-1≤n):On E s N far (fun v=>(Ju E n d).getD v 0):=fun v hv=>by
 have J:=aqM hE n I
 have hE1:∀a b c,(a,b,c)∈E→a<N∧b<N:=fun a b c h=>⟨(hE a b c h).1,(hE a b c h).2.1⟩
 have hE2:∀a b c,(a,b,c)∈E→c≤1:=fun a b c h=>(hE a b c h).2.2.2
 refine⟨fun k hk=>?_,fun h=>?_⟩
 ·have h1:=avO hE I n ((hk.lvl hs hE1).more hn) hk
  have h2:=hk.le hs hE1 hE2
  rcases J.real v hv with h|h
  ·simp only[h]at h1 ⊢;omega
  ·have:=hk.2 _ h;simp only;omega
 ·rcases J.real v hv with h1|h1
  ·exact h1
  ·exact(h _ h1).elim
end Net
end Go.Ev
namespace Go.Ev
namespace Net
structure DqI(E:List Edge)(s N far:Nat)(d q:List Nat)(X:Nat→Nat→Nat→Prop):Prop where
 i:aqW E s N far d
 w:∀r∈q,r<N
 tr:∀u v c,Stp E u v c→u∈q∨X u v c∨d.getD v 0≤d.getD u 0+c
def Lu(E:List Edge)(r i u v c:Nat):Prop:=u=r∧∃j,i≤j∧(E[j]?=some (r,v,c)∨E[j]?=some (v,r,c))
theorem DqI.take{E:List Edge}{s N far:Nat}{d q:List Nat}{r:Nat}(I:DqI E s N far d (r::q) (fun _ _ _=>False)):r<N∧DqI E s N far d q (Lu E r 0):=by
 refine⟨I.w r (arW ..),I.i,fun u hu=>I.w u (ar8 _ hu),fun u v c h=>?_⟩
 rcases I.tr u v c h with h1|h1|h1
 ·rcases azU.1 h1 with rfl|h1
  ·right;left
   refine⟨rfl,?_⟩
   rcases h with h|h
   ·obtain⟨j,hj⟩:=ayD h;exact⟨j,ap8 j,.inl hj⟩
   ·obtain⟨j,hj⟩:=ayD h;exact⟨j,ap8 j,.inr hj⟩
  ·exact .inl h1
 ·exact h1.elim
 ·exact .inr (.inr h1)
theorem Lu.next{E:List Edge}{r i u v c:Nat}(h:Lu E r i u v c):Lu E r (i+1) u v c∨(u=r∧(E[i]?=some (r,v,c)∨E[i]?=some (v,r,c))):=by
 obtain⟨h1,j,h2,h3⟩:=h
 by_cases e:i=j
 ·subst e;exact .inr ⟨h1,h3⟩
 ·exact .inl ⟨h1,j,by omega,h3⟩
theorem DqI.skip{E:List Edge}{s N far:Nat}{d q:List Nat}{r i a b c:Nat}(I:DqI E s N far d q (Lu E r i))(hi:E[i]?=some (a,b,c))(ha:r≠a)(hb:r≠b):DqI E s N far d q (Lu E r (i+1)):=by
 refine⟨I.i,I.w,fun u v c' h=>?_⟩
 rcases I.tr u v c' h with h1|h1|h1
 ·exact .inl h1
 ·rcases h1.next with h1|⟨_,h2|h2⟩
  ·exact .inr (.inl h1)
  ·rw[hi]at h2;cases h2;exact(ha rfl).elim
  ·rw[hi]at h2;cases h2;exact(hb rfl).elim
 ·exact .inr (.inr h1)
theorem DqI.same{E:List Edge}{s N far:Nat}{d q:List Nat}{r i t c:Nat}(I:DqI E s N far d q (Lu E r i))(hi:E[i]?=some (r,t,c)∨E[i]?=some (t,r,c))(hn:d.getD t 0≤d.getD r 0+c):DqI E s N far d q (Lu E r (i+1)):=by
 refine⟨I.i,I.w,fun u v c' h=>?_⟩
 rcases I.tr u v c' h with h1|h1|h1
 ·exact .inl h1
 ·rcases h1.next with h1|⟨rfl,h2⟩
  ·exact .inr (.inl h1)
  ·right;right
   rcases hi with h3|h3<;>rcases h2 with h2|h2<;>(rw[h3]at h2;cases h2;exact hn)
 ·exact .inr (.inr h1)
theorem DqI.less{E:List Edge}{s N far:Nat}{d q q':List Nat}{r i t c:Nat}(I:DqI E s N far d q (Lu E r i))(hr:r<N)(ht:t<N)(hrt:r≠t)(hi:E[i]?=some (r,t,c)∨E[i]?=some (t,r,c))(hn:d.getD r 0+c<d.getD t 0)(hq:∀x,x∈q'↔x=t∨x∈q):DqI E s N far (d.set t (d.getD r 0+c)) q' (Lu E r (i+1)):=by
 have hl:=I.i.len
 have at_:=fun v=>an5 (d:=d) (v:=v) (x:=d.getD r 0+c) (show t<d.length by omega)
 have hst:Stp E r t c:=hi.elim (fun h=>.inl (axS h)) (fun h=>.inr (axS h))
 have hfar:=I.i.le t ht
 have le:∀v,(d.set t (d.getD r 0+c)).getD v 0≤d.getD v 0:=fun v=>by
  rw[at_];split
  ·rename_i h;subst h;omega
  ·exact ap7 _
 refine⟨⟨by simpa using hl,?_,fun v hv=>?_,fun v hv=>?_⟩,fun x hx=>?_,fun u v c' h=>?_⟩
 ·rw[at_];split
  ·rename_i h;subst h;have:=I.i.src;omega
  ·exact I.i.src
 ·rw[at_];split
  ·rename_i h;subst h
   rcases I.i.real r hr with h|h
   ·omega
   ·exact .inr (h.step hst)
  ·exact I.i.real v hv
 ·have:=le v;have:=I.i.le v hv;omega
 ·rcases(hq x).1 hx with rfl|h
  ·exact ht
  ·exact I.w x h
 ·by_cases hu:u=t
  ·exact .inl ((hq u).2 (.inl hu))
  ·have hdu:(d.set t (d.getD r 0+c)).getD u 0=d.getD u 0:=by rw[at_,if_neg (fun e=>hu e.symm)]
   rcases I.tr u v c' h with h1|h1|h1
   ·exact .inl ((hq u).2 (.inr h1))
   ·rcases h1.next with h1|⟨rfl,h2⟩
    ·exact .inr (.inl h1)
    ·right;right
     have hvt:v=t∧c'=c:=by
      rcases hi with h3|h3<;>rcases h2 with h2|h2<;>(rw[h3]at h2;cases h2;first|exact⟨rfl,rfl⟩|exact(hrt rfl).elim)
     obtain⟨rfl,rfl⟩:=hvt
     rw[hdu,at_,if_pos rfl]
     exact ap7 _
   ·right;right
    have:=le v
    rw[hdu];omega
theorem Lu.none{E:List Edge}{r i u v c:Nat}(hi:E.length≤i):¬Lu E r i u v c:=fun⟨_,j,h1,h2⟩=>by
 rw[List.getElem?_eq_none (by omega)]at h2
 rcases h2 with h2|h2<;>cases h2
theorem DqI.done{E:List Edge}{s N far:Nat}{d q:List Nat}{r i:Nat}(I:DqI E s N far d q (Lu E r i))(hi:E.length≤i):DqI E s N far d q (fun _ _ _=>False):=
 ⟨I.i,I.w,fun u v c h=>(I.tr u v c h).imp id fun h=>h.elim (fun h=>(Lu.none hi h).elim) .inr⟩
theorem aF0{d:List Nat}:∀{t x:Nat},t<d.length→(d.set t x).sum+d.getD t 0=d.sum+x:=by
 induction d with
 |nil=>intro t x h;simp at h
 |cons a d ih=>
  intro t x h
  cases t with
  |zero=>simp;omega
  |succ t=>
   have:=ih (t:=t) (x:=x) (by simpa using h)
   simp only[List.set_cons_succ,List.sum_cons,List.getD_cons_succ]
   omega
theorem aC3{d:List Nat}{t x:Nat}(ht:t<d.length)(hx:x<d.getD t 0):(d.set t x).sum<d.sum:=by
 have:=aF0 (d:=d) (x:=x) ht
 omega
theorem DqI.right{E:List Edge}{s N far:Nat}{d:List Nat}(hs:s<N)(hE:EOk E N)(hf:N≤far)(I:DqI E s N far d [] (fun _ _ _=>False)):On E s N far (fun v=>d.getD v 0):=by
 refine aBA I.i.src I.i.real (fun u v c h=>?_) fun v k hk=>?_
 ·rcases I.tr u v c h with h1|h1|h1
  ·cases h1
  ·exact h1.elim
  ·exact h1
 ·have:=hk.le hs (fun a b c h=>⟨(hE a b c h).1,(hE a b c h).2.1⟩) (fun a b c h=>(hE a b c h).2.2.2)
  omega
theorem On.num{E:List Edge}{s N far far':Nat}{d d':Nat→Nat}(h:On E s N far d)(h':On E s N far' d')(hf:N≤far)(hf':N≤far')(hs:s<N)(hE:EOk E N){v:Nat}(hv:v<N):(d v=far↔d' v=far')∧(d v≠far→d v=d' v)∧(d v≠far→d v<N):=by
 have hE1:∀a b c,(a,b,c)∈E→a<N∧b<N:=fun a b c h=>⟨(hE a b c h).1,(hE a b c h).2.1⟩
 have hE2:∀a b c,(a,b,c)∈E→c≤1:=fun a b c h=>(hE a b c h).2.2.2
 by_cases e:∃k,Cst E s v k
 ·obtain⟨k,hk⟩:=e
  obtain⟨j,hj⟩:=Lst.ex hk
  have h1:=(h v hv).1 j hj
  have h2:=(h' v hv).1 j hj
  have h3:=hj.le hs hE1 hE2
  rw[h1,h2]
  exact⟨⟨fun e=>by omega,fun e=>by omega⟩,fun _=>rfl,fun _=>by omega⟩
 ·have hn:∀k,¬Cst E s v k:=fun k hk=>e ⟨k,hk⟩
  have h1:=(h v hv).2 hn
  have h2:=(h' v hv).2 hn
  rw[h1,h2]
  exact⟨⟨fun _=>rfl,fun _=>rfl⟩,fun h=>(h rfl).elim,fun h=>(h rfl).elim⟩
end Net
end Go.Ev
namespace Go.Ev
namespace Net
def Do(N s far:Nat):List Nat:=(atN N far).set s 0
theorem aqD{N s far v:Nat}(hs:s<N)(hv:v<N):(Do N s far).getD v 0=if s=v then 0 else far:=by
 unfold Do
 rw[an5 (by simpa using hs)]
 split
 ·rfl
 ·simp[aBG,hv]
theorem atI{E:List Edge}{N s far:Nat}(hs:s<N):aqW E s N far (Do N s far):=by
 refine⟨by simp[Do],by rw[aqD hs hs,if_pos rfl],fun v hv=>?_,fun v hv=>?_⟩
 ·rw[aqD hs hv]
  split
  ·rename_i h;subst h;exact .inr ⟨0,.nil 0⟩
  ·exact .inl rfl
 ·rw[aqD hs hv];split<;>omega
theorem aHV{E:List Edge}{N s far:Nat}(hs:s<N)(hE:EOk E N):DqI E s N far (Do N s far) [s] (fun _ _ _=>False):=by
 refine⟨atI hs,fun r hr=>by simp at hr;omega,fun u v c h=>?_⟩
 have hb:u<N∧v<N:=h.elim (fun h=>⟨(hE _ _ _ h).1,(hE _ _ _ h).2.1⟩) (fun h=>⟨(hE _ _ _ h).2.1,(hE _ _ _ h).1⟩)
 by_cases e:u=s
 ·exact .inl (by simp[e])
 ·right;right
  rw[aqD hs hb.1,if_neg (fun h=>e h.symm)]
  have:=(atI (E:=E) (far:=far) hs).le v hb.2
  omega
def az6(E:List Edge)(N len:Nat):Nat:=if 1000≤(Ju E N (Do N 0 1000)).getD 1 0 then len+1 else(Ju E N (Do N 0 1000)).getD 1 0
theorem aw1{E:List Edge}{N:Nat}(hN:2≤N)(hN2:N≤1000)(hE:EOk E N):On E 0 N 1000 (fun v=>(Ju E N (Do N 0 1000)).getD v 0):=
 awN (by omega) hE hN2 (atI (by omega)) (by omega)
theorem aKI{E:List Edge}{N far len:Nat}(hN:2≤N)(hN2:N≤1000)(hf:N≤far)(hE:EOk E N){d:Nat→Nat}(h:On E 0 N far d):(if d 1=far then len+1 else d 1)=az6 E N len:=by
 obtain⟨h1,h2,h3⟩:=On.num (aw1 hN hN2 hE) h hN2 hf (by omega) hE (v:=1) (by omega)
 unfold az6
 by_cases e:(Ju E N (Do N 0 1000)).getD 1 0=1000
 ·rw[if_pos (h1.1 e),if_pos (by rw[e];exact ap7 _)]
 ·have:=h3 e
  rw[if_neg (fun h=>e (h1.2 h)),if_neg (by omega)]
  exact(h2 e).symm
end Net
end Go.Ev
namespace Go.Ev
namespace Net
end Net
end Go.Ev
namespace Go.Ev
namespace Net
end Net
end Go.Ev
