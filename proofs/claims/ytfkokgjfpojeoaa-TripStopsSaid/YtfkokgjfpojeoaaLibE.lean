/- The evaluator and its soundness. -/
import Derived.Test.YtfkokgjfpojeoaaLibD
open And renaming intro→aaA
open Eq renaming trans→aaK
open Option renaming map_eq_some_iff→aa0,bind_eq_some_iff→aa3,bind_some→aa9,some→ae2,map_some→ae4
open List renaming mem_cons_of_mem→abO,getElem?_eq_getElem→acI,mem_cons_self→acM,getElem?_eq_some_iff→acY,getElem?_set_ne→adV,mem_append→ae7,all_eq_true→afR,any_cons→af4,mem_cons→af5,getElem?_append_left→af6,mem_append_left→af8,mem_append_right→af9,nil_append→agA,append_nil→agB,getElem?_map→aiO,mem_of_getElem?→ai2,getElem?_append_right→ajM,mem_map→aj8,getElem?_set_self→alX,getElem?_of_mem→alZ,idxOf→al0,flatMap_def→al1,range→al2,range_zero→am9,length_cons→anV,prefix_refl→an6,cons→apM,map_congr_left→aqB,replicate→aqF,cons_append→aqG,any_eq_true→aqS,getElem?_eq_none_iff→arW,nodup_nil→arX,idxOf_cons→asS,getElem?_eq_none→auX
open Bool renaming and_eq_true→af7,or_true→apR,or_eq_true→aqJ,not_eq_true'→aq7,not_eq_eq_eq_not→arQ
open Nat renaming zero_add→alV,lt_of_lt_of_le→alY,le_refl→ap6
set_option linter.unusedSimpArgs false
set_option linter.unusedVariables false
namespace Go.Ev
noncomputable section
open Go.RowKit
theorem afM(b:Nat):Gk [] b=(0,[b]):=aaK rfl rfl
section
variable {P:Program} {O:Ea}
theorem am8(d:Nat)(m:List Nat)(b:Bool):Bl (d+1) m (.bool b)=some (.bool b,m):=aaK rfl rfl
theorem as8(d:Nat)(m:List Nat)(k:IntKind)(n:Int):Bl (d+1) m (.int k n)=some (.int k n,m):=aaK rfl rfl
theorem an4(d:Nat)(m:List Nat):Bl (d+1) m .nils=some (.nils,m):=aaK rfl rfl
theorem ar2(d:Nat)(m:List Nat)(n:Nat)(fl:Bool)(rows:List (List AV)):Bl (d+1) m (.imm n fl rows)=some (.imm n fl rows,m):=aaK rfl rfl
theorem asP(d:Nat)(m:List Nat)(n:Nat)(fl nn:Bool)(rows:List (List AV)):Bl (d+1) m (Ad n fl nn rows)=some (Ad n fl nn rows,m):=Hw m (Gv d n fl nn rows)
theorem asW(d:Nat)(m:List Nat)(b r o:Nat):Bl (d+1) m (.ptr b r o)=some (.ptr (Gk m b).1 r o,(Gk m b).2):=aaK rfl rfl
theorem asB(d:Nat)(m:List Nat)(st b r len:Nat):Bl (d+1) m (.slr st b r len)=some (.slr st (Gk m b).1 r len,(Gk m b).2):=aaK rfl rfl
def rfA(x:Option (List AV × List Nat)):Option (AV × List Nat):=x.map fun(cs,m)=>(.agg cs,m)
def rfT(x:Option (List AV × List Nat)):Option (AV × List Nat):=x.map fun(cs,m)=>(.tup cs,m)
theorem ahZ(cs:List AV)(m:List Nat):rfA (some (cs,m))=some (.agg cs,m):=aaK rfl rfl
theorem akP(cs:List AV)(m:List Nat):rfT (some (cs,m))=some (.tup cs,m):=aaK rfl rfl
theorem asN(d:Nat)(m:List Nat)(cs:List AV):Bl (d+1) m (.agg cs)=rfA (Bl.refL (Bl d) m cs):=aaK rfl rfl
theorem asC(d:Nat)(m:List Nat)(cs:List AV):Bl (d+1) m (.tup cs)=rfT (Bl.refL (Bl d) m cs):=aaK rfl rfl
def rfG(fn:Fn)(a:List AV)(x:Option (List AV × List Nat)):Option (AV × List Nat):=x.map fun(b,m)=>(.func fn a b,m)
def rfF(fn:Fn)(d:Nat)(b:List AV)(x:Option (List AV × List Nat)):Option (AV × List Nat):=x.bind fun(a,m)=>rfG fn a (Bl.refL (Bl d) m b)
theorem aj0(fn:Fn)(a b:List AV)(m:List Nat):rfG fn a (some (b,m))=some (.func fn a b,m):=aaK rfl rfl
theorem agV(fn:Fn)(d:Nat)(a b:List AV)(m:List Nat):rfF fn d b (some (a,m))=rfG fn a (Bl.refL (Bl d) m b):=aaK rfl rfl
theorem apU(d:Nat)(m:List Nat)(fn:Fn)(a b:List AV):Bl (d+1) m (.func fn a b)=rfF fn d b (Bl.refL (Bl d) m a):=aaK rfl rfl
def rfD(v:AV)(x:Option (List AV × List Nat)):Option (List AV × List Nat):=x.map fun(vs,m)=>(v::vs,m)
def rfC(f:List Nat→AV→Option (AV × List Nat))(vs:List AV)(x:Option (AV × List Nat)):Option (List AV × List Nat):=x.bind fun(v,m)=>rfD v (Bl.refL f m vs)
theorem aiF(v:AV)(vs:List AV)(m:List Nat):rfD v (some (vs,m))=some (v::vs,m):=aaK rfl rfl
theorem ak6(f:List Nat→AV→Option (AV × List Nat))(vs:List AV)(v:AV)(m:List Nat):rfC f vs (some (v,m))=rfD v (Bl.refL f m vs):=aaK rfl rfl
theorem am0(f:List Nat→AV→Option (AV × List Nat))(m:List Nat):Bl.refL f m []=some ([],m):=aaK rfl rfl
theorem ajF(f:List Nat→AV→Option (AV × List Nat))(m:List Nat)(v:AV)(vs:List AV):Bl.refL f m (v::vs)=rfC f vs (f m v):=aaK rfl rfl
def rrD(cs:List AV)(x:Option (List (List AV) × List Nat)):Option (List (List AV) × List Nat):=x.map fun(rs,m)=>(cs::rs,m)
def rrC(rs:List (List AV))(x:Option (List AV × List Nat)):Option (List (List AV) × List Nat):=x.bind fun(cs,m)=>rrD cs (Fg m rs)
theorem ahB(cs:List AV)(rs:List (List AV))(m:List Nat):rrD cs (some (rs,m))=some (cs::rs,m):=aaK rfl rfl
theorem ah2(rs:List (List AV))(cs:List AV)(m:List Nat):rrC rs (some (cs,m))=rrD cs (Fg m rs):=aaK rfl rfl
theorem atM(m:List Nat):Fg m []=some ([],m):=aaK rfl rfl
theorem amC(m:List Nat)(cs:List AV)(rs:List (List AV)):Fg m (cs::rs)=rrC rs (Bl.refL (Bl 8) m cs):=aaK rfl rfl
def rbV(st:Nat)(w:Bool)(x:Option (List (List AV) × List Nat)):Option (CB × List Nat):=x.map fun(rows,m)=>(.live st false w rows,m)
theorem ahV(st:Nat)(w:Bool)(rows:List (List AV))(m:List Nat):rbV st w (some (rows,m))=some (.live st false w rows,m):=aaK rfl rfl
theorem awG(m:List Nat)(st:Nat)(w:Bool)(rows:List (List AV)):Lr m (.live st true w rows)=some (.live st true w rows,m):=aaK rfl rfl
theorem aw7(m:List Nat)(st:Nat)(w:Bool)(rows:List (List AV)):Lr m (.live st false w rows)=rbV st w (Fg m rows):=aaK rfl rfl
def pcE(c:CB)(x:Option (List CB × List Nat)):Option (List CB × List Nat):=x.map fun(cs,m)=>(c::cs,m)
def pcR(n:Nat)(h:Aa)(i:Nat)(x:Option (CB × List Nat)):Option (List CB × List Nat):=x.bind fun(c,m)=>pcE c (Hh n (hf h) (i+1) m)
def pcB(n:Nat)(h:Aa)(i:Nat)(m:List Nat)(x:Option CB):Option (List CB × List Nat):=x.bind fun c=>pcR n h i (Lr m c)
def pcK(n:Nat)(h:Aa)(i:Nat)(m:List Nat)(x:Option Nat):Option (List CB × List Nat):=
 match x with
 |none=>some ([],m)
 |some b=>pcB n h i m (h[b]?)
theorem aiN(c:CB)(cs:List CB)(m:List Nat):pcE c (some (cs,m))=some (c::cs,m):=aaK rfl rfl
theorem ak0(n:Nat)(h:Aa)(i:Nat)(c:CB)(m:List Nat):pcR n h i (some (c,m))=pcE c (Hh n (hf h) (i+1) m):=aaK rfl rfl
theorem ajZ(n:Nat)(h:Aa)(i:Nat)(m:List Nat)(c:CB):pcB n h i m (some c)=pcR n h i (Lr m c):=aaK rfl rfl
theorem ahP(n:Nat)(h:Aa)(i:Nat)(m:List Nat):pcK n h i m none=some ([],m):=aaK rfl rfl
theorem agL(n:Nat)(h:Aa)(i:Nat)(m:List Nat)(b:Nat):pcK n h i m (some b)=pcB n h i m (h[b]?):=aaK rfl rfl
theorem ax4(n:Nat)(h:Aa)(i:Nat)(m:List Nat):Hh (n+1) (hf h) i m=pcK n h i m (m[i]?):=by
 unfold Hh pcK
 cases m[i]?<;>rfl
def pkB(vs:List AV)(x:Option (List CB × List Nat)):Option (List AV × List CB × List Nat):=x.map fun(cs,m)=>(vs,cs,m)
def pkA(h:Aa)(x:Option (List AV × List Nat)):Option (List AV × List CB × List Nat):=x.bind fun(vs,m)=>pkB vs (Hh 5000 (hf h) 0 m)
theorem alL(vs:List AV)(cs:List CB)(m:List Nat):pkB vs (some (cs,m))=some (vs,cs,m):=aaK rfl rfl
theorem akO(h:Aa)(vs:List AV)(m:List Nat):pkA h (some (vs,m))=pkB vs (Hh 5000 (hf h) 0 m):=aaK rfl rfl
theorem awA(h:Aa)(m:List Nat)(vs:List AV):Hz (hf h) m vs=pkA h (Bl.refL (Bl 8) m vs):=aaK rfl rfl
def upK(h:Aa)(lent:List Nat)(v:Option AV)(ps ns:Option (List Af))(o:AV→Dk):OE:=v.bind fun v=>ps.bind fun ps=>ns.bind fun ns=>
 some (o v,(if lent.isEmpty|| !(hasImm 8 v||(ps++ns).any Af.hasImm)then []else Dn (hf h) lent)++ps++ns)
def crU(h:Aa)(base:Nat)(lent m:List Nat)(cs:List CB)(x:Option (Dk × Aa)):OE:=
 match x with
 |some (.ret v,h')=>upK h lent (Br 8 (Fe m base) v) (Gu (Fe m base) m cs (h'.take m.length)) (Gw (Fe m base) base (h'.drop m.length)) .ret
 |some (.pan v,h')=>upK h lent (Br 8 (Fe m base) v) (Gu (Fe m base) m cs (h'.take m.length)) (Gw (Fe m base) base (h'.drop m.length)) .pan
 |none=>none
def crP(O:Ea)(h:Aa)(base:Nat)(f:Qr)(lent:List Nat)(x:Option (List AV × List CB × List Nat)):OE:=x.bind fun(vs,cs,m)=>
 if lent.any (m.contains ·)then none else crU h base lent m cs (O.call f vs (cs.map CB.clean))
def crQ(O:Ea)(h:Aa)(base:Nat)(f:Qr)(lent:List Nat)(x:Option (List AV)):OE:=x.bind fun vs=>crP O h base f lent (Hz (hf h) [] vs)
theorem az4(h:Aa)(base:Nat)(f:Qr)(args:List AV):cr (iR O (hf h) base f args)=crQ O h base f (args.flatMap (Bd 12 (hf h))) (Au (bQ h) args):=by
 unfold iR Db crQ bQ
 cases Au (Gy 12 (hf h)) args with
 |none=>rfl
 |some vs=>
  simp only[aa9]
  unfold crP
  cases Hz (hf h) [] vs with
  |none=>rfl
  |some x=>
   obtain⟨vs',cs,m⟩:=x
   simp only[aa9]
   split
   ·rfl
   ·cases O.call f vs' (cs.map CB.clean)with
    |none=>rfl
    |some y=>
     obtain⟨out,h'⟩:=y
     simp only[aa9,Jr]
     unfold crU upK
     cases out with
     |ret v=>
      simp only[Dk.v]
      cases Br 8 (Fe m base) v with
      |none=>rfl
      |some v=>
       cases Gu (Fe m base) m cs (h'.take m.length)with
       |none=>rfl
       |some ps=>cases Gw (Fe m base) base (h'.drop m.length)<;>rfl
     |pan v=>
      simp only[Dk.v]
      cases Br 8 (Fe m base) v with
      |none=>rfl
      |some v=>
       cases Gu (Fe m base) m cs (h'.take m.length)with
       |none=>rfl
       |some ps=>cases Gw (Fe m base) base (h'.drop m.length)<;>rfl
theorem alU(h:Aa)(base:Nat)(f:Qr)(lent:List Nat)(vs:List AV):crQ O h base f lent (some vs)=crP O h base f lent (Hz (hf h) [] vs):=aaK rfl rfl
theorem agC(h:Aa)(base:Nat)(f:Qr)(lent:List Nat)(vs:List AV)(cs:List CB)(m:List Nat):crP O h base f lent (some (vs,cs,m))=if lent.any (m.contains ·)=true then none else crU h base lent m cs (O.call f vs (cs.map CB.clean)):=aaK rfl rfl
theorem apX(h:Aa)(base:Nat)(lent m:List Nat)(cs:List CB)(v:AV)(h':Aa):crU h base lent m cs (some (.ret v,h'))=upK h lent (Br 8 (Fe m base) v) (Gu (Fe m base) m cs (h'.take m.length)) (Gw (Fe m base) base (h'.drop m.length)) .ret:=aaK rfl rfl
theorem ajI(h:Aa)(lent:List Nat)(v:AV)(ps ns:List Af)(o:AV→Dk):upK h lent (some v) (some ps) (some ns) o=some (o v,(if(lent.isEmpty|| !(hasImm 8 v||(ps++ns).any Af.hasImm))=true then []else Dn (hf h) lent)++ps++ns):=aaK rfl rfl
theorem anF(st:Nat)(fl w:Bool)(rows:List (List AV)):CB.clean (.live st fl w rows)=.live st fl false rows:=aaK rfl rfl
theorem apA(d:Nat)(g:HF)(b:Bool):Bd (d+1) g (.bool b)=[]:=aaK rfl rfl
theorem arE(d:Nat)(g:HF)(k:IntKind)(n:Int):Bd (d+1) g (.int k n)=[]:=aaK rfl rfl
theorem atO(d:Nat)(g:HF)(n:Nat)(fl:Bool)(rows:List (List AV)):Bd (d+1) g (.imm n fl rows)=[]:=aaK rfl rfl
theorem asU(d:Nat)(g:HF)(b r o:Nat):Bd (d+1) g (.ptr b r o)=[]:=aaK rfl rfl
theorem ao0(d:Nat)(g:HF)(fn:Fn)(a b:List AV):Bd (d+1) g (.func fn a b)=[]:=aaK rfl rfl
theorem atN(d:Nat)(g:HF)(n:Nat)(fl nn:Bool)(rows:List (List AV)):Bd (d+1) g (Ad n fl nn rows)=[]:=Jt g (d:=1) (by omega) (Gv 0 n fl nn rows)
theorem arI(d:Nat)(g:HF)(cs:List AV):Bd (d+1) g (.agg cs)=cs.flatMap (Bd d g):=aaK rfl rfl
def lvS(b:Nat)(c:Option CB)(q:AV→List Nat)(r len:Nat):List Nat:=
 b::match c with
 |some (.live _ fl _ rows)=>if r+len≤rows.length then(if fl then []else((rows.drop r).take len).flatMap fun cs=>cs.flatMap q)else []
 |some (.frz _ fl rows)=>if r+len≤rows.length then(if fl then []else((rows.drop r).take len).flatMap fun cs=>cs.flatMap q)else []
 |_=>[]
theorem au7(d:Nat)(h:Aa)(st b r len:Nat):Bd (d+1) (hf h) (.slr st b r len)=lvS b (h[b]?) (Bd d (hf h)) r len:=by
 have e:Bd (d+1) (hf h) (.slr st b r len)=b::(match Fb (hf h) b r len with|some (_,fl,rows)=>if fl then []else rows.flatMap fun cs=>cs.flatMap (Bd d (hf h))|none=>[]):=rfl
 rw[e]
 generalize Bd d (hf h)=q
 unfold Fb lvS
 have eh:hf h b=h[b]?:=rfl
 rw[eh]
 cases h[b]? with
 |none=>rfl
 |some c=>
  cases c with
  |live st fl w rows=>simp only;by_cases hq:r+len≤rows.length<;>simp[hq]
  |frz st fl rows=>simp only;by_cases hq:r+len≤rows.length<;>simp[hq]
  |_=>rfl
theorem av9(b:Nat)(st:Nat)(w:Bool)(rows:List (List AV))(q:AV→List Nat)(r len:Nat):lvS b (some (.live st true w rows)) q r len=[b]:=by simp[lvS]
theorem anK(d:Nat)(f:Nat→Nat)(b:Bool):Br (d+1) f (.bool b)=some (.bool b):=aaK rfl rfl
theorem auE(d:Nat)(f:Nat→Nat)(k:IntKind)(n:Int):Br (d+1) f (.int k n)=some (.int k n):=aaK rfl rfl
theorem avD(d:Nat)(f:Nat→Nat)(st b r len:Nat):Br (d+1) f (.slr st b r len)=some (.slr st (f b) r len):=aaK rfl rfl
def rnA(x:Option (List AV)):Option AV:=x.map .agg
def rnT(x:Option (List AV)):Option AV:=x.map .tup
theorem aiT(cs:List AV):rnA (some cs)=some (.agg cs):=aaK rfl rfl
theorem ajC(cs:List AV):rnT (some cs)=some (.tup cs):=aaK rfl rfl
theorem auG(d:Nat)(f:Nat→Nat)(cs:List AV):Br (d+1) f (.agg cs)=rnA (Au (Br d f) cs):=aaK rfl rfl
theorem as9(d:Nat)(f:Nat→Nat)(cs:List AV):Br (d+1) f (.tup cs)=rnT (Au (Br d f) cs):=aaK rfl rfl
def rbW(st:Nat)(w:Bool)(x:Option (List (List AV))):Option CB:=x.map (.live st false w)
theorem ahM(st:Nat)(w:Bool)(rows:List (List AV)):rbW st w (some rows)=some (.live st false w rows):=aaK rfl rfl
theorem ayA(f:Nat→Nat)(st:Nat)(w:Bool)(rows:List (List AV)):Ek f (.live st true w rows)=some (.live st true w rows):=aaK rfl rfl
theorem awY(f:Nat→Nat)(st:Nat)(w:Bool)(rows:List (List AV)):Ek f (.live st false w rows)=rbW st w (Au (Au (Br 8 f)) rows):=aaK rfl rfl
def peE(b:Nat)(c:Option CB)(x:Option (List Af)):Option (List Af):=c.bind fun c=>x.map fun es=>.put b c::es
def peK(f:Nat→Nat)(b:Nat)(c:CB)(same bad:Bool)(x:Option (List Af)):Option (List Af):=bif same then x else bif bad then none else peE b (Ek f c) x
theorem awW(f:Nat→Nat)(b:Nat)(c:CB)(bad:Bool)(x:Option (List Af)):peK f b c true bad x=x:=aaK rfl rfl
theorem arV(f:Nat→Nat):Gu f [] [] []=some []:=aaK rfl rfl
theorem aoK(f:Nat→Nat)(b:Nat)(m:List Nat)(c₀ c:CB)(cs₀ cs:List CB):Gu f (b::m) (c₀::cs₀) (c::cs)=peK f b c (c₀.same c) (c.unw|| !c₀.isLive) (Gu f m cs₀ cs):=by
 conv=>lhs;unfold Gu
 unfold peK
 cases c₀.same c with
 |true=>rfl
 |false=>
  cases(c.unw|| !c₀.isLive)with
  |true=>rfl
  |false=>
   simp only[cond_false,peE]
theorem amJ(a:Nat)(b c:Bool)(r:List (List AV))(st:Nat)(fl w:Bool)(rows:List (List AV)):CB.same (.live a b c r) (.live st fl w rows)= !w:=aaK rfl rfl
theorem anO(st:Nat)(fl w:Bool)(rows:List (List AV)):CB.unw (.live st fl w rows)= !w:=aaK rfl rfl
theorem anN(st:Nat)(fl w:Bool)(rows:List (List AV)):CB.isLive (.live st fl w rows)=true:=aaK rfl rfl
def neK(base:Nat)(c:Option CB)(x:Option (List Af)):Option (List Af):=c.bind fun c=>x.map fun es=>.new base c::es
theorem ak9(base:Nat)(c:CB)(es:List Af):neK base (some c) (some es)=some (.new base c::es):=aaK rfl rfl
theorem au8(f:Nat→Nat)(base:Nat):Gw f base []=some []:=aaK rfl rfl
theorem aoR(f:Nat→Nat)(base:Nat)(c:CB)(cs:List CB):Gw f base (c::cs)=neK base (Ek f c) (Gw f (base+1) cs):=aaK rfl rfl
theorem asM(b:Nat)(c:CB):Af.hasImm (.new b c)=c.hasImm:=aaK rfl rfl
theorem ayC(st:Nat)(w:Bool)(rows:List (List AV)):CB.hasImm (.live st true w rows)=false:=aaK rfl rfl
theorem atK(h:Aa)(b r o:Nat):bQ h (.ptr b r o)=some (.ptr b r o):=aaK rfl rfl
theorem amQ(h:Aa)(cs:List AV):bQ h (.agg cs)=rdA (Au (Gy 11 (hf h)) cs):=aaK rfl rfl
theorem adU(l:List AV):rdA (some l)=some (.agg l):=aaK rfl rfl
theorem amH(d:Nat)(h:Aa)(b:Bool):Gy (d+1) (hf h) (.bool b)=some (.bool b):=aaK rfl rfl
theorem asX(d:Nat)(h:Aa)(k:IntKind)(n:Int):Gy (d+1) (hf h) (.int k n)=some (.int k n):=aaK rfl rfl
theorem auL(d:Nat)(h:Aa)(n:Nat)(fl nn:Bool)(rows:List (List AV)):Gy (d+1) (hf h) (Ad n fl nn rows)=some (Ad n fl nn rows):=Hg _ (d:=1) (by omega) (Gv 0 n fl nn rows)
def mfK(f:Nat)(a b:Option (List AV)):OE:=a.bind fun a=>b.bind fun b=>some (.ret (.func (.func f) a b),[])
theorem ak3(f:Nat)(a b:List AV):mfK f (some a) (some b)=some (.ret (.func (.func f) a b),[]):=aaK rfl rfl
theorem axB(t:List AV)(h:Aa)(f:Nat)(a b:Array Operand):Dl O P t h (.makeFunc (.func f) a b)=mfK f (Bq t a.toList) (Bq t b.toList):=by
 rw[Bz _ _ _ rfl]
 simp only[exec,mfK]
 cases Bq t a.toList with
 |none=>rfl
 |some a=>cases Bq t b.toList<;>rfl
def msK(n:Nat)(z:AV)(base:Nat)(l c:Option AV):OE:=
 match l,c with
 |some (.int .i64 l),some (.int .i64 c)=>if 0≤l∧l≤c∧c≤2 ^ 40∧(Ah z).all AV.isCell=true then some (.ret (.slr n base 0 l.toNat),[.new base (.live n ((Ah z).all AV.flat) false (aqF l.toNat (Ah z)))])else none
 |_,_=>none
theorem alO(n:Nat)(z:AV)(base:Nat)(l c:Int):msK n z base (some (.int .i64 l)) (some (.int .i64 c))=if 0≤l∧l≤c∧c≤2 ^ 40∧(Ah z).all AV.isCell=true then some (.ret (.slr n base 0 l.toNat),[.new base (.live n ((Ah z).all AV.flat) false (aqF l.toNat (Ah z)))])else none:=aaK rfl rfl
def msO(P:Program)(ty:TypeId)(base:Nat)(l c:Option AV):OE:=rD (l.bind fun l=>c.bind fun c=>Gx P base ty l c)
theorem axT(t:List AV)(h:Aa)(ty:TypeId)(l c:Operand):Dl O P t h (.makeSlice ty l c)=msO P ty h.length (Ae t l) (Ae t c):=Bz _ _ _ rfl
theorem ax0{ty e:TypeId}{n b:Nat}{z:AV}(he:Zf P ty=some e)(hn:Po P e=some n)(hb:byT P e=some b)(hz:Fp P e=some z)(ok:(decide (b≤2 ^ 7)&&decide (n≠0)&&decide ((Ah z).length=n))=true)(base:Nat)(l c:Option AV):
 msO P ty base l c=msK n z base l c:=by
 simp only[af7,decide_eq_true_eq]at ok
 unfold msO msK
 cases l with
 |none=>rfl
 |some l=>
  cases c with
  |none=>cases l<;>first|rfl|(rename_i k _;cases k<;>rfl)
  |some c=>
   simp only[aa9,Gx,he,hn,hb,hz]
   cases l with
   |int k l=>
    cases c with
    |int k' c=>
     cases k<;>cases k'<;>first|rfl|skip
     simp only[ok.1.1,ok.1.2,ok.2,ne_eq,not_false_eq_true,true_and]
     split<;>rfl
    |_=>cases k<;>rfl
   |_=>rfl
def srS(q:Nat)(c:Option CB)(r len:Nat):Option (Bool × List (List AV)):=
 match c with
 |some (.live st fl _ rows)=>if r+len≤rows.length∧st=q then some (fl,(rows.drop r).take len)else none
 |some (.frz st fl rows)=>if r+len≤rows.length∧st=q then some (fl,(rows.drop r).take len)else none
 |_=>none
def srK(q:Nat)(h:Aa)(x:Option AV):Option (Bool × List (List AV)):=
 match x with
 |some .nils=>some (true,[])
 |some (.imm st fl rows)=>if st=q then some (fl,rows)else none
 |some (.slr _ b r len)=>srS q (h[b]?) r len
 |_=>none
theorem akC(q st:Nat)(fl w:Bool)(rows:List (List AV))(r len:Nat):srS q (some (.live st fl w rows)) r len=if r+len≤rows.length∧st=q then some (fl,(rows.drop r).take len)else none:=aaK rfl rfl
theorem aa5(q:Nat)(h:Aa)(st:Nat)(fl:Bool)(rows:List (List AV)):srK q h (some (.imm st fl rows))=if st=q then some (fl,rows)else none:=aaK rfl rfl
theorem abI(q:Nat)(h:Aa)(st b r len:Nat):srK q h (some (.slr st b r len))=srS q (h[b]?) r len:=aaK rfl rfl
def apT(n base b r len:Nat)(nfl:Bool)(new:List (List AV))(st:Nat)(fl:Bool)(rows:List (List AV)):OE:=
 if st=n∧r+len≤rows.length∧len+new.length≤2 ^ 39 then some (.ret (.slr st base 0 (len+new.length)),[.put b .dead,.new base (.live st (fl&&nfl) false ((rows.drop r).take len++new))])else none
def apS(n base b r len:Nat)(nfl:Bool)(new:List (List AV))(c:Option CB):OE:=
 match c with
 |some (.live st fl _ rows)=>if st=n∧r+len=rows.length∧len+new.length≤2 ^ 39 then some (.ret (.slr st base 0 (len+new.length)),[.put b .dead,.new base (.live st (fl&&nfl) false (rows.drop r++new))])else apT n base b r len nfl new st fl rows
 |_=>none
theorem tX(n base b r len:Nat)(nfl:Bool)(new:List (List AV))(st:Nat)(fl w:Bool)(rows:List (List AV)):apS n base b r len nfl new (some (.live st fl w rows))=if st=n∧r+len=rows.length∧len+new.length≤2 ^ 39 then some (.ret (.slr st base 0 (len+new.length)),[.put b .dead,.new base (.live st (fl&&nfl) false (rows.drop r++new))])else apT n base b r len nfl new st fl rows:=aaK rfl rfl
def sU(n:Nat)(h:Aa)(s:Option AV)(x:Option (Bool × List (List AV))):OE:=
 match s,x with
 |some .nils,some (_,[])=>some (.ret .nils,[])
 |some (.slr a b r l),some (_,[])=>some (.ret (.slr a b r l),[])
 |some (.imm a b r),some (_,[])=>some (.ret (.imm a b r),[])
 |some .nils,some (nfl,r::new)=>if(r::new).length≤2 ^ 39 then some (.ret (.slr n h.length 0 (r::new).length),[.new h.length (.live n nfl false (r::new))])else none
 |some (.slr _ b r len),some (nfl,q::new)=>apS n h.length b r len nfl (q::new) (h[b]?)
 |_,_=>none
theorem asF(n:Nat)(h:Aa)(a b r l:Nat)(nfl:Bool):sU n h (some (.slr a b r l)) (some (nfl,[]))=some (.ret (.slr a b r l),[]):=aaK rfl rfl
theorem zF(n:Nat)(h:Aa)(nfl:Bool)(r:List AV)(new:List (List AV)):sU n h (some .nils) (some (nfl,r::new))=if(r::new).length≤2 ^ 39 then some (.ret (.slr n h.length 0 (r::new).length),[.new h.length (.live n nfl false (r::new))])else none:=aaK rfl rfl
theorem yC(n:Nat)(h:Aa)(a b r len:Nat)(nfl:Bool)(q:List AV)(new:List (List AV)):sU n h (some (.slr a b r len)) (some (nfl,q::new))=apS n h.length b r len nfl (q::new) (h[b]?):=aaK rfl rfl
def jS(P:Program)(ty:TypeId)(h:Aa)(s x:Option AV):OE:=rD (s.bind fun s=>x.bind fun x=>Gq P (hf h) h.length ty s x)
theorem aK(t:List AV)(h:Aa)(s x:Operand)(ty ty1 e1:TypeId)(hu:P.underlying ty1=some (.slice e1)):Dl O P t h (.call ⟨.builtin .append,#[s,x],#[ty,ty1]⟩)=jS P ty h (Ae t s) (Ae t x):=by
 rw[Bz _ _ _ rfl]
 simp only[exec,Bq,jS]
 cases Ae t s with
 |none=>rfl
 |some a=>
  cases Ae t x with
  |none=>rfl
  |some b=>
   simp only[aa9,ae4]
   have e0:(#[ty,ty1]:Array TypeId)[0]?=some ty:=rfl
   have e1:(#[ty,ty1]:Array TypeId)[1]?=some ty1:=rfl
   simp only[e0,e1,aa9,hu]
theorem Yz{ty e:TypeId}{n b:Nat}{z:AV}(he:Zf P ty=some e)(hn:Po P e=some n)(hb:byT P e=some b)(hz:Fp P e=some z)(ok:(decide (b≤2 ^ 8)&&decide (n≠0)&&decide ((Ah z).length=n))=true)(h:Aa)(s x:AV)(hx:∀q,x≠.str q):
 jS P ty h (some s) (some x)=sU n h (some s) (srK n h (some x)):=by
 simp only[af7,decide_eq_true_eq]at ok
 have hbad:¬(n=0∨2 ^ 8<b∨(Ah z).length≠n):=by
  rintro(h1|h1|h1)
  ·exact ok.1.2 h1
  ·omega
  ·exact h1 ok.2
 unfold jS
 simp only[aa9,Gq,he,hn,hb,hz]
 have key:∀(nfl:Bool) (new:List (List AV)) (fs:List Bf),rD (if n=0∨2 ^ 8<b∨(Ah z).length≠n then none else
  match s,new with
  |s,[]=>match s with
   | .nils| .slr _ _ _ _| .imm _ _ _=>some ⟨s,[],fs⟩
   |_=>none
  | .nils,new=>if new.length≤2 ^ 39 then some ⟨.slr n h.length 0 new.length,[.new h.length (.live n nfl false new)],fs⟩else none
  | .slr _ b r len,new=>
    match hf h b with
    |some (.live st fl _ rows)=>
     if st=n∧r+len≤rows.length∧len+new.length≤2 ^ 39 then
      some ⟨.slr st h.length 0 (len+new.length),[.put b .dead,.new h.length (.live st (fl&&nfl) false ((rows.drop r).take len++new))],.blk b::fs⟩
     else none
    |_=>none
  |_,_=>none)=sU n h (some s) (some (nfl,new)):=fun nfl new fs=>by
  rw[if_neg hbad]
  cases new with
  |nil=>cases s<;>rfl
  |cons q new=>
   cases s with
   |nils=>simp only[zF];split<;>rfl
   |slr a b r len=>
    simp only[yC]
    unfold apS
    have eh:hf h b=h[b]?:=rfl
    rw[eh]
    cases h[b]? with
    |none=>rfl
    |some c=>
     cases c with
     |live st fl w rows=>
      simp only
      by_cases h1:st=n∧r+len=rows.length∧len+(q::new).length≤2 ^ 39
      ·rw[if_pos h1,if_pos ⟨h1.1,by omega,h1.2.2⟩,List.take_of_length_le (by simp;omega)]
       rfl
      ·rw[if_neg h1]
       unfold apT
       split<;>rfl
     |_=>rfl
   |_=>rfl
 cases x with
 |nils=>exact key true [] []
 |imm st fl rows=>
  simp only[Dv,aa5,hn,ae2.injEq]
  by_cases hq:n=st
  ·subst hq;simp only[if_true,aa9];exact key fl rows []
  ·rw[if_neg hq,if_neg (fun e=>hq e.symm)]
   cases s<;>rfl
 |slr st b' r len=>
  simp only[Dv,abI,hn,Fb,srS]
  have eh:hf h b'=h[b']?:=rfl
  rw[eh]
  cases h[b']? with
  |none=>cases s<;>rfl
  |some c=>
   cases c with
   |live st fl w rows=>
    simp only
    by_cases hq:r+len≤rows.length
    ·simp only[hq,if_true,aa9,true_and,ae2.injEq]
     by_cases hq2:n=st
     ·subst hq2;simp only[if_true,aa9];exact key fl _ _
     ·rw[if_neg hq2,if_neg (fun e=>hq2 e.symm)];cases s<;>rfl
    ·simp only[hq,if_false,false_and];cases s<;>rfl
   |frz st fl rows=>
    simp only
    by_cases hq:r+len≤rows.length
    ·simp only[hq,if_true,aa9,true_and,ae2.injEq]
     by_cases hq2:n=st
     ·subst hq2;simp only[if_true,aa9];exact key fl _ _
     ·rw[if_neg hq2,if_neg (fun e=>hq2 e.symm)];cases s<;>rfl
    ·simp only[hq,if_false,false_and];cases s<;>rfl
   |_=>cases s<;>rfl
 |str q=>exact(hx q rfl).elim
 |_=>cases s<;>rfl
def rtK(Q:Dk→Aa→Prop)(x:Option (List AV × List CB × List Nat)):Prop:=
 match x with
 |some ([v],cs,_)=>Q (.ret v) cs
 |_=>False
theorem agM(Q:Dk→Aa→Prop)(v:AV)(cs:List CB)(m:List Nat):rtK Q (some ([v],cs,m))=Q (.ret v) cs:=aaK rfl rfl
theorem aqO{q:Nat}{vs:List AV}{h:Aa}{Q:Dk→Aa→Prop}:Rt q (some vs) h Q=rtK Q (Hz (hf h) (al2 q) [Om vs]):=by
 unfold Rt afF
 simp only[aa9,Lc]
 cases hp:Hz (hf h) (al2 q) [Om vs]with
 |none=>simp[rtK]
 |some x=>
  obtain⟨ws,cs,m⟩:=x
  simp only[aa9]
  match ws with
  | [v]=>
    simp only[rtK,ae4]
    exact propext ⟨fun⟨o,h',e,k⟩=>by cases e;exact k,fun k=>⟨_,_,rfl,k⟩⟩
  | []=>simp[rtK]
  |_::_::_=>simp[rtK]
theorem auB(vs:List AV)(h:Aa)(Q:Dk→Aa→Prop):Rt1 0 (some vs) h Q=rtK Q (Hz (hf h) [] [Om vs]):=aqO
theorem anR(q:Nat)(vs:List AV)(h:Aa)(Q:Dk→Aa→Prop):Rt (q+1) (some vs) h Q=rtK Q (Hz (hf h) (al2 (q+1)) [Om vs]):=aqO
end
end
noncomputable section
set_option maxRecDepth 100000
def EVi:=PLift.up (aaA @afM (aaA @am8 (aaA @as8 (aaA @an4 (aaA @ar2 (aaA @asP (aaA @asW (aaA @asB (aaA @ahZ (aaA @akP (aaA @asN (aaA @asC (aaA @aj0 (aaA @agV (aaA @apU (aaA @aiF (aaA @ak6 (aaA @am0 (aaA @ajF (aaA @ahB (aaA @ah2 (aaA @atM (aaA @amC (aaA @ahV (aaA @awG (aaA @aw7 (aaA @aiN (aaA @ak0 (aaA @ajZ @ahP)))))))))))))))))))))))))))))
def EVj:=PLift.up (aaA @agL (aaA @ax4 (aaA @alL (aaA @akO (aaA @awA (aaA @az4 (aaA @alU (aaA @agC (aaA @apX (aaA @ajI (aaA @anF (aaA @apA (aaA @arE (aaA @atO (aaA @asU (aaA @ao0 (aaA @atN (aaA @arI (aaA @au7 (aaA @av9 (aaA @anK (aaA @auE (aaA @avD @aiT)))))))))))))))))))))))
def EVk:=PLift.up (aaA @ajC (aaA @auG (aaA @as9 (aaA @ahM (aaA @ayA (aaA @awY (aaA @awW (aaA @arV (aaA @aoK (aaA @amJ (aaA @anO (aaA @anN (aaA @ak9 (aaA @au8 (aaA @aoR (aaA @asM (aaA @ayC @atK)))))))))))))))))
def EVl:=PLift.up (aaA @amQ (aaA @adU (aaA @amH (aaA @asX (aaA @auL (aaA @ak3 (aaA @axB (aaA @alO (aaA @axT (aaA @akC (aaA @aa5 (aaA @abI (aaA @tX (aaA @asF (aaA @zF (aaA @yC (aaA @agM (aaA @auB (aaA @anR (aaA @List.flatMap_cons.{0,0} (aaA @List.flatMap_nil.{0,0} (aaA @List.isEmpty_nil.{0} (aaA @List.isEmpty_cons.{0} (aaA @List.range_succ (aaA @am9 (aaA @List.contains_nil.{0} @List.contains_cons.{0}))))))))))))))))))))))))))
def EVm:=PLift.up (aaA @List.getElem?_nil.{0} (aaA @avA (aaA @agW (aaA @aeP (aaA @pO (aaA @acT @yT))))))
end
noncomputable section
theorem arU{n:Nat}{fl nn:Bool}{rows:List (List AV)}(h:rows≠[]):Ad n fl nn rows=.imm n fl rows:=by
 cases rows with
 |nil=>exact(h rfl).elim
 |cons r rs=>rfl
theorem Sz(n:Nat)(fl:Bool)(rows:List (List AV)):Ad n fl true rows=.imm n fl rows:=by cases rows<;>rfl
section
variable {P:Program} {t e:TypeId} (hu:P.underlying t=some (.slice e))
include hu
theorem Nx(n:Nat)(fl:Bool)(rows:List (List AV)):Fz P .eql t (.imm n fl rows) .nils=some (.bool false):=by simp[Fz,Vs,hu]
theorem Le:Fz P .eql t .nils .nils=some (.bool true):=by simp[Fz,Vs,hu]
end
def ar5(v:Option AV)(ns:Option (List Af)):Option Jf:=v.bind fun v=>ns.map fun ns=>⟨.ret v,ns,[]⟩
theorem ae0(v:AV)(ns:List Af):ar5 (some v) (some ns)=some ⟨.ret v,ns,[]⟩:=aaK rfl rfl
theorem aiG(base:Nat)(v:AV)(c:CB)(cs:List CB):ac0 base (some (.ret v,c::cs))=ar5 (Br 8 (fun i=>base+i) v) (Gw (fun i=>base+i) base (c::cs)):=by
 simp only[ac0,ar5,aa9,Dk.v,Dk.map]
def avL(h:Aa)(lent:List Nat)(v:Option AV)(ns:Option (List Af)):OE:=v.bind fun v=>ns.map fun ns=>(.ret v,(if lent.isEmpty|| !(hasImm 8 v||ns.any Af.hasImm)then []else Dn (hf h) lent)++ns)
theorem ab8(h:Aa)(lent:List Nat)(v:AV)(ns:List Af):avL h lent (some v) (some ns)=some (.ret v,(if(lent.isEmpty|| !(hasImm 8 v||ns.any Af.hasImm))=true then []else Dn (hf h) lent)++ns):=aaK rfl rfl
theorem ahK(h:Aa)(base:Nat)(lent:List Nat)(v:AV)(c:CB)(cs:List CB):crR h base lent (some (.ret v,c::cs))=avL h lent (Br 8 (fun i=>base+i) v) (Gw (fun i=>base+i) base (c::cs)):=by
 simp only[crR,avL,aa9,Dk.v,Dk.map]
section
variable {O:Ea}
theorem axI(h:Aa)(f:Nat)(args:List AV):shC O h f args=if(Td args||O.md f)=true then yK h (O.call (.sh f) args (Df h))else cr (Db O (hf h) h.length (.fn f) args):=aaK rfl rfl
end
theorem ar1(b r o:Nat)(l:List AV):Td (.ptr b r o::l)=false:=aaK rfl rfl
theorem asI(a b r n:Nat)(l:List AV):Td (.slr a b r n::l)=false:=aaK rfl rfl
theorem asA(k:IntKind)(n:Int)(l:List AV):Td (.int k n::l)=false:=aaK rfl rfl
theorem arS(c:List AV)(l:List AV):Td (.agg c::l)=false:=aaK rfl rfl
theorem ax5(b:Nat)(l:List AV):Td (.yl b::l)=true:=aaK rfl rfl
theorem au9:Df []=[]:=aaK rfl rfl
theorem ap5(c:CB)(h:Aa):Df (c::h)=c.clean::Df h:=aaK rfl rfl
theorem arT(h h':Aa):Df (h++h')=Df h++Df h':=List.map_append
theorem av6(ps:List Nat)(a b:Code)(t:List AV)(st:Ju):CB.clean (.lp ps a b t st)=.lp ps a b t st:=aaK rfl rfl
def Am(h:Aa):Bool:=h.all fun c=>c.quiet c.clean
theorem aaT:∀{h:Aa} (_:Am h=true) (i:Nat) (l:Aa),Dy i h (Df h++l)=some (Ic (i+h.length) l)
 | [],_,i,l=>by simp[Df,Dy]
 |c::h,hq,i,l=>by
  simp only[Am,List.all_cons,af7]at hq
  have ih:=aaT (h:=h) hq.2 (i+1) l
  simp only[Df,List.map_cons,aqG,Dy,hq.1,cond_true]at ih ⊢
  rw[ih,anV]
  congr 2;omega
theorem nK:∀(cs:List CB) (i:Nat) (h:Aa),Bo h (Ic i cs)=h++cs
 | [],i,h=>by simp[Ic,Bo]
 |c::cs,i,h=>by simp[Ic,Bo,Ls,nK cs]
theorem jD(h:Aa)(o:Dk)(h':Aa):yK h (some (o,h'))=(Dy 0 h h').map fun es=>(o,es):=aaK rfl rfl
def EVo:=PLift.up (aaA @asH (aaA @auO (aaA @axW (aaA @atU (aaA @anQ (aaA @arO (aaA @atV (aaA @auQ @au1))))))))
def EVn:=PLift.up (aaA @ae0 (aaA @aiG (aaA @ab8 @ahK)))
def EVp:=PLift.up (aaA @axI (aaA @asA (aaA @arS (aaA @ar1 (aaA @asI (aaA @ax5 (aaA @au9 (aaA @ap5 (aaA @arT @av6)))))))))
end
noncomputable section
def Bc:CB→Option (Nat × Bool × List (List AV))
 | .live st fl _ rows=>some (st,fl,rows)
 | .frz st fl rows=>some (st,fl,rows)
 |_=>none
def Kt(f:AV→Option (AV × List Nat)):List AV→Option (List AV × List Nat)
 | []=>some ([],[])
 |a::l=>(f a).bind fun p=>(Kt f l).map fun q=>(p.1::q.1,p.2++q.2)
def Cf(f:AV→Option (AV × List Nat)):List (List AV)→Option (List (List AV) × List Nat)
 | []=>some ([],[])
 |r::rs=>(Kt f r).bind fun p=>(Cf f rs).map fun q=>(p.1::q.1,p.2++q.2)
def rd:Nat→HF→AV→Option (AV × List Nat)
 |0,_,_=>none
 |d+1,g,v=>
  match v with
  | .slr st b r len=>((g b).bind Bc).bind fun z=>
     if z.1=st∧r=0∧len=z.2.2.length then
      (bif z.2.1 then some (.imm st true z.2.2,[b])else(Cf (rd d g) z.2.2).map fun q=>(.imm st false q.1,b::q.2))
     else none
  | .agg cs=>(Kt (rd d g) cs).map fun q=>(.agg q.1,q.2)
  | .iface t x=>(rd d g x).map fun q=>(.iface t q.1,q.2)
  | .func fn [] []=>some (.func fn [] [],[])
  | .func _ _ _=>none
  | .tup _=>none
  | .ptr _ _ _=>none
  | .yl _=>none
  | .mapr _=>none
  | .itr _=>none
  | .imm _ _ _=>none
  | .iptr _=>none
  |v=>some (v,[])
theorem Tu{f f':AV→Option (AV × List Nat)}:∀{l:List AV} {p:List AV × List Nat},Kt f l=some p→(∀x∈l,∀q,f x=some q→(∀b∈q.2,b∈p.2)→f' x=some q)→Kt f' l=some p
 | [],p,h,_=>h
 |a::l,p,h,hf=>by
  simp only[Kt,aa3,aa0]at h ⊢
  obtain⟨q,hq,r,hr,rfl⟩:=h
  exact⟨q,hf a (acM ..) q hq (fun b hb=>af8 _ hb),r,Tu hr (fun x hx q' hq' hs=>hf x (abO _ hx) q' hq' (fun b hb=>af9 _ (hs b hb))),rfl⟩
theorem Rf{f f':AV→Option (AV × List Nat)}:∀{l:List (List AV)} {p:List (List AV) × List Nat},Cf f l=some p→(∀r∈l,∀x∈r,∀q,f x=some q→(∀b∈q.2,b∈p.2)→f' x=some q)→Cf f' l=some p
 | [],p,h,_=>h
 |a::l,p,h,hf=>by
  simp only[Cf,aa3,aa0]at h ⊢
  obtain⟨q,hq,r,hr,rfl⟩:=h
  exact⟨q,Tu hq (fun x hx q' hq' hs=>hf a (acM ..) x hx q' hq' (fun b hb=>af8 _ (hs b hb))),r,
   Rf hr (fun r' hr' x hx q' hq' hs=>hf r' (abO _ hr') x hx q' hq' (fun b hb=>af9 _ (hs b hb))),rfl⟩
def Agr(R:List Nat)(g g':HF):Prop:=∀b∈R,∀z,(g b).bind Bc=some z→(g' b).bind Bc=some z
theorem Qf{g g':HF}:∀{d:Nat} {v:AV} {p:AV × List Nat},rd d g v=some p→Agr p.2 g g'→rd d g' v=some p
 |0,v,p,h,_=>by simp[rd]at h
 |d+1,v,p,h,ha=>by
  cases v with
  |slr st b r len=>
   simp only[rd,aa3]at h ⊢
   obtain⟨z,⟨c,hc,hz⟩,h⟩:=h
   split at h
   ·rename_i hq
    have hb:b∈p.2:=by
     cases hfl:z.2.1 with
     |true=>rw[hfl]at h;simp at h;rw[←h];simp
     |false=>rw[hfl]at h;simp only[cond_false,aa0]at h;obtain⟨q,_,rfl⟩:=h;simp
    have hz':=ha b hb z (by rw[hc];exact hz)
    obtain⟨c',hc',hz''⟩:=aa3.1 hz'
    refine⟨z,⟨c',hc',hz''⟩,?_⟩
    rw[if_pos hq]
    cases hfl:z.2.1 with
    |true=>rw[hfl]at h;exact h
    |false=>
     rw[hfl]at h
     simp only[cond_false,aa0]at h ⊢
     obtain⟨q,hq',rfl⟩:=h
     exact⟨q,Rf hq' (fun r' _ x _ q' hx hs=>Qf hx (fun b' hb'=>ha b' (abO _ (hs b' hb')))),rfl⟩
   ·cases h
  |agg cs=>
   simp only[rd,aa0]at h ⊢
   obtain⟨q,hq,rfl⟩:=h
   exact⟨q,Tu hq (fun x _ q' hx hs=>Qf hx (fun b hb=>ha b (hs b hb))),rfl⟩
  |iface t x=>
   simp only[rd,aa0]at h ⊢
   obtain⟨q,hq,rfl⟩:=h
   exact⟨q,Qf hq ha,rfl⟩
  |func fn a b=>cases a<;>cases b<;>first|exact h|(simp[rd]at h)
  |_=>first|exact h|(simp[rd]at h)
theorem qK{g:HF}:∀{d e:Nat} {v:AV} {p:AV × List Nat},d≤e→rd d g v=some p→rd e g v=some p
 |0,e,v,p,_,h=>by simp[rd]at h
 |d+1,0,v,p,he,h=>by omega
 |d+1,e+1,v,p,he,h=>by
  have IH:∀x q,rd d g x=some q→rd e g x=some q:=fun x q hx=>qK (by omega) hx
  cases v with
  |slr st b r len=>
   simp only[rd,aa3]at h ⊢
   obtain⟨z,hz,h⟩:=h
   refine⟨z,hz,?_⟩
   split at h
   ·rename_i hq
    rw[if_pos hq]
    cases hfl:z.2.1 with
    |true=>rw[hfl]at h;exact h
    |false=>
     rw[hfl]at h
     simp only[cond_false,aa0]at h ⊢
     obtain⟨q,hq',rfl⟩:=h
     exact⟨q,Rf hq' (fun r' _ x _ q' hx _=>IH x q' hx),rfl⟩
   ·cases h
  |agg cs=>
   simp only[rd,aa0]at h ⊢
   obtain⟨q,hq,rfl⟩:=h
   exact⟨q,Tu hq (fun x _ q' hx _=>IH x q' hx),rfl⟩
  |iface t x=>
   simp only[rd,aa0]at h ⊢
   obtain⟨q,hq,rfl⟩:=h
   exact⟨q,IH _ _ hq,rfl⟩
  |func fn a b=>cases a<;>cases b<;>first|exact h|(simp[rd]at h)
  |_=>first|exact h|(simp[rd]at h)
theorem cB{f:AV→Option (AV × List Nat)}{f':AV→Option AV}:∀{l:List AV} {p:List AV × List Nat},Kt f l=some p→(∀x∈l,∀q,f x=some q→f' x=some q.1)→Au f' l=some p.1
 | [],p,h,_=>by simp[Kt]at h;subst h;rfl
 |a::l,p,h,hf=>by
  simp only[Kt,aa3,aa0]at h
  obtain⟨q,hq,r,hr,rfl⟩:=h
  simp only[Au,hf a (acM ..) q hq,aa9,cB hr (fun x hx=>hf x (abO _ hx)),ae4]
theorem eE{f:AV→Option (AV × List Nat)}{f':AV→Option AV}:∀{l:List (List AV)} {p:List (List AV) × List Nat},Cf f l=some p→(∀r∈l,∀x∈r,∀q,f x=some q→f' x=some q.1)→Au (Au f') l=some p.1
 | [],p,h,_=>by simp[Cf]at h;subst h;rfl
 |a::l,p,h,hf=>by
  simp only[Cf,aa3,aa0]at h
  obtain⟨q,hq,r,hr,rfl⟩:=h
  simp only[Au,cB hq (fun x hx=>hf a (acM ..) x hx),aa9,eE hr (fun r' hr'=>hf r' (abO _ hr')),ae4]
theorem rN{g:HF}{b:Nat}{z:Nat × Bool × List (List AV)}(h:(g b).bind Bc=some z):Fb g b 0 z.2.2.length=some z:=by
 obtain⟨c,hc,hz⟩:=aa3.1 h
 unfold Fb
 rw[hc]
 cases c with
 |live st fl w rows=>simp[Bc]at hz;subst hz;simp
 |frz st fl rows=>simp[Bc]at hz;subst hz;simp
 |dead=>simp[Bc]at hz
 |lp=>simp[Bc]at hz
theorem fV{g:HF}:∀{d:Nat} {v:AV} {p:AV × List Nat},rd d g v=some p→Eu d g v=some p.1
 |0,v,p,h=>by simp[rd]at h
 |d+1,v,p,h=>by
  cases v with
  |slr st b r len=>
   simp only[rd,aa3]at h
   obtain⟨z,hz,h⟩:=h
   split at h
   ·rename_i hq
    obtain⟨rfl,rfl,rfl⟩:=hq
    simp only[Eu,rN (aa3.2 hz),aa9]
    cases hfl:z.2.1 with
    |true=>rw[hfl]at h;simp at h;rw[←h];rfl
    |false=>
     rw[hfl]at h
     simp only[cond_false,aa0]at h
     obtain⟨q,hq',rfl⟩:=h
     simp[eE hq' (fun r' _ x _ q' hx=>fV hx)]
   ·cases h
  |agg cs=>
   simp only[rd,aa0]at h
   obtain⟨q,hq,rfl⟩:=h
   simp[Eu,cB hq (fun x _ q' hx=>fV hx)]
  |iface t x=>
   simp only[rd,aa0]at h
   obtain⟨q,hq,rfl⟩:=h
   simp[Eu,fV hq]
  |func fn a b=>cases a<;>cases b<;>first|(simp[rd]at h;subst h;rfl)|(simp[rd]at h)
  |_=>first|(simp[rd]at h;subst h;rfl)|(simp[rd]at h)
def Em:Nat→(Nat→Option Nat)→AV→Option AV
 |0,_,_=>none
 |d+1,F,v=>
  match v with
  | .ptr b r o=>(F b).map fun b=>.ptr b r o
  | .slr st b r len=>(F b).map fun b=>.slr st b r len
  | .agg cs=>(Au (Em d F) cs).map .agg
  | .tup cs=>(Au (Em d F) cs).map .tup
  | .iface t x=>(Em d F x).map (.iface t)
  | .func fn a b=>(Au (Em d F) a).bind fun a=>(Au (Em d F) b).map fun b=>.func fn a b
  | .yl b=>(F b).map .yl
  | .mapr b=>(F b).map .mapr
  | .itr b=>(F b).map .itr
  |v=>some v
def zB(F:Nat→Option Nat)(g' g:HF):Prop:=∀i b,F i=some b→∀z,(g b).bind Bc=some z→
 ∃rows',(g' i).bind Bc=some (z.1,z.2.1,rows')∧(z.2.1=true→rows'=z.2.2)∧(z.2.1=false→Au (Au (Em 8 F)) rows'=some z.2.2)
theorem Ku{α β:Type}{f:α→Option β}:∀{l:List α} {r:List β},Au f l=some r→l.length=r.length
 | [],r,h=>by simp[Au]at h;subst h;rfl
 |a::l,r,h=>by
  simp only[Au,aa3,aa0]at h
  obtain⟨b,_,bs,h2,rfl⟩:=h
  simp[Ku h2]
theorem gA{f f':AV→Option (AV × List Nat)}{F:AV→Option AV}{Z:Nat→Prop}:∀{l l':List AV} {p:List AV × List Nat},Au F l'=some l→Kt f l=some p→
 (∀x' x q,F x'=some x→f x=some q→∃R',f' x'=some (q.1,R')∧R'.length=q.2.length∧∀i∈R',Z i)→∃R',Kt f' l'=some (p.1,R')∧R'.length=p.2.length∧∀i∈R',Z i
 |l,[],p,ho,h,_=>by
  simp[Au]at ho;subst ho
  simp[Kt]at h;subst h
  exact⟨[],rfl,rfl,fun i h=>by cases h⟩
 |l,a'::l',p,ho,h,hf=>by
  simp only[Au,aa3,aa0]at ho
  obtain⟨a,ha,l1,hl1,rfl⟩:=ho
  simp only[Kt,aa3,aa0]at h
  obtain⟨q,hq,r,hr,rfl⟩:=h
  obtain⟨R1,e1,e2,z1⟩:=hf a' a q ha hq
  obtain⟨R2,e3,e4,z2⟩:=gA hl1 hr hf
  exact⟨R1++R2,by simp[Kt,e1,e3],by simp[e2,e4],fun i hi=>(ae7.1 hi).elim (z1 i) (z2 i)⟩
theorem lT{f f':AV→Option (AV × List Nat)}{F:AV→Option AV}{Z:Nat→Prop}:∀{l l':List (List AV)} {p:List (List AV) × List Nat},Au (Au F) l'=some l→Cf f l=some p→
 (∀x' x q,F x'=some x→f x=some q→∃R',f' x'=some (q.1,R')∧R'.length=q.2.length∧∀i∈R',Z i)→∃R',Cf f' l'=some (p.1,R')∧R'.length=p.2.length∧∀i∈R',Z i
 |l,[],p,ho,h,_=>by
  simp[Au]at ho;subst ho
  simp[Cf]at h;subst h
  exact⟨[],rfl,rfl,fun i h=>by cases h⟩
 |l,a'::l',p,ho,h,hf=>by
  simp only[Au,aa3,aa0]at ho
  obtain⟨a,ha,l1,hl1,rfl⟩:=ho
  simp only[Cf,aa3,aa0]at h
  obtain⟨q,hq,r,hr,rfl⟩:=h
  obtain⟨R1,e1,e2,z1⟩:=gA ha hq hf
  obtain⟨R2,e3,e4,z2⟩:=lT hl1 hr hf
  exact⟨R1++R2,by simp[Cf,e1,e3],by simp[e2,e4],fun i hi=>(ae7.1 hi).elim (z1 i) (z2 i)⟩
theorem lH{F:Nat→Option Nat}{g' g:HF}(H:zB F g' g):∀{d e:Nat} {x' x:AV} {p:AV × List Nat},Em e F x'=some x→rd d g x=some p→∃R',rd d g' x'=some (p.1,R')∧R'.length=p.2.length∧∀i∈R',∃b,F i=some b
 |0,e,x',x,p,_,h=>by simp[rd]at h
 |d+1,0,x',x,p,hx,_=>by simp[Em]at hx
 |d+1,e+1,x',x,p,hx,h=>by
  have IH:∀e x' x q,Em e F x'=some x→rd d g x=some q→∃R',rd d g' x'=some (q.1,R')∧R'.length=q.2.length∧∀i∈R',∃b,F i=some b:=fun e x' x q h1 h2=>lH H h1 h2
  cases x' with
  |slr st i r len=>
   simp only[Em,aa0]at hx
   obtain⟨b,hb,rfl⟩:=hx
   simp only[rd,aa3]at h
   obtain⟨z,hz,h⟩:=h
   split at h
   ·rename_i hq
    obtain⟨rows',k1,k2,k3⟩:=H i b hb z (aa3.2 hz)
    simp only[rd,k1,aa9]
    cases hfl:z.2.1 with
    |true=>
     rw[hfl]at h;simp at h
     rw[if_pos ⟨hq.1,hq.2.1,by rw[k2 hfl];exact hq.2.2⟩,←h,k2 hfl]
     exact⟨[i],rfl,rfl,fun j hj=>by simp at hj;subst hj;exact⟨b,hb⟩⟩
    |false=>
     rw[hfl]at h
     simp only[cond_false,aa0]at h
     obtain⟨q,hq',rfl⟩:=h
     have hl:=Ku (k3 hfl)
     rw[if_pos ⟨hq.1,hq.2.1,by rw[hl];exact hq.2.2⟩]
     obtain⟨R',e1,e2,z1⟩:=lT (f':=rd d g') (k3 hfl) hq' (fun x' x q h1 h2=>IH 8 x' x q h1 h2)
     exact⟨i::R',by simp[e1],by simp[e2],fun j hj=>(af5.1 hj).elim (fun e=>e▸⟨b,hb⟩) (z1 j)⟩
   ·cases h
  |agg cs=>
   simp only[Em,aa0]at hx
   obtain⟨cs',hcs,rfl⟩:=hx
   simp only[rd,aa0]at h
   obtain⟨q,hq,rfl⟩:=h
   obtain⟨R',e1,e2,z1⟩:=gA (f':=rd d g') hcs hq (fun x' x q h1 h2=>IH e x' x q h1 h2)
   exact⟨R',by simp[rd,e1],e2,z1⟩
  |iface t y=>
   simp only[Em,aa0]at hx
   obtain⟨y',hy,rfl⟩:=hx
   simp only[rd,aa0]at h
   obtain⟨q,hq,rfl⟩:=h
   obtain⟨R',e1,e2,z1⟩:=IH e _ _ q hy hq
   exact⟨R',by simp[rd,e1],e2,z1⟩
  |func fn a b=>
   simp only[Em,aa3,aa0]at hx
   obtain⟨a1,ha,b1,hb,rfl⟩:=hx
   have la:=Ku ha
   have lb:=Ku hb
   cases a1 with
   |cons=>simp[rd]at h
   |nil=>
    cases b1 with
    |cons=>simp[rd]at h
    |nil=>
     simp at la lb
     obtain rfl:=la
     obtain rfl:=lb
     simp[rd]at h;subst h
     exact⟨[],rfl,rfl,fun i h=>by cases h⟩
  |ptr b r o=>
   simp only[Em,aa0]at hx
   obtain⟨b,hb,rfl⟩:=hx
   simp[rd]at h
  |tup cs=>
   simp only[Em,aa0]at hx
   obtain⟨b,hb,rfl⟩:=hx
   simp[rd]at h
  |yl b=>
   simp only[Em,aa0]at hx
   obtain⟨b,hb,rfl⟩:=hx
   simp[rd]at h
  |mapr b=>
   simp only[Em,aa0]at hx
   obtain⟨b,hb,rfl⟩:=hx
   simp[rd]at h
  |itr b=>
   simp only[Em,aa0]at hx
   obtain⟨b,hb,rfl⟩:=hx
   simp[rd]at h
  |imm=>simp[Em]at hx;subst hx;simp[rd]at h
  |iptr=>simp[Em]at hx;subst hx;simp[rd]at h
  |_=>simp[Em]at hx;subst hx;simp[rd]at h;subst h;exact⟨[],rfl,rfl,fun i h=>by cases h⟩
end
noncomputable section
open Go.RowKit
section
variable {P:Program} {O:Ea} {pr:Hl}
def fnS(P:Program)(rs:List ResultVar)(x:R):Option (Dk × Aa):=
 match x with
 |some (.normal,s)|some (.ret,s)=>(Qs P s rs).map fun vs=>(.ret (Om vs),s.h)
 |some (.pan v,s)=>some (.pan v,s.h)
 |_=>none
theorem asG{f:Nat}{fn:Func}(hf:P.funcs[f]?=some fn){c:Code}(hb:fn.body=some c){args:List AV}(hl:args.length≤fn.ntmps)(h:Aa):
 evS O P f args h=fnS P fn.results.toList (Ce O P Jd c [] ⟨mk fn.ntmps (Cj args),h⟩):=by
 unfold evS
 simp only[hf,hb]
 rw[alQ _ _ hl]
 cases Ce O P Jd c [] ⟨mk fn.ntmps (Cj args),h⟩with
 |none=>rfl
 |some x=>
  obtain⟨e,s⟩:=x
  cases e<;>rfl
def FnS(P:Program)(rs:List ResultVar)(Q:Dk→Aa→Prop)(x:R):Prop:=∃o h,fnS P rs x=some (o,h)∧Q o h
def RtS(vs:Option (List AV))(h:Aa)(Q:Dk→Aa→Prop):Prop:=
 match vs with
 |some vs=>Q (.ret (Om vs)) h
 |none=>False
theorem qY(rs:List ResultVar)(Q:Dk→Aa→Prop)(t:List AV)(h:Aa):FnS P rs Q (some (.ret,⟨t,h⟩))=RtS (Qs P ⟨t,h⟩ rs) h Q:=by
 cases hr:Qs P ⟨t,h⟩ rs with
 |none=>simp[FnS,fnS,RtS,hr]
 |some vs=>
  have e:fnS P rs (some (.ret,⟨t,h⟩))=some (.ret (Om vs),h):=by simp[fnS,hr]
  exact propext (Iff.intro (fun⟨o,h',e',q⟩=>by rw[e]at e';cases e';exact q) (fun q=>⟨_,_,e,q⟩))
theorem aeO(rs:List ResultVar)(Q:Dk→Aa→Prop)(t:List AV)(h:Aa):FnS P rs Q (some (.normal,⟨t,h⟩))=RtS (Qs P ⟨t,h⟩ rs) h Q:=by
 rw[←qY];rfl
theorem agI(vs:List AV)(h:Aa)(Q:Dk→Aa→Prop):RtS (some vs) h Q=Q (.ret (Om vs)) h:=aaK rfl rfl
theorem akN{rs:List ResultVar}{Q:Dk→Aa→Prop}:¬FnS P rs Q none:=fun⟨_,_,h,_⟩=>by simp[fnS]at h
def kZ(O:Ea)(f:Nat)(args:List AV)(h:Aa)(Q:Dk→Aa→Prop):Prop:=∃o h',O.call (.sh f) args h=some (o,h')∧Q o h'
theorem kZ.start{f:Nat}{fn:Func}{c:Code}{args:List AV}{h:Aa}{Q:Dk→Aa→Prop}(hp:pr f=none)(hf:P.funcs[f]?=some fn)(hb:fn.body=some c)(hl:Nat.ble args.length fn.ntmps=true)
 (he:FnS P fn.results.toList Q (Ce (om P pr) P 5000 c [] ⟨mk fn.ntmps (Cj args),h⟩)) (hs:pr.sh f=none:=by exact rfl):kZ (om P pr) f args h Q:=by
 obtain⟨o,h',e,q⟩:=he
 exact⟨o,h',aqK hp hs ((asG hf hb (Nat.le_of_ble_eq_true hl) h).trans e),q⟩
theorem kZ.eq{f:Nat}{args:List AV}{h:Aa}{o:Dk}{h':Aa}(k:kZ O f args h fun o1 h1=>(o1,h1)=(o,h')):O.call (.sh f) args h=some (o,h'):=by
 obtain⟨o1,h1,e,q⟩:=k
 rw[e,q]
def ncK(x:Option AV):OE:=
 match x with
 |some (.ptr b r o)=>some (.ret (.ptr b r o),[])
 |some (.iptr cs)=>some (.ret (.iptr cs),[])
 |some (.func (.func f) a c)=>some (.ret (.func (.func f) a c),[])
 |_=>none
theorem avK(b r o:Nat):ncK (some (.ptr b r o))=some (.ret (.ptr b r o),[]):=aaK rfl rfl
theorem awE(t:List AV)(h:Aa)(x:Operand):Dl O P t h (.nilCheck x)=ncK (Ae t x):=by
 rw[Bz _ _ _ rfl]
 simp only[exec,ncK]
 cases Ae t x with
 |none=>rfl
 |some v=>
  cases v with
  |func fn a c=>cases fn<;>rfl
  |_=>rfl
theorem ayF(t:List AV)(h:Aa)(x:Operand):dG O P t h (.nilCheck x)=some []:=aaK rfl rfl
end
def EVq:=PLift.up (aaA @qY (aaA @aeO (aaA @agI (aaA @avK (aaA @awE @ayF)))))
end
noncomputable section
open Go.RowKit
section
variable {P:Program} {O:Ea}
end
def Sj(k st:Nat)(fl:Bool)(rows:List (List AV))(v:AV)(g:Aa):Prop:=
 (rows=[]∧v=.nils)∨∃b w,v=.slr st (b+k) 0 rows.length∧g[b]?=some (.live st fl w rows)
def kl(k:Nat)(v:AV)(g:Aa):Aa:=
 match v with
 | .slr _ b _ _=>g.set (b-k) .dead
 |_=>g
theorem Sj.nil(k st:Nat)(fl:Bool)(g:Aa):Sj k st fl [] .nils g:=.inl ⟨rfl,rfl⟩
theorem Sj.blk{k st:Nat}{fl w:Bool}{rows:List (List AV)}{g:Aa}{b n c:Nat}(h:g[b]?=some (.live st fl w rows))(hc:c=b+k)(hn:n=rows.length):Sj k st fl rows (.slr st c 0 n) g:=by
 subst hc hn;exact .inr ⟨b,w,rfl,h⟩
theorem Sj.app{k st:Nat}{fl:Bool}{rows:List (List AV)}{v:AV}{g:Aa}(h:Sj k st fl rows v g)(l:Aa):Sj k st fl rows v (g++l):=by
 rcases h with h|⟨b,w,h1,h2⟩
 ·exact .inl h
 ·exact .inr ⟨b,w,h1,by rw[af6 (acY.1 h2).1];exact h2⟩
theorem Qc(k:Nat)(v:AV)(g:Aa):(kl k v g).length=g.length:=by
 unfold kl;split<;>simp
def apE(v:AV)(st:Nat)(fl:Bool)(rows:List (List AV))(base:Nat):List Af:=
 match v with
 | .slr _ b _ _=>[.put b .dead,.new base (.live st fl false rows)]
 |_=>[.new base (.live st fl false rows)]
theorem zU{k n:Nat}{fl:Bool}{rows:List (List AV)}{v:AV}{g:Aa}(ho:Sj k n fl rows v g){pre:Aa}(hk:pre.length=k)(l:Aa)(r:List AV)(new:List (List AV))(hl:rows.length+(new.length+1)≤549755813888):
 sU n (pre++(g++l)) (some v) (some (fl,r::new))=some (.ret (.slr n (pre++(g++l)).length 0 (rows.length+(r::new).length)),apE v n fl (rows++r::new) (pre++(g++l)).length):=by
 rcases ho with⟨rfl,rfl⟩|⟨b,w,rfl,h2⟩
 ·rw[zF,if_pos (by simp at hl ⊢;omega)]
  simp[apE]
 ·have hb:=(acY.1 h2).1
  have hq:(pre++(g++l))[b+k]?=some (.live n fl w rows):=by
   rw[ajM (by omega),af6 (by omega)]
   rw[show b+k-pre.length=b by omega];exact h2
  rw[yC,hq,tX,if_pos ⟨rfl,by omega,by simp only[anV];omega⟩]
  simp[apE]
theorem vY{k n:Nat}{fl:Bool}{rows:List (List AV)}{v:AV}{g:Aa}(ho:Sj k n fl rows v g){pre:Aa}(hk:pre.length=k)(l:Aa)(st:Nat)(fl':Bool)(rows':List (List AV))(base:Nat):
 Bo (pre++(g++l)) (apE v st fl' rows' base)=pre++(kl k v g++(l++[.live st fl' false rows'])):=by
 rcases ho with⟨rfl,rfl⟩|⟨b,w,rfl,h2⟩
 ·simp[apE,Bo,Ls,kl]
 ·have hb:=(acY.1 h2).1
  simp only[apE,Bo,Ls,kl,Nat.add_sub_cancel]
  rw[List.set_append_right _ _ (by omega),show b+k-pre.length=b by omega,List.set_append_left _ _ hb]
  simp
def pkd(O:Ea)(f:Nat)(args:List AV):Prop:=fM args=true→(Td args||O.md f)=false
theorem Xj{O:Ea}{f:Nat}{args:List AV}(h:(Td args||O.md f)=false):pkd O f args:=fun _=>h
theorem zC{O:Ea}{h:Aa}{f:Nat}{args:List AV}(hd:pkd O f args):cl O h (some (.func (.func f) [] [])) (some args)=cr (Db O (hf h) h.length (.fn f) args):=by
 rw[sE]
 simp only[agA,agB]
 split
 ·rename_i hh
  unfold shC
  rw[hd hh];simp only[Bool.false_eq_true,if_false]
 ·rfl
theorem Sj.ln{P:Program}{k st:Nat}{fl:Bool}{rows:List (List AV)}{v:AV}{g:Aa}(h:Sj k st fl rows v g){ty e:TypeId}(hu:P.underlying ty=some (.slice e)):ln P ty (some v)=some (.ret (.int .i64 rows.length),[]):=by
 rcases h with⟨rfl,rfl⟩|⟨b,w,rfl,_⟩
 ·simp[Ev.ln,rQ,hu,r1]
 ·simp[Ev.ln,rQ,hu,r1]
def vL(a:Int)(i:Nat):Int:=a.fdiv (2 ^ (min i 64))
def adM(a:Int):Int:=IntKind.i64.wrap ((BitVec.ofInt 64 a&&&BitVec.ofInt 64 1).toNat:Int)
def uF(n:Nat):Int:=IntKind.i64.wrap (1*2 ^ (min n 64))
section
variable {P:Program} (ty:TypeId)
theorem alD(a:Int)(i:Nat):Fz P .shr ty (.int .i64 a) (.int .i64 (i:Int))=some (.int .i64 (vL a i)):=by
 simp[Fz,vL,IntKind.bits]
theorem as3(a:Int):Fz P .and ty (.int .i64 a) (.int .i64 1)=some (.int .i64 (adM a)):=by
 show(if IntKind.i64=IntKind.i64 then Ho .and .i64 a 1 else none)=_
 rw[if_pos rfl];rfl
theorem as0(n:Nat):Fz P .shl ty (.int .i64 1) (.int .i64 (n:Int))=some (.int .i64 (uF n)):=by
 simp[Fz,uF,IntKind.bits]
end
def EVr:=PLift.up (aaA @alD (aaA @as3 @as0))
end
noncomputable section
open Go.RowKit
section
variable {P:Program} {O:Ea} {pr:Hl}
def rnX(O:Ea)(P:Program)(n:Nat)(k:List Ar)(t:List AV)(b:Nat)(h2:Aa)(x:Option CB):R:=
 match x with
 |some (.lp _ _ _ _ .ready)=>Cd (Ce O P n) k .normal ⟨t,h2.set b .dead⟩
 |some (.lp _ _ _ _ (.done .ret))=>Cd (Ce O P n) k .ret ⟨t,h2.set b .dead⟩
 |some (.lp _ _ _ _ (.done (.exit i)))=>Cd (Ce O P n) k (.exit i) ⟨t,h2.set b .dead⟩
 |_=>none
def rnE(O:Ea)(P:Program)(n:Nat)(k:List Ar)(t:List AV)(b:Nat)(h1:Aa)(x:OE):R:=
 match x with
 |some (.ret _,es)=>rnX O P n k t b (Bo h1 es) ((Bo h1 es)[b]?)
 |_=>none
def rnC(O:Ea)(h1:Aa)(b:Nat)(fv:Option AV):OE:=
 match fv with
 |some (.func (.func g) a c)=>cr (Et O (hf h1) h1.length (Uc g (a++[.yl b]++c)) (a++[.yl b]++c))
 |_=>none
theorem axY(n:Nat)(k:List Ar)(t:List AV)(b:Nat)(h1:Aa)(x:Option Jf):
 (x.bind fun d=>match d.out with
   | .ret _=>
     let h2:=Bo h1 d.es
     match h2[b]? with
     |some (.lp _ _ _ _ .ready)=>Cd (Ce O P n) k .normal ⟨t,h2.set b .dead⟩
     |some (.lp _ _ _ _ (.done .ret))=>Cd (Ce O P n) k .ret ⟨t,h2.set b .dead⟩
     |some (.lp _ _ _ _ (.done (.exit i)))=>Cd (Ce O P n) k (.exit i) ⟨t,h2.set b .dead⟩
     |_=>none
   | .pan _=>none)=rnE O P n k t b h1 (cr x):=by
 cases x with
 |none=>rfl
 |some d=>
  obtain⟨o,es,fs⟩:=d
  cases o<;>rfl
theorem au6(n:Nat)(f:Operand)(ps:Array Nat)(asg body:Code)(k:List Ar)(t:List AV)(h:Aa):
 Ce O P (n+1) (.rangeFunc f ps asg body) k ⟨t,h⟩=rnE O P n k t h.length (h++[.lp ps.toList asg body t .ready]) (rnC O (h++[.lp ps.toList asg body t .ready]) h.length (Ae t f)):=by
 simp only[Ce,rnC]
 cases Ae t f with
 |none=>rfl
 |some v=>
  simp only[aa9]
  cases v with
  |func fn a c=>
   cases fn with
   |func g=>exact axY n k t h.length _ _
   |_=>rfl
  |_=>rfl
theorem arR(h1:Aa)(b g:Nat)(a c:List AV):rnC O h1 b (some (.func (.func g) a c))=if fM (a++[.yl b]++c)=true then shC O h1 g (a++[.yl b]++c)else cr (Db O (hf h1) h1.length (.fn g) (a++[.yl b]++c)):=yZ h1 g _
theorem al5(n:Nat)(k:List Ar)(t:List AV)(b:Nat)(h1:Aa)(v:AV)(es:List Af):rnE O P n k t b h1 (some (.ret v,es))=rnX O P n k t b (Bo h1 es) ((Bo h1 es)[b]?):=aaK rfl rfl
theorem acP(n:Nat)(k:List Ar)(t:List AV)(b:Nat)(h2:Aa)(ps:List Nat)(asg body:Code)(tm:List AV):rnX O P n k t b h2 (some (.lp ps asg body tm .ready))=Cd (Ce O P n) k .normal ⟨t,h2.set b .dead⟩:=aaK rfl rfl
def slK(h:Aa)(b:Nat)(ok:Ju→Bool)(st:Ju)(x:Option CB):Option Aa:=
 match x with
 |some (.lp ps asg body tmps st')=>if ok st' then some (h.set b (.lp ps asg body tmps st))else none
 |_=>none
theorem ax8(h:Aa)(b:Nat)(ok:Ju→Bool)(st:Ju):Ny h b ok st=slK h b ok st (h[b]?):=by
 unfold Ny slK
 cases h[b]? with
 |none=>rfl
 |some c=>cases c<;>rfl
theorem aiR(h:Aa)(b:Nat)(st:Ju)(ps:List Nat)(asg body:Code)(tm:List AV):slK h b Ju.isReady st (some (.lp ps asg body tm .ready))=some (h.set b (.lp ps asg body tm st)):=aaK rfl rfl
theorem aoW(h:Aa)(b:Nat)(st:Ju)(ps:List Nat)(asg body:Code)(tm:List AV):slK h b Ju.isBusy st (some (.lp ps asg body tm .busy))=some (h.set b (.lp ps asg body tm st)):=aaK rfl rfl
def anC(O:Ea)(P:Program)(body:Code)(t:List AV)(x:Option Aa):R:=
 match x with
 |some h1=>Ce O P 5000 body [] ⟨t,h1⟩
 |none=>none
def ajW(O:Ea)(P:Program)(b:Nat)(body:Code)(x:R):R:=
 match x with
 |some (.normal,s)=>anC O P body s.tmps (Ny s.h b Ju.isReady .busy)
 |_=>none
def wA(r:Bool)(x:Option Aa):Option (Dk × Aa):=x.map fun h2=>(.ret (.bool r),h2)
def acC(b:Nat)(x:R):Option (Dk × Aa):=
 match x with
 |some (.normal,s)=>wA true (Ny s.h b Ju.isBusy .ready)
 |some (.ret,s)=>wA false (Ny s.h b Ju.isBusy (.done .ret))
 |some (.exit i,s)=>wA false (Ny s.h b Ju.isBusy (.done (.exit i)))
 |_=>none
theorem ab0(body:Code)(t:List AV)(h:Aa):anC O P body t (some h)=Ce O P 5000 body [] ⟨t,h⟩:=aaK rfl rfl
theorem uU(b:Nat)(body:Code)(t:List AV)(h:Aa):ajW O P b body (some (.normal,⟨t,h⟩))=anC O P body t (Ny h b Ju.isReady .busy):=aaK rfl rfl
theorem acK(r:Bool)(h:Aa):wA r (some h)=some (.ret (.bool r),h):=aaK rfl rfl
theorem ajT{vs:List AV}{b:Nat}{h:Aa}{ps:List Nat}{asg body:Code}{tm:List AV}{st:Ju}(hb:h[b]?=some (.lp ps asg body tm st))(hl:ps.length=vs.length):
 Kx O P (vs++[.yl b]) h=acC b (ajW O P b body (Ce O P 5000 asg [] ⟨Ou tm ps vs,h⟩)):=by
 unfold Kx
 simp only[List.reverse_append,List.reverse_cons,List.reverse_nil,agA,aqG,List.reverse_reverse,List.length_reverse,hb,hl,if_true,Jd]
 cases Ce O P 5000 asg [] ⟨Ou tm ps vs,h⟩with
 |none=>rfl
 |some x=>
  obtain⟨e,s⟩:=x
  cases e with
  |normal=>
   simp only[aa9,ajW]
   cases Ny s.h b Ju.isReady .busy with
   |none=>rfl
   |some h1=>
    simp only[aa9,anC]
    cases Ce O P 5000 body [] ⟨s.tmps,h1⟩with
    |none=>rfl
    |some y=>
     obtain⟨e,s⟩:=y
     cases e with
     |normal=>simp only[aa9,Of,acC,wA];cases Ny s.h b Ju.isBusy .ready<;>rfl
     |ret=>simp only[aa9,Of,acC,wA];cases Ny s.h b Ju.isBusy (.done .ret)<;>rfl
     |exit i=>simp only[aa9,Of,acC,wA];cases Ny s.h b Ju.isBusy (.done (.exit i))<;>rfl
     |pan v=>rfl
  |_=>rfl
def RnE(b:Nat)(Q:Dk→Aa→Prop)(x:R):Prop:=∃o h',acC b x=some (o,h')∧Q o h'
def RnQ(O:Ea)(args:List AV)(h:Aa)(Q:Dk→Aa→Prop):Prop:=∃o h',O.call .round args h=some (o,h')∧Q o h'
theorem RnQ.start{vs:List AV}{b:Nat}{h:Aa}{ps:List Nat}{asg body:Code}{tm:List AV}{st:Ju}{Q:Dk→Aa→Prop}(hb:h[b]?=some (.lp ps asg body tm st))(hl:ps.length=vs.length)
 (he:RnE b Q (ajW (om P pr) P b body (Ce (om P pr) P 5000 asg [] ⟨Ou tm ps vs,h⟩))):RnQ (om P pr) (vs++[.yl b]) h Q:=by
 obtain⟨o,h',e,q⟩:=he
 exact⟨o,h',uD ((ajT hb hl).trans e),q⟩
theorem at6{C:R→Prop}{n f b:Nat}{k:List Ar}{t:List AV}{h1 h2:Aa}{args:List AV}{Q:Dk→Aa→Prop}(hq:kZ O f args h2 Q)(hk:∀o h',Q o h'→C (rnE O P n k t b h1 (yK h1 (some (o,h'))))):C (rnE O P n k t b h1 (yK h1 (O.call (.sh f) args h2))):=by
 obtain⟨o,h',e,q⟩:=hq
 rw[e];exact hk o h' q
theorem afL(b:Nat)(Q:Dk→Aa→Prop)(t:List AV)(h:Aa):RnE b Q (some (.normal,⟨t,h⟩))=∃o h',wA true (Ny h b Ju.isBusy .ready)=some (o,h')∧Q o h':=aaK rfl rfl
theorem gJ(h:Aa)(f:Nat)(args:List AV):uQ O h f args=if(Td args||O.md f)=true then some [.all]else if args.all (Az 8)=true then some []else ftR h args:=aaK rfl rfl
theorem ajP{b:Nat}{Q:Dk→Aa→Prop}:¬RnE b Q none:=fun⟨_,_,h,_⟩=>by simp[acC]at h
theorem ap1(n:Nat)(t:Tm)(p:Nat)(ps:List Nat)(v:AV)(vs:List AV):Ou (mk n t) (p::ps) (v::vs)=Ou (mk n (up t p v)) ps vs:=by
 simp only[Ou,alI]
theorem avC(n:Nat)(t:Tm)(vs:List AV):Ou (mk n t) [] vs=mk n t:=by cases vs<;>rfl
end
def Vq(f:Nat→Nat):Bf→Bf
 | .cells b o n=>.cells (f b) o n
 | .blk b=>.blk (f b)
 | .all=>.all
def rX(f:Nat→Nat)(log:Qy):List (List Bf × List Bf):=log.map fun x=>(x.1.map fun e=>Vq f e.foot,x.2.map (Vq f))
def Uw(x y:List Bf × List Bf):Bool:=x.1.any (fun f=>(y.1++y.2).any f.meets)||y.1.any (fun f=>x.2.any f.meets)
def eV(ops:List Oper)(lg:List (List Bf × List Bf)):Bool:=
 (eT ops).all fun(i,j)=>match lg[i]?,lg[j]? with
   |some x,some y=> !Uw x y
   |_,_=>false
def jU(n q:Nat)(b:Nat):Nat:=if b<q then b else b-n+1000
theorem Pl{n q b:Nat}(h:b<q):jU n q b=b:=by simp[jU,h]
theorem jC(f:Nat→Nat)(x y:Bf)(h:x.meets y=true):(Vq f x).meets (Vq f y)=true:=by
 cases x<;>cases y<;>simp_all[Bf.meets,Vq]
theorem tN(f:Nat→Nat)(x y:List Af × List Bf)(h:Il x y=true):Uw (x.1.map fun e=>Vq f e.foot,x.2.map (Vq f)) (y.1.map fun e=>Vq f e.foot,y.2.map (Vq f))=true:=by
 simp only[Il,Uw,aqJ,aqS,ae7,aj8]at h ⊢
 rcases h with⟨a,⟨e,he,rfl⟩,b,hb,hm⟩|⟨a,⟨e,he,rfl⟩,b,hb,hm⟩
 ·refine .inl ⟨_,⟨e,he,rfl⟩,Vq f b,?_,jC f _ _ hm⟩
  rcases hb with⟨e',he',rfl⟩|hb
  ·exact .inl ⟨e',he',rfl⟩
  ·exact .inr ⟨b,hb,rfl⟩
 ·exact .inr ⟨_,⟨e,he,rfl⟩,Vq f b,⟨b,hb,rfl⟩,jC f _ _ hm⟩
theorem aG(f:Nat→Nat){ops:List Oper}{log:Qy}(h:eV ops (rX f log)=true):Dp ops log=true:=by
 simp only[eV,Dp,afR]at h ⊢
 rintro⟨i,j⟩ hij
 have:=h (i,j) hij
 simp only[rX,aiO]at this ⊢
 cases hi:log[i]? with
 |none=>simp[hi]at this
 |some x=>
  cases hj:log[j]? with
  |none=>simp[hi,hj]at this
  |some y=>
   simp only[hi,hj,ae4,aq7,arQ]at this ⊢
   cases hc:Il x y with
   |false=>rfl
   |true=>rw[tN f x y hc]at this;cases this
theorem pY(n q:Nat){C:R→Prop}{ops:List Oper}{log:Qy}{k:R}(hb:eV ops (rX (jU n q) log)=true)(h:True→C k):C (Gg (Dp ops log) k):=Zv (aG _ hb) h
theorem Uu(f:Nat→Nat):rX f []=[]:=aaK rfl rfl
theorem Pn(f:Nat→Nat)(x:List Af)(y:List Bf)(l:Qy):rX f ((x,y)::l)=(x.map (fun e=>Vq f e.foot),y.map (Vq f))::rX f l:=aaK rfl rfl
theorem Jk(f:Nat→Nat)(b o n:Nat):Vq f (.cells b o n)=.cells (f b) o n:=aaK rfl rfl
theorem Qn(f:Nat→Nat)(b:Nat):Vq f (.blk b)=.blk (f b):=aaK rfl rfl
theorem Us(f:Nat→Nat):Vq f .all=.all:=aaK rfl rfl
theorem Ry(b:Nat)(c:CB):Af.foot (.new b c)=.blk b:=aaK rfl rfl
theorem Vg(b:Nat)(c:CB):Af.foot (.put b c)=.blk b:=aaK rfl rfl
theorem La(b r o:Nat)(vs:List AV):Af.foot (.cells b r o vs)=.cells b o vs.length:=aaK rfl rfl
section
variable {P:Program} {O:Ea}
theorem ah8(t:List AV)(h:Aa)(ty:TypeId)(x i:Operand):Dl O P t h (.index ty x i)=r1 ((Ae t x).bind fun x=>(Ae t i).bind fun i=>Oo P ty x i):=by
 rw[Bz _ _ _ rfl]
 simp only[exec]
 cases Ae t x with
 |none=>rfl
 |some a=>
  cases Ae t i with
  |none=>rfl
  |some b=>exact Ge _
end
def EVs:=PLift.up (aaA @au6 (aaA @arR (aaA @al5 (aaA @acP (aaA @ax8 (aaA @aiR (aaA @aoW (aaA @ab0 (aaA @uU (aaA @acK (aaA @afL (aaA @ap1 (aaA @gJ (aaA @ah8 @avC))))))))))))))
end
noncomputable section
open Go.RowKit
set_option maxRecDepth 100000
def EVZ:=PLift.up (aaA EVa.down (aaA EVb.down (aaA EVc.down (aaA EVd.down (aaA EVe.down (aaA EVf.down (aaA EVg.down (aaA EVh.down (aaA EVi.down (aaA EVj.down (aaA EVk.down (aaA EVl.down (aaA EVm.down (aaA EVn.down (aaA EVo.down (aaA EVp.down EVq.down))))))))))))))))
section
variable {P:Program} {O:Ea}
class NoN(C:R→Prop):Prop where
 no:¬C none
instance{q:Nat}{rs:List ResultVar}{Q:Dk→Aa→Prop}:NoN (FnE P q rs Q):=⟨agP⟩
instance{rs:List ResultVar}{Q:Dk→Aa→Prop}:NoN (FnS P rs Q):=⟨akN⟩
instance{N:Nat}{J:Tm→Aa→Prop}{Q:Ex→St→Prop}:NoN (mU N J Q):=⟨ajO⟩
instance{b:Nat}{Q:Dk→Aa→Prop}:NoN (RnE b Q):=⟨ajP⟩
end
end
noncomputable section
open Go.RowKit
set_option maxRecDepth 100000
section
variable {P:Program} {O:Ea}
class Spl(r:R)(b:outParam Bool)(x y:outParam R):Prop where
 sp:∀{C:R→Prop},(b=true→C x)→(b=false→C y)→C r
instance{n:Nat}{k:List Ar}{d:Option Nat}{op:Op}{cs:List CO}{b w:Bool}{t:List AV}{h:Aa}:Spl (rcG O P n k d op cs (.bool b) w t h) b (rcG O P n k d op cs (.bool true) w t h) (rcG O P n k d op cs (.bool false) w t h):=⟨ax1⟩
instance{n:Nat}{x y:Code}{k:List Ar}{g:Bool}{s:St}:Spl (cdK O P n x y k (some (.bool g)) s) g (Ce O P n x k s) (Ce O P n y k s):=⟨awO⟩
instance{n:Nat}{k:List Ar}{d:Option Nat}{op:Op}{cs:List CO}{b w:Bool}{t:List AV}{h:Aa}:Spl (rqG O P n k d op cs (.bool b) w t h) b (rqG O P n k d op cs (.bool true) w t h) (rqG O P n k d op cs (.bool false) w t h):=⟨awM⟩
instance{n:Nat}{k:List Ar}{d:Option Nat}{op:Op}{cs:List CO}{b w:Bool}{t:List AV}{h:Aa}:Spl (rwG O P n k d op cs (.bool b) w t h) b (rwG O P n k d op cs (.bool true) w t h) (rwG O P n k d op cs (.bool false) w t h):=⟨ayK⟩
instance{n:Nat}{k:List Ar}{ops:List Oper}{d:Option Nat}{op:Op}{cs:List CO}{b w:Bool}{t:List AV}{h:Aa}{log:Qy}:Spl (rlG O P n k ops d op cs (.bool b) w t h log) b (rlG O P n k ops d op cs (.bool true) w t h log) (rlG O P n k ops d op cs (.bool false) w t h log):=⟨ayB⟩
theorem An{C:R→Prop}{r x y:R}{b:Bool}(h1:b=true→C x)(h2:b=false→C y)(s:Spl r b x y:=by infer_instance):C r:=s.sp h1 h2
class Drw(i:Nat)(r:R)(c:outParam Bool)(r':outParam R):Prop where
 dr:∀{C:R→Prop},¬C none→c=true→C r'→C r
instance{b:Bool}{k:R}:Drw 0 (Gg b k) b k:=⟨fun _=>aqT⟩
instance{n id:Nat}{ops:Array Oper}{k:List Ar}{t:List AV}{h:Aa}:Drw 1 (Ce O P (n+1) (.region id ops true) k ⟨t,h⟩) (Nh ops.toList&&abC ops.toList) (rw O P n k (ops.toList.map (He ops.toList)) t h):=⟨fun h=>ayG h⟩
instance{n id:Nat}{ops:Array Oper}{k:List Ar}{t:List AV}{h:Aa}:Drw 2 (Ce O P (n+1) (.region id ops true) k ⟨t,h⟩) (Nh ops.toList&&aw1 ops.toList) (rq O P n k (ops.toList.map (He ops.toList)) t h):=⟨fun h=>axH h⟩
instance{n id:Nat}{ops:Array Oper}{k:List Ar}{t:List AV}{h:Aa}:Drw 3 (Ce O P (n+1) (.region id ops true) k ⟨t,h⟩) (Nh ops.toList) (rl O P n k ops.toList (ops.toList.map (He ops.toList)) t h []):=⟨fun h=>awZ h⟩
structure Dw(r r':R):Prop where
 dr:∀{C:R→Prop},¬C none→C r'→C r
theorem dg{r r':R}{c:Bool}[d:Drw 0 r c r'](h:c=true:=by kernel_rfl):Dw r r':=⟨fun n k=>d.dr n h k⟩
theorem dw(i:Nat){r r':R}{c:Bool}[d:Drw i r c r'](h:c=true:=by decide+kernel):Dw r r':=⟨fun n k=>d.dr n h k⟩
theorem fd{C:R→Prop}{r r':R}[n:NoN C](k:C r')(e:Dw r r':=by first|exact dg|exact dw 1|exact dw 2|exact dw 3):C r:=e.dr n.no k
theorem fdq{C:R→Prop}{r r':R}[n:NoN C](k:C r')(e:Dw r r':=by first|exact dw 1|exact dw 2|exact dw 3):C r:=e.dr n.no k
end
section
variable {P:Program} {O:Ea}
def Un(O:Ea)(P:Program)(n:Nat)(k:List Ar)(c:Code)(C:R→Prop):R→Prop
 |some (.normal,s)=>C (lpK O P n k (O.loop c s))
 |some (e,s)=>C (Cd (Ce O P n) k e s)
 |none=>False
theorem ac9(n:Nat)(k:List Ar)(c:Code)(C:R→Prop)(s:St):Un O P n k c C (some (.normal,s))=C (lpK O P n k (O.loop c s)):=aaK rfl rfl
theorem ap4(n:Nat)(k:List Ar)(c:Code)(C:R→Prop)(i:Nat)(s:St):Un O P n k c C (some (.exit i,s))=C (Cd (Ce O P n) k (.exit i) s):=aaK rfl rfl
theorem atB(n:Nat)(k:List Ar)(c:Code)(C:R→Prop)(s:St):Un O P n k c C (some (.ret,s))=C (Cd (Ce O P n) k .ret s):=aaK rfl rfl
instance{n:Nat}{k:List Ar}{c:Code}{C:R→Prop}:NoN (Un O P n k c C):=⟨fun h=>h⟩
theorem aqW{pr:Hl}{C:R→Prop}[N:NoN C]{n:Nat}{k:List Ar}{c:Code}{s:St}(h:Un (om P pr) P n k c C (Ce (om P pr) P 5000 c [] s)):C (lpK (om P pr) P n k ((om P pr).loop c s)):=by
 cases hm:Ce (om P pr) P 5000 c [] s with
 |none=>rw[hm]at h;exact h.elim
 |some x=>
  obtain⟨e,s'⟩:=x
  rw[hm]at h
  cases e with
  |normal=>
   replace h:C (lpK (om P pr) P n k ((om P pr).loop c s')):=h
   cases hl:(om P pr).loop c s' with
   |none=>rw[hl]at h;exact(N.no h).elim
   |some y=>
    obtain⟨e,s''⟩:=y
    rw[hl]at h
    rw[Uz hm hl];exact h
  |exit i=>rw[Gt hm (by simp)];exact h
  |ret=>rw[Gt hm (by simp)];exact h
  |pan v=>rw[Gt hm (by simp)];exact h
end
theorem aiS:IntKind.i64.wrap 1=1:=aaK rfl rfl
def EE:=PLift.up (aaA EVZ.down (aaA @aiS (aaA @ac9 (aaA @ap4 (aaA @atB (aaA @He.eq_1 (aaA @Ae.eq_1 (aaA @Ae.eq_2 (aaA @Ae.eq_4 (aaA @Bq.eq_1 (aaA @Bq.eq_2 (aaA @oV.eq_3 (aaA @Xg.eq_1 (aaA @Xg.eq_2 (aaA @Xg.eq_4 (aaA @Xg.eq_5 (aaA @Xg.eq_6 (aaA @Xg.eq_8 (aaA @Bo.eq_1 (aaA @Bo.eq_2 (aaA @Ls.eq_1 (aaA @Ls.eq_2 (aaA @Ls.eq_3 (aaA @Je.eq_1 (aaA @Da.eq_1 (aaA @bsK.eq_1 (aaA @Om.eq_1 (aaA @Om.eq_2 (aaA @decide_true @decide_false)))))))))))))))))))))))))))))
def EF:=PLift.up (aaA EE.down EVr.down)
def EG:=PLift.up (aaA EF.down EVs.down)
end
noncomputable section
open Go.RowKit
def On(m:List Nat)(F:Nat→Option Nat):Prop:=∀i b,m[i]?=some b→F i=some b
theorem On.mono{m m':List Nat}{F:Nat→Option Nat}(h:On m' F)(hp:m <+:m'):On m F:=fun _ _ hi=>h _ _ (Ih hp hi)
structure Gd(m m' R:List Nat):Prop where
 pre:m <+:m'
 nd:m.Nodup→m'.Nodup
 sub:∀b∈m',b∈m∨b∈R
theorem Gd.refl(m R:List Nat):Gd m m R:=⟨an6 _,id,fun _ h=>.inl h⟩
theorem Gd.trans{m m1 m2 R1 R2 R:List Nat}(h1:Gd m m1 R1)(h2:Gd m1 m2 R2)(k1:∀b∈R1,b∈R)(k2:∀b∈R2,b∈R):Gd m m2 R:=
 ⟨h1.pre.trans h2.pre,fun h=>h2.nd (h1.nd h),fun b hb=>(h2.sub b hb).elim (fun h=>(h1.sub b h).imp id (k1 b)) (fun h=>.inr (k2 b h))⟩
theorem tA(m:List Nat)(b:Nat){R:List Nat}(hb:b∈R):Gd m (Gk m b).2 R:=by
 refine⟨(Hq m b).2.1,(Hq m b).2.2,fun x hx=>?_⟩
 unfold Gk at hx
 split at hx
 ·exact .inl hx
 ·rcases ae7.1 hx with h|h
  ·exact .inl h
  ·simp at h;subst h;exact .inr hb
def Sp(e:Nat)(x:AV)(R:List Nat):Prop:=∀m,∃x' m',Bl e m x=some (x',m')∧Gd m m' R∧∀F,On m' F→Em e F x'=some x
def SpL(e:Nat)(l:List AV)(R:List Nat):Prop:=∀m,∃l' m',Bl.refL (Bl e) m l=some (l',m')∧Gd m m' R∧∀F,On m' F→Au (Em e F) l'=some l
def SpR(l:List (List AV))(R:List Nat):Prop:=∀m,∃l' m',Fg m l=some (l',m')∧Gd m m' R∧∀F,On m' F→Au (Au (Em 8 F)) l'=some l
theorem spL{f:AV→Option (AV × List Nat)}{e:Nat}:∀{l:List AV} {p:List AV × List Nat},Kt f l=some p→(∀x∈l,∀q,f x=some q→Sp e x q.2)→SpL e l p.2
 | [],p,h,_=>fun m=>⟨[],m,rfl,Gd.refl _ _,fun _ _=>rfl⟩
 |a::l,p,h,hf=>fun m=>by
  simp only[Kt,aa3,aa0]at h
  obtain⟨q,hq,r,hr,rfl⟩:=h
  obtain⟨x',m1,e1,g1,k1⟩:=hf a (acM ..) q hq m
  obtain⟨l',m2,e2,g2,k2⟩:=spL hr (fun x hx=>hf x (abO _ hx)) m1
  refine⟨x'::l',m2,by simp[Bl.refL,e1,e2],g1.trans g2 (fun _ h=>af8 _ h) (fun _ h=>af9 _ h),fun F hF=>?_⟩
  simp[Au,k1 F (hF.mono g2.pre),k2 F hF]
theorem spR{f:AV→Option (AV × List Nat)}:∀{l:List (List AV)} {p:List (List AV) × List Nat},Cf f l=some p→(∀r∈l,∀x∈r,∀q,f x=some q→Sp 8 x q.2)→SpR l p.2
 | [],p,h,_=>fun m=>⟨[],m,rfl,Gd.refl _ _,fun _ _=>rfl⟩
 |a::l,p,h,hf=>fun m=>by
  simp only[Cf,aa3,aa0]at h
  obtain⟨q,hq,r,hr,rfl⟩:=h
  obtain⟨x',m1,e1,g1,k1⟩:=spL hq (hf a (acM ..)) m
  obtain⟨l',m2,e2,g2,k2⟩:=spR hr (fun x hx=>hf x (abO _ hx)) m1
  refine⟨x'::l',m2,by simp[Fg,e1,e2],g1.trans g2 (fun _ h=>af8 _ h) (fun _ h=>af9 _ h),fun F hF=>?_⟩
  simp[Au,k1 F (hF.mono g2.pre),k2 F hF]
theorem sp{g:HF}:∀{d e:Nat} {v:AV} {p:AV × List Nat},d≤e→rd d g v=some p→Sp e v p.2
 |0,e,v,p,_,h=>by simp[rd]at h
 |d+1,0,v,p,he,h=>by omega
 |d+1,e+1,v,p,he,h=>by
  have IH:∀x q,rd d g x=some q→Sp e x q.2:=fun x q hx=>sp (by omega) hx
  intro m
  cases v with
  |slr st b r len=>
   simp only[rd,aa3]at h
   obtain⟨z,_,h⟩:=h
   split at h
   ·have hb:b∈p.2:=by
     cases hfl:z.2.1 with
     |true=>rw[hfl]at h;simp at h;rw[←h];simp
     |false=>rw[hfl]at h;simp only[cond_false,aa0]at h;obtain⟨q,_,rfl⟩:=h;simp
    exact⟨_,_,rfl,tA m b hb,fun F hF=>by simp[Em,hF _ _ (Hq m b).1]⟩
   ·cases h
  |agg cs=>
   simp only[rd,aa0]at h
   obtain⟨q,hq,rfl⟩:=h
   obtain⟨l',m1,e1,g1,k1⟩:=spL hq (fun x _=>IH x) m
   exact⟨.agg l',m1,by simp[Bl,e1],g1,fun F hF=>by simp[Em,k1 F hF]⟩
  |iface t x=>
   simp only[rd,aa0]at h
   obtain⟨q,hq,rfl⟩:=h
   obtain⟨l',m1,e1,g1,k1⟩:=IH x q hq m
   exact⟨.iface t l',m1,by simp[Bl,e1],g1,fun F hF=>by simp[Em,k1 F hF]⟩
  |func fn a b=>
   cases a with
   |cons=>simp[rd]at h
   |nil=>
    cases b with
    |cons=>simp[rd]at h
    |nil=>exact⟨_,m,rfl,Gd.refl _ _,fun _ _=>rfl⟩
  |ptr b r o=>simp[rd]at h
  |tup cs=>simp[rd]at h
  |yl b=>simp[rd]at h
  |mapr b=>simp[rd]at h
  |itr b=>simp[rd]at h
  |imm=>simp[rd]at h
  |iptr=>simp[rd]at h
  |_=>exact⟨_,m,rfl,Gd.refl _ _,fun _ _=>rfl⟩
def Cl(g:HF)(S:List Nat):Prop:=∀b∈S,∃z,(g b).bind Bc=some z∧(z.2.1=false→∃d q,d≤8∧Cf (rd d g) z.2.2=some q∧∀x∈q.2,x∈S)
theorem Cl.nil(g:HF):Cl g []:=fun _ h=>by cases h
theorem Cl.app{g:HF}{S T:List Nat}(h1:Cl g S)(h2:Cl g T):Cl g (S++T):=fun b hb=>by
 rcases ae7.1 hb with h|h
 ·obtain⟨z,k1,k2⟩:=h1 b h
  exact⟨z,k1,fun e=>by obtain⟨d,q,a1,a2,a3⟩:=k2 e;exact⟨d,q,a1,a2,fun x hx=>af8 _ (a3 x hx)⟩⟩
 ·obtain⟨z,k1,k2⟩:=h2 b h
  exact⟨z,k1,fun e=>by obtain⟨d,q,a1,a2,a3⟩:=k2 e;exact⟨d,q,a1,a2,fun x hx=>af9 _ (a3 x hx)⟩⟩
theorem clL{g:HF}{f:AV→Option (AV × List Nat)}:∀{l:List AV} {p:List AV × List Nat},Kt f l=some p→(∀x∈l,∀q,f x=some q→Cl g q.2)→Cl g p.2
 | [],p,h,_=>by simp[Kt]at h;subst h;exact Cl.nil g
 |a::l,p,h,hf=>by
  simp only[Kt,aa3,aa0]at h
  obtain⟨q,hq,r,hr,rfl⟩:=h
  exact(hf a (acM ..) q hq).app (clL hr fun x hx=>hf x (abO _ hx))
theorem clR{g:HF}{f:AV→Option (AV × List Nat)}:∀{l:List (List AV)} {p:List (List AV) × List Nat},Cf f l=some p→(∀r∈l,∀x∈r,∀q,f x=some q→Cl g q.2)→Cl g p.2
 | [],p,h,_=>by simp[Cf]at h;subst h;exact Cl.nil g
 |a::l,p,h,hf=>by
  simp only[Cf,aa3,aa0]at h
  obtain⟨q,hq,r,hr,rfl⟩:=h
  exact(clL hq (hf a (acM ..))).app (clR hr fun x hx=>hf x (abO _ hx))
theorem nJ{g:HF}:∀{d:Nat} {v:AV} {p:AV × List Nat},d≤9→rd d g v=some p→Cl g p.2
 |0,v,p,_,h=>by simp[rd]at h
 |d+1,v,p,hd,h=>by
  have IH:∀x q,rd d g x=some q→Cl g q.2:=fun x q hx=>nJ (by omega) hx
  cases v with
  |slr st b r len=>
   simp only[rd,aa3]at h
   obtain⟨z,hz,h⟩:=h
   have hz':(g b).bind Bc=some z:=aa3.2 hz
   split at h
   ·cases hfl:z.2.1 with
    |true=>
     rw[hfl]at h;simp at h;rw[←h]
     intro b' hb'
     simp at hb';subst hb'
     exact⟨z,hz',fun e=>by rw[hfl]at e;cases e⟩
    |false=>
     rw[hfl]at h;simp only[cond_false,aa0]at h
     obtain⟨q,hq,rfl⟩:=h
     intro b' hb'
     rcases af5.1 hb' with rfl|hb'
     ·exact⟨z,hz',fun _=>⟨d,q,by omega,hq,fun x hx=>abO _ hx⟩⟩
     ·obtain⟨z',k1,k2⟩:=clR hq (fun r _ x _=>IH x) b' hb'
      exact⟨z',k1,fun e=>by obtain⟨d',q',a1,a2,a3⟩:=k2 e;exact⟨d',q',a1,a2,fun x hx=>abO _ (a3 x hx)⟩⟩
   ·cases h
  |agg cs=>
   simp only[rd,aa0]at h
   obtain⟨q,hq,rfl⟩:=h
   exact clL hq fun x _=>IH x
  |iface t x=>
   simp only[rd,aa0]at h
   obtain⟨q,hq,rfl⟩:=h
   exact IH x q hq
  |func fn a b=>
   cases a<;>cases b<;>first|(simp[rd]at h;subst h;exact Cl.nil g)|(simp[rd]at h)
  |_=>first|(simp[rd]at h;subst h;exact Cl.nil g)|(simp[rd]at h)
theorem cG{F:Nat→Option Nat}(f:Nat→Nat):∀{e:Nat} {x' x:AV},Em e F x'=some x→∃y,Br e f x'=some y
 |0,x',x,h=>by simp[Em]at h
 |e+1,x',x,h=>by
  have L:∀{l l1:List AV},Au (Em e F) l=some l1→∃y,Au (Br e f) l=some y:=fun {l}=>by
   induction l with
   |nil=>exact fun _=>⟨[],rfl⟩
   |cons a l ih=>
    intro l1 h
    simp only[Au,aa3,aa0]at h
    obtain⟨b,hb,c,hc,_⟩:=h
    obtain⟨y,hy⟩:=cG f hb
    obtain⟨ys,hys⟩:=ih hc
    exact⟨y::ys,by simp[Au,hy,hys]⟩
  cases x' with
  |agg cs=>simp only[Em,aa0]at h;obtain⟨_,h,_⟩:=h;obtain⟨y,hy⟩:=L h;exact⟨.agg y,by simp[Br,hy]⟩
  |tup cs=>simp only[Em,aa0]at h;obtain⟨_,h,_⟩:=h;obtain⟨y,hy⟩:=L h;exact⟨.tup y,by simp[Br,hy]⟩
  |iface t x=>simp only[Em,aa0]at h;obtain⟨_,h,_⟩:=h;obtain⟨y,hy⟩:=cG f h;exact⟨.iface t y,by simp[Br,hy]⟩
  |func fn a b=>
   simp only[Em,aa3,aa0]at h
   obtain⟨_,h1,_,h2,_⟩:=h
   obtain⟨y,hy⟩:=L h1
   obtain⟨y2,hy2⟩:=L h2
   exact⟨.func fn y y2,by simp[Br,hy,hy2]⟩
  |_=>exact⟨_,rfl⟩
theorem pV{α β γ:Type}{f:α→Option β}{f':α→Option γ}(H:∀a b,f a=some b→∃c,f' a=some c):∀{l:List α} {r:List β},Au f l=some r→∃s,Au f' l=some s
 | [],_,_=>⟨[],rfl⟩
 |a::l,r,h=>by
  simp only[Au,aa3,aa0]at h
  obtain⟨b,hb,c,hc,_⟩:=h
  obtain⟨y,hy⟩:=H a b hb
  obtain⟨ys,hys⟩:=pV H hc
  exact⟨y::ys,by simp[Au,hy,hys]⟩
def Stn(F:Nat→Option Nat)(c':CB)(z:Nat × Bool × List (List AV)):Prop:=
 ∃rows',Bc c'=some (z.1,z.2.1,rows')∧(z.2.1=true→rows'=z.2.2)∧(z.2.1=false→Au (Au (Em 8 F)) rows'=some z.2.2)
def xG(c:CB):Prop:=∀f,∃c',Ek f c=some c'
theorem spB{g:HF}{S:List Nat}(H:Cl g S){b:Nat}(hb:b∈S)(m:List Nat):∃c c' m' z,g b=some c∧Bc c=some z∧Lr m c=some (c',m')∧Gd m m' S∧(∀F,On m' F→Stn F c' z)∧xG c':=by
 obtain⟨z,hz,hc⟩:=H b hb
 obtain⟨c,k1,k2⟩:=aa3.1 hz
 have R:∀rows,z.2.1=false→rows=z.2.2→∃l' m',Fg m rows=some (l',m')∧Gd m m' S∧∀F,On m' F→Au (Au (Em 8 F)) l'=some rows:=fun rows e er=>by
  obtain⟨d,q,a1,a2,a3⟩:=hc e
  obtain⟨l',m',e1,g1,e2⟩:=spR (er▸a2) (fun r _ x _ q hx=>sp a1 hx) m
  exact⟨l',m',e1,⟨g1.pre,g1.nd,fun x hx=>(g1.sub x hx).imp id (a3 x)⟩,e2⟩
 have R2:∀l' rows m',(∀F,On m' F→Au (Au (Em 8 F)) l'=some rows)→∀f,∃y,Au (Au (Br 8 f)) l'=some y:=fun l' rows m' h f=>
  pV (fun a b hab=>pV (fun a b hab=>cG f hab) hab) (h (fun i=>m'[i]?) (fun _ _ h=>h))
 cases c with
 |live st fl w rows=>
  simp[Bc]at k2;subst k2
  cases fl with
  |true=>exact⟨_,_,m,_,k1,rfl,rfl,Gd.refl _ _,fun F _=>⟨rows,rfl,fun _=>rfl,fun e=>by cases e⟩,fun f=>⟨_,rfl⟩⟩
  |false=>
   obtain⟨l',m',e1,g1,e2⟩:=R rows rfl rfl
   refine⟨_,.live st false w l',m',_,k1,rfl,by simp[Lr,e1],g1,fun F hF=>⟨l',rfl,fun e=>(by cases e),fun _=>e2 F hF⟩,fun f=>?_⟩
   obtain⟨y,hy⟩:=R2 l' rows m' e2 f
   exact⟨.live st false w y,by simp[Ek,hy]⟩
 |frz st fl rows=>
  simp[Bc]at k2;subst k2
  cases fl with
  |true=>exact⟨_,_,m,_,k1,rfl,rfl,Gd.refl _ _,fun F _=>⟨rows,rfl,fun _=>rfl,fun e=>by cases e⟩,fun f=>⟨_,rfl⟩⟩
  |false=>
   obtain⟨l',m',e1,g1,e2⟩:=R rows rfl rfl
   refine⟨_,.frz st false l',m',_,k1,rfl,by simp[Lr,e1],g1,fun F hF=>⟨l',rfl,fun e=>(by cases e),fun _=>e2 F hF⟩,fun f=>?_⟩
   obtain⟨y,hy⟩:=R2 l' rows m' e2 f
   exact⟨.frz st false y,by simp[Ek,hy]⟩
 |dead=>simp[Bc]at k2
 |lp=>simp[Bc]at k2
theorem aiY{S:List Nat}:∀{m:List Nat},m.Nodup→(∀b∈m,b∈S)→m.length≤S.length:=by
 induction S with
 |nil=>intro m _ h;cases m with
  |nil=>simp
  |cons a m=>exact absurd (h a (acM ..)) (by simp)
 |cons s S ih=>
  intro m hn h
  have h2:=ih (m:=m.erase s) (hn.erase s) (fun b hb=>by
   have hb':=List.mem_of_mem_erase hb
   rcases af5.1 (h b hb')with rfl|h'
   ·exact absurd hb (hn.not_mem_erase)
   ·exact h')
  have h3:m.length≤(m.erase s).length+1:=by
   by_cases hs:s∈m
   ·rw[List.length_erase_of_mem hs];omega
   ·rw[List.erase_of_not_mem hs];omega
  simp;omega
theorem spC{g:HF}{S:List Nat}(H:Cl g S):∀(n i:Nat) (m:List Nat),m.Nodup→(∀b∈m,b∈S)→S.length<n+i→i≤m.length→
 ∃cs m',Hh n g i m=some (cs,m')∧m <+:m'∧m'.Nodup∧(∀b∈m',b∈S)∧i+cs.length=m'.length∧(∀c∈cs,xG c)∧
  ∀F,On m' F→∀j c',cs[j]?=some c'→∃b z,m'[i+j]?=some b∧(g b).bind Bc=some z∧Stn F c' z
 |0,i,m,hn,hs,hl,hi=>by have:=aiY hn hs;omega
 |n+1,i,m,hn,hs,hl,hi=>by
  unfold Hh
  cases hm:m[i]? with
  |none=>
   have:m.length≤i:=arW.1 hm
   exact⟨[],m,rfl,an6 _,hn,hs,by simp;omega,(fun c hc=>by cases hc),fun F _ j c' hj=>by simp at hj⟩
  |some b=>
   have hlt:=(acY.1 hm).1
   obtain⟨c,c',m1,z,k1,k2,k3,g1,k4,k5⟩:=spB H (hs b (ai2 hm)) m
   obtain⟨cs,m',e1,p1,p2,p3,p4,p5,p6⟩:=spC H n (i+1) m1 (g1.nd hn) (fun b hb=>(g1.sub b hb).elim (hs b) id) (by omega) (by have:=g1.pre.length_le;omega)
   refine⟨c'::cs,m',by simp[k1,k3,e1],g1.pre.trans p1,p2,p3,by simp;omega,fun x hx=>?_,fun F hF j x hj=>?_⟩
   ·rcases af5.1 hx with rfl|hx
    ·exact k5
    ·exact p5 x hx
   ·cases j with
    |zero=>
     simp at hj;subst hj
     exact⟨b,z,Ih (g1.pre.trans p1) (by simpa using hm),by rw[k1];exact k2,k4 F (hF.mono p1)⟩
    |succ j=>
     simp at hj
     obtain⟨b',z',a1,a2,a3⟩:=p6 F hF j x hj
     exact⟨b',z',by rw[←a1];congr 1;omega,a2,a3⟩
theorem asV{h:Aa}{v:AV}{R:List Nat}(hs:Sp 8 v R)(hc:Cl (hf h) R)(hR:R.length<5000):
 ∃v' cs F,Lc 0 v h=some (v',cs)∧zB F (hf cs) (hf h)∧Em 8 F v'=some v∧∀c∈cs,xG c:=by
 obtain⟨v',m,e1,g1,k1⟩:=hs []
 have hm:∀b∈m,b∈R:=fun b hb=>(g1.sub b hb).elim (fun h=>by cases h) id
 obtain⟨cs,m',e2,p1,p2,p3,p4,p5,p6⟩:=spC hc 5000 0 m (g1.nd arX) hm (by omega) (Nat.zero_le _)
 refine⟨v',cs,fun i=>m'[i]?,by simp[Lc,Hz,Bl.refL,e1,e2,am9],fun i b hi z hz=>?_,k1 _ (fun _ _ h=>Ih p1 h),p5⟩
 have hlt:=(acY.1 hi).1
 obtain⟨b',z',a1,a2,rows',a3,a4,a5⟩:=p6 (fun i=>m'[i]?) (fun _ _ h=>h) i _ (acI (by omega))
 rw[alV]at a1
 have hbb:b=b':=by have hi':m'[i]?=some b:=hi;rw[hi']at a1;cases a1;rfl
 subst hbb
 rw[hz]at a2;cases a2
 exact⟨rows',by show(cs[i]?).bind Bc=_;rw[acI (by omega)];exact a3,a4,a5⟩
end
end Go.Ev
namespace Go.Ev
open Go.RowKit
theorem Qa{f:Nat→Nat}{F:Nat→Option Nat}(hF:∀b,F (f b)=some b):∀{e:Nat} {x x1:AV},Br e f x=some x1→Em e F x1=some x
 |0,x,x1,h=>by simp[Br]at h
 |e+1,x,x1,h=>by
  have L:∀{l l1:List AV},Au (Br e f) l=some l1→Au (Em e F) l1=some l:=fun {l}=>by
   induction l with
   |nil=>intro l1 h;simp[Au]at h;subst h;rfl
   |cons a l ih=>
    intro l1 h
    simp only[Au,aa3,aa0]at h
    obtain⟨b,hb,c,hc,rfl⟩:=h
    simp[Au,Qa hF hb,ih hc]
  cases x with
  |agg cs=>simp only[Br,aa0]at h;obtain⟨_,h,rfl⟩:=h;simp[Em,L h]
  |tup cs=>simp only[Br,aa0]at h;obtain⟨_,h,rfl⟩:=h;simp[Em,L h]
  |iface t x=>simp only[Br,aa0]at h;obtain⟨_,h,rfl⟩:=h;simp[Em,Qa hF h]
  |func fn a b=>
   simp only[Br,aa3,aa0]at h
   obtain⟨_,h1,_,h2,rfl⟩:=h
   simp[Em,L h1,L h2]
  |_=>simp only[Br,ae2.injEq]at h;subst h;simp[Em,hF]
theorem Tv{α β:Type}{f:α→Option β}{f':β→Option α}(H:∀a b,f a=some b→f' b=some a):∀{l:List α} {r:List β},Au f l=some r→Au f' r=some l
 | [],r,h=>by simp[Au]at h;subst h;rfl
 |a::l,r,h=>by
  simp only[Au,aa3,aa0]at h
  obtain⟨b,hb,c,hc,rfl⟩:=h
  simp[Au,H a b hb,Tv H hc]
theorem lV{f:Nat→Nat}:∀{cs:List CB} (_:∀c∈cs,xG c) (base:Nat),∃ns cs1,Gw f base cs=some ns∧(∀G,Bo G ns=G++cs1)∧Au (Ek f) cs=some cs1
 | [],_,base=>⟨[],[],rfl,fun G=>by simp[Bo],rfl⟩
 |c::cs,h,base=>by
  obtain⟨c1,e1⟩:=h c (acM ..) f
  obtain⟨ns,cs1,e2,e3,e4⟩:=lV (f:=f) (cs:=cs) (fun c hc=>h c (abO _ hc)) (base+1)
  exact⟨.new base c1::ns,c1::cs1,by simp[Gw,e1,e2],fun G=>by simp[Bo,Ls,e3],by simp[Au,e1,e4]⟩
theorem tQ{f:Nat→Nat}{F:Nat→Option Nat}(hF:∀b,F (f b)=some b){c c1:CB}(h:Ek f c=some c1){z:Nat × Bool × List (List AV)}(hz:Bc c=some z):Stn F c1 z:=by
 cases c with
 |live st fl w rows=>
  simp[Bc]at hz;subst hz
  cases fl with
  |true=>simp[Ek]at h;subst h;exact⟨rows,rfl,fun _=>rfl,fun e=>by cases e⟩
  |false=>
   simp only[Ek,aa0]at h
   obtain⟨r,hr,rfl⟩:=h
   exact⟨r,rfl,fun e=>(by cases e),fun _=>Tv (fun a b hab=>Tv (fun a b hab=>Qa hF hab) hab) hr⟩
 |frz st fl rows=>
  simp[Bc]at hz;subst hz
  cases fl with
  |true=>simp[Ek]at h;subst h;exact⟨rows,rfl,fun _=>rfl,fun e=>by cases e⟩
  |false=>
   simp only[Ek,aa0]at h
   obtain⟨r,hr,rfl⟩:=h
   exact⟨r,rfl,fun e=>(by cases e),fun _=>Tv (fun a b hab=>Tv (fun a b hab=>Qa hF hab) hab) hr⟩
 |dead=>simp[Bc]at hz
 |lp=>simp[Bc]at hz
structure Kp(lent:List Nat)(H H1:Aa):Prop where
 len:H.length≤H1.length
 rows:∀b,b<H.length→(hf H1 b).bind Bc=(hf H b).bind Bc
 same:∀b,b<H.length→b∉lent→H1[b]?=H[b]?
theorem rO{H:Aa}:∀(l:List Nat) (G:Aa),G.length=H.length→(∀b,(hf G b).bind Bc=(hf H b).bind Bc)→
 (Bo G (Dn (hf H) l)).length=H.length∧(∀b,(hf (Bo G (Dn (hf H) l)) b).bind Bc=(hf H b).bind Bc)∧∀b,b∉l→(Bo G (Dn (hf H) l))[b]?=G[b]?
 | [],G,h1,h2=>⟨h1,h2,fun _ _=>rfl⟩
 |a::l,G,h1,h2=>by
  unfold Dn
  have other:∀b,b∉a::l→b∉l:=fun b hb h=>hb (abO _ h)
  split
  ·rename_i st fl w rows ha
   have hlt:a<G.length:=by rw[h1];exact(acY.1 ha).1
   obtain⟨k1,k2,k3⟩:=rO (H:=H) l (G.set a (.frz st fl rows)) (by simp[h1]) (fun b=>by
    by_cases hb:a=b
    ·subst hb
     show((G.set a _)[a]?).bind Bc=_
     rw[alX hlt,ha];rfl
    ·show((G.set a _)[b]?).bind Bc=_
     rw[adV hb];exact h2 b)
   refine⟨k1,k2,fun b hb=>?_⟩
   show(Bo (G.set a _) _)[b]?=_
   rw[k3 b (other b hb),adV (fun e=>hb (by rw[←e];exact acM ..))]
  ·obtain⟨k1,k2,k3⟩:=rO l G h1 h2
   exact⟨k1,k2,fun b hb=>k3 b (other b hb)⟩
theorem ap7{O:Ea}{H:Aa}{f:Nat}{args vs:List AV}{v:AV}{h':Aa}(hh:pkd O f args)(ha:Au (bQ H) args=some vs)(hp:vs.all (Az 8)=true)
 (hc:O.call (.fn f) vs []=some (.ret v,h')) (h1:∀f,∃y,Br 8 f v=some y) (h2:∀c∈h',xG c):
 ∃v1 es H1 F,cl O H (some (.func (.func f) [] [])) (some args)=some (.ret v1,es)∧Bo H es=H1∧zB F (hf H1) (hf h')∧Em 8 F v1=some v∧Kp (args.flatMap (Bd 12 (hf H))) H H1∧∀i b,F i=some b→H.length≤i:=by
 obtain⟨v1,e1⟩:=h1 (fun i=>H.length+i)
 obtain⟨ns,cs1,e2,e3,e4⟩:=lV (f:=fun i=>H.length+i) h2 H.length
 generalize hFF:(fun i=>if H.length≤i then some (i-H.length)else none:Nat→Option Nat)=F
 have hF:∀b,F (H.length+b)=some b:=fun b=>by rw[←hFF];simp
 have key:∃fz:List Af,cl O H (some (.func (.func f) [] [])) (some args)=some (.ret v1,fz++ns)∧(fz=[]∨fz=Dn (hf H) (args.flatMap (Bd 12 (hf H)))):=by
  rw[zC hh,aaS ha hp,hc]
  refine⟨_,by simp only[crR,aa9,Dk.v,e1,e2,ae4,Dk.map];rfl,?_⟩
  split
  ·exact .inl rfl
  ·exact .inr rfl
 obtain⟨fz,ec,hfz⟩:=key
 have hK:(Bo H fz).length=H.length∧(∀b,(hf (Bo H fz) b).bind Bc=(hf H b).bind Bc)∧∀b,b∉args.flatMap (Bd 12 (hf H))→(Bo H fz)[b]?=H[b]?:=by
  rcases hfz with rfl|rfl
  ·exact⟨rfl,fun _=>rfl,fun _ _=>rfl⟩
  ·exact rO _ H rfl (fun _=>rfl)
 obtain⟨k1,k2,k3⟩:=hK
 have hap:Bo H (fz++ns)=Bo H fz++cs1:=by rw[Xr,e3]
 refine⟨v1,_,_,F,ec,hap,fun i b hi z hz=>?_,Qa hF e1,⟨by simp[k1],fun b hb=>?_,fun b hb hl=>?_⟩,fun i b hi=>?_⟩
 ·rw[←hFF]at hi;simp only at hi
  split at hi
  ·rename_i hle
   simp only[ae2.injEq]at hi
   obtain⟨c,hcc,hcz⟩:=aa3.1 hz
   obtain⟨c1,g1,g2⟩:=Jw e4 (show h'[b]?=some c from hcc)
   obtain⟨rows',r1,r2,r3⟩:=tQ hF g2 hcz
   refine⟨rows',?_,r2,r3⟩
   show((Bo H fz++cs1)[i]?).bind Bc=_
   rw[ajM (by omega),k1,hi,g1]
   exact r1
  ·cases hi
 ·rw[←k2 b]
  show((Bo H fz++cs1)[b]?).bind Bc=_
  rw[af6 (by omega)];rfl
 ·rw[af6 (by omega)];exact k3 b hl
 ·rw[←hFF]at hi;simp only at hi
  split at hi
  ·assumption
  ·cases hi
end Go.Ev
namespace Go.Ev
noncomputable section
open Go.RowKit
theorem fdx{C:R→Prop}{r r':R}[n:NoN C](k:C r')(e:Dw r r':=by first|exact dw 1|exact dw 3):C r:=e.dr n.no k
theorem gC{g:HF}(f:Nat→Nat):∀{d e:Nat} {v:AV} {p:AV × List Nat},d≤e→rd d g v=some p→∃y,Br e f v=some y
 |0,e,v,p,_,h=>by simp[rd]at h
 |d+1,0,v,p,he,h=>by omega
 |d+1,e+1,v,p,he,h=>by
  have L:∀{l:List AV} {q:List AV × List Nat},Kt (rd d g) l=some q→∃y,Au (Br e f) l=some y:=fun {l}=>by
   induction l with
   |nil=>exact fun _=>⟨[],rfl⟩
   |cons a l ih=>
    intro q h
    simp only[Kt,aa3,aa0]at h
    obtain⟨b,hb,c,hc,_⟩:=h
    obtain⟨y,hy⟩:=gC f (show d≤e by omega) hb
    obtain⟨ys,hys⟩:=ih hc
    exact⟨y::ys,by simp[Au,hy,hys]⟩
  cases v with
  |agg cs=>simp only[rd,aa0]at h;obtain⟨_,h,_⟩:=h;obtain⟨y,hy⟩:=L h;exact⟨.agg y,by simp[Br,hy]⟩
  |iface t x=>simp only[rd,aa0]at h;obtain⟨_,h,_⟩:=h;obtain⟨y,hy⟩:=gC f (show d≤e by omega) h;exact⟨.iface t y,by simp[Br,hy]⟩
  |func fn a b=>
   cases a<;>cases b<;>first|exact⟨_,rfl⟩|(simp[rd]at h)
  |tup cs=>simp[rd]at h
  |_=>exact⟨_,rfl⟩
theorem rG{g:HF}:∀{d e:Nat} {v:AV} {p:AV × List Nat},d≤e→rd d g v=some p→Gy e g v=some p.1
 |0,e,v,p,_,h=>by simp[rd]at h
 |d+1,0,v,p,he,h=>by omega
 |d+1,e+1,v,p,he,h=>by
  cases v with
  |slr st b r len=>exact fV (qK he h)
  |agg cs=>
   simp only[rd,aa0]at h
   obtain⟨q,hq,rfl⟩:=h
   simp[Gy,cB (f':=Gy e g) hq (fun x _ q' hx=>rG (show d≤e by omega) hx)]
  |iface t x=>
   simp only[rd,aa0]at h
   obtain⟨q,hq,rfl⟩:=h
   simp[Gy,rG (show d≤e by omega) hq]
  |func fn a b=>cases a<;>cases b<;>first|(simp[rd]at h;subst h;rfl)|(simp[rd]at h)
  |_=>first|(simp[rd]at h;subst h;rfl)|(simp[rd]at h)
theorem ai8{e:Nat}{F:Nat→Option Nat}{v:AV}{outs:List AV}(h:Em (e+1) F v=some (.tup outs)):∃o,v=.tup o∧Au (Em e F) o=some outs:=by
 cases v with
 |tup cs=>simp[Em]at h;exact⟨_,rfl,h⟩
 |func fn a b=>simp only[Em,aa3,aa0]at h;obtain⟨_,_,_,_,h⟩:=h;cases h
 |_=>simp[Em]at h
def RdV(O:Ea)(f:Nat)(vs:List AV)(x:AV)(k:Nat):Prop:=
 ∃v h' R,O.call (.fn f) vs []=some (.ret v,h')∧rd 6 (hf h') v=some (x,R)∧R.length≤k∧∀c∈h',xG c
theorem RdV.cl{O:Ea}{f:Nat}{vs:List AV}{x:AV}{k:Nat}(K:RdV O f vs x k){H:Aa}{args:List AV}(hh:pkd O f args)(ha:Au (bQ H) args=some vs)(hp:vs.all (Az 8)=true):
 ∃v es H1 R,cl O H (some (.func (.func f) [] [])) (some args)=some (.ret v,es)∧Bo H es=H1∧Kp (args.flatMap (Bd 12 (hf H))) H H1∧rd 6 (hf H1) v=some (x,R)∧R.length≤k∧∀b∈R,H.length≤b:=by
 obtain⟨v,h',R,hc,hr,hk,hn⟩:=K
 obtain⟨v1,es,H1,F,e1,e2,e3,e4,e5,e6⟩:=ap7 hh ha hp hc (fun f=>gC f (show 6≤8 by omega) hr) hn
 obtain⟨R',k1,k2,k3⟩:=lH e3 e4 hr
 exact⟨v1,es,H1,R',e1,e2,e5,k1,by rw[k2];exact hk,fun b hb=>by obtain⟨c,hc⟩:=k3 b hb;exact e6 b c hc⟩
theorem jZ{O:Ea}{H:Aa}{f:Nat}{args vs:List AV}{v:AV}(hh:pkd O f args)(ha:Au (bQ H) args=some vs)(hp:vs.all (Az 8)=true)(hc:O.call (.fn f) vs []=some (.ret v,[]))(h1:Az 8 v=true)(h2:hasImm 8 v=false):
 cl O H (some (.func (.func f) [] [])) (some args)=some (.ret v,[]):=by
 rw[zC hh,aaS ha hp,hc,pL,if_pos ⟨h1,h2⟩]
theorem lG{h:Aa}{v x:AV}{R:List Nat}{Q:Dk→Aa→Prop}(h1:rd 6 (hf h) v=some (x,R))(hR:R.length<5000)
 (q:∀v' h' R',rd 6 (hf h') v'=some (x,R')→R'.length=R.length→(∀c∈h',xG c)→Q (.ret v') h'):Rt 0 (some [v]) h Q:=by
 obtain⟨v',cs,F,e1,e2,e3,e4⟩:=asV (sp (e:=8) (by omega) h1) (nJ (by omega) h1) hR
 obtain⟨R',k1,k2,_⟩:=lH e2 e3 h1
 exact⟨_,_,by simp[afF,Om,e1],q _ _ _ k1 k2 e4⟩
theorem En{C:R→Prop}[n:NoN C]{r:R}(h:∀K:R→Prop,NoN K→(∀x,C x→K x)→K r):C r:=h C n fun _ h=>h
theorem wZ{v:AV}{H:Aa}{b:Nat}(l:List CB)(hb:b<H.length)(hv:∀a c r m,v=.slr a c r m→c≠b):(kl 0 v H++l)[b]?=H[b]?:=by
 rw[af6 (by rw[Qc];exact hb)]
 unfold kl
 split
 ·rename_i a c r m
  rw[adV];simpa using hv a c r m rfl
 ·rfl
theorem gI{H:Aa}{b:Nat}{z:Nat × Bool × List (List AV)}(h:(hf H b).bind Bc=some z):b<H.length:=by
 obtain⟨c,hc,_⟩:=aa3.1 h
 exact(acY.1 hc).1
theorem Qv{g g':HF}{d:Nat}{l:List AV}{p:List AV × List Nat}(h:Kt (rd d g) l=some p)(ha:Agr p.2 g g'):Kt (rd d g') l=some p:=
 Tu h fun _ _ _ hq hs=>Qf hq fun b hb=>ha b (hs b hb)
theorem Hu{g g':HF}{d:Nat}{l:List (List AV)}{p:List (List AV) × List Nat}(h:Cf (rd d g) l=some p)(ha:Agr p.2 g g'):Cf (rd d g') l=some p:=
 Rf h fun _ _ _ _ _ hq hs=>Qf hq fun b hb=>ha b (hs b hb)
theorem xK{H:Aa}{d:Nat}{l:List AV}{p:List AV × List Nat}(hd:d≤9)(h:Kt (rd d (hf H)) l=some p):∀b∈p.2,b<H.length:=fun b hb=>by
 obtain⟨z,hz,_⟩:=clL h (fun x _ q hx=>nJ hd hx) b hb
 exact gI hz
theorem cR{H:Aa}{d:Nat}{l:List (List AV)}{p:List (List AV) × List Nat}(hd:d≤9)(h:Cf (rd d (hf H)) l=some p):∀b∈p.2,b<H.length:=fun b hb=>by
 obtain⟨z,hz,_⟩:=clR h (fun r _ x _ q hx=>nJ hd hx) b hb
 exact gI hz
theorem Zr{f:AV→Option (AV × List Nat)}:∀{l:List (List AV)} {p:List (List AV) × List Nat},Cf f l=some p→l.length=p.1.length
 | [],p,h=>by simp[Cf]at h;subst h;rfl
 |a::l,p,h=>by
  simp only[Cf,aa3,aa0]at h
  obtain⟨q,hq,r,hr,rfl⟩:=h
  simp[Zr hr]
theorem aaG{f:AV→Option (AV × List Nat)}:∀{l:List AV} {p:List AV × List Nat},Kt f l=some p→l.length=p.1.length
 | [],p,h=>by simp[Kt]at h;subst h;rfl
 |a::l,p,h=>by
  simp only[Kt,aa3,aa0]at h
  obtain⟨q,hq,r,hr,rfl⟩:=h
  simp[aaG hr]
theorem Es{f:AV→Option (AV × List Nat)}{l xs:List AV}{x:AV}{R:List Nat}(h:Kt f l=some (x::xs,R)):∃a l' R1 R2,l=a::l'∧f a=some (x,R1)∧Kt f l'=some (xs,R2)∧R=R1++R2:=by
 cases l with
 |nil=>simp[Kt]at h
 |cons a l=>
  simp only[Kt,aa3,aa0]at h
  obtain⟨q,hq,r,hr,he⟩:=h
  simp only[Prod.mk.injEq,apM.injEq]at he
  obtain⟨⟨rfl,rfl⟩,rfl⟩:=he
  exact⟨a,l,q.2,r.2,rfl,hq,hr,rfl⟩
theorem zV{f:AV→Option (AV × List Nat)}{l:List AV}{R:List Nat}(h:Kt f l=some ([],R)):l=[]∧R=[]:=by
 cases l with
 |nil=>simp[Kt]at h;exact⟨rfl,h⟩
 |cons a l=>have:=aaG h;simp at this
theorem atA{g:HF}{d:Nat}{v:AV}{xs:List AV}{R:List Nat}(h:rd (d+1) g v=some (.agg xs,R)):∃cs,v=.agg cs∧Kt (rd d g) cs=some (xs,R):=by
 cases v with
 |slr st b r len=>
  simp only[rd,aa3]at h
  obtain⟨z,_,h⟩:=h
  split at h
  ·cases hfl:z.2.1<;>rw[hfl]at h<;>simp at h
  ·cases h
 |agg cs=>
  simp only[rd,aa0]at h
  obtain⟨q,hq,he⟩:=h
  simp only[Prod.mk.injEq,AV.agg.injEq]at he
  obtain⟨rfl,rfl⟩:=he
  exact⟨cs,rfl,hq⟩
 |func fn a b=>cases a<;>cases b<;>simp[rd]at h
 |iface t x=>simp[rd]at h
 |_=>simp[rd]at h
theorem Xu{g:HF}{d:Nat}{v:AV}{k:IntKind}{n:Int}{R:List Nat}(h:rd (d+1) g v=some (.int k n,R)):v=.int k n∧R=[]:=by
 cases v with
 |slr st b r len=>
  simp only[rd,aa3]at h
  obtain⟨z,_,h⟩:=h
  split at h
  ·cases hfl:z.2.1<;>rw[hfl]at h<;>simp at h
  ·cases h
 |func fn a b=>cases a<;>cases b<;>simp[rd]at h
 |int k' n'=>simp[rd]at h;exact⟨by simp[h],h.2⟩
 |agg cs=>simp[rd]at h
 |iface t x=>simp[rd]at h
 |_=>simp[rd]at h
theorem Ww{g:HF}{d st:Nat}{fl nn:Bool}{v:AV}{rows:List (List AV)}{R:List Nat}(h:rd (d+1) g v=some (Ad st fl nn rows,R)):v.isCell=true∧v.flat=false:=by
 have hs:Ad st fl nn rows=.nils∨∃r,Ad st fl nn rows=.imm st fl r:=by
  cases rows with
  |nil=>cases nn with
   |true=>exact .inr ⟨_,rfl⟩
   |false=>exact .inl rfl
  |cons=>exact .inr ⟨_,rfl⟩
 generalize Ad st fl nn rows=X at h hs
 cases v with
 |func fn a b=>cases a<;>cases b<;>first|exact⟨rfl,rfl⟩|(simp[rd]at h)
 |agg cs=>simp only[rd,aa0]at h;obtain⟨_,_,h⟩:=h;simp only[Prod.mk.injEq]at h;obtain⟨h,_⟩:=h;subst h;rcases hs with hs|⟨_,hs⟩<;>cases hs
 |ptr b r o=>exact⟨rfl,rfl⟩
 |yl b=>exact⟨rfl,rfl⟩
 |mapr b=>exact⟨rfl,rfl⟩
 |itr b=>exact⟨rfl,rfl⟩
 |tup cs=>simp[rd]at h
 |bool b=>simp[rd]at h;obtain⟨h,_⟩:=h;subst h;rcases hs with hs|⟨_,hs⟩<;>cases hs
 |int k n=>simp[rd]at h;obtain⟨h,_⟩:=h;subst h;rcases hs with hs|⟨_,hs⟩<;>cases hs
 |str s=>simp[rd]at h;obtain⟨h,_⟩:=h;subst h;rcases hs with hs|⟨_,hs⟩<;>cases hs
 |_=>exact⟨rfl,rfl⟩
theorem ahY{g:HF}{d st:Nat}{fl nn:Bool}{v:AV}{rows:List (List AV)}{R:List Nat}(h:rd (d+1) g v=some (Ad st fl nn rows,R)):
 (v=.nils∧rows=[])∨∃b rows',v=.slr st b 0 rows.length∧(g b).bind Bc=some (st,fl,rows')∧rows'.length=rows.length∧(fl=true→rows'=rows)∧(fl=false→∃R',Cf (rd d g) rows'=some (rows,R')):=by
 have hs:(Ad st fl nn rows=.nils∧rows=[])∨Ad st fl nn rows=.imm st fl rows:=by
  cases rows with
  |nil=>cases nn with
   |true=>exact .inr rfl
   |false=>exact .inl ⟨rfl,rfl⟩
  |cons=>exact .inr rfl
 generalize Ad st fl nn rows=X at h hs
 cases v with
 |nils=>simp[rd]at h;obtain⟨rfl,_⟩:=h;rcases hs with⟨_,hs⟩|hs
        ·exact .inl ⟨rfl,hs⟩
        ·cases hs
 |slr st' b r len=>
  simp only[rd,aa3]at h
  obtain⟨z,hz,h⟩:=h
  split at h
  ·rename_i hq
   obtain⟨q1,rfl,q3⟩:=hq
   obtain⟨z1,z2,z3⟩:=z
   simp only at q1 q3 h
   subst q1
   cases z2 with
   |true=>
    simp at h
    obtain⟨rfl,_⟩:=h
    rcases hs with⟨hs,_⟩|hs
    ·cases hs
    ·cases hs
     exact .inr ⟨b,_,by rw[q3],aa3.2 hz,rfl,fun _=>rfl,fun e=>by cases e⟩
   |false=>
    simp only[cond_false,aa0]at h
    obtain⟨q,hq,he⟩:=h
    simp only[Prod.mk.injEq]at he
    obtain⟨rfl,_⟩:=he
    rcases hs with⟨hs,_⟩|hs
    ·cases hs
    ·cases hs
     have hl:z3.length=q.1.length:=Zr hq
     exact .inr ⟨b,z3,by rw[q3,hl],aa3.2 hz,hl,fun e=>(by cases e),fun _=>⟨q.2,hq⟩⟩
  ·cases h
 |func fn a b=>cases a<;>cases b<;>simp[rd]at h<;>(obtain⟨rfl,_⟩:=h;rcases hs with⟨hs,_⟩|hs<;>cases hs)
 |agg cs=>simp only[rd,aa0]at h;obtain⟨_,_,h⟩:=h;simp only[Prod.mk.injEq]at h;obtain⟨rfl,_⟩:=h;rcases hs with⟨hs,_⟩|hs<;>cases hs
 |iface t x=>simp only[rd,aa0]at h;obtain⟨_,_,h⟩:=h;simp only[Prod.mk.injEq]at h;obtain⟨rfl,_⟩:=h;rcases hs with⟨hs,_⟩|hs<;>cases hs
 |ptr b r o=>simp[rd]at h
 |yl b=>simp[rd]at h
 |mapr b=>simp[rd]at h
 |itr b=>simp[rd]at h
 |tup cs=>simp[rd]at h
 |imm=>simp[rd]at h
 |iptr=>simp[rd]at h
 |_=>simp[rd]at h;obtain⟨rfl,_⟩:=h;rcases hs with⟨hs,_⟩|hs<;>cases hs
theorem Jz{g:HF}{d:Nat}(k:IntKind)(n:Int):rd (d+1) g (.int k n)=some (.int k n,[]):=rfl
theorem alK{g:HF}{d:Nat}:rd (d+1) g .nils=some (.nils,[]):=rfl
theorem Oq{g:HF}{d st b n:Nat}{rows:List (List AV)}(h:(g b).bind Bc=some (st,true,rows))(hn:n=rows.length):rd (d+1) g (.slr st b 0 n)=some (.imm st true rows,[b]):=by
 subst hn;simp[rd,h]
theorem aqY{g:HF}{d:Nat}{cs xs:List AV}{R:List Nat}(h:Kt (rd d g) cs=some (xs,R)):rd (d+1) g (.agg cs)=some (.agg xs,R):=by simp[rd,h]
theorem Za{f:AV→Option (AV × List Nat)}:Kt f []=some ([],[]):=rfl
theorem Cb{f:AV→Option (AV × List Nat)}{a x:AV}{l xs:List AV}{R1 R2:List Nat}(h1:f a=some (x,R1))(h2:Kt f l=some (xs,R2)):Kt f (a::l)=some (x::xs,R1++R2):=by simp[Kt,h1,h2]
theorem abH{n:Nat}{rows:List (List AV)}{v:AV}{H:Aa}(ho:Sj 0 n true rows v H):∃nn R,∀d,rd (d+1) (hf H) v=some (Ad n true nn rows,R)∧R.length≤1:=by
 rcases ho with⟨rfl,rfl⟩|⟨b,w,rfl,hb⟩
 ·exact⟨false,[],fun d=>⟨rfl,by simp⟩⟩
 ·have hb':(hf H (b+0)).bind Bc=some (n,true,rows):=by show(H[b]?).bind Bc=_;rw[hb];rfl
  refine⟨true,[b+0],fun d=>⟨?_,by simp⟩⟩
  simp only[rd,hb',aa9,if_true,and_self,cond_true]
  cases rows<;>rfl
theorem qP{x:Option (List AV)}{vs:List AV}{h:Aa}{Q:Dk→Aa→Prop}(hx:x=some vs)(k:Rt 0 (some vs) h Q):Rt 0 x h Q:=hx▸k
theorem RdV.of{O:Ea}{f:Nat}{vs:List AV}{x:AV}{k:Nat}(h:ClQ O f vs [] fun o h'=>∃v R,o=.ret v∧rd 6 (hf h') v=some (x,R)∧R.length≤k∧∀c∈h',xG c):RdV O f vs x k:=by
 obtain⟨o,h',e,v,R,rfl,k1,k2,k3⟩:=h
 exact⟨v,h',R,e,k1,k2,k3⟩
theorem Rk{f:AV→Option (AV × List Nat)}:∀{l:List (List AV)} {p:List (List AV) × List Nat} {r:List AV} {q:List AV × List Nat},Cf f l=some p→Kt f r=some q→Cf f (l++[r])=some (p.1++[q.1],p.2++q.2)
 | [],p,r,q,h,hr=>by simp[Cf]at h;subst h;simp[Cf,hr]
 |a::l,p,r,q,h,hr=>by
  simp only[Cf,aa3,aa0]at h
  obtain⟨q1,hq1,r1,hr1,rfl⟩:=h
  simp[Cf,hq1,Rk hr1 hr]
end
noncomputable section
open Go.RowKit
section
variable {P:Program} {O:Ea}
def slx(P:Program)(ty:TypeId)(a:Option AV)(l h:Option (Option AV)):OE:=r1 (a.bind fun a=>l.bind fun l=>h.bind fun h=>cJ P ty a l h)
theorem akU(t:List AV)(h:Aa)(ty:TypeId)(x:Operand)(lo hi:Option Operand):Dl O P t h (.slice ty x lo hi none)=slx P ty (Ae t x) (cT t lo) (cT t hi):=by
 rw[Bz _ _ _ rfl]
 simp only[exec,slx]
 cases Ae t x with
 |none=>rfl
 |some a=>
  cases cT t lo with
  |none=>rfl
  |some l=>
   cases cT t hi with
   |none=>rfl
   |some h=>exact Ge _
def oS(x:Option AV):Option (Option AV):=x.map some
theorem aoX(v:AV):oS (some v)=some (some v):=aaK rfl rfl
theorem aeJ(t:List AV):cT t none=some none:=aaK rfl rfl
theorem abX(t:List AV)(x:Operand):cT t (some x)=oS (Ae t x):=aaK rfl rfl
theorem avJ{ty:TypeId}{n:Nat}(hs:SlT P ty n)(fl:Bool)(rows:List (List AV))(i:Nat)(hi:i≤rows.length):slx P ty (some (.imm n fl rows)) (some none) (some (some (.int .i64 i)))=some (.ret (.imm n fl (rows.take i)),[]):=by
 obtain⟨e,h1,h2⟩:=hs
 simp only[slx,aa9,cJ,h1,h2,Iw]
 simp[hi,r1]
end
end
noncomputable section
set_option maxRecDepth 100000
section
variable {P:Program} {G:Nat→Option Obj}
end
section
variable {P:Program}
theorem agR{ty:TypeId}{n:Nat}(hs:SlT P ty n)(fl nn:Bool){rows:List (List AV)}{i:Nat}(hi:i<rows.length):slx P ty (some (Ad n fl nn rows)) (some none) (some (some (.int .i64 i)))=some (.ret (.imm n fl (rows.take i)),[]):=by
 cases rows with
 |nil=>simp at hi
 |cons r rs=>rw[ah5];exact avJ hs fl _ i (by omega)
end
def lsE(e:AV→AV→Bool):List AV→List AV→Bool
 | [],[]=>true
 |a::l,b::r=>e a b&&lsE e l r
 |_,_=>false
def rsE(e:AV→AV→Bool):List (List AV)→List (List AV)→Bool
 | [],[]=>true
 |a::l,b::r=>lsE e a b&&rsE e l r
 |_,_=>false
def avE:Nat→AV→AV→Bool
 |0,_,_=>false
 |d+1,x,y=>
  match x,y with
  | .bool a,.bool b=>a==b
  | .int k a,.int j b=>k==j&&a==b
  | .str a,.str b=>a==b
  | .nils,.nils=>true
  | .imm n f r,.imm n' f' r'=>n==n'&&f==f'&&rsE (avE d) r r'
  | .agg a,.agg b=>lsE (avE d) a b
  |_,_=>false
theorem qS{e:AV→AV→Bool}(h:∀a b,e a b=true→a=b):∀{l r:List AV},lsE e l r=true→l=r
 | [],[],_=>rfl
 |a::l,b::r,k=>by
  simp only[lsE,af7]at k
  rw[h a b k.1,qS h k.2]
 | [],_::_,k=>by cases k
 |_::_,[],k=>by cases k
theorem ag7{e:AV→AV→Bool}(h:∀a b,e a b=true→a=b):∀{l r:List (List AV)},rsE e l r=true→l=r
 | [],[],_=>rfl
 |a::l,b::r,k=>by
  simp only[rsE,af7]at k
  rw[qS h k.1,ag7 h k.2]
 | [],_::_,k=>by cases k
 |_::_,[],k=>by cases k
theorem zD:∀{d:Nat} {x y:AV},avE d x y=true→x=y
 |0,_,_,h=>by cases h
 |d+1,x,y,h=>by
  unfold avE at h
  split at h
  ·simp at h;rw[h]
  ·simp at h;rw[h.1,h.2]
  ·simp at h;rw[h]
  ·rfl
  ·simp only[af7,beq_iff_eq]at h
   rw[h.1.1,h.1.2,ag7 (fun a b k=>zD k) h.2]
  ·rw[qS (fun a b k=>zD k) h]
  ·cases h
structure Ent where
 f:Nat
 args:List AV
 res:Dk × Aa
def av7(tab:List Ent)(f:Nat)(a:List AV)(h:Aa):Option (Dk × Aa):=
 match h with
 | []=>(tab.find? fun e=>e.f==f&&lsE (avE 8) e.args a).map (·.res)
 |_=>none
def bX(pr:Hl)(tab:List Ent):Hl:={ pr with at_:=fun f=>if tab.any (·.f==f)=true then some (av7 tab f)else pr f }
theorem Xq{O:Ea}{pr:Hl}{tab:List Ent}(h0:∀f p,pr f=some p→∀a h r,p a h=some r→O.call (.fn f) a h=some r)(h1:∀e∈tab,O.call (.fn e.f) e.args []=some e.res):
 ∀f p,bX pr tab f=some p→∀a h r,p a h=some r→O.call (.fn f) a h=some r:=by
 intro f p hp a h r hr
 simp only[bX]at hp
 split at hp
 ·cases hp
  unfold av7 at hr
  split at hr
  ·obtain⟨e,he,rfl⟩:=aa0.1 hr
   have h2:=List.find?_some he
   simp only[af7,beq_iff_eq]at h2
   rw[←h2.1,←qS (fun a b k=>zD k) h2.2]
   exact h1 e (List.mem_of_find?_eq_some he)
  ·cases hr
 ·exact h0 f p hp a h r hr
def EVu:=PLift.up (aaA @aoG (aaA @akU (aaA @aeJ (aaA @abX @aoX))))
end
noncomputable section
section
variable {α:Type}
end
end
section
def Ze:Aa→Aa→Aa
 | [],h'=>h'
 |c₀::h,[]=>c₀::h
 |c₀::h,c::h'=>(bif c₀.quiet c then c₀ else c.mark)::Ze h h'
def adK(h h':Aa):Prop:=h.length≤h'.length∧∀(i:Nat) (c₀ c:CB),h[i]?=some c₀→h'[i]?=some c→c₀.quiet c=true∨c₀.isLive=true
theorem Yb:∀(h h' pre:Aa),adK h h'→∃es,Dy pre.length h h'=some es∧Bo (pre++h) es=pre++Ze h h'
 | [],h',pre,_=>⟨_,rfl,by simp[nK,Ze]⟩
 |c₀::h,[],pre,ok=>by simp[adK]at ok
 |c₀::h,c::h',pre,ok=>by
  have ok':adK h h':=⟨by simpa using ok.1,fun i a b h1 h2=>ok.2 (i+1) a b (by simpa using h1) (by simpa using h2)⟩
  cases hq:c₀.quiet c with
  |true=>
   obtain⟨es,e1,e2⟩:=Yb h h' (pre++[c₀]) ok'
   refine⟨es,?_,?_⟩
   ·simp only[Dy,hq,cond_true]
    simpa using e1
   ·simpa [Ze,hq]using e2
  |false=>
   have hl:c₀.isLive=true:=by
    rcases ok.2 0 c₀ c rfl rfl with h|h
    ·rw[hq]at h;cases h
    ·exact h
   obtain⟨es,e1,e2⟩:=Yb h h' (pre++[c.mark]) ok'
   refine⟨.put pre.length c.mark::es,?_,?_⟩
   ·simp only[Dy,hq,hl,cond_false,cond_true]
    simp only[List.length_append,anV,List.length_nil]at e1
    rw[e1];rfl
   ·simp only[Bo,Ls,Ze,hq,cond_false]
    have:(pre++c₀::h).set pre.length c.mark=(pre++[c.mark])++h:=by simp
    rw[this,e2];simp
theorem gR:∀{h h':Aa},h.length≤h'.length→(Ze h h').length=h'.length
 | [],h',_=>rfl
 |c₀::h,[],hl=>by simp at hl
 |c₀::h,c::h',hl=>by simp[Ze,gR (h:=h) (h':=h') (by simpa using hl)]
theorem aP:∀{h h':Aa} {i:Nat} {c₀ c:CB},h[i]?=some c₀→h'[i]?=some c→c₀.quiet c=true→(Ze h h')[i]?=some c₀
 | [],h',i,c₀,c,h1,_,_=>by simp at h1
 |a::h,[],i,c₀,c,_,h2,_=>by simp at h2
 |a::h,b::h',0,c₀,c,h1,h2,hq=>by
  simp at h1 h2;subst h1 h2;simp[Ze,hq]
 |a::h,b::h',i+1,c₀,c,h1,h2,hq=>by
  simp at h1 h2;simpa [Ze]using aP h1 h2 hq
theorem gU:∀{h h':Aa} {i:Nat} {c₀ c:CB},h[i]?=some c₀→h'[i]?=some c→c₀.quiet c=false→(Ze h h')[i]?=some c.mark
 | [],h',i,c₀,c,h1,_,_=>by simp at h1
 |a::h,[],i,c₀,c,_,h2,_=>by simp at h2
 |a::h,b::h',0,c₀,c,h1,h2,hq=>by
  simp at h1 h2;subst h1 h2;simp[Ze,hq]
 |a::h,b::h',i+1,c₀,c,h1,h2,hq=>by
  simp at h1 h2;simpa [Ze]using gU h1 h2 hq
theorem rK:∀{h h':Aa} {i:Nat},h.length≤h'.length→h.length≤i→(Ze h h')[i]?=h'[i]?
 | [],h',i,_,_=>rfl
 |a::h,[],i,hl,_=>by simp at hl
 |a::h,b::h',0,_,hi=>by simp at hi
 |a::h,b::h',i+1,hl,hi=>by
  simpa [Ze]using rK (h:=h) (h':=h') (i:=i) (by simpa using hl) (by simpa using hi)
theorem Fh{h:Aa}{i:Nat}{c:CB}(hc:h[i]?=some c):(Df h)[i]?=some c.clean:=by simp[Df,hc]
theorem Bg(h:Aa):(Df h).length=h.length:=by simp[Df]
theorem Ni(c:CB):Bc c.clean=Bc c:=by cases c<;>rfl
theorem afD(c:CB):Bc c.mark=Bc c:=by cases c<;>rfl
theorem aaY{O:Ea}{H:Aa}{f:Nat}{args:List AV}{Q:Dk→Aa→Prop}(hd:fM args=true)(hm:O.md f=true)(K:kZ O f args (Df H) Q)(ok:∀o G,Q o G→adK H G):
 ∃o G es,cl O H (some (.func (.func f) [] [])) (some args)=some (o,es)∧Bo H es=Ze H G∧Q o G:=by
 obtain⟨o,G,hc,hq⟩:=K
 obtain⟨es,e1,e2⟩:=Yb H G [] (ok o G hq)
 refine⟨o,G,es,?_,by simpa using e2,hq⟩
 rw[sE]
 simp only[agA,agB,hd,if_true,shC,hm,apR,hc]
 rw[jD]
 have e1':Dy 0 H G=some es:=e1
 rw[e1'];rfl
structure Io(X:List Nat)(H H1:Aa):Prop where
 len:H.length≤H1.length
 same:∀b,b<H.length→b∉X→H1[b]?=H[b]?
theorem Io.refl(H:Aa):Io [] H H:=⟨ap6 _,fun _ _ _=>rfl⟩
theorem Io.app(H l:Aa):Io [] H (H++l):=⟨by simp,fun b hb _=>af6 hb⟩
theorem Io.trans{X Y:List Nat}{H H1 H2:Aa}(h1:Io X H H1)(h2:Io Y H1 H2):Io (X++Y) H H2:=
 ⟨Nat.le_trans h1.len h2.len,fun b hb hn=>by
   rw[h2.same b (alY hb h1.len) (fun h=>hn (af9 _ h)),h1.same b hb (fun h=>hn (af8 _ h))]⟩
theorem Io.mono{X Y:List Nat}{H H1:Aa}(h:Io X H H1)(hs:∀b∈X,b∈Y∨H.length≤b):Io Y H H1:=
 ⟨h.len,fun b hb hn=>h.same b hb (fun hx=>by rcases hs b hx with h|h;exact hn h;omega)⟩
theorem Io.agr{X R:List Nat}{H H1:Aa}(h:Io X H H1)(hR:∀b∈R,b<H.length∧b∉X):Agr R (hf H) (hf H1):=fun b hb z hz=>by
 show(H1[b]?).bind Bc=_
 rw[h.same b (hR b hb).1 (hR b hb).2];exact hz
end
noncomputable section
open Go.RowKit
def fK(f:Nat→Nat):Qy→List (List Bf × List Bf)→Prop
 | [],[]=>True
 |(es,fs)::l,(w,r)::l'=>(∀e∈es,Bf.all∈w∨Vq f e.foot∈w)∧(∀x∈fs,Bf.all∈r∨Vq f x∈r)∧fK f l l'
 |_,_=>False
theorem fK.get{f:Nat→Nat}:∀{l:Qy} {l':List (List Bf × List Bf)} {i:Nat} {y:List Bf × List Bf},fK f l l'→l'[i]?=some y→∃x,l[i]?=some x∧(∀e∈x.1,Bf.all∈y.1∨Vq f e.foot∈y.1)∧(∀a∈x.2,Bf.all∈y.2∨Vq f a∈y.2)
 | [],[],i,y,_,h=>by simp at h
 |(es,fs)::l,(w,r)::l',0,y,h,hy=>by simp at hy;subst hy;exact⟨_,rfl,h.1,h.2.1⟩
 |(es,fs)::l,(w,r)::l',i+1,y,h,hy=>by
  obtain⟨x,h1,h2⟩:=fK.get h.2.2 (i:=i) (by simpa using hy)
  exact⟨x,by simpa using h1,h2⟩
theorem acN(x:Bf):x.meets .all=true:=by cases x<;>rfl
theorem afV(x:Bf):Bf.meets .all x=true:=by cases x<;>rfl
theorem akW(f:Nat→Nat){ops:List Oper}{log:Qy}(lg:List (List Bf × List Bf))(hc:fK f log lg)(hd:eV ops lg=true):Dp ops log=true:=by
 simp only[eV,Dp,afR]at hd ⊢
 rintro⟨i,j⟩ hij
 have:=hd (i,j) hij
 simp only at this ⊢
 cases hi:lg[i]? with
 |none=>simp[hi]at this
 |some x=>
  cases hj:lg[j]? with
  |none=>simp[hi,hj]at this
  |some y=>
   obtain⟨x',a1,a2,a3⟩:=hc.get hi
   obtain⟨y',b1,b2,b3⟩:=hc.get hj
   simp only[hi,hj,a1,b1,aq7,arQ]at this ⊢
   cases hk:Il x' y' with
   |false=>rfl
   |true=>
    rw[←this];symm
    have mt:∀{p q:Bf} {P Q:List Bf},p.meets q=true→(Bf.all∈P∨Vq f p∈P)→(Bf.all∈Q∨Vq f q∈Q)→∃p'∈P,∃q'∈Q,p'.meets q'=true:=fun {p q P Q} hm hp hq=>by
     rcases hp with hp|hp<;>rcases hq with hq|hq
     ·exact⟨_,hp,_,hq,rfl⟩
     ·exact⟨_,hp,_,hq,afV _⟩
     ·exact⟨_,hp,_,hq,acN _⟩
     ·exact⟨_,hp,_,hq,jC f _ _ hm⟩
    simp only[Il,Uw,aqJ,aqS,ae7,aj8]at hk ⊢
    rcases hk with⟨_,⟨e,he,rfl⟩,b,hb,hm⟩|⟨_,⟨e,he,rfl⟩,b,hb,hm⟩
    ·left
     rcases hb with⟨e',he',rfl⟩|hb
     ·obtain⟨p,hp,q,hq,hpq⟩:=mt hm (a2 e he) (b2 e' he')
      exact⟨p,hp,q,.inl hq,hpq⟩
     ·obtain⟨p,hp,q,hq,hpq⟩:=mt hm (a2 e he) (b3 b hb)
      exact⟨p,hp,q,.inr hq,hpq⟩
    ·right
     obtain⟨p,hp,q,hq,hpq⟩:=mt hm (b2 e he) (a3 b hb)
     exact⟨p,hp,q,hq,hpq⟩
theorem rL(f:Nat→Nat)(lg:List (List Bf × List Bf)){C:R→Prop}{ops:List Oper}{log:Qy}{k:R}(hb:eV ops lg=true)(hc:fK f log lg)(h:True→C k):C (Gg (Dp ops log) k):=Zv (akW f lg hc hb) h
theorem aiQ(f:Nat→Nat):fK f [] []=True:=rfl
theorem aeD(f:Nat→Nat)(es:List Af)(fs:List Bf)(l:Qy)(w r:List Bf)(l':List (List Bf × List Bf)):fK f ((es,fs)::l) ((w,r)::l')=((∀e∈es,Bf.all∈w∨Vq f e.foot∈w)∧(∀x∈fs,Bf.all∈r∨Vq f x∈r)∧fK f l l'):=rfl
theorem kK{f:Nat→Nat}:∀{cs:List CB} {base:Nat} {ns:List Af},Gw f base cs=some ns→∀e∈ns,∃b,e.foot=.blk b∧base≤b
 | [],base,ns,h,e,he=>by simp[Gw]at h;subst h;simp at he
 |c::cs,base,ns,h,e,he=>by
  simp only[Gw,aa3,aa0]at h
  obtain⟨c1,_,ns',h2,rfl⟩:=h
  rcases af5.1 he with rfl|he
  ·exact⟨base,rfl,ap6 _⟩
  ·obtain⟨b,h3,h4⟩:=kK h2 e he
   exact⟨b,h3,by omega⟩
theorem ahG{O:Ea}{H:Aa}{f:Nat}{args vs:List AV}{v:AV}{h':Aa}(hh:pkd O f args)(ha:Au (bQ H) args=some vs)(hp:vs.all (Az 8)=true)
 (hc:O.call (.fn f) vs []=some (.ret v,h')) (h1:∀f,∃y,Br 8 f v=some y) (h2:∀c∈h',xG c) (hl:args.flatMap (Bd 12 (hf H))=[]):
 ∃v1 es cs1,cl O H (some (.func (.func f) [] [])) (some args)=some (.ret v1,es)∧Bo H es=H++cs1∧Au (Ek fun i=>H.length+i) h'=some cs1∧Br 8 (fun i=>H.length+i) v=some v1∧∀e∈es,∃b,e.foot=.blk b∧H.length≤b:=by
 obtain⟨v1,e1⟩:=h1 (fun i=>H.length+i)
 obtain⟨ns,cs1,e2,e3,e4⟩:=lV (f:=fun i=>H.length+i) h2 H.length
 have key:cl O H (some (.func (.func f) [] [])) (some args)=some (.ret v1,ns):=by
  rw[zC hh,aaS ha hp,hc]
  simp only[crR,aa9,Dk.v,e1,e2,ae4,Dk.map,hl]
  split<;>rfl
 exact⟨v1,ns,cs1,key,e3 H,e4,e1,kK e2⟩
theorem ah3(n:Nat)(b:Nat):(fun i=>if n≤i then some (i-n)else none:Nat→Option Nat) (n+b)=some b:=by simp
theorem aaV{H:Aa}{h' cs1:Aa}(h:Au (Ek fun i=>H.length+i) h'=some cs1):zB (fun i=>if H.length≤i then some (i-H.length)else none) (hf (H++cs1)) (hf h'):=fun i b hi z hz=>by
 simp only at hi
 split at hi
 ·rename_i hle
  simp only[ae2.injEq]at hi
  obtain⟨c,hcc,hcz⟩:=aa3.1 hz
  obtain⟨c1,g1,g2⟩:=Jw h (show h'[b]?=some c from hcc)
  obtain⟨rows',r1,r2,r3⟩:=tQ (F:=fun i=>if H.length≤i then some (i-H.length)else none) (ah3 H.length) g2 hcz
  refine⟨rows',?_,r2,r3⟩
  show((H++cs1)[i]?).bind Bc=_
  rw[ajM (by omega),hi,g1]
  exact r1
 ·cases hi
theorem acZ(g:HF){vs:List AV}(hp:vs.all (Az 8)=true):Hz g [] vs=some (vs,[],[]):=by
 simp only[afR]at hp
 rw[Hz,Jc fun x hx=>Hw [] (hp x hx)];rfl
theorem aaP{O:Ea}{H:Aa}{f:Nat}{args vs:List AV}(hh:pkd O f args)(ha:Au (bQ H) args=some vs)(hp:vs.all (Az 8)=true):
 ∃fs,ftC O H (some (.func (.func f) [] [])) (some args)=some fs∧∀x∈fs,∃b∈args.flatMap (Bd 12 (hf H)),x=.blk b:=by
 have key:ftR H args=some ((args.flatMap (Bd 12 (hf H))).map Bf.blk):=by rw[agG,ha,tW,acZ _ hp,wL,agB]
 have e:ftC O H (some (.func (.func f) [] [])) (some args)=some []∨ftC O H (some (.func (.func f) [] [])) (some args)=some ((args.flatMap (Bd 12 (hf H))).map Bf.blk):=by
  rw[qT]
  simp only[agA,agB]
  split
  ·rename_i hd
   rw[gJ,if_neg (by rw[hh hd];simp)]
   split
   ·exact .inl rfl
   ·exact .inr key
  ·split
   ·exact .inl rfl
   ·exact .inr key
 rcases e with e|e
 ·exact⟨_,e,fun x hx=>by cases hx⟩
 ·exact⟨_,e,fun x hx=>by obtain⟨b,hb,rfl⟩:=aj8.1 hx;exact⟨b,hb,rfl⟩⟩
theorem aiI{m m':List Nat}{c c':CB}(h:Lr m c=some (c',m'))(hl:∃st fl w rows,c=.live st fl w rows):∃st fl w rows,c'=.live st fl w rows:=by
 obtain⟨st,fl,w,rows,rfl⟩:=hl
 cases fl with
 |true=>simp[Lr]at h;obtain⟨rfl,_⟩:=h;exact⟨_,_,_,_,rfl⟩
 |false=>simp only[Lr,aa0]at h;obtain⟨⟨r,m1⟩,_,h⟩:=h;cases h;exact⟨_,_,_,_,rfl⟩
theorem sR{f:Nat→Nat}{c c':CB}(h:Ek f c=some c')(hl:∃st fl w rows,c=.live st fl w rows):∃st fl w rows,c'=.live st fl w rows:=by
 obtain⟨st,fl,w,rows,rfl⟩:=hl
 cases fl with
 |true=>simp[Ek]at h;subst h;exact⟨_,_,_,_,rfl⟩
 |false=>simp only[Ek,aa0]at h;obtain⟨r,_,rfl⟩:=h;exact⟨_,_,_,_,rfl⟩
theorem rA{g:HF}:∀{d e:Nat} {v:AV} {p:AV × List Nat},d≤e→rd d g v=some p→hasImm e v=false
 |0,e,v,p,_,h=>by simp[rd]at h
 |d+1,0,v,p,he,h=>by omega
 |d+1,e+1,v,p,he,h=>by
  have L:∀{l:List AV} {q:List AV × List Nat},Kt (rd d g) l=some q→l.any (hasImm e)=false:=fun {l}=>by
   induction l with
   |nil=>exact fun _=>rfl
   |cons a l ih=>
    intro q h
    simp only[Kt,aa3,aa0]at h
    obtain⟨b,hb,c,hc,_⟩:=h
    rw[af4,rA (by omega) hb,ih hc];rfl
  cases v with
  |agg cs=>simp only[rd,aa0]at h;obtain⟨_,h,_⟩:=h;exact L h
  |iface t x=>simp only[rd,aa0]at h;obtain⟨_,h,_⟩:=h;show hasImm e x=false;exact rA (show d≤e by omega) h
  |func fn a b=>cases a<;>cases b<;>first|rfl|(simp[rd]at h)
  |tup cs=>simp[rd]at h
  |imm=>simp[rd]at h
  |iptr=>simp[rd]at h
  |_=>rfl
theorem lM:∀{e:Nat} {m m':List Nat} {x y:AV},Bl e m x=some (y,m')→hasImm e y=hasImm e x
 |0,m,m',x,y,h=>by simp[Bl]at h
 |e+1,m,m',x,y,h=>by
  have L:∀{l l':List AV} {m m':List Nat},Bl.refL (Bl e) m l=some (l',m')→l'.any (hasImm e)=l.any (hasImm e):=fun {l}=>by
   induction l with
   |nil=>intro l' m m' h;simp[Bl.refL]at h;rw[h.1]
   |cons a l ih=>
    intro l' m m' h
    simp only[Bl.refL,aa3,aa0]at h
    obtain⟨⟨b,m1⟩,hb,⟨c,m2⟩,hc,he⟩:=h
    cases he
    rw[af4,af4,lM hb,ih hc]
  cases x with
  |agg cs=>simp only[Bl,aa0]at h;obtain⟨⟨c,m1⟩,h,he⟩:=h;cases he;exact L h
  |tup cs=>simp only[Bl,aa0]at h;obtain⟨⟨c,m1⟩,h,he⟩:=h;cases he;exact L h
  |iface t x=>simp only[Bl,aa0]at h;obtain⟨⟨c,m1⟩,h,he⟩:=h;cases he;show hasImm e c=hasImm e x;exact lM h
  |func fn a b=>
   simp only[Bl,aa3,aa0]at h
   obtain⟨⟨c,m1⟩,h1,⟨d,m2⟩,h2,he⟩:=h
   cases he
   show(c.any _||d.any _)=(a.any _||b.any _)
   rw[L h1,L h2]
  |_=>simp only[Bl,ae2.injEq,Prod.mk.injEq]at h;obtain⟨rfl,_⟩:=h;rfl
theorem Wn:∀{l l':List (List AV)} {m m':List Nat},Fg m l=some (l',m')→(l'.any fun cs=>cs.any (hasImm 8))=l.any fun cs=>cs.any (hasImm 8)
 | [],l',m,m',h=>by simp[Fg]at h;rw[h.1]
 |r::l,l',m,m',h=>by
  simp only[Fg,aa3,aa0]at h
  obtain⟨⟨b,m1⟩,hb,⟨c,m2⟩,hc,he⟩:=h
  cases he
  have L:∀{l l':List AV} {m m':List Nat},Bl.refL (Bl 8) m l=some (l',m')→l'.any (hasImm 8)=l.any (hasImm 8):=fun {l}=>by
   induction l with
   |nil=>intro l' m m' h;simp[Bl.refL]at h;rw[h.1]
   |cons a l ih=>
    intro l' m m' h
    simp only[Bl.refL,aa3,aa0]at h
    obtain⟨⟨b,m1⟩,hb,⟨c,m2⟩,hc,he⟩:=h
    cases he
    rw[af4,af4,lM hb,ih hc]
  rw[af4,af4,L hb,Wn hc]
theorem Zq{g:HF}{d:Nat}(hd:d≤8):∀{l:List (List AV)} {q:List (List AV) × List Nat},Cf (rd d g) l=some q→(l.any fun cs=>cs.any (hasImm 8))=false
 | [],q,h=>rfl
 |r::l,q,h=>by
  simp only[Cf,aa3,aa0]at h
  obtain⟨b,hb,c,hc,rfl⟩:=h
  have L:∀{l:List AV} {q:List AV × List Nat},Kt (rd d g) l=some q→l.any (hasImm 8)=false:=fun {l}=>by
   induction l with
   |nil=>exact fun _=>rfl
   |cons a l ih=>
    intro q h
    simp only[Kt,aa3,aa0]at h
    obtain⟨b,hb,c,hc,_⟩:=h
    rw[af4,rA (by omega) hb,ih hc];rfl
  rw[af4,L hb,Zq hd hc];rfl
theorem avN{g:HF}{S:List Nat}(H:Cl g S){b:Nat}(hb:b∈S){c c':CB}{m m':List Nat}(hc:g b=some c)(h:Lr m c=some (c',m')):c'.hasImm=false:=by
 obtain⟨z,hz,hr⟩:=H b hb
 rw[hc]at hz
 cases c with
 |live st fl w rows=>
  simp[Bc]at hz;subst hz
  cases fl with
  |true=>simp[Lr]at h;obtain⟨rfl,_⟩:=h;rfl
  |false=>
   simp only[Lr,aa0]at h
   obtain⟨⟨r,m1⟩,h,he⟩:=h
   cases he
   obtain⟨d,q,hd,hq,_⟩:=hr rfl
   exact(Wn h).trans (Zq hd hq)
 |frz st fl rows=>
  simp[Bc]at hz;subst hz
  cases fl with
  |true=>simp[Lr]at h;obtain⟨rfl,_⟩:=h;rfl
  |false=>
   simp only[Lr,aa0]at h
   obtain⟨⟨r,m1⟩,h,he⟩:=h
   cases he
   obtain⟨d,q,hd,hq,_⟩:=hr rfl
   exact(Wn h).trans (Zq hd hq)
 |dead=>simp[Bc]at hz
 |lp=>simp[Bc]at hz
theorem uW{g:HF}{S:List Nat}(H:Cl g S):∀(n i:Nat) (m:List Nat) {cs:List CB} {m':List Nat},(∀b∈m,b∈S)→Hh n g i m=some (cs,m')→
 m <+:m'∧∀j c',cs[j]?=some c'→∃b c,m'[i+j]?=some b∧g b=some c∧((∃st fl w rows,c=.live st fl w rows)→∃st fl w rows,c'=.live st fl w rows)∧c'.hasImm=false
 |0,i,m,cs,m',hs,h=>by simp[Hh]at h
 |n+1,i,m,cs,m',hs,h=>by
  unfold Hh at h
  cases hm:m[i]? with
  |none=>rw[hm]at h;simp at h;obtain⟨rfl,rfl⟩:=h;exact⟨an6 _,fun j c' hj=>by simp at hj⟩
  |some b=>
   rw[hm]at h
   obtain⟨c,c',m1,z,k1,k2,k3,g1,k4,k5⟩:=spB H (hs b (ai2 hm)) m
   simp only[k1,k3,aa9,aa0]at h
   obtain⟨⟨cs1,m2⟩,h2,h3⟩:=h
   cases h3
   obtain⟨p1,p2⟩:=uW H n (i+1) m1 (fun b hb=>(g1.sub b hb).elim (hs b) id) h2
   refine⟨g1.pre.trans p1,fun j x hj=>?_⟩
   cases j with
   |zero=>
    simp at hj;subst hj
    exact⟨b,c,Ih (g1.pre.trans p1) (by simpa using hm),k1,fun hl=>aiI k3 hl,avN H (hs b (ai2 hm)) k1 k3⟩
   |succ j=>
    simp at hj
    obtain⟨b',c1,a1,a2⟩:=p2 j x hj
    exact⟨b',c1,by rw[←a1];congr 1;omega,a2⟩
def Rws(c:CB):Prop:=∃z,Bc c=some z
theorem Rws.quiet{c:CB}(h:Rws c):c.quiet c.clean=true:=by
 obtain⟨z,h⟩:=h
 cases c<;>first|rfl|(simp[Bc]at h)
theorem Rws.ren{f:Nat→Nat}{c c':CB}(h:Rws c)(hr:Ek f c=some c'):Rws c':=by
 obtain⟨z,h⟩:=h
 cases c with
 |live st fl w rows=>obtain⟨st,fl,w,rows,rfl⟩:=sR hr ⟨_,_,_,_,rfl⟩;exact⟨_,rfl⟩
 |frz st fl rows=>
  cases fl with
  |true=>simp[Ek]at hr;subst hr;exact⟨_,rfl⟩
  |false=>simp only[Ek,aa0]at hr;obtain⟨r,_,rfl⟩:=hr;exact⟨_,rfl⟩
 |_=>simp[Bc]at h
theorem Rws.renL{f:Nat→Nat}{cs cs1:Aa}(h:∀c∈cs,Rws c)(hr:Au (Ek f) cs=some cs1):∀c∈cs1,Rws c:=fun c hc=>by
 obtain⟨i,hi⟩:=alZ hc
 obtain⟨h1,h2⟩:=Dz hr
 obtain⟨a,ha,hf⟩:=h2 i c hi
 exact(h a (ai2 ha)).ren hf
theorem apD{h:Aa}{v:AV}{R:List Nat}(hs:Sp 8 v R)(hc:Cl (hf h) R)(hR:R.length<5000):
 ∃v' cs F,Lc 0 v h=some (v',cs)∧zB F (hf cs) (hf h)∧Em 8 F v'=some v∧(∀c∈cs,xG c)∧(∀c∈cs,Rws c∧c.hasImm=false)∧∀i b,F i=some b→(∃st fl w rows,h[b]?=some (.live st fl w rows))→∃st fl w rows,cs[i]?=some (.live st fl w rows):=by
 obtain⟨v',m,e1,g1,k1⟩:=hs []
 have hm:∀b∈m,b∈R:=fun b hb=>(g1.sub b hb).elim (fun h=>by cases h) id
 obtain⟨cs,m',e2,p1,p2,p3,p4,p5,p6⟩:=spC hc 5000 0 m (g1.nd arX) hm (by omega) (Nat.zero_le _)
 obtain⟨_,q2⟩:=uW hc 5000 0 m hm e2
 refine⟨v',cs,fun i=>m'[i]?,by simp[Lc,Hz,Bl.refL,e1,e2,am9],fun i b hi z hz=>?_,k1 _ (fun _ _ h=>Ih p1 h),p5,fun c hc=>?_,fun i b hi hb=>?_⟩
 ·have hlt:=(acY.1 hi).1
  obtain⟨b',z',a1,a2,rows',a3,a4,a5⟩:=p6 (fun i=>m'[i]?) (fun _ _ h=>h) i _ (acI (by omega))
  rw[alV]at a1
  have hbb:b=b':=by have hi':m'[i]?=some b:=hi;rw[hi']at a1;cases a1;rfl
  subst hbb
  rw[hz]at a2;cases a2
  exact⟨rows',by show(cs[i]?).bind Bc=_;rw[acI (by omega)];exact a3,a4,a5⟩
 ·obtain⟨j,hj⟩:=alZ hc
  obtain⟨b',z',a1,a2,rows',a3,a4,a5⟩:=p6 (fun i=>m'[i]?) (fun _ _ h=>h) j _ hj
  obtain⟨_,_,_,_,_,a6⟩:=q2 j _ hj
  exact⟨⟨_,a3⟩,a6⟩
 ·have hlt:=(acY.1 hi).1
  obtain⟨b',c,a1,a2,a3,_⟩:=q2 i _ (acI (show i<cs.length by omega))
  rw[alV]at a1
  have hbb:b=b':=by have hi':m'[i]?=some b:=hi;rw[hi']at a1;cases a1;rfl
  subst hbb
  obtain⟨s1,f1,w1,r1,hc2⟩:=hb
  obtain⟨st,fl,w,rows,e⟩:=a3 ⟨s1,f1,w1,r1,by have h3:h[b]?=some c:=a2;rw[hc2]at h3;cases h3;rfl⟩
  exact⟨st,fl,w,rows,by rw[acI (by omega),e]⟩
theorem ahT{g:HF}{d e:Nat}(h:d≤e){l:List AV}{p:List AV × List Nat}(hr:Kt (rd d g) l=some p):Kt (rd e g) l=some p:=Tu hr fun _ _ _ hq _=>qK h hq
theorem aa4{f:AV→Option (AV × List Nat)}:∀{a b x y:List AV} {R1 R2:List Nat},Kt f a=some (x,R1)→Kt f b=some (y,R2)→Kt f (a++b)=some (x++y,R1++R2)
 | [],b,x,y,R1,R2,h1,h2=>by simp[Kt]at h1;obtain⟨rfl,rfl⟩:=h1;exact h2
 |c::a,b,x,y,R1,R2,h1,h2=>by
  simp only[Kt,aa3,aa0]at h1
  obtain⟨q,hq,⟨r1,r2⟩,hr,he⟩:=h1
  cases he
  have:=aa4 hr h2
  simp[Kt,hq,this]
def wo(g:HF)(p:Nat):HF:=fun b=>if b=p then none else g b
theorem ar9{g:HF}{p:Nat}(R:List Nat):Agr R (wo g p) g:=fun b _ z hz=>by
 unfold wo at hz
 split at hz
 ·cases hz
 ·exact hz
theorem auA{g:HF}{p:Nat}{l:List AV}{q:List AV × List Nat}{d:Nat}(hd:d≤9)(h:Kt (rd d (wo g p)) l=some q):p∉q.2:=fun hp=>by
 obtain⟨z,hz,_⟩:=clL h (fun x _ q hx=>nJ hd hx) p hp
 simp[wo]at hz
def PB(g:HF)(p st:Nat)(X:List AV)(k:Nat):Prop:=∃w row R,g p=some (.live st false w [row])∧Kt (rd 6 (wo g p)) row=some (X,R)∧R.length≤k
theorem PB.of{g:HF}{p st k:Nat}{X:List AV}{w:Bool}{row:List AV}{R:List Nat}(h:g p=some (.live st false w [row]))(hr:Kt (rd 6 g) row=some (X,R))(hp:p∉R)(hk:R.length≤k):PB g p st X k:=
 ⟨w,row,R,h,Qv hr (fun b hb z hz=>by unfold wo;rw[if_neg (fun e=>hp (by rw[←e];exact hb))];exact hz),hk⟩
theorem PB.get{g:HF}{p st k:Nat}{X:List AV}(h:PB g p st X k):∃w row R,g p=some (.live st false w [row])∧Kt (rd 6 g) row=some (X,R)∧p∉R∧R.length≤k:=by
 obtain⟨w,row,R,h1,h2,h3⟩:=h
 exact⟨w,row,R,h1,Qv h2 (ar9 R),auA (by omega) h2,h3⟩
theorem PB.ren{F:Nat→Option Nat}{g' g:HF}(H:zB F g' g){i p st k:Nat}{X:List AV}(hi:F i=some p)(hl:∃st fl w rows,g' i=some (.live st fl w rows))(h:PB g p st X k):PB g' i st X k:=by
 obtain⟨w,row,R,h1,h2,h3⟩:=h
 obtain⟨st',fl,w',rows,hl⟩:=hl
 obtain⟨rows',k1,_,k3⟩:=H i p hi (st,false,[row]) (by rw[h1];rfl)
 rw[hl]at k1
 simp only[aa9,Bc,ae2.injEq,Prod.mk.injEq]at k1
 obtain⟨rfl,rfl,rfl⟩:=k1
 have k3:=k3 rfl
 obtain⟨row',rfl⟩:∃r,rows=[r]:=by
  have:=Ku k3
  match rows,this with
  | [r],_=>exact⟨r,rfl⟩
 simp only[Au,aa3,ae4,ae2.injEq,apM.injEq,and_true,exists_eq_right]at k3
 have H0:zB F (wo g' i) (wo g p):=fun j b hj z hz=>by
  have hbp:b≠p:=fun e=>by subst e;simp[wo]at hz
  have hji:j≠i:=fun e=>by subst e;rw[hi]at hj;cases hj;exact hbp rfl
  simp only[wo,if_neg hbp,if_neg hji]at hz ⊢
  exact H j b hj z hz
 obtain⟨R',a1,a2,_⟩:=gA (f':=rd 6 (wo g' i)) (Z:=fun i=>∃b,F i=some b) k3 h2 (fun x' x q a b=>lH H0 a b)
 exact⟨w',row',R',hl,a1,by rw[a2];exact h3⟩
theorem as2{h:Aa}{p st k:Nat}{X:List AV}{n:Int}{ki:IntKind}{Q:Dk→Aa→Prop}(hp:PB (hf h) p st X k)(hk:k<4000)
 (q:∀i h',PB (hf h') i st X k→(∀c∈h',xG c)→(∀c∈h',Rws c∧c.hasImm=false)→Q (.ret (.tup [.ptr i 0 0,.int ki n])) h'):Rt 0 (some [.ptr p 0 0,.int ki n]) h Q:=by
 obtain⟨w,row,R,h1,h2,h3⟩:=hp.get
 obtain⟨h3,h4⟩:=h3
 have hs:Sp 8 (.tup [.ptr p 0 0,.int ki n]) (p::R):=fun m=>
  ⟨.tup [.ptr (Gk m p).1 0 0,.int ki n],(Gk m p).2,by simp[Bl,Bl.refL],tA m p (acM ..),fun F hF=>by simp[Em,Au,hF _ _ (Hq m p).1]⟩
 have hc:Cl (hf h) (p::R):=fun b hb=>by
  rcases af5.1 hb with rfl|hb
  ·exact⟨_,by rw[h1];rfl,fun _=>⟨6,([X],R++[]),by omega,by simp[Cf,h2],fun x hx=>abO _ (by simpa using hx)⟩⟩
  ·obtain⟨z,k1,k2⟩:=clL h2 (fun x _ q hx=>nJ (by omega) hx) b hb
   exact⟨z,k1,fun e=>by obtain⟨d,q,a1,a2,a3⟩:=k2 e;exact⟨d,q,a1,a2,fun x hx=>abO _ (a3 x hx)⟩⟩
 obtain⟨v',cs,F,e1,e2,e3,e4,e6,e5⟩:=apD hs hc (by simp;omega)
 obtain⟨o1,rfl,ho⟩:=ai8 e3
 have key:∃i,o1=[.ptr i 0 0,.int ki n]∧F i=some p:=by
  have hl:=Ku ho
  match o1,hl with
  | [a,b],_=>
    simp only[Au,aa3,aa0]at ho
    obtain⟨a',ha,r,⟨b',hb,r',hr,rfl⟩,he⟩:=ho
    simp only[apM.injEq]at he
    obtain⟨rfl,rfl,_⟩:=he
    have hb1:b=.int ki n:=by
     cases b with
     |func fn a b=>simp only[Em,aa3,aa0]at hb;obtain⟨_,_,_,_,hb⟩:=hb;cases hb
     |_=>simp[Em]at hb<;>first|(obtain⟨rfl,rfl⟩:=hb;rfl)|skip
    have ha1:∃i,a=.ptr i 0 0∧F i=some p:=by
     cases a with
     |func fn a b=>simp only[Em,aa3,aa0]at ha;obtain⟨_,_,_,_,ha⟩:=ha;cases ha
     |ptr b r o=>simp only[Em,aa0]at ha;obtain⟨b',hb,he⟩:=ha;cases he;exact⟨b,rfl,hb⟩
     |_=>simp[Em]at ha
    obtain⟨i,rfl,hi⟩:=ha1
    exact⟨i,by rw[hb1],hi⟩
 obtain⟨i,rfl,hi⟩:=key
 refine⟨_,_,by simp[afF,Om,e1],q i cs (PB.ren e2 hi (e5 i p hi ⟨_,_,_,_,h1⟩) hp) e4 e6⟩
theorem au0{O:Ea}{f:Nat}{args:List AV}{h':Aa}{i st k:Nat}{X:List AV}{n:Int}{ki:IntKind}(H:Aa)(hh:pkd O f args)(hp:args.all (Az 8)=true)
 (hc:O.call (.fn f) args []=some (.ret (.tup [.ptr i 0 0,.int ki n]),h')) (h2:∀c∈h',xG c) (h3:∀c∈h',Rws c∧c.hasImm=false) (hP:PB (hf h') i st X k):
 ∃j es l,cl O H (some (.func (.func f) [] [])) (some args)=some (.ret (.tup [.ptr j 0 0,.int ki n]),es)∧Bo H es=H++l∧H.length≤j∧(∀c∈l,Rws c)∧PB (hf (H++l)) j st X k:=by
 have hp':=hp
 simp only[afR]at hp'
 have hl:args.flatMap (Bd 12 (hf H))=[]:=by
  simp only[List.flatMap_eq_nil_iff]
  exact fun x hx=>Jt _ (by omega) (hp' x hx)
 obtain⟨v1,es,cs1,e1,e2,e3,e4,_⟩:=ahG hh (Jy fun x hx=>Hg (hf H) (show 8≤12 by omega) (hp' x hx)) hp hc (fun f=>⟨.tup [.ptr (f i) 0 0,.int ki n],by simp[Br,Au]⟩) h2 hl
 have hv:v1=.tup [.ptr (H.length+i) 0 0,.int ki n]:=by simp[Br,Au]at e4;exact e4.symm
 subst hv
 obtain⟨w,row,R,k1,_⟩:=id hP
 obtain⟨c1,g1,g2⟩:=Jw e3 (show h'[i]?=some _ from k1)
 refine⟨_,es,cs1,e1,e2,Nat.le_add_right ..,Rws.renL (fun c hc=>(h3 c hc).1) e3,PB.ren (aaV e3) (ah3 H.length i) ?_ hP⟩
 obtain⟨st,fl,w,rows,e⟩:=sR g2 ⟨_,_,_,_,rfl⟩
 exact⟨st,fl,w,rows,by show(H++cs1)[H.length+i]?=_;rw[ajM (by omega)];simp[g1,e]⟩
theorem aoL{O:Ea}{H:Aa}{f:Nat}{args:List AV}{o:Dk}{l:Aa}(hd:fM args=true)(hm:O.md f=true)(hc:O.call (.sh f) args (Df H)=some (o,Df H++l))(hq:Am H=true):
 cl O H (some (.func (.func f) [] [])) (some args)=some (o,Ic H.length l):=by
 rw[sE]
 simp only[agA,agB,hd,if_true,shC,hm,apR,hc]
 rw[jD,aaT hq]
 simp
theorem al6{O:Ea}{H:Aa}{f:Nat}{args:List AV}{o:Dk}(hd:fM args=true)(hm:O.md f=true)(hc:O.call (.sh f) args (Df H)=some (o,Df H))(hq:Am H=true):
 cl O H (some (.func (.func f) [] [])) (some args)=some (o,[]):=by
 have:=aoL (l:=[]) hd hm (by simpa using hc) hq
 simpa [Ic]using this
theorem Uj{H:Aa}(h:∀c∈H,c.quiet c.clean=true):Am H=true:=by simp only[Am,afR];exact h
theorem Iq{H:Aa}(h:Am H=true){b:Nat}{c:CB}(hb:H[b]?=some c):c.quiet c.clean=true:=by
 simp only[Am,afR]at h
 exact h c (ai2 hb)
theorem Ax{H l:Aa}(h:Am H=true)(hl:Am l=true):Am (H++l)=true:=by
 simp only[Am,afR,ae7]at h hl ⊢
 exact fun c hc=>hc.elim (h c) (hl c)
theorem Bj{H:Aa}(h:Am H=true)(b:Nat){c:CB}(hc:c.quiet c.clean=true):Am (H.set b c)=true:=by
 simp only[Am,afR]at h ⊢
 exact fun x hx=>(List.mem_or_eq_of_mem_set hx).elim (h x) (fun e=>e▸hc)
theorem tZ{c:CB}(h:c.quiet c.clean=true):c.clean.quiet c.clean.clean=true:=by cases c<;>first|rfl|exact h
theorem abU{H:Aa}(h:Am H=true):Am (Df H)=true:=by
 simp only[Am,Df,afR,aj8]at h ⊢
 rintro c ⟨c0,h0,rfl⟩
 exact tZ (h c0 h0)
theorem xM{c:CB}(h:c.quiet c.clean=true):c.mark.quiet c.mark.clean=true:=by cases c<;>first|rfl|exact h
theorem Wp{H0 G:Aa}{X:List Nat}(hq:Am H0=true)(K:Io X (Df H0) G)(hX:∀b∈X,b<H0.length∧∀c0 c,H0[b]?=some c0→G[b]?=some c→c0.isLive=true∧c0.quiet c=false):
 adK H0 G∧(Ze H0 G).length=G.length∧(∀b,H0.length≤b→(Ze H0 G)[b]?=G[b]?)∧(∀b,b<H0.length→b∉X→(Ze H0 G)[b]?=H0[b]?)∧(∀b∈X,∀c,G[b]?=some c→(Ze H0 G)[b]?=some c.mark):=by
 have hlen:H0.length≤G.length:=by have:=K.len;rwa[Bg]at this
 have old:∀b c0,H0[b]?=some c0→b∉X→G[b]?=some c0.clean:=fun b c0 h0 hb=>by
  rw[K.same b (by rw[Bg];exact(acY.1 h0).1) hb,Fh h0]
 refine⟨⟨hlen,fun b c0 c h0 h1=>?_⟩,gR hlen,fun b hb=>rK hlen hb,fun b hb hn=>?_,fun b hb c hc=>?_⟩
 ·by_cases hb:b∈X
  ·exact .inr ((hX b hb).2 c0 c h0 h1).1
  ·rw[old b c0 h0 hb]at h1;cases h1
   exact .inl (Iq hq h0)
 ·obtain⟨c0,h0⟩:∃c,H0[b]?=some c:=⟨_,acI hb⟩
  rw[h0];exact aP h0 (old b c0 h0 hn) (Iq hq h0)
 ·obtain⟨h1,h2⟩:=hX b hb
  obtain⟨c0,h0⟩:∃c,H0[b]?=some c:=⟨_,acI h1⟩
  exact gU h0 hc (h2 c0 c h0 hc).2
theorem adR{H0 G:Aa}{X:List Nat}(hq:Am H0=true)(K:Io X (Df H0) G)(hX:∀b∈X,b<H0.length∧∀c0 c,H0[b]?=some c0→G[b]?=some c→c0.isLive=true∧c0.quiet c=false)(hg:Am G=true):Am (Ze H0 G)=true:=by
 obtain⟨_,k1,k2,k3,k4⟩:=Wp hq K hX
 refine Uj fun c hc=>?_
 obtain⟨b,hb⟩:=alZ hc
 by_cases h1:b<H0.length
 ·by_cases h2:b∈X
  ·obtain⟨c1,h3⟩:∃c,G[b]?=some c:=⟨_,acI (by rw[←k1];exact(acY.1 hb).1)⟩
   rw[k4 b h2 c1 h3]at hb;cases hb
   exact xM (Iq hg h3)
  ·rw[k3 b h1 h2]at hb;exact Iq hq hb
 ·rw[k2 b (by omega)]at hb;exact Iq hg hb
theorem adC{H0 G:Aa}{X:List Nat}(hq:Am H0=true)(K:Io X (Df H0) G)(hX:∀b∈X,b<H0.length∧∀c0 c,H0[b]?=some c0→G[b]?=some c→c0.isLive=true∧c0.quiet c=false)(b:Nat):(hf (Ze H0 G) b).bind Bc=(hf G b).bind Bc:=by
 obtain⟨_,k1,k2,k3,k4⟩:=Wp hq K hX
 show((Ze H0 G)[b]?).bind Bc=(G[b]?).bind Bc
 by_cases h1:b<H0.length
 ·by_cases h2:b∈X
  ·cases h3:G[b]? with
   |none=>rw[arW]at h3;have h4:=K.len;rw[Bg]at h4;omega
   |some c1=>rw[k4 b h2 c1 h3];exact afD c1
  ·rw[k3 b h1 h2,K.same b (by rw[Bg];exact h1) h2]
   cases h3:H0[b]? with
   |none=>simp[Df,h3]
   |some c=>rw[Fh h3];exact(Ni c).symm
 ·rw[k2 b (by omega)]
end
theorem Ap{h:Aa}{b:Nat}{c:CB}(e:h[b]?=some c):b<h.length:=(acY.1 e).1
structure mC(st lo:Nat)(ov:AV)(h:Aa)(rows Q:List (List AV))(Ro:List Nat):Prop where
 own:Sj 0 st false rows ov h
 nil:rows=[]→ov=.nils
 q:Cf (rd 5 (hf h)) rows=some (Q,Ro)
 dx:∀b∈Ro,lo≤b
 dov:∀a b r n,ov=.slr a b r n→lo≤b∧b∉Ro∧b<h.length
theorem mC.none{st lo:Nat}{h:Aa}:mC st lo .nils h [] [] []:=⟨.inl ⟨rfl,rfl⟩,fun _=>rfl,rfl,by simp,fun _ _ _ _ e=>by cases e⟩
theorem mC.keep{st lo:Nat}{ov:AV}{h h':Aa}{rows Q:List (List AV)}{Ro:List Nat}(I:mC st lo ov h rows Q Ro)(hl:h.length≤h'.length)(k:∀b,lo≤b→b<h.length→h'[b]?=h[b]?):mC st lo ov h' rows Q Ro:=by
 refine⟨?_,I.nil,?_,I.dx,fun a b r n e=>?_⟩
 ·rcases I.own with h1|⟨b,w,h1,h2⟩
  ·exact .inl h1
  ·exact .inr ⟨b,w,h1,by rw[k b (by have:=(I.dov _ _ _ _ h1).1;simpa using this) (Ap h2)];exact h2⟩
 ·refine Hu I.q fun j hj z hz=>?_
  show(h'[j]?).bind Bc=_
  rw[k j (I.dx j hj) (cR (by omega) I.q j hj)];exact hz
 ·obtain⟨a1,b1,c⟩:=I.dov a b r n e
  exact⟨a1,b1,by omega⟩
theorem amX(b:Nat):AV.isCell (.mapr b)=true:=aaK rfl rfl
theorem amA(b:Nat):AV.flat (.mapr b)=false:=aaK rfl rfl
theorem apY(b:Nat):Ah (.mapr b)=[.mapr b]:=aaK rfl rfl
def Jh:=PLift.up (aaA @amX (aaA @amA @apY))
noncomputable section
def Dc(kvs:List AV):CB:=.lp [] .skip .skip kvs .map
def Np{α:Type}(key v:α→AV)(L:List α):List AV:=L.flatMap fun s=>[key s,v s]
theorem aa7{α:Type}{key:α→AV}(v:α→AV):∀(L:List α) (n:Nat),(Np key v L)[2*n]?=L[n]?.map key
 | [],n=>rfl
 |a::L,0=>rfl
 |a::L,n+1=>by
  show(key a::v a::Np key v L)[2*(n+1)]?=_
  rw[show 2*(n+1)=2*n+2 by omega]
  simp only[List.getElem?_cons_succ,aa7 v L n]
theorem gV{h:Aa}{b:Nat}{kvs:List AV}(hb:h[b]?=some (Dc kvs)):Wu (hf h) b=some kvs:=by
 unfold Wu
 rw[show hf h b=some (Dc kvs)from hb];rfl
structure fR{α:Type}[DecidableEq α](P:Program)(kt:TypeId)(key:α→AV)(D:α→Prop):Prop where
 ok:∀a,D a→qU P kt (key a)=true
 eq:∀a b,D a→D b→Vs P 12 kt (key a) (key b)=some (decide (a=b))
 same:∀a,D a→AV.sameKey (key a) (key a)=true
section
variable {α:Type} [DecidableEq α] {P:Program} {kt:TypeId} {key:α→AV} {D:α→Prop}
theorem fR.find(K:fR P kt key D){s:α}(hs:D s)(v:α→AV):∀(L:List α) (i:Nat),(∀x∈L,D x)→Xi P kt (key s) (Np key v L) i=some (if s∈L then some (i+L.idxOf s,v s)else none)
 | [],i,_=>rfl
 |a::L,i,h=>by
  have ha:=h a (by simp)
  have ih:=K.find hs v L (i+1) fun x hx=>h x (abO _ hx)
  show Xi _ _ _ (key a::v a::Np key v L) i=_
  simp only[Xi,K.eq s a hs ha,aa9,ih]
  by_cases e:s=a
  ·subst e;simp
  ·have e2:(a==s)=false:=by simp;exact fun h=>e h.symm
   simp only[decide_eq_true_eq,e,if_false,af5,false_or,asS,e2,cond_false,ae2.injEq]
   split
   ·rw[show i+1+al0 s L=i+(al0 s L+1) by omega]
   ·rfl
theorem aaL{v:α→AV}{x:AV}{s:α}:∀{L:List α},L.Nodup→s∈L→(Np key v L).set (2*L.idxOf s+1) x=Np key (fun y=>if y=s then x else v y) L
 | [],_,h=>by cases h
 |a::L,hn,h=>by
  have hn':=List.nodup_cons.1 hn
  show(key a::v a::Np key v L).set (2*(a::L).idxOf s+1) x=key a::(if a=s then x else v a)::Np key (fun y=>if y=s then x else v y) L
  have same:s∉L→(Np key (fun y=>if y=s then x else v y) L)=Np key v L:=fun hs=>by
   unfold Np
   rw[al1,al1]
   congr 1
   refine aqB fun y hy=>?_
   simp only[if_neg (show ¬y=s from fun e=>hs (e▸hy))]
  by_cases e:a=s
  ·subst e
   simp[same hn'.1]
  ·have e2:(a==s)=false:=by simpa using e
   rcases af5.1 h with h|h
   ·exact absurd h.symm e
   ·simp only[asS,e2,cond_false,if_neg e]
    rw[show 2*(al0 s L+1)+1=(2*al0 s L+1)+2 by omega]
    simp only[List.set_cons_succ,aaL hn'.2 h]
theorem ap2{v:α→AV}{L:List α}{s:α}(hs:s∉L)(x:AV):Np key v L++[key s,x]=Np key (fun y=>if y=s then x else v y) (L++[s]):=by
 unfold Np
 rw[List.flatMap_append]
 congr 1
 ·rw[al1,al1]
  congr 1
  refine aqB fun y hy=>?_
  simp only[if_neg (show ¬y=s from fun e=>hs (e▸hy))]
 ·simp
variable {h:Aa} {b:Nat} {L:List α} {v:α→AV} {s:α} {ty vt:TypeId} {z:AV}
theorem fR.lk_yes(K:fR P kt key D)(hu:P.underlying ty=some (.map kt vt))(hz:Fp P vt=some z)(hb:h[b]?=some (Dc (Np key v L)))(hL:∀x∈L,D x)(hs:s∈L)(ok:Bool):
 lk P h ty (some (.mapr b)) (some (key s)) ok=some (.ret (bif ok then .tup [v s,.bool true]else v s),[]):=by
 simp only[lk,aa9,Ix,hu,K.ok s (hL s hs),if_true,gV hb,K.find (hL s hs) v L 0 hL,if_pos hs,hz]
 cases ok<;>rfl
theorem fR.lk_no(K:fR P kt key D)(hu:P.underlying ty=some (.map kt vt))(hz:Fp P vt=some z)(hb:h[b]?=some (Dc (Np key v L)))(hL:∀x∈L,D x)(hd:D s)(hs:s∉L)(ok:Bool):
 lk P h ty (some (.mapr b)) (some (key s)) ok=some (.ret (bif ok then .tup [z,.bool false]else z),[]):=by
 simp only[lk,aa9,Ix,hu,K.ok s hd,if_true,gV hb,K.find hd v L 0 hL,if_neg hs,hz]
 cases ok<;>rfl
theorem fR.ms_old(K:fR P kt key D)(hu:P.underlying ty=some (.map kt vt))(hb:h[b]?=some (Dc (Np key v L)))(hL:∀x∈L,D x)(hn:L.Nodup)(hs:s∈L)(x:AV):
 ms P h ty (some (.mapr b)) (some (key s)) (some x)=some (.ret (.tup []),[.put b (Dc (Np key (fun y=>if y=s then x else v y) L))]):=by
 have hi:L[L.idxOf s]?=some s:=by
  rw[acI (List.idxOf_lt_length_of_mem hs)];simp
 simp only[ms,aa9,Ia,hu,K.ok s (hL s hs),if_true,gV hb,K.find (hL s hs) v L 0 hL,if_pos hs,alV,aa7,hi,ae4,Option.getD_some,K.same s (hL s hs),aaL hn hs]
 rfl
theorem fR.ms_new(K:fR P kt key D)(hu:P.underlying ty=some (.map kt vt))(hb:h[b]?=some (Dc (Np key v L)))(hL:∀x∈L,D x)(hd:D s)(hs:s∉L)(x:AV):
 ms P h ty (some (.mapr b)) (some (key s)) (some x)=some (.ret (.tup []),[.put b (Dc (Np key (fun y=>if y=s then x else v y) (L++[s])))]):=by
 rw[←ap2 hs]
 simp only[ms,aa9,Ia,hu,K.ok s hd,if_true,gV hb,K.find hd v L 0 hL,if_neg hs]
 rfl
end
end
noncomputable section
theorem nC(c:CB):c.clean.clean=c.clean:=by cases c<;>rfl
theorem ai0(c:CB):c.clean.isLive=c.isLive:=by cases c<;>rfl
def Hv(H G:Aa):Prop:=H.length≤G.length∧∀(b:Nat) (c0 c:CB),H[b]?=some c0→G[b]?=some c→c=c0∨(c0.isLive=true∧((∃st fl rows,c=.live st fl true rows)∨c=.dead))∨∃k0 k1,c0=Dc k0∧c=Dc k1
theorem Hv.refl(H:Aa):Hv H H:=⟨ap6 _,fun b c0 c h0 h1=>.inl (by rw[h0]at h1;cases h1;rfl)⟩
theorem Hv.app{H G:Aa}(k:Hv H G)(l:Aa):Hv H (G++l):=⟨by have:=k.1;simp;omega,fun b c0 c h0 h1=>by
 rw[af6 (alY (Ap h0) k.1)]at h1
 exact k.2 b c0 c h0 h1⟩
theorem Hv.lv{H G:Aa}(k:Hv H G){b:Nat}{c0 c:CB}(h0:H[b]?=some c0)(g:G[b]?=some c)(hl:c.isLive=true):c0.isLive=true:=by
 rcases k.2 b c0 c h0 g with rfl|⟨h,_⟩|⟨_,_,rfl,_⟩
 ·exact hl
 ·exact h
 ·rfl
theorem Hv.upd{H G:Aa}(k:Hv H G){b:Nat}{c d:CB}(g:G[b]?=some c)(hl:c.isLive=true)(hd:(∃st fl rows,d=.live st fl true rows)∨d=.dead):Hv H (G.set b d):=⟨by simpa using k.1,fun i c0 c' h0 h1=>by
 by_cases e:b=i
 ·subst e
  rw[alX (Ap g)]at h1;cases h1
  exact .inr (.inl ⟨k.lv h0 g hl,hd⟩)
 ·rw[adV e]at h1
  exact k.2 i c0 c' h0 h1⟩
theorem Hv.put{H G:Aa}(k:Hv H G){b st0:Nat}{fl0 w0:Bool}{rows0:List (List AV)}(g:G[b]?=some (.live st0 fl0 w0 rows0))(st:Nat)(fl:Bool)(rows:List (List AV)):Hv H (G.set b (.live st fl true rows)):=k.upd g rfl (.inl ⟨_,_,_,rfl⟩)
theorem Hv.kill{H G:Aa}(k:Hv H G){b st0:Nat}{fl0 w0:Bool}{rows0:List (List AV)}(g:G[b]?=some (.live st0 fl0 w0 rows0)):Hv H (G.set b .dead):=k.upd g rfl (.inr rfl)
theorem Hv.map{H G:Aa}(k:Hv H G){b:Nat}{k0:List AV}(g:G[b]?=some (Dc k0))(k1:List AV):Hv H (G.set b (Dc k1)):=⟨by simpa using k.1,fun i c0 c' h0 h1=>by
 by_cases e:b=i
 ·subst e
  rw[alX (Ap g)]at h1;cases h1
  rcases k.2 b c0 _ h0 g with h|⟨_,⟨_,_,_,h⟩|h⟩|⟨_,_,h,_⟩
  ·exact .inr (.inr ⟨_,_,h.symm,rfl⟩)
  ·cases h
  ·cases h
  ·exact .inr (.inr ⟨_,_,h,rfl⟩)
 ·rw[adV e]at h1
  exact k.2 i c0 c' h0 h1⟩
theorem Hv.trans{H G M:Aa}(k:Hv H G)(k':Hv G M):Hv H M:=⟨Nat.le_trans k.1 k'.1,fun b c0 c2 h0 h2=>by
 have h1:G[b]?=some (G[b]'(alY (Ap h0) k.1)):=acI _
 generalize G[b]'(alY (Ap h0) k.1)=c1 at h1
 rcases k'.2 b c1 c2 h1 h2 with rfl|⟨h,h'⟩|⟨k0,k1,rfl,rfl⟩
 ·exact k.2 b c0 _ h0 h1
 ·exact .inr (.inl ⟨k.lv h0 h1 h,h'⟩)
 ·rcases k.2 b c0 _ h0 h1 with h|⟨_,⟨_,_,_,h⟩|h⟩|⟨_,_,h,_⟩
  ·exact .inr (.inr ⟨_,_,h.symm,rfl⟩)
  ·cases h
  ·cases h
  ·exact .inr (.inr ⟨_,_,h,rfl⟩)⟩
theorem vJ{c d:CB}(h:c.clean=d.clean):c.quiet c.clean=d.quiet d.clean:=by
 cases c<;>cases d<;>first|(simp[CB.clean]at h;done)|(simp only[CB.clean]at h;cases h;rfl)|rfl
theorem qX{h h':Aa}(e:Df h=Df h'){b:Nat}{c:CB}(g:h[b]?=some c):∃c',h'[b]?=some c'∧c'.clean=c.clean:=by
 have h1:(Df h')[b]?=some c.clean:=by rw[←e];exact Fh g
 unfold Df at h1
 rw[aiO]at h1
 obtain⟨c',h2,h3⟩:=aa0.1 h1
 exact⟨c',h2,h3⟩
theorem jO{h h':Aa}(e:Df h=Df h'):h.length=h'.length:=by
 have:=congrArg List.length e
 rwa[Bg,Bg]at this
theorem dW{h h':Aa}(e:Df h=Df h')(hq:Am h=true):Am h'=true:=by
 refine Uj fun c hc=>?_
 obtain⟨b,hb⟩:=alZ hc
 obtain⟨c',h1,h2⟩:=qX e.symm hb
 rw[←vJ h2];exact Iq hq h1
theorem Ed(h:Aa):Df (Df h)=Df h:=by
 unfold Df
 rw[List.map_map]
 exact aqB fun c _=>nC c
theorem Fq{h h':Aa}(e:Df h=Df h'){b st:Nat}{fl:Bool}{rows:List (List AV)}(g:∃x,h[b]?=some (.live st fl x rows)):∃x,h'[b]?=some (.live st fl x rows):=by
 obtain⟨x,g⟩:=g
 obtain⟨c',h1,h2⟩:=qX e g
 cases c'<;>simp[CB.clean]at h2
 obtain⟨rfl,rfl,rfl⟩:=h2
 exact⟨_,h1⟩
theorem bN{h h':Aa}(e:Df h=Df h'){b:Nat}{c:CB}(g:h[b]?=some c)(hc:∀d:CB,d.clean=c.clean→d=c):h'[b]?=some c:=by
 obtain⟨c',h1,h2⟩:=qX e g
 rw[h1,hc c' h2]
theorem zX{h h':Aa}(e:Df h=Df h'){b:Nat}{kvs:List AV}(g:h[b]?=some (Dc kvs)):h'[b]?=some (Dc kvs):=bN e g fun d hd=>by
 cases d<;>simp_all[CB.clean,Dc]
theorem qB{H G:Aa}(hq:Am H=true)(k:Hv (Df H) G)(hg:Am G=true):adK H G∧Hv H (Ze H G)∧Df (Ze H G)=Df G∧Am (Ze H G)=true:=by
 have hl:H.length≤G.length:=by have:=k.1;rwa[Bg]at this
 have one:∀(b:Nat) (c0 c:CB),H[b]?=some c0→G[b]?=some c→(c0.quiet c=true∨c0.isLive=true)∧∃d,(Ze H G)[b]?=some d∧d.clean=c.clean∧(d=c0∨(c0.isLive=true∧((∃st fl rows,d=.live st fl true rows)∨d=.dead))∨∃k0 k1,c0=Dc k0∧d=Dc k1):=fun b c0 c h0 h1=>by
  rcases k.2 b _ _ (Fh h0) h1 with rfl|⟨h,h'⟩|⟨k0,k1,e0,rfl⟩
  ·have:=Iq hq h0
   exact⟨.inl this,c0,aP h0 h1 this,(nC c0).symm,.inl rfl⟩
  ·rw[ai0]at h
   refine⟨.inr h,c,?_,rfl,.inr (.inl ⟨h,h'⟩)⟩
   have hqf:c0.quiet c=false:=by
    rcases h' with⟨_,_,_,rfl⟩|rfl<;>cases c0<;>first|rfl|(simp[CB.isLive]at h;done)|(simp[CB.quiet,CB.same];done)
   rw[gU h0 h1 hqf]
   rcases h' with⟨_,_,_,rfl⟩|rfl<;>rfl
  ·have e1:c0=Dc k0:=by cases c0<;>simp_all[CB.clean,Dc]
   subst e1
   refine⟨.inr rfl,Dc k1,?_,rfl,.inr (.inr ⟨_,_,rfl,rfl⟩)⟩
   cases hs:(Dc k0).quiet (Dc k1)with
   |true=>
    have:k0=k1:=(Ws hs).1
    subst this
    exact aP h0 h1 hs
   |false=>rw[gU h0 h1 hs];rfl
 have hcl:Df (Ze H G)=Df G:=by
  apply List.ext_getElem?
  intro b
  by_cases hb:b<G.length
  ·have h1:G[b]?=some G[b]:=acI hb
   rw[Fh h1]
   by_cases hb2:b<H.length
   ·have h0:H[b]?=some H[b]:=acI hb2
    obtain⟨_,d,e1,e2,_⟩:=one b _ _ h0 h1
    rw[Fh e1,e2]
   ·rw[Fh ((rK hl (by omega)).trans h1)]
  ·rw[auX (by rw[Bg,gR hl];omega),auX (by rw[Bg];omega)]
 refine⟨⟨hl,fun b c0 c h0 h1=>(one b c0 c h0 h1).1⟩,⟨by rw[gR hl];exact hl,fun b c0 d h0 hd=>?_⟩,hcl,dW hcl.symm hg⟩
 have hb:=Ap h0
 have h1:G[b]?=some (G[b]'(by omega)):=acI _
 obtain⟨_,d',e1,_,e3⟩:=one b _ _ h0 h1
 rw[e1]at hd;cases hd
 exact e3
theorem asL{O:Ea}{H:Aa}{f:Nat}{vs cap:List AV}{Q:Dk→Aa→Prop}(hq:Am H=true)(hd:fM (vs++cap)=true)(hm:O.md f=true)(K:kZ O f (vs++cap) (Df H) fun o G=>Q o G∧Hv (Df H) G∧Am G=true):
 ∃o G es M,cl O H (some (.func (.func f) [] cap)) (some vs)=some (o,es)∧Bo H es=M∧Q o G∧Df M=Df G∧Hv H M∧Am M=true:=by
 obtain⟨o,G,hc,hQ,hw,hg⟩:=K
 obtain⟨m1,m2,m3,m4⟩:=qB hq hw hg
 obtain⟨es,e1,e2⟩:=Yb H G [] m1
 refine⟨o,G,es,Ze H G,?_,by simpa using e2,hQ,m3,m2,m4⟩
 rw[sE]
 simp only[agA,hd,if_true,shC,hm,apR,hc]
 rw[jD]
 have e1':Dy 0 H G=some es:=e1
 rw[e1'];rfl
theorem zY{H G:Aa}{o:Dk}(hq:Am H=true)(hw:Hv (Df H) G)(hg:Am G=true):∃es M,yK H (some (o,G))=some (o,es)∧Bo H es=M∧Df M=Df G∧Hv H M∧Am M=true:=by
 obtain⟨m1,m2,m3,m4⟩:=qB hq hw hg
 obtain⟨es,e1,e2⟩:=Yb H G [] m1
 refine⟨es,Ze H G,?_,by simpa using e2,m3,m2,m4⟩
 rw[jD]
 have e1':Dy 0 H G=some es:=e1
 rw[e1'];rfl
theorem mC.cl{st lo:Nat}{ov:AV}{h h':Aa}{rows Q:List (List AV)}{Ro:List Nat}(I:mC st lo ov h rows Q Ro)(e:Df h=Df h'):mC st lo ov h' rows Q Ro:=by
 refine⟨?_,I.nil,Hu I.q fun j hj z hz=>?_,I.dx,fun a b r n h=>?_⟩
 ·rcases I.own with h1|⟨b,w,h1,h2⟩
  ·exact .inl h1
  ·obtain⟨x,h3⟩:=Fq e ⟨w,h2⟩
   exact .inr ⟨b,x,h1,h3⟩
 ·show(h'[j]?).bind Bc=_
  cases hc:h[j]? with
  |none=>
   have hz':(h[j]?).bind Bc=some z:=hz
   rw[hc]at hz';cases hz'
  |some c=>
   obtain⟨c',k1,k2⟩:=qX e hc
   have hz':(h[j]?).bind Bc=some z:=hz
   rw[hc]at hz'
   rw[k1]
   show Bc c'=_
   rw[←Ni c',k2,Ni];exact hz'
 ·obtain⟨a1,a2,a3⟩:=I.dov a b r n h
  exact⟨a1,a2,by rw[←jO e];exact a3⟩
theorem mC.step{st lo:Nat}{ov:AV}{h G:Aa}{rows Q:List (List AV)}{Ro:List Nat}(I:mC st lo ov h rows Q Ro){m n:Nat}{w:Bool}{r X:List AV}{R':List Nat}(hG:G[m]?=some (.live st false w (rows++[r])))
 (kR:∀j∈Ro,∀z,(h[j]?).bind Bc=some z→(G[j]?).bind Bc=some z) (hr:Kt (rd 5 (hf G)) r=some (X,R')) (hR':∀b∈R',lo≤b∧b≠m) (hm:lo≤m) (hmR:m∉Ro) (hn:n=rows.length+1):
 mC st lo (.slr st m 0 n) G (rows++[r]) (Q++[X]) (Ro++R'):=by
 subst hn
 refine⟨.inr ⟨m,w,by simp,hG⟩,fun e=>by simp at e,Rk (Hu I.q fun j hj z hz=>kR j hj z hz) hr,fun b hb=>?_,fun a b r n e=>?_⟩
 ·rcases ae7.1 hb with hb|hb
  ·exact I.dx b hb
  ·exact(hR' b hb).1
 ·cases e
  refine⟨hm,fun hb=>?_,Ap hG⟩
  rcases ae7.1 hb with hb|hb
  ·exact hmR hb
  ·exact(hR' _ hb).2 rfl
def Dm(H G:Aa)(b:Nat):Prop:=(Df G)[b]?=(Df H)[b]?
theorem Dm.refl(H:Aa)(b:Nat):Dm H H b:=Eq.refl _
theorem Dm.trans{H G M:Aa}{b:Nat}(h:Dm H G b)(h':Dm G M b):Dm H M b:=aaK h' h
theorem Dm.of{H G:Aa}{b:Nat}(h:G[b]?=H[b]?):Dm H G b:=by
 unfold Dm Df;rw[aiO,aiO,h]
theorem Dm.app{H G:Aa}{b:Nat}(h:Dm H G b)(hb:b<G.length)(l:Aa):Dm H (G++l) b:=h.trans (Dm.of (af6 hb))
theorem Dm.eqR{H G M:Aa}{b:Nat}(h:Dm H G b)(e:Df G=Df M):Dm H M b:=by unfold Dm at *;rw[←e,h]
theorem Dm.eqL{H H' G:Aa}{b:Nat}(h:Dm H G b)(e:Df H=Df H'):Dm H' G b:=by unfold Dm at *;rw[h,e]
theorem Dm.set{H G:Aa}{b i:Nat}(h:Dm H G b)(hn:i≠b)(c:CB):Dm H (G.set i c) b:=h.trans (Dm.of (adV hn))
theorem Dm.at_{H G:Aa}{b:Nat}{c:CB}(h:Dm H G b)(g:H[b]?=some c):∃c',G[b]?=some c'∧c'.clean=c.clean:=by
 have h1:(Df G)[b]?=some c.clean:=aaK h (Fh g)
 unfold Df at h1
 rw[aiO]at h1
 exact aa0.1 h1
theorem Dm.live{H G:Aa}{b st:Nat}{fl:Bool}{rows:List (List AV)}(h:Dm H G b)(g:∃x,H[b]?=some (.live st fl x rows)):∃x,G[b]?=some (.live st fl x rows):=by
 obtain⟨x,g⟩:=g
 obtain⟨c',h1,h2⟩:=h.at_ g
 cases c'<;>simp[CB.clean]at h2
 obtain⟨rfl,rfl,rfl⟩:=h2
 exact⟨_,h1⟩
theorem Dm.keep{H G:Aa}{b:Nat}{c:CB}(h:Dm H G b)(g:H[b]?=some c)(hc:∀d:CB,d.clean=c.clean→d=c):G[b]?=some c:=by
 obtain⟨c',h1,h2⟩:=h.at_ g
 rw[h1,hc c' h2]
theorem Dm.rows{H G:Aa}{b:Nat}{z:Nat × Bool × List (List AV)}(h:Dm H G b)(g:(H[b]?).bind Bc=some z):(G[b]?).bind Bc=some z:=by
 cases hc:H[b]? with
 |none=>rw[hc]at g;cases g
 |some c=>
  rw[hc]at g
  obtain⟨c',h1,h2⟩:=h.at_ hc
  rw[h1]
  show Bc c'=_
  rw[←Ni c',h2,Ni];exact g
theorem aoQ{kvs:List AV}(d:CB)(hd:d.clean=(Dc kvs).clean):d=Dc kvs:=by
 cases d<;>simp_all[CB.clean,Dc]
theorem Dm.map{H G:Aa}{b:Nat}{kvs:List AV}(h:Dm H G b)(g:H[b]?=some (Dc kvs)):G[b]?=some (Dc kvs):=h.keep g aoQ
theorem mC.sm{st lo:Nat}{ov:AV}{h h':Aa}{rows Q:List (List AV)}{Ro:List Nat}(I:mC st lo ov h rows Q Ro)(hl:h.length≤h'.length)(k:∀b,lo≤b→b<h.length→Dm h h' b):mC st lo ov h' rows Q Ro:=
 ((I.cl (Ed h).symm).keep (h':=Df h') (by rw[Bg,Bg];exact hl) fun b h1 h2=>k b h1 (by rwa[Bg]at h2)).cl (Ed h')
theorem mC.put{st lo:Nat}{ov:AV}{h:Aa}{rows Q:List (List AV)}{Ro:List Nat}(I:mC st lo ov h rows Q Ro){B:Nat}{d:CB}(g:h[B]?=some d)(hn:Bc d=Option.none)(c:CB):mC st lo ov (h.set B c) rows Q Ro:=by
 refine⟨?_,I.nil,Hu I.q fun j hj z hz=>?_,I.dx,fun a b r n e=>?_⟩
 ·rcases I.own with h1|⟨b,w,h1,h2⟩
  ·exact .inl h1
  ·refine .inr ⟨b,w,h1,?_⟩
   rw[adV (fun e=>by rw[←e,g]at h2;cases h2;cases hn)];exact h2
 ·show((h.set B c)[j]?).bind Bc=_
  have hz':(h[j]?).bind Bc=some z:=hz
  rw[adV (fun e=>by rw[←e,g]at hz';simp[hn]at hz')];exact hz'
 ·obtain⟨a1,a2,a3⟩:=I.dov a b r n e
  exact⟨a1,a2,by simpa using a3⟩
theorem Ej{h:Aa}(hq:Am h=true):Am (Df h)=true:=dW (Ed h).symm hq
theorem Hv.hi{H G:Aa}(k:Hv H G){b:Nat}(hb:H.length≤b)(c:CB):Hv H (G.set b c):=⟨by simpa using k.1,fun i c0 c1 h0 h1=>by
 rw[adV (by have:=Ap h0;omega)]at h1
 exact k.2 i c0 c1 h0 h1⟩
theorem Hv.back{H M:Aa}{B:Nat}{c d:CB}(k:Hv (H.set B d) M)(g:H[B]?=some c):Hv H (M.set B c):=⟨by have:=k.1;simpa using this,fun b c0 c1 h0 h1=>by
 by_cases e:B=b
 ·subst e
  rw[g]at h0;cases h0
  rw[alX (by have:=k.1;simp at this;have:=Ap g;omega)]at h1
  cases h1;exact .inl rfl
 ·rw[adV e]at h1
  exact k.2 b c0 c1 (by rw[adV e];exact h0) h1⟩
theorem Io.wst{H G:Aa}(k:Io [] H G):Hv H G:=⟨k.len,fun b c0 c h0 h1=>.inl (by
 have:=k.same b (Ap h0) (by simp)
 rw[h0,h1]at this;cases this;rfl)⟩
theorem asJ{O:Ea}{H:Aa}{b:Nat}{vs:List AV}{Q:Dk→Aa→Prop}(hq:Am H=true)(K:RnQ O (vs++[.yl b]) (Df H) fun o G=>Q o G∧Hv (Df H) G∧Am G=true):
 ∃o G es M,cl O H (some (.yl b)) (some vs)=some (o,es)∧Bo H es=M∧Q o G∧Df M=Df G∧Hv H M∧Am M=true:=by
 obtain⟨o,G,hc,hQ,hw,hg⟩:=K
 obtain⟨m1,m2,m3,m4⟩:=qB hq hw hg
 obtain⟨es,e1,e2⟩:=Yb H G [] m1
 refine⟨o,G,es,Ze H G,?_,by simpa using e2,hQ,m3,m2,m4⟩
 rw[awS,hc,jD]
 have e1':Dy 0 H G=some es:=e1
 rw[e1'];rfl
end
end Go.Ev
