/- The evaluator and its soundness. -/
import Derived.Test.YtfkokgjfpojeoaaLibD
open And renaming intro→acE
open Eq renaming trans→acG
open Option renaming map_eq_some_iff→acK,bind_eq_some_iff→acZ,bind_some→adD,map_some→al5,some→al9
open List renaming mem_cons_of_mem→ahZ,mem_cons→ah3,getElem?_eq_some_iff→aiC,mem_cons_self→aiH,mem_append→aiI,mem_map→aiK,getElem?_set_ne→al2,getElem?_append_left→al3,getElem?_eq_getElem→al4,length_cons→al6,all_eq_true→amP,mem_append_left→anC,mem_append_right→anF,getElem?_map→an5,mem_flatMap→ao3,getElem?_append_right→apC,nil_append→apH,getElem?_set_self→apN,pairwise_cons→asB,range→asI,flatMap_cons→asS,append_nil→asX,append_inj'→as8,replicate→as9,range_zero→atA,mem_or_eq_of_mem_set→atB,prefix_refl→atX,mem_of_getElem?→avF,length_append→avO,flatMap_def→av2,map_congr_left→awV,getElem?_eq_none→axV,length_eq_zero_iff→ayH,pairwise_map→ay2,getD_eq_getElem?_getD→azA
open Bool renaming and_eq_true→al7
open Nat renaming add_right_cancel_iff→aoC,le_refl→ap9,lt_of_lt_of_le→as6
set_option linter.unusedSimpArgs false
set_option linter.unusedVariables false
namespace Go.Ev
noncomputable section
open Go.RowKit
theorem asW(b:Nat):Nq [] b=(0,[b]):=acG rfl rfl
section
variable {P:Program} {O:Hv}
theorem aEE(d:Nat)(m:List Nat)(b:Bool):Fa (d+1) m (.bool b)=some (.bool b,m):=acG rfl rfl
theorem bh3(d:Nat)(m:List Nat)(k:IntKind)(n:Int):Fa (d+1) m (.int k n)=some (.int k n,m):=acG rfl rfl
theorem aDI(d:Nat)(m:List Nat):Fa (d+1) m .nils=some (.nils,m):=acG rfl rfl
theorem bcP(d:Nat)(m:List Nat)(n:Nat)(fl:Bool)(rows:List (List AV)):Fa (d+1) m (.imm n fl rows)=some (.imm n fl rows,m):=acG rfl rfl
theorem be3(d:Nat)(m:List Nat)(n:Nat)(fl nn:Bool)(rows:List (List AV)):Fa (d+1) m (Af n fl nn rows)=some (Af n fl nn rows,m):=Tn m (Uj d n fl nn rows)
theorem bbT(d:Nat)(m:List Nat)(b r o:Nat):Fa (d+1) m (.ptr b r o)=some (.ptr (Nq m b).1 r o,(Nq m b).2):=acG rfl rfl
theorem bfH(d:Nat)(m:List Nat)(st b r len:Nat):Fa (d+1) m (.slr st b r len)=some (.slr st (Nq m b).1 r len,(Nq m b).2):=acG rfl rfl
def rfA(x:Option (List AV × List Nat)):Option (AV × List Nat):=x.map fun(cs,m)=>(.agg cs,m)
theorem auZ(cs:List AV)(m:List Nat):rfA (some (cs,m))=some (.agg cs,m):=acG rfl rfl
theorem bdC(d:Nat)(m:List Nat)(cs:List AV):Fa (d+1) m (.agg cs)=rfA (Fa.refL (Fa d) m cs):=acG rfl rfl
def rfG(fn:Fn)(a:List AV)(x:Option (List AV × List Nat)):Option (AV × List Nat):=x.map fun(b,m)=>(.func fn a b,m)
def rfF(fn:Fn)(d:Nat)(b:List AV)(x:Option (List AV × List Nat)):Option (AV × List Nat):=x.bind fun(a,m)=>rfG fn a (Fa.refL (Fa d) m b)
theorem auY(fn:Fn)(a b:List AV)(m:List Nat):rfG fn a (some (b,m))=some (.func fn a b,m):=acG rfl rfl
theorem ax4(fn:Fn)(d:Nat)(a b:List AV)(m:List Nat):rfF fn d b (some (a,m))=rfG fn a (Fa.refL (Fa d) m b):=acG rfl rfl
theorem aTA(d:Nat)(m:List Nat)(fn:Fn)(a b:List AV):Fa (d+1) m (.func fn a b)=rfF fn d b (Fa.refL (Fa d) m a):=acG rfl rfl
def rfD(v:AV)(x:Option (List AV × List Nat)):Option (List AV × List Nat):=x.map fun(vs,m)=>(v::vs,m)
def rfC(f:List Nat→AV→Option (AV × List Nat))(vs:List AV)(x:Option (AV × List Nat)):Option (List AV × List Nat):=x.bind fun(v,m)=>rfD v (Fa.refL f m vs)
theorem avT(v:AV)(vs:List AV)(m:List Nat):rfD v (some (vs,m))=some (v::vs,m):=acG rfl rfl
theorem avL(f:List Nat→AV→Option (AV × List Nat))(vs:List AV)(v:AV)(m:List Nat):rfC f vs (some (v,m))=rfD v (Fa.refL f m vs):=acG rfl rfl
theorem aA0(f:List Nat→AV→Option (AV × List Nat))(m:List Nat):Fa.refL f m []=some ([],m):=acG rfl rfl
theorem auQ(f:List Nat→AV→Option (AV × List Nat))(m:List Nat)(v:AV)(vs:List AV):Fa.refL f m (v::vs)=rfC f vs (f m v):=acG rfl rfl
def rrD(cs:List AV)(x:Option (List (List AV) × List Nat)):Option (List (List AV) × List Nat):=x.map fun(rs,m)=>(cs::rs,m)
def rrC(rs:List (List AV))(x:Option (List AV × List Nat)):Option (List (List AV) × List Nat):=x.bind fun(cs,m)=>rrD cs (Ql m rs)
theorem avX(cs:List AV)(rs:List (List AV))(m:List Nat):rrD cs (some (rs,m))=some (cs::rs,m):=acG rfl rfl
theorem au7(rs:List (List AV))(cs:List AV)(m:List Nat):rrC rs (some (cs,m))=rrD cs (Ql m rs):=acG rfl rfl
theorem bf2(m:List Nat):Ql m []=some ([],m):=acG rfl rfl
theorem aBG(m:List Nat)(cs:List AV)(rs:List (List AV)):Ql m (cs::rs)=rrC rs (Fa.refL (Fa 8) m cs):=acG rfl rfl
def rbV(st:Nat)(w:Bool)(x:Option (List (List AV) × List Nat)):Option (CB × List Nat):=x.map fun(rows,m)=>(.live st false w rows,m)
theorem atT(st:Nat)(w:Bool)(rows:List (List AV))(m:List Nat):rbV st w (some (rows,m))=some (.live st false w rows,m):=acG rfl rfl
theorem blG(m:List Nat)(st:Nat)(w:Bool)(rows:List (List AV)):oH m (.live st true w rows)=some (.live st true w rows,m):=acG rfl rfl
theorem bj1(m:List Nat)(st:Nat)(w:Bool)(rows:List (List AV)):oH m (.live st false w rows)=rbV st w (Ql m rows):=acG rfl rfl
def pcE(c:CB)(x:Option (List CB × List Nat)):Option (List CB × List Nat):=x.map fun(cs,m)=>(c::cs,m)
def pcR(n:Nat)(h:Ab)(i:Nat)(x:Option (CB × List Nat)):Option (List CB × List Nat):=x.bind fun(c,m)=>pcE c (Qx n (hf h) (i+1) m)
def pcB(n:Nat)(h:Ab)(i:Nat)(m:List Nat)(x:Option CB):Option (List CB × List Nat):=x.bind fun c=>pcR n h i (oH m c)
def pcK(n:Nat)(h:Ab)(i:Nat)(m:List Nat)(x:Option Nat):Option (List CB × List Nat):=
 match x with
 |none=>some ([],m)
 |some b=>pcB n h i m (h[b]?)
theorem ayF(c:CB)(cs:List CB)(m:List Nat):pcE c (some (cs,m))=some (c::cs,m):=acG rfl rfl
theorem avV(n:Nat)(h:Ab)(i:Nat)(c:CB)(m:List Nat):pcR n h i (some (c,m))=pcE c (Qx n (hf h) (i+1) m):=acG rfl rfl
theorem ayV(n:Nat)(h:Ab)(i:Nat)(m:List Nat)(c:CB):pcB n h i m (some c)=pcR n h i (oH m c):=acG rfl rfl
theorem auF(n:Nat)(h:Ab)(i:Nat)(m:List Nat):pcK n h i m none=some ([],m):=acG rfl rfl
theorem ax2(n:Nat)(h:Ab)(i:Nat)(m:List Nat)(b:Nat):pcK n h i m (some b)=pcB n h i m (h[b]?):=acG rfl rfl
theorem bjY(n:Nat)(h:Ab)(i:Nat)(m:List Nat):Qx (n+1) (hf h) i m=pcK n h i m (m[i]?):=by
 unfold Qx pcK
 cases m[i]?<;>rfl
def pkB(vs:List AV)(x:Option (List CB × List Nat)):Option (List AV × List CB × List Nat):=x.map fun(cs,m)=>(vs,cs,m)
def pkA(h:Ab)(x:Option (List AV × List Nat)):Option (List AV × List CB × List Nat):=x.bind fun(vs,m)=>pkB vs (Qx 5000 (hf h) 0 m)
theorem ay3(vs:List AV)(cs:List CB)(m:List Nat):pkB vs (some (cs,m))=some (vs,cs,m):=acG rfl rfl
theorem ayY(h:Ab)(vs:List AV)(m:List Nat):pkA h (some (vs,m))=pkB vs (Qx 5000 (hf h) 0 m):=acG rfl rfl
theorem bj9(h:Ab)(m:List Nat)(vs:List AV):Sv (hf h) m vs=pkA h (Fa.refL (Fa 8) m vs):=acG rfl rfl
def upK(h:Ab)(lent:List Nat)(v:Option AV)(ps ns:Option (List Ag))(o:AV→Gp):OE:=v.bind fun v=>ps.bind fun ps=>ns.bind fun ns=>
 some (o v,(if lent.isEmpty|| !(hasImm 8 v||(ps++ns).any Ag.hasImm)then []else Gn (hf h) lent)++ps++ns)
def crU(h:Ab)(base:Nat)(lent m:List Nat)(cs:List CB)(x:Option (Gp × Ab)):OE:=
 match x with
 |some (.ret v,h')=>upK h lent (Es 8 (Js m base) v) (Ln (Js m base) m cs (h'.take m.length)) (Pe (Js m base) base (h'.drop m.length)) .ret
 |some (.pan v,h')=>upK h lent (Es 8 (Js m base) v) (Ln (Js m base) m cs (h'.take m.length)) (Pe (Js m base) base (h'.drop m.length)) .pan
 |none=>none
def crP(O:Hv)(h:Ab)(base:Nat)(f:cC)(lent:List Nat)(x:Option (List AV × List CB × List Nat)):OE:=x.bind fun(vs,cs,m)=>
 if lent.any (m.contains ·)then none else crU h base lent m cs (O.call f vs (cs.map CB.clean))
def crQ(O:Hv)(h:Ab)(base:Nat)(f:cC)(lent:List Nat)(x:Option (List AV)):OE:=x.bind fun vs=>crP O h base f lent (Sv (hf h) [] vs)
theorem bmM(h:Ab)(base:Nat)(f:cC)(args:List AV):cr (zB O (hf h) base f args)=crQ O h base f (args.flatMap (Cf 12 (hf h))) (Cb (tV h) args):=by
 unfold zB Fh crQ tV
 cases Cb (Nk 12 (hf h)) args with
 |none=>rfl
 |some vs=>
  simp only[adD]
  unfold crP
  cases Sv (hf h) [] vs with
  |none=>rfl
  |some x=>
   obtain⟨vs',cs,m⟩:=x
   simp only[adD]
   split
   ·rfl
   ·cases O.call f vs' (cs.map CB.clean)with
    |none=>rfl
    |some y=>
     obtain⟨out,h'⟩:=y
     simp only[adD,Uu]
     unfold crU upK
     cases out with
     |ret v=>
      simp only[Gp.v]
      cases Es 8 (Js m base) v with
      |none=>rfl
      |some v=>
       cases Ln (Js m base) m cs (h'.take m.length)with
       |none=>rfl
       |some ps=>cases Pe (Js m base) base (h'.drop m.length)<;>rfl
     |pan v=>
      simp only[Gp.v]
      cases Es 8 (Js m base) v with
      |none=>rfl
      |some v=>
       cases Ln (Js m base) m cs (h'.take m.length)with
       |none=>rfl
       |some ps=>cases Pe (Js m base) base (h'.drop m.length)<;>rfl
theorem auK(h:Ab)(base:Nat)(f:cC)(lent:List Nat)(vs:List AV):crQ O h base f lent (some vs)=crP O h base f lent (Sv (hf h) [] vs):=acG rfl rfl
theorem avW(h:Ab)(base:Nat)(f:cC)(lent:List Nat)(vs:List AV)(cs:List CB)(m:List Nat):crP O h base f lent (some (vs,cs,m))=if lent.any (m.contains ·)=true then none else crU h base lent m cs (O.call f vs (cs.map CB.clean)):=acG rfl rfl
theorem aM7(h:Ab)(base:Nat)(lent m:List Nat)(cs:List CB)(v:AV)(h':Ab):crU h base lent m cs (some (.ret v,h'))=upK h lent (Es 8 (Js m base) v) (Ln (Js m base) m cs (h'.take m.length)) (Pe (Js m base) base (h'.drop m.length)) .ret:=acG rfl rfl
theorem avK(h:Ab)(lent:List Nat)(v:AV)(ps ns:List Ag)(o:AV→Gp):upK h lent (some v) (some ps) (some ns) o=some (o v,(if(lent.isEmpty|| !(hasImm 8 v||(ps++ns).any Ag.hasImm))=true then []else Gn (hf h) lent)++ps++ns):=acG rfl rfl
theorem a34(st:Nat)(fl w:Bool)(rows:List (List AV)):CB.clean (.live st fl w rows)=.live st fl false rows:=acG rfl rfl
theorem aAJ(d:Nat)(g:HF)(b:Bool):Cf (d+1) g (.bool b)=[]:=acG rfl rfl
theorem bdV(d:Nat)(g:HF)(k:IntKind)(n:Int):Cf (d+1) g (.int k n)=[]:=acG rfl rfl
theorem bgZ(d:Nat)(g:HF)(n:Nat)(fl:Bool)(rows:List (List AV)):Cf (d+1) g (.imm n fl rows)=[]:=acG rfl rfl
theorem bf0(d:Nat)(g:HF)(b r o:Nat):Cf (d+1) g (.ptr b r o)=[]:=acG rfl rfl
theorem aQ8(d:Nat)(g:HF)(fn:Fn)(a b:List AV):Cf (d+1) g (.func fn a b)=[]:=acG rfl rfl
theorem bfQ(d:Nat)(g:HF)(n:Nat)(fl nn:Bool)(rows:List (List AV)):Cf (d+1) g (Af n fl nn rows)=[]:=Rj g (d:=1) (by omega) (Uj 0 n fl nn rows)
theorem bgO(d:Nat)(g:HF)(cs:List AV):Cf (d+1) g (.agg cs)=cs.flatMap (Cf d g):=acG rfl rfl
def lvS(b:Nat)(c:Option CB)(q:AV→List Nat)(r len:Nat):List Nat:=
 b::match c with
 |some (.live _ fl _ rows)=>if r+len≤rows.length then(if fl then []else((rows.drop r).take len).flatMap fun cs=>cs.flatMap q)else []
 |some (.frz _ fl rows)=>if r+len≤rows.length then(if fl then []else((rows.drop r).take len).flatMap fun cs=>cs.flatMap q)else []
 |_=>[]
theorem bgG(d:Nat)(h:Ab)(st b r len:Nat):Cf (d+1) (hf h) (.slr st b r len)=lvS b (h[b]?) (Cf d (hf h)) r len:=by
 have e:Cf (d+1) (hf h) (.slr st b r len)=b::(match Jl (hf h) b r len with|some (_,fl,rows)=>if fl then []else rows.flatMap fun cs=>cs.flatMap (Cf d (hf h))|none=>[]):=rfl
 rw[e]
 generalize Cf d (hf h)=q
 unfold Jl lvS
 have eh:hf h b=h[b]?:=rfl
 rw[eh]
 cases h[b]? with
 |none=>rfl
 |some c=>
  cases c with
  |live st fl w rows=>simp only;by_cases hq:r+len≤rows.length<;>simp[hq]
  |frz st fl rows=>simp only;by_cases hq:r+len≤rows.length<;>simp[hq]
  |_=>rfl
theorem bk5(b:Nat)(st:Nat)(w:Bool)(rows:List (List AV))(q:AV→List Nat)(r len:Nat):lvS b (some (.live st true w rows)) q r len=[b]:=by simp[lvS]
theorem bj0(b:Nat)(st:Nat)(rows:List (List AV))(q:AV→List Nat)(r len:Nat):lvS b (some (.frz st true rows)) q r len=[b]:=by simp[lvS]
theorem aBB(d:Nat)(f:Nat→Nat)(b:Bool):Es (d+1) f (.bool b)=some (.bool b):=acG rfl rfl
theorem bfW(d:Nat)(f:Nat→Nat)(k:IntKind)(n:Int):Es (d+1) f (.int k n)=some (.int k n):=acG rfl rfl
theorem bgW(d:Nat)(f:Nat→Nat)(st b r len:Nat):Es (d+1) f (.slr st b r len)=some (.slr st (f b) r len):=acG rfl rfl
theorem bk4(f:Nat→Nat)(st:Nat)(w:Bool)(rows:List (List AV)):Mc f (.live st true w rows)=some (.live st true w rows):=acG rfl rfl
def peE(b:Nat)(c:Option CB)(x:Option (List Ag)):Option (List Ag):=c.bind fun c=>x.map fun es=>.put b c::es
def peK(f:Nat→Nat)(b:Nat)(c:CB)(same bad:Bool)(x:Option (List Ag)):Option (List Ag):=bif same then x else bif bad then none else peE b (Mc f c) x
theorem bjH(f:Nat→Nat)(b:Nat)(c:CB)(bad:Bool)(x:Option (List Ag)):peK f b c true bad x=x:=acG rfl rfl
theorem beV(f:Nat→Nat):Ln f [] [] []=some []:=acG rfl rfl
theorem a2M(f:Nat→Nat)(b:Nat)(m:List Nat)(c₀ c:CB)(cs₀ cs:List CB):Ln f (b::m) (c₀::cs₀) (c::cs)=peK f b c (c₀.same c) (c.unw|| !c₀.isLive) (Ln f m cs₀ cs):=by
 conv=>lhs;unfold Ln
 unfold peK
 cases c₀.same c with
 |true=>rfl
 |false=>
  cases(c.unw|| !c₀.isLive)with
  |true=>rfl
  |false=>
   simp only[cond_false,peE]
theorem aBW(a:Nat)(b c:Bool)(r:List (List AV))(st:Nat)(fl w:Bool)(rows:List (List AV)):CB.same (.live a b c r) (.live st fl w rows)= !w:=acG rfl rfl
theorem aTI(st:Nat)(fl w:Bool)(rows:List (List AV)):CB.unw (.live st fl w rows)= !w:=acG rfl rfl
theorem aQW(st:Nat)(fl w:Bool)(rows:List (List AV)):CB.isLive (.live st fl w rows)=true:=acG rfl rfl
def neK(base:Nat)(c:Option CB)(x:Option (List Ag)):Option (List Ag):=c.bind fun c=>x.map fun es=>.new base c::es
theorem au5(base:Nat)(c:CB)(es:List Ag):neK base (some c) (some es)=some (.new base c::es):=acG rfl rfl
theorem bgB(f:Nat→Nat)(base:Nat):Pe f base []=some []:=acG rfl rfl
theorem aDJ(f:Nat→Nat)(base:Nat)(c:CB)(cs:List CB):Pe f base (c::cs)=neK base (Mc f c) (Pe f (base+1) cs):=acG rfl rfl
theorem bhI(b:Nat)(c:CB):Ag.hasImm (.new b c)=c.hasImm:=acG rfl rfl
theorem bjE(st:Nat)(w:Bool)(rows:List (List AV)):CB.hasImm (.live st true w rows)=false:=acG rfl rfl
theorem bhE(h:Ab)(b r o:Nat):tV h (.ptr b r o)=some (.ptr b r o):=acG rfl rfl
theorem aA7(h:Ab)(cs:List AV):tV h (.agg cs)=rdA (Cb (Nk 11 (hf h)) cs):=acG rfl rfl
theorem ap7(l:List AV):rdA (some l)=some (.agg l):=acG rfl rfl
theorem aML(d:Nat)(h:Ab)(b:Bool):Nk (d+1) (hf h) (.bool b)=some (.bool b):=acG rfl rfl
theorem bfT(d:Nat)(h:Ab)(k:IntKind)(n:Int):Nk (d+1) (hf h) (.int k n)=some (.int k n):=acG rfl rfl
theorem bhM(d:Nat)(h:Ab)(n:Nat)(fl nn:Bool)(rows:List (List AV)):Nk (d+1) (hf h) (Af n fl nn rows)=some (Af n fl nn rows):=bH _ (d:=1) (by omega) (Uj 0 n fl nn rows)
def mfK(f:Nat)(a b:Option (List AV)):OE:=a.bind fun a=>b.bind fun b=>some (.ret (.func (.func f) a b),[])
theorem awA(f:Nat)(a b:List AV):mfK f (some a) (some b)=some (.ret (.func (.func f) a b),[]):=acG rfl rfl
theorem bkO(t:List AV)(h:Ab)(f:Nat)(a b:Array Operand):Hn O P t h (.makeFunc (.func f) a b)=mfK f (Dt t a.toList) (Dt t b.toList):=by
 rw[En _ _ _ rfl]
 simp only[exec,mfK]
 cases Dt t a.toList with
 |none=>rfl
 |some a=>cases Dt t b.toList<;>rfl
def msK(n:Nat)(z:AV)(base:Nat)(l c:Option AV):OE:=
 match l,c with
 |some (.int .i64 l),some (.int .i64 c)=>if 0≤l∧l≤c∧c≤2 ^ 40∧(Am z).all AV.isCell=true then some (.ret (.slr n base 0 l.toNat),[.new base (.live n ((Am z).all AV.flat) false (as9 l.toNat (Am z)))])else none
 |_,_=>none
theorem axY(n:Nat)(z:AV)(base:Nat)(l c:Int):msK n z base (some (.int .i64 l)) (some (.int .i64 c))=if 0≤l∧l≤c∧c≤2 ^ 40∧(Am z).all AV.isCell=true then some (.ret (.slr n base 0 l.toNat),[.new base (.live n ((Am z).all AV.flat) false (as9 l.toNat (Am z)))])else none:=acG rfl rfl
def msO(P:Program)(ty:TypeId)(base:Nat)(l c:Option AV):OE:=rD (l.bind fun l=>c.bind fun c=>Md P base ty l c)
theorem bj4(t:List AV)(h:Ab)(ty:TypeId)(l c:Operand):Hn O P t h (.makeSlice ty l c)=msO P ty h.length (Ai t l) (Ai t c):=En _ _ _ rfl
theorem ax8{ty e:TypeId}{n b:Nat}{z:AV}(he:nJ P ty=some e)(hn:bG P e=some n)(hb:byT P e=some b)(hz:Le P e=some z)(ok:(decide (b≤2 ^ 7)&&decide (n≠0)&&decide ((Am z).length=n))=true)(base:Nat)(l c:Option AV):
 msO P ty base l c=msK n z base l c:=by
 simp only[al7,decide_eq_true_eq]at ok
 unfold msO msK
 cases l with
 |none=>rfl
 |some l=>
  cases c with
  |none=>cases l<;>first|rfl|(rename_i k _;cases k<;>rfl)
  |some c=>
   simp only[adD,Md,he,hn,hb,hz]
   cases l with
   |int k l=>
    cases c with
    |int k' c=>
     cases k<;>cases k'<;>first|rfl|skip
     simp only[ok.1.1,ok.1.2,ok.2,ne_eq,not_false_eq_true,true_and]
     split<;>rfl
    |_=>cases k<;>rfl
   |_=>rfl
def srS(q:Nat)(c:Option CB)(r len:Nat):Option (Bool × List (List AV)):=
 match c with
 |some (.live st fl _ rows)=>if r+len≤rows.length∧st=q then some (fl,(rows.drop r).take len)else none
 |some (.frz st fl rows)=>if r+len≤rows.length∧st=q then some (fl,(rows.drop r).take len)else none
 |_=>none
def srK(q:Nat)(h:Ab)(x:Option AV):Option (Bool × List (List AV)):=
 match x with
 |some .nils=>some (true,[])
 |some (.imm st fl rows)=>if st=q then some (fl,rows)else none
 |some (.slr _ b r len)=>srS q (h[b]?) r len
 |_=>none
theorem axO(q st:Nat)(fl w:Bool)(rows:List (List AV))(r len:Nat):srS q (some (.live st fl w rows)) r len=if r+len≤rows.length∧st=q then some (fl,(rows.drop r).take len)else none:=acG rfl rfl
theorem axN(q:Nat)(h:Ab):srK q h (some .nils)=some (true,[]):=acG rfl rfl
theorem apL(q:Nat)(h:Ab)(st:Nat)(fl:Bool)(rows:List (List AV)):srK q h (some (.imm st fl rows))=if st=q then some (fl,rows)else none:=acG rfl rfl
theorem apV(q:Nat)(h:Ab)(st b r len:Nat):srK q h (some (.slr st b r len))=srS q (h[b]?) r len:=acG rfl rfl
def apT(n base b r len:Nat)(nfl:Bool)(new:List (List AV))(st:Nat)(fl:Bool)(rows:List (List AV)):OE:=
 if st=n∧r+len≤rows.length∧len+new.length≤2 ^ 39 then some (.ret (.slr st base 0 (len+new.length)),[.put b .dead,.new base (.live st (fl&&nfl) false ((rows.drop r).take len++new))])else none
def apS(n base b r len:Nat)(nfl:Bool)(new:List (List AV))(c:Option CB):OE:=
 match c with
 |some (.live st fl _ rows)=>if st=n∧r+len=rows.length∧len+new.length≤2 ^ 39 then some (.ret (.slr st base 0 (len+new.length)),[.put b .dead,.new base (.live st (fl&&nfl) false (rows.drop r++new))])else apT n base b r len nfl new st fl rows
 |_=>none
theorem ak4(n base b r len:Nat)(nfl:Bool)(new:List (List AV))(st:Nat)(fl w:Bool)(rows:List (List AV)):apS n base b r len nfl new (some (.live st fl w rows))=if st=n∧r+len=rows.length∧len+new.length≤2 ^ 39 then some (.ret (.slr st base 0 (len+new.length)),[.put b .dead,.new base (.live st (fl&&nfl) false (rows.drop r++new))])else apT n base b r len nfl new st fl rows:=acG rfl rfl
def apK(n:Nat)(h:Ab)(s:Option AV)(x:Option (Bool × List (List AV))):OE:=
 match s,x with
 |some .nils,some (_,[])=>some (.ret .nils,[])
 |some (.slr a b r l),some (_,[])=>some (.ret (.slr a b r l),[])
 |some (.imm a b r),some (_,[])=>some (.ret (.imm a b r),[])
 |some .nils,some (nfl,r::new)=>if(r::new).length≤2 ^ 39 then some (.ret (.slr n h.length 0 (r::new).length),[.new h.length (.live n nfl false (r::new))])else none
 |some (.slr _ b r len),some (nfl,q::new)=>apS n h.length b r len nfl (q::new) (h[b]?)
 |_,_=>none
theorem bfR(n:Nat)(h:Ab)(nfl:Bool):apK n h (some .nils) (some (nfl,[]))=some (.ret .nils,[]):=acG rfl rfl
theorem bgS(n:Nat)(h:Ab)(a b r l:Nat)(nfl:Bool):apK n h (some (.slr a b r l)) (some (nfl,[]))=some (.ret (.slr a b r l),[]):=acG rfl rfl
theorem anH(n:Nat)(h:Ab)(nfl:Bool)(r:List AV)(new:List (List AV)):apK n h (some .nils) (some (nfl,r::new))=if(r::new).length≤2 ^ 39 then some (.ret (.slr n h.length 0 (r::new).length),[.new h.length (.live n nfl false (r::new))])else none:=acG rfl rfl
theorem am6(n:Nat)(h:Ab)(a b r len:Nat)(nfl:Bool)(q:List AV)(new:List (List AV)):apK n h (some (.slr a b r len)) (some (nfl,q::new))=apS n h.length b r len nfl (q::new) (h[b]?):=acG rfl rfl
def apO(P:Program)(ty:TypeId)(h:Ab)(s x:Option AV):OE:=rD (s.bind fun s=>x.bind fun x=>Lt P (hf h) h.length ty s x)
theorem agQ(t:List AV)(h:Ab)(s x:Operand)(ty ty1 e1:TypeId)(hu:P.underlying ty1=some (.slice e1)):Hn O P t h (.call ⟨.builtin .append,#[s,x],#[ty,ty1]⟩)=apO P ty h (Ai t s) (Ai t x):=by
 rw[En _ _ _ rfl]
 simp only[exec,Dt,apO]
 cases Ai t s with
 |none=>rfl
 |some a=>
  cases Ai t x with
  |none=>rfl
  |some b=>
   simp only[adD,al5]
   have e0:(#[ty,ty1]:Array TypeId)[0]?=some ty:=rfl
   have e1:(#[ty,ty1]:Array TypeId)[1]?=some ty1:=rfl
   simp only[e0,e1,adD,hu]
theorem sB{ty e:TypeId}{n b:Nat}{z:AV}(he:nJ P ty=some e)(hn:bG P e=some n)(hb:byT P e=some b)(hz:Le P e=some z)(ok:(decide (b≤2 ^ 8)&&decide (n≠0)&&decide ((Am z).length=n))=true)(h:Ab)(s x:AV)(hx:∀q,x≠.str q):
 apO P ty h (some s) (some x)=apK n h (some s) (srK n h (some x)):=by
 simp only[al7,decide_eq_true_eq]at ok
 have hbad:¬(n=0∨2 ^ 8<b∨(Am z).length≠n):=by
  rintro(h1|h1|h1)
  ·exact ok.1.2 h1
  ·omega
  ·exact h1 ok.2
 unfold apO
 simp only[adD,Lt,he,hn,hb,hz]
 have key:∀(nfl:Bool) (new:List (List AV)) (fs:List Fq),rD (if n=0∨2 ^ 8<b∨(Am z).length≠n then none else
  match s,new with
  |s,[]=>match s with
   | .nils| .slr _ _ _ _| .imm _ _ _=>some ⟨s,[],fs⟩
   |_=>none
  | .nils,new=>if new.length≤2 ^ 39 then some ⟨.slr n h.length 0 new.length,[.new h.length (.live n nfl false new)],fs⟩else none
  | .slr _ b r len,new=>
    match hf h b with
    |some (.live st fl _ rows)=>
     if st=n∧r+len≤rows.length∧len+new.length≤2 ^ 39 then
      some ⟨.slr st h.length 0 (len+new.length),[.put b .dead,.new h.length (.live st (fl&&nfl) false ((rows.drop r).take len++new))],.blk b::fs⟩
     else none
    |_=>none
  |_,_=>none)=apK n h (some s) (some (nfl,new)):=fun nfl new fs=>by
  rw[if_neg hbad]
  cases new with
  |nil=>cases s<;>rfl
  |cons q new=>
   cases s with
   |nils=>simp only[anH];split<;>rfl
   |slr a b r len=>
    simp only[am6]
    unfold apS
    have eh:hf h b=h[b]?:=rfl
    rw[eh]
    cases h[b]? with
    |none=>rfl
    |some c=>
     cases c with
     |live st fl w rows=>
      simp only
      by_cases h1:st=n∧r+len=rows.length∧len+(q::new).length≤2 ^ 39
      ·rw[if_pos h1,if_pos ⟨h1.1,by omega,h1.2.2⟩,List.take_of_length_le (by simp;omega)]
       rfl
      ·rw[if_neg h1]
       unfold apT
       split<;>rfl
     |_=>rfl
   |_=>rfl
 cases x with
 |nils=>exact key true [] []
 |imm st fl rows=>
  simp only[Hg,apL,hn,al9.injEq]
  by_cases hq:n=st
  ·subst hq;simp only[if_true,adD];exact key fl rows []
  ·rw[if_neg hq,if_neg (fun e=>hq e.symm)]
   cases s<;>rfl
 |slr st b' r len=>
  simp only[Hg,apV,hn,Jl,srS]
  have eh:hf h b'=h[b']?:=rfl
  rw[eh]
  cases h[b']? with
  |none=>cases s<;>rfl
  |some c=>
   cases c with
   |live st fl w rows=>
    simp only
    by_cases hq:r+len≤rows.length
    ·simp only[hq,if_true,adD,true_and,al9.injEq]
     by_cases hq2:n=st
     ·subst hq2;simp only[if_true,adD];exact key fl _ _
     ·rw[if_neg hq2,if_neg (fun e=>hq2 e.symm)];cases s<;>rfl
    ·simp only[hq,if_false,false_and];cases s<;>rfl
   |frz st fl rows=>
    simp only
    by_cases hq:r+len≤rows.length
    ·simp only[hq,if_true,adD,true_and,al9.injEq]
     by_cases hq2:n=st
     ·subst hq2;simp only[if_true,adD];exact key fl _ _
     ·rw[if_neg hq2,if_neg (fun e=>hq2 e.symm)];cases s<;>rfl
    ·simp only[hq,if_false,false_and];cases s<;>rfl
   |_=>cases s<;>rfl
 |str q=>exact(hx q rfl).elim
 |_=>cases s<;>rfl
def rtK(Q:Gp→Ab→Prop)(x:Option (List AV × List CB × List Nat)):Prop:=
 match x with
 |some ([v],cs,_)=>Q (.ret v) cs
 |_=>False
theorem awP(Q:Gp→Ab→Prop)(v:AV)(cs:List CB)(m:List Nat):rtK Q (some ([v],cs,m))=Q (.ret v) cs:=acG rfl rfl
theorem bbD{q:Nat}{vs:List AV}{h:Ab}{Q:Gp→Ab→Prop}:Rt q (some vs) h Q=rtK Q (Sv (hf h) (asI q) [aJ vs]):=by
 unfold Rt asO
 simp only[adD,Zn]
 cases hp:Sv (hf h) (asI q) [aJ vs]with
 |none=>simp[rtK]
 |some x=>
  obtain⟨ws,cs,m⟩:=x
  simp only[adD]
  match ws with
  | [v]=>
    simp only[rtK,al5]
    exact propext ⟨fun⟨o,h',e,k⟩=>by cases e;exact k,fun k=>⟨_,_,rfl,k⟩⟩
  | []=>simp[rtK]
  |_::_::_=>simp[rtK]
theorem bh6(vs:List AV)(h:Ab)(Q:Gp→Ab→Prop):Rt1 0 (some vs) h Q=rtK Q (Sv (hf h) [] [aJ vs]):=bbD
theorem aMF(q:Nat)(vs:List AV)(h:Ab)(Q:Gp→Ab→Prop):Rt (q+1) (some vs) h Q=rtK Q (Sv (hf h) (asI (q+1)) [aJ vs]):=bbD
end
end
noncomputable section
set_option maxRecDepth 100000
def EVi:=PLift.up (acE @asW (acE @aEE (acE @bh3 (acE @aDI (acE @bcP (acE @be3 (acE @bbT (acE @bfH (acE @auZ (acE @bdC (acE @auY (acE @ax4 (acE @aTA (acE @avT (acE @avL (acE @aA0 (acE @auQ (acE @avX (acE @au7 (acE @bf2 (acE @aBG (acE @atT (acE @blG (acE @bj1 (acE @ayF (acE @avV (acE @ayV @auF)))))))))))))))))))))))))))
def EVj:=PLift.up (acE @ax2 (acE @bjY (acE @ay3 (acE @ayY (acE @bj9 (acE @bmM (acE @auK (acE @avW (acE @aM7 (acE @avK (acE @a34 (acE @aAJ (acE @bdV (acE @bgZ (acE @bf0 (acE @aQ8 (acE @bfQ (acE @bgO (acE @bgG (acE @bk5 (acE @bj0 (acE @aBB (acE @bfW @bgW)))))))))))))))))))))))
def EVk:=PLift.up (acE @bk4 (acE @bjH (acE @beV (acE @a2M (acE @aBW (acE @aTI (acE @aQW (acE @au5 (acE @bgB (acE @aDJ (acE @bhI (acE @bjE @bhE))))))))))))
def EVl:=PLift.up (acE @aA7 (acE @ap7 (acE @aML (acE @bfT (acE @bhM (acE @awA (acE @bkO (acE @axY (acE @bj4 (acE @axO (acE @axN (acE @apL (acE @apV (acE @ak4 (acE @bfR (acE @bgS (acE @anH (acE @am6 (acE @awP (acE @bh6 (acE @aMF (acE @asS.{0,0} (acE @List.flatMap_nil.{0,0} (acE @List.isEmpty_nil.{0} (acE @List.isEmpty_cons.{0} (acE @List.range_succ (acE @atA (acE @List.contains_nil.{0} @List.contains_cons.{0}))))))))))))))))))))))))))))
def EVm:=PLift.up (acE @List.getElem?_nil.{0} (acE @bcL (acE @axQ (acE @aqL (acE @ah5 (acE @aq1 @amV))))))
end
noncomputable section
theorem agX{n:Nat}{fl nn:Bool}{rows:List (List AV)}(h:rows≠[]):Af n fl nn rows=.imm n fl rows:=by
 cases rows with
 |nil=>exact(h rfl).elim
 |cons r rs=>rfl
theorem Wv(n:Nat)(fl:Bool)(rows:List (List AV)):Af n fl true rows=.imm n fl rows:=by cases rows<;>rfl
theorem aBF(n:Nat)(fl:Bool):Af n fl false []=.nils:=rfl
section
variable {P:Program} {t e:TypeId} (hu:P.underlying t=some (.slice e))
include hu
theorem alN(n:Nat)(fl:Bool)(rows:List (List AV)):Pn P .eql t (.imm n fl rows) .nils=some (.bool false):=by simp[Pn,iT,hu]
end
def bg2(v:Option AV)(ns:Option (List Ag)):Option Uf:=v.bind fun v=>ns.map fun ns=>⟨.ret v,ns,[]⟩
theorem ar6(v:AV)(ns:List Ag):bg2 (some v) (some ns)=some ⟨.ret v,ns,[]⟩:=acG rfl rfl
theorem atV(base:Nat)(v:AV)(c:CB)(cs:List CB):ac0 base (some (.ret v,c::cs))=bg2 (Es 8 (fun i=>base+i) v) (Pe (fun i=>base+i) base (c::cs)):=by
 simp only[ac0,bg2,adD,Gp.v,Gp.map]
def bdT(h:Ab)(lent:List Nat)(v:Option AV)(ns:Option (List Ag)):OE:=v.bind fun v=>ns.map fun ns=>(.ret v,(if lent.isEmpty|| !(hasImm 8 v||ns.any Ag.hasImm)then []else Gn (hf h) lent)++ns)
theorem asG(h:Ab)(lent:List Nat)(v:AV)(ns:List Ag):bdT h lent (some v) (some ns)=some (.ret v,(if(lent.isEmpty|| !(hasImm 8 v||ns.any Ag.hasImm))=true then []else Gn (hf h) lent)++ns):=acG rfl rfl
theorem ayS(h:Ab)(base:Nat)(lent:List Nat)(v:AV)(c:CB)(cs:List CB):crR h base lent (some (.ret v,c::cs))=bdT h lent (Es 8 (fun i=>base+i) v) (Pe (fun i=>base+i) base (c::cs)):=by
 simp only[crR,bdT,adD,Gp.v,Gp.map]
section
variable {O:Hv}
theorem bkB(h:Ab)(f:Nat)(args:List AV):shC O h f args=if(eA args||O.md f)=true then shK h (O.call (.sh f) args (Hf h))else cr (Fh O (hf h) h.length (.fn f) args):=acG rfl rfl
end
theorem beU(b r o:Nat)(l:List AV):eA (.ptr b r o::l)=false:=acG rfl rfl
theorem bhL(a b r n:Nat)(l:List AV):eA (.slr a b r n::l)=false:=acG rfl rfl
theorem bgM(k:IntKind)(n:Int)(l:List AV):eA (.int k n::l)=false:=acG rfl rfl
theorem bgD(c:List AV)(l:List AV):eA (.agg c::l)=false:=acG rfl rfl
theorem bjV(b:Nat)(l:List AV):eA (.yl b::l)=true:=acG rfl rfl
theorem bcB:Hf []=[]:=acG rfl rfl
theorem az6(c:CB)(h:Ab):Hf (c::h)=c.clean::Hf h:=acG rfl rfl
theorem bh1(h h':Ab):Hf (h++h')=Hf h++Hf h':=List.map_append
theorem bkE(ps:List Nat)(a b:Code)(t:List AV)(st:Uw):CB.clean (.lp ps a b t st)=.lp ps a b t st:=acG rfl rfl
def Bc(h:Ab):Bool:=h.all fun c=>c.quiet c.clean
theorem aeJ:∀(cs:List CB) (i:Nat) (h:Ab),Dm h (Uk i cs)=h++cs
 | [],i,h=>by simp[Uk,Dm]
 |c::cs,i,h=>by simp[Uk,Dm,Xf,aeJ cs]
theorem ahU(h:Ab)(o:Gp)(h':Ab):shK h (some (o,h'))=(Io 0 h h').map fun es=>(o,es):=acG rfl rfl
def EVo:=PLift.up (acE @bgY (acE @bhB (acE @biZ (acE @biE (acE @azN (acE @bhW (acE @biD (acE @bfL @biA))))))))
def EVn:=PLift.up (acE @asA (acE @aqG (acE @ar6 (acE @atV (acE @asG @ayS)))))
def EVp:=PLift.up (acE @bkB (acE @bgM (acE @bgD (acE @beU (acE @bhL (acE @bjV (acE @bcB (acE @az6 (acE @bh1 @bkE)))))))))
end
noncomputable section
def Ci:CB→Option (Nat × Bool × List (List AV))
 | .live st fl _ rows=>some (st,fl,rows)
 | .frz st fl rows=>some (st,fl,rows)
 |_=>none
def Xa(f:AV→Option (AV × List Nat)):List AV→Option (List AV × List Nat)
 | []=>some ([],[])
 |a::l=>(f a).bind fun p=>(Xa f l).map fun q=>(p.1::q.1,p.2++q.2)
def Cj(f:AV→Option (AV × List Nat)):List (List AV)→Option (List (List AV) × List Nat)
 | []=>some ([],[])
 |r::rs=>(Xa f r).bind fun p=>(Cj f rs).map fun q=>(p.1::q.1,p.2++q.2)
def rd:Nat→HF→AV→Option (AV × List Nat)
 |0,_,_=>none
 |d+1,g,v=>
  match v with
  | .slr st b r len=>((g b).bind Ci).bind fun z=>
     if z.1=st∧r=0∧len=z.2.2.length then
      (bif z.2.1 then some (.imm st true z.2.2,[b])else(Cj (rd d g) z.2.2).map fun q=>(.imm st false q.1,b::q.2))
     else none
  | .agg cs=>(Xa (rd d g) cs).map fun q=>(.agg q.1,q.2)
  | .iface t x=>(rd d g x).map fun q=>(.iface t q.1,q.2)
  | .func fn [] []=>some (.func fn [] [],[])
  | .func _ _ _=>none
  | .tup _=>none
  | .ptr _ _ _=>none
  | .yl _=>none
  | .mapr _=>none
  | .itr _=>none
  | .imm _ _ _=>none
  | .iptr _=>none
  |v=>some (v,[])
theorem qN{f f':AV→Option (AV × List Nat)}:∀{l:List AV} {p:List AV × List Nat},Xa f l=some p→(∀x∈l,∀q,f x=some q→(∀b∈q.2,b∈p.2)→f' x=some q)→Xa f' l=some p
 | [],p,h,_=>h
 |a::l,p,h,hf=>by
  simp only[Xa,acZ,acK]at h ⊢
  obtain⟨q,hq,r,hr,rfl⟩:=h
  exact⟨q,hf a (aiH ..) q hq (fun b hb=>anC _ hb),r,qN hr (fun x hx q' hq' hs=>hf x (ahZ _ hx) q' hq' (fun b hb=>anF _ (hs b hb))),rfl⟩
theorem cF{f f':AV→Option (AV × List Nat)}:∀{l:List (List AV)} {p:List (List AV) × List Nat},Cj f l=some p→(∀r∈l,∀x∈r,∀q,f x=some q→(∀b∈q.2,b∈p.2)→f' x=some q)→Cj f' l=some p
 | [],p,h,_=>h
 |a::l,p,h,hf=>by
  simp only[Cj,acZ,acK]at h ⊢
  obtain⟨q,hq,r,hr,rfl⟩:=h
  exact⟨q,qN hq (fun x hx q' hq' hs=>hf a (aiH ..) x hx q' hq' (fun b hb=>anC _ (hs b hb))),r,
   cF hr (fun r' hr' x hx q' hq' hs=>hf r' (ahZ _ hr') x hx q' hq' (fun b hb=>anF _ (hs b hb))),rfl⟩
def Agr(R:List Nat)(g g':HF):Prop:=∀b∈R,∀z,(g b).bind Ci=some z→(g' b).bind Ci=some z
theorem abX{g g':HF}:∀{d:Nat} {v:AV} {p:AV × List Nat},rd d g v=some p→Agr p.2 g g'→rd d g' v=some p
 |0,v,p,h,_=>by simp[rd]at h
 |d+1,v,p,h,ha=>by
  cases v with
  |slr st b r len=>
   simp only[rd,acZ]at h ⊢
   obtain⟨z,⟨c,hc,hz⟩,h⟩:=h
   split at h
   ·rename_i hq
    have hb:b∈p.2:=by
     cases hfl:z.2.1 with
     |true=>rw[hfl]at h;simp at h;rw[←h];simp
     |false=>rw[hfl]at h;simp only[cond_false,acK]at h;obtain⟨q,_,rfl⟩:=h;simp
    have hz':=ha b hb z (by rw[hc];exact hz)
    obtain⟨c',hc',hz''⟩:=acZ.1 hz'
    refine⟨z,⟨c',hc',hz''⟩,?_⟩
    rw[if_pos hq]
    cases hfl:z.2.1 with
    |true=>rw[hfl]at h;exact h
    |false=>
     rw[hfl]at h
     simp only[cond_false,acK]at h ⊢
     obtain⟨q,hq',rfl⟩:=h
     exact⟨q,cF hq' (fun r' _ x _ q' hx hs=>abX hx (fun b' hb'=>ha b' (ahZ _ (hs b' hb')))),rfl⟩
   ·cases h
  |agg cs=>
   simp only[rd,acK]at h ⊢
   obtain⟨q,hq,rfl⟩:=h
   exact⟨q,qN hq (fun x _ q' hx hs=>abX hx (fun b hb=>ha b (hs b hb))),rfl⟩
  |iface t x=>
   simp only[rd,acK]at h ⊢
   obtain⟨q,hq,rfl⟩:=h
   exact⟨q,abX hq ha,rfl⟩
  |func fn a b=>cases a<;>cases b<;>first|exact h|(simp[rd]at h)
  |_=>first|exact h|(simp[rd]at h)
theorem ag3{g:HF}:∀{d e:Nat} {v:AV} {p:AV × List Nat},d≤e→rd d g v=some p→rd e g v=some p
 |0,e,v,p,_,h=>by simp[rd]at h
 |d+1,0,v,p,he,h=>by omega
 |d+1,e+1,v,p,he,h=>by
  have IH:∀x q,rd d g x=some q→rd e g x=some q:=fun x q hx=>ag3 (by omega) hx
  cases v with
  |slr st b r len=>
   simp only[rd,acZ]at h ⊢
   obtain⟨z,hz,h⟩:=h
   refine⟨z,hz,?_⟩
   split at h
   ·rename_i hq
    rw[if_pos hq]
    cases hfl:z.2.1 with
    |true=>rw[hfl]at h;exact h
    |false=>
     rw[hfl]at h
     simp only[cond_false,acK]at h ⊢
     obtain⟨q,hq',rfl⟩:=h
     exact⟨q,cF hq' (fun r' _ x _ q' hx _=>IH x q' hx),rfl⟩
   ·cases h
  |agg cs=>
   simp only[rd,acK]at h ⊢
   obtain⟨q,hq,rfl⟩:=h
   exact⟨q,qN hq (fun x _ q' hx _=>IH x q' hx),rfl⟩
  |iface t x=>
   simp only[rd,acK]at h ⊢
   obtain⟨q,hq,rfl⟩:=h
   exact⟨q,IH _ _ hq,rfl⟩
  |func fn a b=>cases a<;>cases b<;>first|exact h|(simp[rd]at h)
  |_=>first|exact h|(simp[rd]at h)
theorem rA{f:AV→Option (AV × List Nat)}{f':AV→Option AV}:∀{l:List AV} {p:List AV × List Nat},Xa f l=some p→(∀x∈l,∀q,f x=some q→f' x=some q.1)→Cb f' l=some p.1
 | [],p,h,_=>by simp[Xa]at h;subst h;rfl
 |a::l,p,h,hf=>by
  simp only[Xa,acZ,acK]at h
  obtain⟨q,hq,r,hr,rfl⟩:=h
  simp only[Cb,hf a (aiH ..) q hq,adD,rA hr (fun x hx=>hf x (ahZ _ hx)),al5]
theorem vS{f:AV→Option (AV × List Nat)}{f':AV→Option AV}:∀{l:List (List AV)} {p:List (List AV) × List Nat},Cj f l=some p→(∀r∈l,∀x∈r,∀q,f x=some q→f' x=some q.1)→Cb (Cb f') l=some p.1
 | [],p,h,_=>by simp[Cj]at h;subst h;rfl
 |a::l,p,h,hf=>by
  simp only[Cj,acZ,acK]at h
  obtain⟨q,hq,r,hr,rfl⟩:=h
  simp only[Cb,rA hq (fun x hx=>hf a (aiH ..) x hx),adD,vS hr (fun r' hr'=>hf r' (ahZ _ hr')),al5]
theorem aiD{g:HF}{b:Nat}{z:Nat × Bool × List (List AV)}(h:(g b).bind Ci=some z):Jl g b 0 z.2.2.length=some z:=by
 obtain⟨c,hc,hz⟩:=acZ.1 h
 unfold Jl
 rw[hc]
 cases c with
 |live st fl w rows=>simp[Ci]at hz;subst hz;simp
 |frz st fl rows=>simp[Ci]at hz;subst hz;simp
 |dead=>simp[Ci]at hz
 |lp=>simp[Ci]at hz
theorem yT{g:HF}:∀{d:Nat} {v:AV} {p:AV × List Nat},rd d g v=some p→Is d g v=some p.1
 |0,v,p,h=>by simp[rd]at h
 |d+1,v,p,h=>by
  cases v with
  |slr st b r len=>
   simp only[rd,acZ]at h
   obtain⟨z,hz,h⟩:=h
   split at h
   ·rename_i hq
    obtain⟨rfl,rfl,rfl⟩:=hq
    simp only[Is,aiD (acZ.2 hz),adD]
    cases hfl:z.2.1 with
    |true=>rw[hfl]at h;simp at h;rw[←h];rfl
    |false=>
     rw[hfl]at h
     simp only[cond_false,acK]at h
     obtain⟨q,hq',rfl⟩:=h
     simp[vS hq' (fun r' _ x _ q' hx=>yT hx)]
   ·cases h
  |agg cs=>
   simp only[rd,acK]at h
   obtain⟨q,hq,rfl⟩:=h
   simp[Is,rA hq (fun x _ q' hx=>yT hx)]
  |iface t x=>
   simp only[rd,acK]at h
   obtain⟨q,hq,rfl⟩:=h
   simp[Is,yT hq]
  |func fn a b=>cases a<;>cases b<;>first|(simp[rd]at h;subst h;rfl)|(simp[rd]at h)
  |_=>first|(simp[rd]at h;subst h;rfl)|(simp[rd]at h)
def Jm:Nat→(Nat→Option Nat)→AV→Option AV
 |0,_,_=>none
 |d+1,F,v=>
  match v with
  | .ptr b r o=>(F b).map fun b=>.ptr b r o
  | .slr st b r len=>(F b).map fun b=>.slr st b r len
  | .agg cs=>(Cb (Jm d F) cs).map .agg
  | .tup cs=>(Cb (Jm d F) cs).map .tup
  | .iface t x=>(Jm d F x).map (.iface t)
  | .func fn a b=>(Cb (Jm d F) a).bind fun a=>(Cb (Jm d F) b).map fun b=>.func fn a b
  | .yl b=>(F b).map .yl
  | .mapr b=>(F b).map .mapr
  | .itr b=>(F b).map .itr
  |v=>some v
def bg7(F:Nat→Option Nat)(g' g:HF):Prop:=∀i b,F i=some b→∀z,(g b).bind Ci=some z→
 ∃rows',(g' i).bind Ci=some (z.1,z.2.1,rows')∧(z.2.1=true→rows'=z.2.2)∧(z.2.1=false→Cb (Cb (Jm 8 F)) rows'=some z.2.2)
theorem cZ{α β:Type}{f:α→Option β}:∀{l:List α} {r:List β},Cb f l=some r→l.length=r.length
 | [],r,h=>by simp[Cb]at h;subst h;rfl
 |a::l,r,h=>by
  simp only[Cb,acZ,acK]at h
  obtain⟨b,_,bs,h2,rfl⟩:=h
  simp[cZ h2]
theorem sH{f f':AV→Option (AV × List Nat)}{F:AV→Option AV}{Z:Nat→Prop}:∀{l l':List AV} {p:List AV × List Nat},Cb F l'=some l→Xa f l=some p→
 (∀x' x q,F x'=some x→f x=some q→∃R',f' x'=some (q.1,R')∧R'.length=q.2.length∧∀i∈R',Z i)→∃R',Xa f' l'=some (p.1,R')∧R'.length=p.2.length∧∀i∈R',Z i
 |l,[],p,ho,h,_=>by
  simp[Cb]at ho;subst ho
  simp[Xa]at h;subst h
  exact⟨[],rfl,rfl,fun i h=>by cases h⟩
 |l,a'::l',p,ho,h,hf=>by
  simp only[Cb,acZ,acK]at ho
  obtain⟨a,ha,l1,hl1,rfl⟩:=ho
  simp only[Xa,acZ,acK]at h
  obtain⟨q,hq,r,hr,rfl⟩:=h
  obtain⟨R1,e1,e2,z1⟩:=hf a' a q ha hq
  obtain⟨R2,e3,e4,z2⟩:=sH hl1 hr hf
  exact⟨R1++R2,by simp[Xa,e1,e3],by simp[e2,e4],fun i hi=>(aiI.1 hi).elim (z1 i) (z2 i)⟩
theorem abN{f f':AV→Option (AV × List Nat)}{F:AV→Option AV}{Z:Nat→Prop}:∀{l l':List (List AV)} {p:List (List AV) × List Nat},Cb (Cb F) l'=some l→Cj f l=some p→
 (∀x' x q,F x'=some x→f x=some q→∃R',f' x'=some (q.1,R')∧R'.length=q.2.length∧∀i∈R',Z i)→∃R',Cj f' l'=some (p.1,R')∧R'.length=p.2.length∧∀i∈R',Z i
 |l,[],p,ho,h,_=>by
  simp[Cb]at ho;subst ho
  simp[Cj]at h;subst h
  exact⟨[],rfl,rfl,fun i h=>by cases h⟩
 |l,a'::l',p,ho,h,hf=>by
  simp only[Cb,acZ,acK]at ho
  obtain⟨a,ha,l1,hl1,rfl⟩:=ho
  simp only[Cj,acZ,acK]at h
  obtain⟨q,hq,r,hr,rfl⟩:=h
  obtain⟨R1,e1,e2,z1⟩:=sH ha hq hf
  obtain⟨R2,e3,e4,z2⟩:=abN hl1 hr hf
  exact⟨R1++R2,by simp[Cj,e1,e3],by simp[e2,e4],fun i hi=>(aiI.1 hi).elim (z1 i) (z2 i)⟩
theorem abV{F:Nat→Option Nat}{g' g:HF}(H:bg7 F g' g):∀{d e:Nat} {x' x:AV} {p:AV × List Nat},Jm e F x'=some x→rd d g x=some p→∃R',rd d g' x'=some (p.1,R')∧R'.length=p.2.length∧∀i∈R',∃b,F i=some b
 |0,e,x',x,p,_,h=>by simp[rd]at h
 |d+1,0,x',x,p,hx,_=>by simp[Jm]at hx
 |d+1,e+1,x',x,p,hx,h=>by
  have IH:∀e x' x q,Jm e F x'=some x→rd d g x=some q→∃R',rd d g' x'=some (q.1,R')∧R'.length=q.2.length∧∀i∈R',∃b,F i=some b:=fun e x' x q h1 h2=>abV H h1 h2
  cases x' with
  |slr st i r len=>
   simp only[Jm,acK]at hx
   obtain⟨b,hb,rfl⟩:=hx
   simp only[rd,acZ]at h
   obtain⟨z,hz,h⟩:=h
   split at h
   ·rename_i hq
    obtain⟨rows',k1,k2,k3⟩:=H i b hb z (acZ.2 hz)
    simp only[rd,k1,adD]
    cases hfl:z.2.1 with
    |true=>
     rw[hfl]at h;simp at h
     rw[if_pos ⟨hq.1,hq.2.1,by rw[k2 hfl];exact hq.2.2⟩,←h,k2 hfl]
     exact⟨[i],rfl,rfl,fun j hj=>by simp at hj;subst hj;exact⟨b,hb⟩⟩
    |false=>
     rw[hfl]at h
     simp only[cond_false,acK]at h
     obtain⟨q,hq',rfl⟩:=h
     have hl:=cZ (k3 hfl)
     rw[if_pos ⟨hq.1,hq.2.1,by rw[hl];exact hq.2.2⟩]
     obtain⟨R',e1,e2,z1⟩:=abN (f':=rd d g') (k3 hfl) hq' (fun x' x q h1 h2=>IH 8 x' x q h1 h2)
     exact⟨i::R',by simp[e1],by simp[e2],fun j hj=>(ah3.1 hj).elim (fun e=>e▸⟨b,hb⟩) (z1 j)⟩
   ·cases h
  |agg cs=>
   simp only[Jm,acK]at hx
   obtain⟨cs',hcs,rfl⟩:=hx
   simp only[rd,acK]at h
   obtain⟨q,hq,rfl⟩:=h
   obtain⟨R',e1,e2,z1⟩:=sH (f':=rd d g') hcs hq (fun x' x q h1 h2=>IH e x' x q h1 h2)
   exact⟨R',by simp[rd,e1],e2,z1⟩
  |iface t y=>
   simp only[Jm,acK]at hx
   obtain⟨y',hy,rfl⟩:=hx
   simp only[rd,acK]at h
   obtain⟨q,hq,rfl⟩:=h
   obtain⟨R',e1,e2,z1⟩:=IH e _ _ q hy hq
   exact⟨R',by simp[rd,e1],e2,z1⟩
  |func fn a b=>
   simp only[Jm,acZ,acK]at hx
   obtain⟨a1,ha,b1,hb,rfl⟩:=hx
   have la:=cZ ha
   have lb:=cZ hb
   cases a1 with
   |cons=>simp[rd]at h
   |nil=>
    cases b1 with
    |cons=>simp[rd]at h
    |nil=>
     simp at la lb
     obtain rfl:=la
     obtain rfl:=lb
     simp[rd]at h;subst h
     exact⟨[],rfl,rfl,fun i h=>by cases h⟩
  |ptr b r o=>
   simp only[Jm,acK]at hx
   obtain⟨b,hb,rfl⟩:=hx
   simp[rd]at h
  |tup cs=>
   simp only[Jm,acK]at hx
   obtain⟨b,hb,rfl⟩:=hx
   simp[rd]at h
  |yl b=>
   simp only[Jm,acK]at hx
   obtain⟨b,hb,rfl⟩:=hx
   simp[rd]at h
  |mapr b=>
   simp only[Jm,acK]at hx
   obtain⟨b,hb,rfl⟩:=hx
   simp[rd]at h
  |itr b=>
   simp only[Jm,acK]at hx
   obtain⟨b,hb,rfl⟩:=hx
   simp[rd]at h
  |imm=>simp[Jm]at hx;subst hx;simp[rd]at h
  |iptr=>simp[Jm]at hx;subst hx;simp[rd]at h
  |_=>simp[Jm]at hx;subst hx;simp[rd]at h;subst h;exact⟨[],rfl,rfl,fun i h=>by cases h⟩
end
noncomputable section
open Go.RowKit
section
variable {P:Program} {O:Hv} {pr:Oz}
def fnS(P:Program)(rs:List ResultVar)(x:R):Option (Gp × Ab):=
 match x with
 |some (.normal,s)|some (.ret,s)=>(bI P s rs).map fun vs=>(.ret (aJ vs),s.h)
 |some (.pan v,s)=>some (.pan v,s.h)
 |_=>none
theorem bdZ{f:Nat}{fn:Func}(hf:P.funcs[f]?=some fn){c:Code}(hb:fn.body=some c){args:List AV}(hl:args.length≤fn.ntmps)(h:Ab):
 evS O P f args h=fnS P fn.results.toList (Ej O P Tt c [] ⟨mk fn.ntmps (Eg args),h⟩):=by
 unfold evS
 simp only[hf,hb]
 rw[auT _ _ hl]
 cases Ej O P Tt c [] ⟨mk fn.ntmps (Eg args),h⟩with
 |none=>rfl
 |some x=>
  obtain⟨e,s⟩:=x
  cases e<;>rfl
def FnS(P:Program)(rs:List ResultVar)(Q:Gp→Ab→Prop)(x:R):Prop:=∃o h,fnS P rs x=some (o,h)∧Q o h
def RtS(vs:Option (List AV))(h:Ab)(Q:Gp→Ab→Prop):Prop:=
 match vs with
 |some vs=>Q (.ret (aJ vs)) h
 |none=>False
theorem axL(rs:List ResultVar)(Q:Gp→Ab→Prop)(t:List AV)(h:Ab):FnS P rs Q (some (.ret,⟨t,h⟩))=RtS (bI P ⟨t,h⟩ rs) h Q:=by
 cases hr:bI P ⟨t,h⟩ rs with
 |none=>simp[FnS,fnS,RtS,hr]
 |some vs=>
  have e:fnS P rs (some (.ret,⟨t,h⟩))=some (.ret (aJ vs),h):=by simp[fnS,hr]
  exact propext (Iff.intro (fun⟨o,h',e',q⟩=>by rw[e]at e';cases e';exact q) (fun q=>⟨_,_,e,q⟩))
theorem asN(rs:List ResultVar)(Q:Gp→Ab→Prop)(t:List AV)(h:Ab):FnS P rs Q (some (.normal,⟨t,h⟩))=RtS (bI P ⟨t,h⟩ rs) h Q:=by
 rw[←axL];rfl
theorem ay9(vs:List AV)(h:Ab)(Q:Gp→Ab→Prop):RtS (some vs) h Q=Q (.ret (aJ vs)) h:=acG rfl rfl
theorem avC{rs:List ResultVar}{Q:Gp→Ab→Prop}:¬FnS P rs Q none:=fun⟨_,_,h,_⟩=>by simp[fnS]at h
def ShQ(O:Hv)(f:Nat)(args:List AV)(h:Ab)(Q:Gp→Ab→Prop):Prop:=∃o h',O.call (.sh f) args h=some (o,h')∧Q o h'
theorem ShQ.start{f:Nat}{fn:Func}{c:Code}{args:List AV}{h:Ab}{Q:Gp→Ab→Prop}(hp:pr f=none)(hf:P.funcs[f]?=some fn)(hb:fn.body=some c)(hl:Nat.ble args.length fn.ntmps=true)
 (he:FnS P fn.results.toList Q (Ej (om P pr) P 5000 c [] ⟨mk fn.ntmps (Eg args),h⟩)) (hs:pr.sh f=none:=by exact rfl):ShQ (om P pr) f args h Q:=by
 obtain⟨o,h',e,q⟩:=he
 exact⟨o,h',baW hp hs ((bdZ hf hb (Nat.le_of_ble_eq_true hl) h).trans e),q⟩
def ncK(x:Option AV):OE:=
 match x with
 |some (.ptr b r o)=>some (.ret (.ptr b r o),[])
 |some (.iptr cs)=>some (.ret (.iptr cs),[])
 |some (.func (.func f) a c)=>some (.ret (.func (.func f) a c),[])
 |_=>none
theorem bh7(b r o:Nat):ncK (some (.ptr b r o))=some (.ret (.ptr b r o),[]):=acG rfl rfl
theorem bj2(t:List AV)(h:Ab)(x:Operand):Hn O P t h (.nilCheck x)=ncK (Ai t x):=by
 rw[En _ _ _ rfl]
 simp only[exec,ncK]
 cases Ai t x with
 |none=>rfl
 |some v=>
  cases v with
  |func fn a c=>cases fn<;>rfl
  |_=>rfl
theorem bkA(t:List AV)(h:Ab)(x:Operand):uT O P t h (.nilCheck x)=some []:=acG rfl rfl
end
def EVq:=PLift.up (acE @axL (acE @asN (acE @ay9 (acE @bh7 (acE @bj2 @bkA)))))
end
noncomputable section
open Go.RowKit
section
variable {P:Program} {O:Hv}
end
def Wc(k st:Nat)(fl:Bool)(rows:List (List AV))(v:AV)(g:Ab):Prop:=
 (rows=[]∧v=.nils)∨∃b w,v=.slr st (b+k) 0 rows.length∧g[b]?=some (.live st fl w rows)
def kl(k:Nat)(v:AV)(g:Ab):Ab:=
 match v with
 | .slr _ b _ _=>g.set (b-k) .dead
 |_=>g
theorem Wc.nil(k st:Nat)(fl:Bool)(g:Ab):Wc k st fl [] .nils g:=.inl ⟨rfl,rfl⟩
theorem Wc.blk{k st:Nat}{fl w:Bool}{rows:List (List AV)}{g:Ab}{b n c:Nat}(h:g[b]?=some (.live st fl w rows))(hc:c=b+k)(hn:n=rows.length):Wc k st fl rows (.slr st c 0 n) g:=by
 subst hc hn;exact .inr ⟨b,w,rfl,h⟩
theorem Wc.app{k st:Nat}{fl:Bool}{rows:List (List AV)}{v:AV}{g:Ab}(h:Wc k st fl rows v g)(l:Ab):Wc k st fl rows v (g++l):=by
 rcases h with h|⟨b,w,h1,h2⟩
 ·exact .inl h
 ·exact .inr ⟨b,w,h1,by rw[al3 (aiC.1 h2).1];exact h2⟩
theorem Jq(k:Nat)(v:AV)(g:Ab):(kl k v g).length=g.length:=by
 unfold kl;split<;>simp
theorem as2{k:Nat}{v:AV}{g:Ab}(h:Bc g=true):Bc (kl k v g)=true:=by
 unfold kl
 split
 ·simp only[Bc,amP]at h ⊢
  intro c hc
  rcases atB hc with h1|rfl
  ·exact h c h1
  ·rfl
 ·exact h
def apE(v:AV)(st:Nat)(fl:Bool)(rows:List (List AV))(base:Nat):List Ag:=
 match v with
 | .slr _ b _ _=>[.put b .dead,.new base (.live st fl false rows)]
 |_=>[.new base (.live st fl false rows)]
theorem fW{k n:Nat}{fl:Bool}{rows:List (List AV)}{v:AV}{g:Ab}(ho:Wc k n fl rows v g){pre:Ab}(hk:pre.length=k)(l:Ab)(r:List AV)(new:List (List AV))(hl:rows.length+(new.length+1)≤549755813888):
 apK n (pre++(g++l)) (some v) (some (fl,r::new))=some (.ret (.slr n (pre++(g++l)).length 0 (rows.length+(r::new).length)),apE v n fl (rows++r::new) (pre++(g++l)).length):=by
 rcases ho with⟨rfl,rfl⟩|⟨b,w,rfl,h2⟩
 ·rw[anH,if_pos (by simp at hl ⊢;omega)]
  simp[apE]
 ·have hb:=(aiC.1 h2).1
  have hq:(pre++(g++l))[b+k]?=some (.live n fl w rows):=by
   rw[apC (by omega),al3 (by omega)]
   rw[show b+k-pre.length=b by omega];exact h2
  rw[am6,hq,ak4,if_pos ⟨rfl,by omega,by simp only[al6];omega⟩]
  simp[apE]
theorem jG{k n:Nat}{fl:Bool}{rows:List (List AV)}{v:AV}{g:Ab}(ho:Wc k n fl rows v g){pre:Ab}(hk:pre.length=k)(l:Ab)(st:Nat)(fl':Bool)(rows':List (List AV))(base:Nat):
 Dm (pre++(g++l)) (apE v st fl' rows' base)=pre++(kl k v g++(l++[.live st fl' false rows'])):=by
 rcases ho with⟨rfl,rfl⟩|⟨b,w,rfl,h2⟩
 ·simp[apE,Dm,Xf,kl]
 ·have hb:=(aiC.1 h2).1
  simp only[apE,Dm,Xf,kl,Nat.add_sub_cancel]
  rw[List.set_append_right _ _ (by omega),show b+k-pre.length=b by omega,List.set_append_left _ _ hb]
  simp
def pkd(O:Hv)(f:Nat)(args:List AV):Prop:=yP args=true→(eA args||O.md f)=false
theorem axU{O:Hv}{f:Nat}{args:List AV}(h:yP args=false):pkd O f args:=fun k=>by rw[h]at k;cases k
theorem Xl{O:Hv}{f:Nat}{args:List AV}(h:(eA args||O.md f)=false):pkd O f args:=fun _=>h
theorem ax0{O:Hv}{h:Ab}{f:Nat}{args:List AV}(hd:pkd O f args):cl O h (some (.func (.func f) [] [])) (some args)=cr (Fh O (hf h) h.length (.fn f) args):=by
 rw[apF]
 simp only[apH,asX]
 split
 ·rename_i hh
  unfold shC
  rw[hd hh];simp only[Bool.false_eq_true,if_false]
 ·rfl
def aAX(a:Int)(i:Nat):Int:=a.fdiv (2 ^ (min i 64))
def bhV(a:Int):Int:=IntKind.i64.wrap ((BitVec.ofInt 64 a&&&BitVec.ofInt 64 1).toNat:Int)
def alF(n:Nat):Int:=IntKind.i64.wrap (1*2 ^ (min n 64))
section
variable {P:Program} (ty:TypeId)
theorem bg3(a:Int)(i:Nat):Pn P .shr ty (.int .i64 a) (.int .i64 (i:Int))=some (.int .i64 (aAX a i)):=by
 simp[Pn,aAX,IntKind.bits]
theorem bgK(a:Int):Pn P .and ty (.int .i64 a) (.int .i64 1)=some (.int .i64 (bhV a)):=by
 show(if IntKind.i64=IntKind.i64 then Lq .and .i64 a 1 else none)=_
 rw[if_pos rfl];rfl
theorem bhJ(n:Nat):Pn P .shl ty (.int .i64 1) (.int .i64 (n:Int))=some (.int .i64 (alF n)):=by
 simp[Pn,alF,IntKind.bits]
end
def EVr:=PLift.up (acE @bg3 (acE @bgK @bhJ))
end
noncomputable section
open Go.RowKit
section
variable {P:Program} {O:Hv} {pr:Oz}
def rnX(O:Hv)(P:Program)(n:Nat)(k:List Be)(t:List AV)(b:Nat)(h2:Ab)(x:Option CB):R:=
 match x with
 |some (.lp _ _ _ _ .ready)=>Ei (Ej O P n) k .normal ⟨t,h2.set b .dead⟩
 |some (.lp _ _ _ _ (.done .ret))=>Ei (Ej O P n) k .ret ⟨t,h2.set b .dead⟩
 |some (.lp _ _ _ _ (.done (.exit i)))=>Ei (Ej O P n) k (.exit i) ⟨t,h2.set b .dead⟩
 |_=>none
def rnE(O:Hv)(P:Program)(n:Nat)(k:List Be)(t:List AV)(b:Nat)(h1:Ab)(x:OE):R:=
 match x with
 |some (.ret _,es)=>rnX O P n k t b (Dm h1 es) ((Dm h1 es)[b]?)
 |_=>none
def rnC(O:Hv)(h1:Ab)(b:Nat)(fv:Option AV):OE:=
 match fv with
 |some (.func (.func g) a c)=>cr (Iq O (hf h1) h1.length (eG g (a++[.yl b]++c)) (a++[.yl b]++c))
 |_=>none
theorem bkQ(n:Nat)(k:List Be)(t:List AV)(b:Nat)(h1:Ab)(x:Option Uf):
 (x.bind fun d=>match d.out with
   | .ret _=>
     let h2:=Dm h1 d.es
     match h2[b]? with
     |some (.lp _ _ _ _ .ready)=>Ei (Ej O P n) k .normal ⟨t,h2.set b .dead⟩
     |some (.lp _ _ _ _ (.done .ret))=>Ei (Ej O P n) k .ret ⟨t,h2.set b .dead⟩
     |some (.lp _ _ _ _ (.done (.exit i)))=>Ei (Ej O P n) k (.exit i) ⟨t,h2.set b .dead⟩
     |_=>none
   | .pan _=>none)=rnE O P n k t b h1 (cr x):=by
 cases x with
 |none=>rfl
 |some d=>
  obtain⟨o,es,fs⟩:=d
  cases o<;>rfl
theorem be7(n:Nat)(f:Operand)(ps:Array Nat)(asg body:Code)(k:List Be)(t:List AV)(h:Ab):
 Ej O P (n+1) (.rangeFunc f ps asg body) k ⟨t,h⟩=rnE O P n k t h.length (h++[.lp ps.toList asg body t .ready]) (rnC O (h++[.lp ps.toList asg body t .ready]) h.length (Ai t f)):=by
 simp only[Ej,rnC]
 cases Ai t f with
 |none=>rfl
 |some v=>
  simp only[adD]
  cases v with
  |func fn a c=>
   cases fn with
   |func g=>exact bkQ n k t h.length _ _
   |_=>rfl
  |_=>rfl
theorem bgR(h1:Ab)(b g:Nat)(a c:List AV):rnC O h1 b (some (.func (.func g) a c))=if yP (a++[.yl b]++c)=true then shC O h1 g (a++[.yl b]++c)else cr (Fh O (hf h1) h1.length (.fn g) (a++[.yl b]++c)):=am2 h1 g _
theorem a2J(n:Nat)(k:List Be)(t:List AV)(b:Nat)(h1:Ab)(v:AV)(es:List Ag):rnE O P n k t b h1 (some (.ret v,es))=rnX O P n k t b (Dm h1 es) ((Dm h1 es)[b]?):=acG rfl rfl
theorem arT(n:Nat)(k:List Be)(t:List AV)(b:Nat)(h2:Ab)(ps:List Nat)(asg body:Code)(tm:List AV):rnX O P n k t b h2 (some (.lp ps asg body tm .ready))=Ei (Ej O P n) k .normal ⟨t,h2.set b .dead⟩:=acG rfl rfl
def slK(h:Ab)(b:Nat)(ok:Uw→Bool)(st:Uw)(x:Option CB):Option Ab:=
 match x with
 |some (.lp ps asg body tmps st')=>if ok st' then some (h.set b (.lp ps asg body tmps st))else none
 |_=>none
theorem bkL(h:Ab)(b:Nat)(ok:Uw→Bool)(st:Uw):Za h b ok st=slK h b ok st (h[b]?):=by
 unfold Za slK
 cases h[b]? with
 |none=>rfl
 |some c=>cases c<;>rfl
theorem atD(h:Ab)(b:Nat)(st:Uw)(ps:List Nat)(asg body:Code)(tm:List AV):slK h b Uw.isReady st (some (.lp ps asg body tm .ready))=some (h.set b (.lp ps asg body tm st)):=acG rfl rfl
theorem a2G(h:Ab)(b:Nat)(st:Uw)(ps:List Nat)(asg body:Code)(tm:List AV):slK h b Uw.isBusy st (some (.lp ps asg body tm .busy))=some (h.set b (.lp ps asg body tm st)):=acG rfl rfl
def aAK(O:Hv)(P:Program)(body:Code)(t:List AV)(x:Option Ab):R:=
 match x with
 |some h1=>Ej O P 5000 body [] ⟨t,h1⟩
 |none=>none
def avG(O:Hv)(P:Program)(b:Nat)(body:Code)(x:R):R:=
 match x with
 |some (.normal,s)=>aAK O P body s.tmps (Za s.h b Uw.isReady .busy)
 |_=>none
def akT(r:Bool)(x:Option Ab):Option (Gp × Ab):=x.map fun h2=>(.ret (.bool r),h2)
def ar7(b:Nat)(x:R):Option (Gp × Ab):=
 match x with
 |some (.normal,s)=>akT true (Za s.h b Uw.isBusy .ready)
 |some (.ret,s)=>akT false (Za s.h b Uw.isBusy (.done .ret))
 |some (.exit i,s)=>akT false (Za s.h b Uw.isBusy (.done (.exit i)))
 |_=>none
theorem ar9(body:Code)(t:List AV)(h:Ab):aAK O P body t (some h)=Ej O P 5000 body [] ⟨t,h⟩:=acG rfl rfl
theorem ai0(b:Nat)(body:Code)(t:List AV)(h:Ab):avG O P b body (some (.normal,⟨t,h⟩))=aAK O P body t (Za h b Uw.isReady .busy):=acG rfl rfl
theorem arR(r:Bool)(h:Ab):akT r (some h)=some (.ret (.bool r),h):=acG rfl rfl
theorem ayG{vs:List AV}{b:Nat}{h:Ab}{ps:List Nat}{asg body:Code}{tm:List AV}{st:Uw}(hb:h[b]?=some (.lp ps asg body tm st))(hl:ps.length=vs.length):
 Wn O P (vs++[.yl b]) h=ar7 b (avG O P b body (Ej O P 5000 asg [] ⟨Zu tm ps vs,h⟩)):=by
 unfold Wn
 simp only[List.reverse_append,List.reverse_cons,List.reverse_nil,apH,List.cons_append,List.reverse_reverse,List.length_reverse,hb,hl,if_true,Tt]
 cases Ej O P 5000 asg [] ⟨Zu tm ps vs,h⟩with
 |none=>rfl
 |some x=>
  obtain⟨e,s⟩:=x
  cases e with
  |normal=>
   simp only[adD,avG]
   cases Za s.h b Uw.isReady .busy with
   |none=>rfl
   |some h1=>
    simp only[adD,aAK]
    cases Ej O P 5000 body [] ⟨s.tmps,h1⟩with
    |none=>rfl
    |some y=>
     obtain⟨e,s⟩:=y
     cases e with
     |normal=>simp only[adD,Yt,ar7,akT];cases Za s.h b Uw.isBusy .ready<;>rfl
     |ret=>simp only[adD,Yt,ar7,akT];cases Za s.h b Uw.isBusy (.done .ret)<;>rfl
     |exit i=>simp only[adD,Yt,ar7,akT];cases Za s.h b Uw.isBusy (.done (.exit i))<;>rfl
     |pan v=>rfl
  |_=>rfl
def RnE(b:Nat)(Q:Gp→Ab→Prop)(x:R):Prop:=∃o h',ar7 b x=some (o,h')∧Q o h'
def RnQ(O:Hv)(args:List AV)(h:Ab)(Q:Gp→Ab→Prop):Prop:=∃o h',O.call .round args h=some (o,h')∧Q o h'
theorem RnQ.start{vs:List AV}{b:Nat}{h:Ab}{ps:List Nat}{asg body:Code}{tm:List AV}{st:Uw}{Q:Gp→Ab→Prop}(hb:h[b]?=some (.lp ps asg body tm st))(hl:ps.length=vs.length)
 (he:RnE b Q (avG (om P pr) P b body (Ej (om P pr) P 5000 asg [] ⟨Zu tm ps vs,h⟩))):RnQ (om P pr) (vs++[.yl b]) h Q:=by
 obtain⟨o,h',e,q⟩:=he
 exact⟨o,h',akL ((ayG hb hl).trans e),q⟩
theorem bgP{C:R→Prop}{n f b:Nat}{k:List Be}{t:List AV}{h1 h2:Ab}{args:List AV}{Q:Gp→Ab→Prop}(hq:ShQ O f args h2 Q)(hk:∀o h',Q o h'→C (rnE O P n k t b h1 (shK h1 (some (o,h'))))):C (rnE O P n k t b h1 (shK h1 (O.call (.sh f) args h2))):=by
 obtain⟨o,h',e,q⟩:=hq
 rw[e];exact hk o h' q
theorem aqU(b:Nat)(Q:Gp→Ab→Prop)(t:List AV)(h:Ab):RnE b Q (some (.normal,⟨t,h⟩))=∃o h',akT true (Za h b Uw.isBusy .ready)=some (o,h')∧Q o h':=acG rfl rfl
theorem aBM(h:Ab)(f:Nat)(args:List AV):amJ O h f args=if(eA args||O.md f)=true then some [.all]else if args.all (Cc 8)=true then some []else ftR h args:=acG rfl rfl
theorem auM{b:Nat}{Q:Gp→Ab→Prop}:¬RnE b Q none:=fun⟨_,_,h,_⟩=>by simp[ar7]at h
theorem az3(n:Nat)(t:Tm)(p:Nat)(ps:List Nat)(v:AV)(vs:List AV):Zu (mk n t) (p::ps) (v::vs)=Zu (mk n (up t p v)) ps vs:=by
 simp only[Zu,ay1]
theorem bf6(n:Nat)(t:Tm)(vs:List AV):Zu (mk n t) [] vs=mk n t:=by cases vs<;>rfl
end
def mfF(f:Nat→Nat):Fq→Fq
 | .cells b o n=>.cells (f b) o n
 | .blk b=>.blk (f b)
 | .all=>.all
def lgF(f:Nat→Nat)(log:iS):List (List Fq × List Fq):=log.map fun x=>(x.1.map fun e=>mfF f e.foot,x.2.map (mfF f))
def anZ(x y:List Fq × List Fq):Bool:=x.1.any (fun f=>(y.1++y.2).any f.meets)||y.1.any (fun f=>x.2.any f.meets)
def a8R(ops:List Oper)(lg:List (List Fq × List Fq)):Bool:=
 (vF ops).all fun(i,j)=>match lg[i]?,lg[j]? with
   |some x,some y=> !anZ x y
   |_,_=>false
theorem alH(f:Nat→Nat)(x y:Fq)(h:x.meets y=true):(mfF f x).meets (mfF f y)=true:=by
 cases x<;>cases y<;>simp_all[Fq.meets,mfF]
theorem auR(f:Nat→Nat)(x y:List Ag × List Fq)(h:Zw x y=true):anZ (x.1.map fun e=>mfF f e.foot,x.2.map (mfF f)) (y.1.map fun e=>mfF f e.foot,y.2.map (mfF f))=true:=by
 simp only[Zw,anZ,Bool.or_eq_true,List.any_eq_true,aiI,aiK]at h ⊢
 rcases h with⟨a,⟨e,he,rfl⟩,b,hb,hm⟩|⟨a,⟨e,he,rfl⟩,b,hb,hm⟩
 ·refine .inl ⟨_,⟨e,he,rfl⟩,mfF f b,?_,alH f _ _ hm⟩
  rcases hb with⟨e',he',rfl⟩|hb
  ·exact .inl ⟨e',he',rfl⟩
  ·exact .inr ⟨b,hb,rfl⟩
 ·exact .inr ⟨_,⟨e,he,rfl⟩,mfF f b,⟨b,hb,rfl⟩,alH f _ _ hm⟩
theorem Up(f:Nat→Nat){ops:List Oper}{log:iS}(h:a8R ops (lgF f log)=true):Iy ops log=true:=by
 simp only[a8R,Iy,amP]at h ⊢
 rintro⟨i,j⟩ hij
 have:=h (i,j) hij
 simp only[lgF,an5]at this ⊢
 cases hi:log[i]? with
 |none=>simp[hi]at this
 |some x=>
  cases hj:log[j]? with
  |none=>simp[hi,hj]at this
  |some y=>
   simp only[hi,hj,al5,Bool.not_eq_true',Bool.not_eq_eq_eq_not]at this ⊢
   cases hc:Zw x y with
   |false=>rfl
   |true=>rw[auR f x y hc]at this;cases this
theorem Zq(f:Nat→Nat):lgF f []=[]:=acG rfl rfl
theorem Ul(f:Nat→Nat)(x:List Ag)(y:List Fq)(l:iS):lgF f ((x,y)::l)=(x.map (fun e=>mfF f e.foot),y.map (mfF f))::lgF f l:=acG rfl rfl
theorem Qd(f:Nat→Nat)(b o n:Nat):mfF f (.cells b o n)=.cells (f b) o n:=acG rfl rfl
theorem Zo(f:Nat→Nat)(b:Nat):mfF f (.blk b)=.blk (f b):=acG rfl rfl
theorem Zk(b:Nat)(c:CB):Ag.foot (.new b c)=.blk b:=acG rfl rfl
theorem Zh(b:Nat)(c:CB):Ag.foot (.put b c)=.blk b:=acG rfl rfl
theorem Qc(b r o:Nat)(vs:List AV):Ag.foot (.cells b r o vs)=.cells b o vs.length:=acG rfl rfl
section
variable {P:Program} {O:Hv}
theorem au1(t:List AV)(h:Ab)(ty:TypeId)(x i:Operand):Hn O P t h (.index ty x i)=r1 ((Ai t x).bind fun x=>(Ai t i).bind fun i=>Zm P ty x i):=by
 rw[En _ _ _ rfl]
 simp only[exec]
 cases Ai t x with
 |none=>rfl
 |some a=>
  cases Ai t i with
  |none=>rfl
  |some b=>exact Lj _
end
def EVs:=PLift.up (acE @be7 (acE @bgR (acE @a2J (acE @arT (acE @bkL (acE @atD (acE @a2G (acE @ar9 (acE @ai0 (acE @arR (acE @aqU (acE @az3 (acE @aBM (acE @au1 @bf6))))))))))))))
end
noncomputable section
open Go.RowKit
set_option maxRecDepth 100000
def EVZ:=PLift.up (acE EVa.down (acE EVb.down (acE EVc.down (acE EVd.down (acE EVe.down (acE EVf.down (acE EVg.down (acE EVh.down (acE EVi.down (acE EVj.down (acE EVk.down (acE EVl.down (acE EVm.down (acE EVn.down (acE EVo.down (acE EVp.down EVq.down))))))))))))))))
section
variable {P:Program} {O:Hv}
class NoN(C:R→Prop):Prop where
 no:¬C none
instance{q:Nat}{rs:List ResultVar}{Q:Gp→Ab→Prop}:NoN (FnE P q rs Q):=⟨av8⟩
instance{rs:List ResultVar}{Q:Gp→Ab→Prop}:NoN (FnS P rs Q):=⟨avC⟩
instance{N:Nat}{J:Tm→Ab→Prop}{Q:Ex→St→Prop}:NoN (Rnd N J Q):=⟨avN⟩
instance{b:Nat}{Q:Gp→Ab→Prop}:NoN (RnE b Q):=⟨auM⟩
end
end
noncomputable section
open Go.RowKit
set_option maxRecDepth 100000
section
variable {P:Program} {O:Hv}
class Spl(r:R)(b:outParam Bool)(x y:outParam R):Prop where
 sp:∀{C:R→Prop},(b=true→C x)→(b=false→C y)→C r
instance{n:Nat}{k:List Be}{d:Option Nat}{op:Op}{cs:List CO}{b w:Bool}{t:List AV}{h:Ab}:Spl (rcG O P n k d op cs (.bool b) w t h) b (rcG O P n k d op cs (.bool true) w t h) (rcG O P n k d op cs (.bool false) w t h):=⟨bi8⟩
instance{n:Nat}{x y:Code}{k:List Be}{g:Bool}{s:St}:Spl (cdK O P n x y k (some (.bool g)) s) g (Ej O P n x k s) (Ej O P n y k s):=⟨bk3⟩
instance{n:Nat}{k:List Be}{d:Option Nat}{op:Op}{cs:List CO}{b w:Bool}{t:List AV}{h:Ab}:Spl (rqG O P n k d op cs (.bool b) w t h) b (rqG O P n k d op cs (.bool true) w t h) (rqG O P n k d op cs (.bool false) w t h):=⟨bkC⟩
instance{n:Nat}{k:List Be}{d:Option Nat}{op:Op}{cs:List CO}{b w:Bool}{t:List AV}{h:Ab}:Spl (rwG O P n k d op cs (.bool b) w t h) b (rwG O P n k d op cs (.bool true) w t h) (rwG O P n k d op cs (.bool false) w t h):=⟨bkK⟩
instance{n:Nat}{k:List Be}{ops:List Oper}{d:Option Nat}{op:Op}{cs:List CO}{b w:Bool}{t:List AV}{h:Ab}{log:iS}:Spl (rlG O P n k ops d op cs (.bool b) w t h log) b (rlG O P n k ops d op cs (.bool true) w t h log) (rlG O P n k ops d op cs (.bool false) w t h log):=⟨bj5⟩
theorem Aq{C:R→Prop}{r x y:R}{b:Bool}(h1:b=true→C x)(h2:b=false→C y)(s:Spl r b x y:=by infer_instance):C r:=s.sp h1 h2
class Drw(i:Nat)(r:R)(c:outParam Bool)(r':outParam R):Prop where
 dr:∀{C:R→Prop},¬C none→c=true→C r'→C r
instance{b:Bool}{k:R}:Drw 0 (Np b k) b k:=⟨fun _=>bbB⟩
instance{n id:Nat}{ops:Array Oper}{k:List Be}{t:List AV}{h:Ab}:Drw 1 (Ej O P (n+1) (.region id ops true) k ⟨t,h⟩) (Yc ops.toList&&ao2 ops.toList) (rw O P n k (ops.toList.map (Nr ops.toList)) t h):=⟨fun h=>bk9 h⟩
instance{n id:Nat}{ops:Array Oper}{k:List Be}{t:List AV}{h:Ab}:Drw 2 (Ej O P (n+1) (.region id ops true) k ⟨t,h⟩) (Yc ops.toList&&bjX ops.toList) (rq O P n k (ops.toList.map (Nr ops.toList)) t h):=⟨fun h=>bjN h⟩
instance{n id:Nat}{ops:Array Oper}{k:List Be}{t:List AV}{h:Ab}:Drw 3 (Ej O P (n+1) (.region id ops true) k ⟨t,h⟩) (Yc ops.toList) (rl O P n k ops.toList (ops.toList.map (Nr ops.toList)) t h []):=⟨fun h=>biY h⟩
structure Dw(r r':R):Prop where
 dr:∀{C:R→Prop},¬C none→C r'→C r
theorem dg{r r':R}{c:Bool}[d:Drw 0 r c r'](h:c=true:=by kernel_rfl):Dw r r':=⟨fun n k=>d.dr n h k⟩
theorem dw(i:Nat){r r':R}{c:Bool}[d:Drw i r c r'](h:c=true:=by decide+kernel):Dw r r':=⟨fun n k=>d.dr n h k⟩
theorem fd{C:R→Prop}{r r':R}[n:NoN C](k:C r')(e:Dw r r':=by first|exact dg|exact dw 1|exact dw 2|exact dw 3):C r:=e.dr n.no k
theorem fdq{C:R→Prop}{r r':R}[n:NoN C](k:C r')(e:Dw r r':=by first|exact dw 1|exact dw 2|exact dw 3):C r:=e.dr n.no k
end
section
variable {P:Program} {O:Hv}
def Un(O:Hv)(P:Program)(n:Nat)(k:List Be)(c:Code)(C:R→Prop):R→Prop
 |some (.normal,s)=>C (lpK O P n k (O.loop c s))
 |some (e,s)=>C (Ei (Ej O P n) k e s)
 |none=>False
theorem aqZ(n:Nat)(k:List Be)(c:Code)(C:R→Prop)(s:St):Un O P n k c C (some (.normal,s))=C (lpK O P n k (O.loop c s)):=acG rfl rfl
theorem az4(n:Nat)(k:List Be)(c:Code)(C:R→Prop)(i:Nat)(s:St):Un O P n k c C (some (.exit i,s))=C (Ei (Ej O P n) k (.exit i) s):=acG rfl rfl
theorem bcK(n:Nat)(k:List Be)(c:Code)(C:R→Prop)(s:St):Un O P n k c C (some (.ret,s))=C (Ei (Ej O P n) k .ret s):=acG rfl rfl
instance{n:Nat}{k:List Be}{c:Code}{C:R→Prop}:NoN (Un O P n k c C):=⟨fun h=>h⟩
theorem a6W{pr:Oz}{C:R→Prop}[N:NoN C]{n:Nat}{k:List Be}{c:Code}{s:St}(h:Un (om P pr) P n k c C (Ej (om P pr) P 5000 c [] s)):C (lpK (om P pr) P n k ((om P pr).loop c s)):=by
 cases hm:Ej (om P pr) P 5000 c [] s with
 |none=>rw[hm]at h;exact h.elim
 |some x=>
  obtain⟨e,s'⟩:=x
  rw[hm]at h
  cases e with
  |normal=>
   replace h:C (lpK (om P pr) P n k ((om P pr).loop c s')):=h
   cases hl:(om P pr).loop c s' with
   |none=>rw[hl]at h;exact(N.no h).elim
   |some y=>
    obtain⟨e,s''⟩:=y
    rw[hl]at h
    rw[gC hm hl];exact h
  |exit i=>rw[Lu hm (by simp)];exact h
  |ret=>rw[Lu hm (by simp)];exact h
  |pan v=>rw[Lu hm (by simp)];exact h
end
theorem avD:IntKind.i64.wrap 1=1:=acG rfl rfl
def EE:=PLift.up (acE EVZ.down (acE @avD (acE @aqZ (acE @az4 (acE @bcK (acE @Nr.eq_1 (acE @Ai.eq_1 (acE @Ai.eq_2 (acE @Ai.eq_4 (acE @Dt.eq_1 (acE @Dt.eq_2 (acE @aeB.eq_3 (acE @nA.eq_1 (acE @nA.eq_2 (acE @nA.eq_5 (acE @nA.eq_6 (acE @nA.eq_8 (acE @Dm.eq_1 (acE @Dm.eq_2 (acE @Xf.eq_1 (acE @Xf.eq_2 (acE @Xf.eq_3 (acE @Ua.eq_1 (acE @Ff.eq_1 (acE @bsK.eq_1 (acE @aJ.eq_1 (acE @aJ.eq_2 (acE @decide_true @decide_false))))))))))))))))))))))))))))
def EF:=PLift.up (acE EE.down EVr.down)
def EG:=PLift.up (acE EF.down EVs.down)
end
noncomputable section
open Go.RowKit
def On(m:List Nat)(F:Nat→Option Nat):Prop:=∀i b,m[i]?=some b→F i=some b
theorem On.mono{m m':List Nat}{F:Nat→Option Nat}(h:On m' F)(hp:m <+:m'):On m F:=fun _ _ hi=>h _ _ (Xz hp hi)
structure Gd(m m' R:List Nat):Prop where
 pre:m <+:m'
 nd:m.Nodup→m'.Nodup
 sub:∀b∈m',b∈m∨b∈R
theorem Gd.refl(m R:List Nat):Gd m m R:=⟨atX _,id,fun _ h=>.inl h⟩
theorem Gd.trans{m m1 m2 R1 R2 R:List Nat}(h1:Gd m m1 R1)(h2:Gd m1 m2 R2)(k1:∀b∈R1,b∈R)(k2:∀b∈R2,b∈R):Gd m m2 R:=
 ⟨h1.pre.trans h2.pre,fun h=>h2.nd (h1.nd h),fun b hb=>(h2.sub b hb).elim (fun h=>(h1.sub b h).imp id (k1 b)) (fun h=>.inr (k2 b h))⟩
theorem auB(m:List Nat)(b:Nat){R:List Nat}(hb:b∈R):Gd m (Nq m b).2 R:=by
 refine⟨(Sr m b).2.1,(Sr m b).2.2,fun x hx=>?_⟩
 unfold Nq at hx
 split at hx
 ·exact .inl hx
 ·rcases aiI.1 hx with h|h
  ·exact .inl h
  ·simp at h;subst h;exact .inr hb
def Sp(e:Nat)(x:AV)(R:List Nat):Prop:=∀m,∃x' m',Fa e m x=some (x',m')∧Gd m m' R∧∀F,On m' F→Jm e F x'=some x
def SpL(e:Nat)(l:List AV)(R:List Nat):Prop:=∀m,∃l' m',Fa.refL (Fa e) m l=some (l',m')∧Gd m m' R∧∀F,On m' F→Cb (Jm e F) l'=some l
def SpR(l:List (List AV))(R:List Nat):Prop:=∀m,∃l' m',Ql m l=some (l',m')∧Gd m m' R∧∀F,On m' F→Cb (Cb (Jm 8 F)) l'=some l
theorem spL{f:AV→Option (AV × List Nat)}{e:Nat}:∀{l:List AV} {p:List AV × List Nat},Xa f l=some p→(∀x∈l,∀q,f x=some q→Sp e x q.2)→SpL e l p.2
 | [],p,h,_=>fun m=>⟨[],m,rfl,Gd.refl _ _,fun _ _=>rfl⟩
 |a::l,p,h,hf=>fun m=>by
  simp only[Xa,acZ,acK]at h
  obtain⟨q,hq,r,hr,rfl⟩:=h
  obtain⟨x',m1,e1,g1,k1⟩:=hf a (aiH ..) q hq m
  obtain⟨l',m2,e2,g2,k2⟩:=spL hr (fun x hx=>hf x (ahZ _ hx)) m1
  refine⟨x'::l',m2,by simp[Fa.refL,e1,e2],g1.trans g2 (fun _ h=>anC _ h) (fun _ h=>anF _ h),fun F hF=>?_⟩
  simp[Cb,k1 F (hF.mono g2.pre),k2 F hF]
theorem spR{f:AV→Option (AV × List Nat)}:∀{l:List (List AV)} {p:List (List AV) × List Nat},Cj f l=some p→(∀r∈l,∀x∈r,∀q,f x=some q→Sp 8 x q.2)→SpR l p.2
 | [],p,h,_=>fun m=>⟨[],m,rfl,Gd.refl _ _,fun _ _=>rfl⟩
 |a::l,p,h,hf=>fun m=>by
  simp only[Cj,acZ,acK]at h
  obtain⟨q,hq,r,hr,rfl⟩:=h
  obtain⟨x',m1,e1,g1,k1⟩:=spL hq (hf a (aiH ..)) m
  obtain⟨l',m2,e2,g2,k2⟩:=spR hr (fun x hx=>hf x (ahZ _ hx)) m1
  refine⟨x'::l',m2,by simp[Ql,e1,e2],g1.trans g2 (fun _ h=>anC _ h) (fun _ h=>anF _ h),fun F hF=>?_⟩
  simp[Cb,k1 F (hF.mono g2.pre),k2 F hF]
theorem sp{g:HF}:∀{d e:Nat} {v:AV} {p:AV × List Nat},d≤e→rd d g v=some p→Sp e v p.2
 |0,e,v,p,_,h=>by simp[rd]at h
 |d+1,0,v,p,he,h=>by omega
 |d+1,e+1,v,p,he,h=>by
  have IH:∀x q,rd d g x=some q→Sp e x q.2:=fun x q hx=>sp (by omega) hx
  intro m
  cases v with
  |slr st b r len=>
   simp only[rd,acZ]at h
   obtain⟨z,_,h⟩:=h
   split at h
   ·have hb:b∈p.2:=by
     cases hfl:z.2.1 with
     |true=>rw[hfl]at h;simp at h;rw[←h];simp
     |false=>rw[hfl]at h;simp only[cond_false,acK]at h;obtain⟨q,_,rfl⟩:=h;simp
    exact⟨_,_,rfl,auB m b hb,fun F hF=>by simp[Jm,hF _ _ (Sr m b).1]⟩
   ·cases h
  |agg cs=>
   simp only[rd,acK]at h
   obtain⟨q,hq,rfl⟩:=h
   obtain⟨l',m1,e1,g1,k1⟩:=spL hq (fun x _=>IH x) m
   exact⟨.agg l',m1,by simp[Fa,e1],g1,fun F hF=>by simp[Jm,k1 F hF]⟩
  |iface t x=>
   simp only[rd,acK]at h
   obtain⟨q,hq,rfl⟩:=h
   obtain⟨l',m1,e1,g1,k1⟩:=IH x q hq m
   exact⟨.iface t l',m1,by simp[Fa,e1],g1,fun F hF=>by simp[Jm,k1 F hF]⟩
  |func fn a b=>
   cases a with
   |cons=>simp[rd]at h
   |nil=>
    cases b with
    |cons=>simp[rd]at h
    |nil=>exact⟨_,m,rfl,Gd.refl _ _,fun _ _=>rfl⟩
  |ptr b r o=>simp[rd]at h
  |tup cs=>simp[rd]at h
  |yl b=>simp[rd]at h
  |mapr b=>simp[rd]at h
  |itr b=>simp[rd]at h
  |imm=>simp[rd]at h
  |iptr=>simp[rd]at h
  |_=>exact⟨_,m,rfl,Gd.refl _ _,fun _ _=>rfl⟩
def Cl(g:HF)(S:List Nat):Prop:=∀b∈S,∃z,(g b).bind Ci=some z∧(z.2.1=false→∃d q,d≤8∧Cj (rd d g) z.2.2=some q∧∀x∈q.2,x∈S)
theorem Cl.nil(g:HF):Cl g []:=fun _ h=>by cases h
theorem Cl.app{g:HF}{S T:List Nat}(h1:Cl g S)(h2:Cl g T):Cl g (S++T):=fun b hb=>by
 rcases aiI.1 hb with h|h
 ·obtain⟨z,k1,k2⟩:=h1 b h
  exact⟨z,k1,fun e=>by obtain⟨d,q,a1,a2,a3⟩:=k2 e;exact⟨d,q,a1,a2,fun x hx=>anC _ (a3 x hx)⟩⟩
 ·obtain⟨z,k1,k2⟩:=h2 b h
  exact⟨z,k1,fun e=>by obtain⟨d,q,a1,a2,a3⟩:=k2 e;exact⟨d,q,a1,a2,fun x hx=>anF _ (a3 x hx)⟩⟩
theorem clL{g:HF}{f:AV→Option (AV × List Nat)}:∀{l:List AV} {p:List AV × List Nat},Xa f l=some p→(∀x∈l,∀q,f x=some q→Cl g q.2)→Cl g p.2
 | [],p,h,_=>by simp[Xa]at h;subst h;exact Cl.nil g
 |a::l,p,h,hf=>by
  simp only[Xa,acZ,acK]at h
  obtain⟨q,hq,r,hr,rfl⟩:=h
  exact(hf a (aiH ..) q hq).app (clL hr fun x hx=>hf x (ahZ _ hx))
theorem clR{g:HF}{f:AV→Option (AV × List Nat)}:∀{l:List (List AV)} {p:List (List AV) × List Nat},Cj f l=some p→(∀r∈l,∀x∈r,∀q,f x=some q→Cl g q.2)→Cl g p.2
 | [],p,h,_=>by simp[Cj]at h;subst h;exact Cl.nil g
 |a::l,p,h,hf=>by
  simp only[Cj,acZ,acK]at h
  obtain⟨q,hq,r,hr,rfl⟩:=h
  exact(clL hq (hf a (aiH ..))).app (clR hr fun x hx=>hf x (ahZ _ hx))
theorem an9{g:HF}:∀{d:Nat} {v:AV} {p:AV × List Nat},d≤9→rd d g v=some p→Cl g p.2
 |0,v,p,_,h=>by simp[rd]at h
 |d+1,v,p,hd,h=>by
  have IH:∀x q,rd d g x=some q→Cl g q.2:=fun x q hx=>an9 (by omega) hx
  cases v with
  |slr st b r len=>
   simp only[rd,acZ]at h
   obtain⟨z,hz,h⟩:=h
   have hz':(g b).bind Ci=some z:=acZ.2 hz
   split at h
   ·cases hfl:z.2.1 with
    |true=>
     rw[hfl]at h;simp at h;rw[←h]
     intro b' hb'
     simp at hb';subst hb'
     exact⟨z,hz',fun e=>by rw[hfl]at e;cases e⟩
    |false=>
     rw[hfl]at h;simp only[cond_false,acK]at h
     obtain⟨q,hq,rfl⟩:=h
     intro b' hb'
     rcases ah3.1 hb' with rfl|hb'
     ·exact⟨z,hz',fun _=>⟨d,q,by omega,hq,fun x hx=>ahZ _ hx⟩⟩
     ·obtain⟨z',k1,k2⟩:=clR hq (fun r _ x _=>IH x) b' hb'
      exact⟨z',k1,fun e=>by obtain⟨d',q',a1,a2,a3⟩:=k2 e;exact⟨d',q',a1,a2,fun x hx=>ahZ _ (a3 x hx)⟩⟩
   ·cases h
  |agg cs=>
   simp only[rd,acK]at h
   obtain⟨q,hq,rfl⟩:=h
   exact clL hq fun x _=>IH x
  |iface t x=>
   simp only[rd,acK]at h
   obtain⟨q,hq,rfl⟩:=h
   exact IH x q hq
  |func fn a b=>
   cases a<;>cases b<;>first|(simp[rd]at h;subst h;exact Cl.nil g)|(simp[rd]at h)
  |_=>first|(simp[rd]at h;subst h;exact Cl.nil g)|(simp[rd]at h)
theorem uH{F:Nat→Option Nat}(f:Nat→Nat):∀{e:Nat} {x' x:AV},Jm e F x'=some x→∃y,Es e f x'=some y
 |0,x',x,h=>by simp[Jm]at h
 |e+1,x',x,h=>by
  have L:∀{l l1:List AV},Cb (Jm e F) l=some l1→∃y,Cb (Es e f) l=some y:=fun {l}=>by
   induction l with
   |nil=>exact fun _=>⟨[],rfl⟩
   |cons a l ih=>
    intro l1 h
    simp only[Cb,acZ,acK]at h
    obtain⟨b,hb,c,hc,_⟩:=h
    obtain⟨y,hy⟩:=uH f hb
    obtain⟨ys,hys⟩:=ih hc
    exact⟨y::ys,by simp[Cb,hy,hys]⟩
  cases x' with
  |agg cs=>simp only[Jm,acK]at h;obtain⟨_,h,_⟩:=h;obtain⟨y,hy⟩:=L h;exact⟨.agg y,by simp[Es,hy]⟩
  |tup cs=>simp only[Jm,acK]at h;obtain⟨_,h,_⟩:=h;obtain⟨y,hy⟩:=L h;exact⟨.tup y,by simp[Es,hy]⟩
  |iface t x=>simp only[Jm,acK]at h;obtain⟨_,h,_⟩:=h;obtain⟨y,hy⟩:=uH f h;exact⟨.iface t y,by simp[Es,hy]⟩
  |func fn a b=>
   simp only[Jm,acZ,acK]at h
   obtain⟨_,h1,_,h2,_⟩:=h
   obtain⟨y,hy⟩:=L h1
   obtain⟨y2,hy2⟩:=L h2
   exact⟨.func fn y y2,by simp[Es,hy,hy2]⟩
  |_=>exact⟨_,rfl⟩
theorem ahH{α β γ:Type}{f:α→Option β}{f':α→Option γ}(H:∀a b,f a=some b→∃c,f' a=some c):∀{l:List α} {r:List β},Cb f l=some r→∃s,Cb f' l=some s
 | [],_,_=>⟨[],rfl⟩
 |a::l,r,h=>by
  simp only[Cb,acZ,acK]at h
  obtain⟨b,hb,c,hc,_⟩:=h
  obtain⟨y,hy⟩:=H a b hb
  obtain⟨ys,hys⟩:=ahH H hc
  exact⟨y::ys,by simp[Cb,hy,hys]⟩
def Stn(F:Nat→Option Nat)(c':CB)(z:Nat × Bool × List (List AV)):Prop:=
 ∃rows',Ci c'=some (z.1,z.2.1,rows')∧(z.2.1=true→rows'=z.2.2)∧(z.2.1=false→Cb (Cb (Jm 8 F)) rows'=some z.2.2)
def Rnm(c:CB):Prop:=∀f,∃c',Mc f c=some c'
theorem spB{g:HF}{S:List Nat}(H:Cl g S){b:Nat}(hb:b∈S)(m:List Nat):∃c c' m' z,g b=some c∧Ci c=some z∧oH m c=some (c',m')∧Gd m m' S∧(∀F,On m' F→Stn F c' z)∧Rnm c':=by
 obtain⟨z,hz,hc⟩:=H b hb
 obtain⟨c,k1,k2⟩:=acZ.1 hz
 have R:∀rows,z.2.1=false→rows=z.2.2→∃l' m',Ql m rows=some (l',m')∧Gd m m' S∧∀F,On m' F→Cb (Cb (Jm 8 F)) l'=some rows:=fun rows e er=>by
  obtain⟨d,q,a1,a2,a3⟩:=hc e
  obtain⟨l',m',e1,g1,e2⟩:=spR (er▸a2) (fun r _ x _ q hx=>sp a1 hx) m
  exact⟨l',m',e1,⟨g1.pre,g1.nd,fun x hx=>(g1.sub x hx).imp id (a3 x)⟩,e2⟩
 have R2:∀l' rows m',(∀F,On m' F→Cb (Cb (Jm 8 F)) l'=some rows)→∀f,∃y,Cb (Cb (Es 8 f)) l'=some y:=fun l' rows m' h f=>
  ahH (fun a b hab=>ahH (fun a b hab=>uH f hab) hab) (h (fun i=>m'[i]?) (fun _ _ h=>h))
 cases c with
 |live st fl w rows=>
  simp[Ci]at k2;subst k2
  cases fl with
  |true=>exact⟨_,_,m,_,k1,rfl,rfl,Gd.refl _ _,fun F _=>⟨rows,rfl,fun _=>rfl,fun e=>by cases e⟩,fun f=>⟨_,rfl⟩⟩
  |false=>
   obtain⟨l',m',e1,g1,e2⟩:=R rows rfl rfl
   refine⟨_,.live st false w l',m',_,k1,rfl,by simp[oH,e1],g1,fun F hF=>⟨l',rfl,fun e=>(by cases e),fun _=>e2 F hF⟩,fun f=>?_⟩
   obtain⟨y,hy⟩:=R2 l' rows m' e2 f
   exact⟨.live st false w y,by simp[Mc,hy]⟩
 |frz st fl rows=>
  simp[Ci]at k2;subst k2
  cases fl with
  |true=>exact⟨_,_,m,_,k1,rfl,rfl,Gd.refl _ _,fun F _=>⟨rows,rfl,fun _=>rfl,fun e=>by cases e⟩,fun f=>⟨_,rfl⟩⟩
  |false=>
   obtain⟨l',m',e1,g1,e2⟩:=R rows rfl rfl
   refine⟨_,.frz st false l',m',_,k1,rfl,by simp[oH,e1],g1,fun F hF=>⟨l',rfl,fun e=>(by cases e),fun _=>e2 F hF⟩,fun f=>?_⟩
   obtain⟨y,hy⟩:=R2 l' rows m' e2 f
   exact⟨.frz st false y,by simp[Mc,hy]⟩
 |dead=>simp[Ci]at k2
 |lp=>simp[Ci]at k2
theorem awM{S:List Nat}:∀{m:List Nat},m.Nodup→(∀b∈m,b∈S)→m.length≤S.length:=by
 induction S with
 |nil=>intro m _ h;cases m with
  |nil=>simp
  |cons a m=>exact absurd (h a (aiH ..)) (by simp)
 |cons s S ih=>
  intro m hn h
  have h2:=ih (m:=m.erase s) (hn.erase s) (fun b hb=>by
   have hb':=List.mem_of_mem_erase hb
   rcases ah3.1 (h b hb')with rfl|h'
   ·exact absurd hb (hn.not_mem_erase)
   ·exact h')
  have h3:m.length≤(m.erase s).length+1:=by
   by_cases hs:s∈m
   ·rw[List.length_erase_of_mem hs];omega
   ·rw[List.erase_of_not_mem hs];omega
  simp;omega
theorem spC{g:HF}{S:List Nat}(H:Cl g S):∀(n i:Nat) (m:List Nat),m.Nodup→(∀b∈m,b∈S)→S.length<n+i→i≤m.length→
 ∃cs m',Qx n g i m=some (cs,m')∧m <+:m'∧m'.Nodup∧(∀b∈m',b∈S)∧i+cs.length=m'.length∧(∀c∈cs,Rnm c)∧
  ∀F,On m' F→∀j c',cs[j]?=some c'→∃b z,m'[i+j]?=some b∧(g b).bind Ci=some z∧Stn F c' z
 |0,i,m,hn,hs,hl,hi=>by have:=awM hn hs;omega
 |n+1,i,m,hn,hs,hl,hi=>by
  unfold Qx
  cases hm:m[i]? with
  |none=>
   have:m.length≤i:=List.getElem?_eq_none_iff.1 hm
   exact⟨[],m,rfl,atX _,hn,hs,by simp;omega,(fun c hc=>by cases hc),fun F _ j c' hj=>by simp at hj⟩
  |some b=>
   have hlt:=(aiC.1 hm).1
   obtain⟨c,c',m1,z,k1,k2,k3,g1,k4,k5⟩:=spB H (hs b (avF hm)) m
   obtain⟨cs,m',e1,p1,p2,p3,p4,p5,p6⟩:=spC H n (i+1) m1 (g1.nd hn) (fun b hb=>(g1.sub b hb).elim (hs b) id) (by omega) (by have:=g1.pre.length_le;omega)
   refine⟨c'::cs,m',by simp[k1,k3,e1],g1.pre.trans p1,p2,p3,by simp;omega,fun x hx=>?_,fun F hF j x hj=>?_⟩
   ·rcases ah3.1 hx with rfl|hx
    ·exact k5
    ·exact p5 x hx
   ·cases j with
    |zero=>
     simp at hj;subst hj
     exact⟨b,z,Xz (g1.pre.trans p1) (by simpa using hm),by rw[k1];exact k2,k4 F (hF.mono p1)⟩
    |succ j=>
     simp at hj
     obtain⟨b',z',a1,a2,a3⟩:=p6 F hF j x hj
     exact⟨b',z',by rw[←a1];congr 1;omega,a2,a3⟩
theorem auU{h:Ab}{v:AV}{R:List Nat}(hs:Sp 8 v R)(hc:Cl (hf h) R)(hR:R.length<5000):
 ∃v' cs F,Zn 0 v h=some (v',cs)∧bg7 F (hf cs) (hf h)∧Jm 8 F v'=some v∧∀c∈cs,Rnm c:=by
 obtain⟨v',m,e1,g1,k1⟩:=hs []
 have hm:∀b∈m,b∈R:=fun b hb=>(g1.sub b hb).elim (fun h=>by cases h) id
 obtain⟨cs,m',e2,p1,p2,p3,p4,p5,p6⟩:=spC hc 5000 0 m (g1.nd List.nodup_nil) hm (by omega) (Nat.zero_le _)
 refine⟨v',cs,fun i=>m'[i]?,by simp[Zn,Sv,Fa.refL,e1,e2,atA],fun i b hi z hz=>?_,k1 _ (fun _ _ h=>Xz p1 h),p5⟩
 have hlt:=(aiC.1 hi).1
 obtain⟨b',z',a1,a2,rows',a3,a4,a5⟩:=p6 (fun i=>m'[i]?) (fun _ _ h=>h) i _ (al4 (by omega))
 rw[Nat.zero_add]at a1
 have hbb:b=b':=by have hi':m'[i]?=some b:=hi;rw[hi']at a1;cases a1;rfl
 subst hbb
 rw[hz]at a2;cases a2
 exact⟨rows',by show(cs[i]?).bind Ci=_;rw[al4 (by omega)];exact a3,a4,a5⟩
end
end Go.Ev
namespace Go.Ev
open Go.RowKit
theorem eY{f:Nat→Nat}{F:Nat→Option Nat}(hF:∀b,F (f b)=some b):∀{e:Nat} {x x1:AV},Es e f x=some x1→Jm e F x1=some x
 |0,x,x1,h=>by simp[Es]at h
 |e+1,x,x1,h=>by
  have L:∀{l l1:List AV},Cb (Es e f) l=some l1→Cb (Jm e F) l1=some l:=fun {l}=>by
   induction l with
   |nil=>intro l1 h;simp[Cb]at h;subst h;rfl
   |cons a l ih=>
    intro l1 h
    simp only[Cb,acZ,acK]at h
    obtain⟨b,hb,c,hc,rfl⟩:=h
    simp[Cb,eY hF hb,ih hc]
  cases x with
  |agg cs=>simp only[Es,acK]at h;obtain⟨_,h,rfl⟩:=h;simp[Jm,L h]
  |tup cs=>simp only[Es,acK]at h;obtain⟨_,h,rfl⟩:=h;simp[Jm,L h]
  |iface t x=>simp only[Es,acK]at h;obtain⟨_,h,rfl⟩:=h;simp[Jm,eY hF h]
  |func fn a b=>
   simp only[Es,acZ,acK]at h
   obtain⟨_,h1,_,h2,rfl⟩:=h
   simp[Jm,L h1,L h2]
  |_=>simp only[Es,al9.injEq]at h;subst h;simp[Jm,hF]
theorem fC{α β:Type}{f:α→Option β}{f':β→Option α}(H:∀a b,f a=some b→f' b=some a):∀{l:List α} {r:List β},Cb f l=some r→Cb f' r=some l
 | [],r,h=>by simp[Cb]at h;subst h;rfl
 |a::l,r,h=>by
  simp only[Cb,acZ,acK]at h
  obtain⟨b,hb,c,hc,rfl⟩:=h
  simp[Cb,H a b hb,fC H hc]
theorem ajZ{f:Nat→Nat}:∀{cs:List CB} (_:∀c∈cs,Rnm c) (base:Nat),∃ns cs1,Pe f base cs=some ns∧(∀G,Dm G ns=G++cs1)∧Cb (Mc f) cs=some cs1
 | [],_,base=>⟨[],[],rfl,fun G=>by simp[Dm],rfl⟩
 |c::cs,h,base=>by
  obtain⟨c1,e1⟩:=h c (aiH ..) f
  obtain⟨ns,cs1,e2,e3,e4⟩:=ajZ (f:=f) (cs:=cs) (fun c hc=>h c (ahZ _ hc)) (base+1)
  exact⟨.new base c1::ns,c1::cs1,by simp[Pe,e1,e2],fun G=>by simp[Dm,Xf,e3],by simp[Cb,e1,e4]⟩
theorem au9{f:Nat→Nat}{F:Nat→Option Nat}(hF:∀b,F (f b)=some b){c c1:CB}(h:Mc f c=some c1){z:Nat × Bool × List (List AV)}(hz:Ci c=some z):Stn F c1 z:=by
 cases c with
 |live st fl w rows=>
  simp[Ci]at hz;subst hz
  cases fl with
  |true=>simp[Mc]at h;subst h;exact⟨rows,rfl,fun _=>rfl,fun e=>by cases e⟩
  |false=>
   simp only[Mc,acK]at h
   obtain⟨r,hr,rfl⟩:=h
   exact⟨r,rfl,fun e=>(by cases e),fun _=>fC (fun a b hab=>fC (fun a b hab=>eY hF hab) hab) hr⟩
 |frz st fl rows=>
  simp[Ci]at hz;subst hz
  cases fl with
  |true=>simp[Mc]at h;subst h;exact⟨rows,rfl,fun _=>rfl,fun e=>by cases e⟩
  |false=>
   simp only[Mc,acK]at h
   obtain⟨r,hr,rfl⟩:=h
   exact⟨r,rfl,fun e=>(by cases e),fun _=>fC (fun a b hab=>fC (fun a b hab=>eY hF hab) hab) hr⟩
 |dead=>simp[Ci]at hz
 |lp=>simp[Ci]at hz
structure Kp(lent:List Nat)(H H1:Ab):Prop where
 len:H.length≤H1.length
 rows:∀b,b<H.length→(hf H1 b).bind Ci=(hf H b).bind Ci
 same:∀b,b<H.length→b∉lent→H1[b]?=H[b]?
theorem ag1{H:Ab}:∀(l:List Nat) (G:Ab),G.length=H.length→(∀b,(hf G b).bind Ci=(hf H b).bind Ci)→
 (Dm G (Gn (hf H) l)).length=H.length∧(∀b,(hf (Dm G (Gn (hf H) l)) b).bind Ci=(hf H b).bind Ci)∧∀b,b∉l→(Dm G (Gn (hf H) l))[b]?=G[b]?
 | [],G,h1,h2=>⟨h1,h2,fun _ _=>rfl⟩
 |a::l,G,h1,h2=>by
  unfold Gn
  have other:∀b,b∉a::l→b∉l:=fun b hb h=>hb (ahZ _ h)
  split
  ·rename_i st fl w rows ha
   have hlt:a<G.length:=by rw[h1];exact(aiC.1 ha).1
   obtain⟨k1,k2,k3⟩:=ag1 (H:=H) l (G.set a (.frz st fl rows)) (by simp[h1]) (fun b=>by
    by_cases hb:a=b
    ·subst hb
     show((G.set a _)[a]?).bind Ci=_
     rw[apN hlt,ha];rfl
    ·show((G.set a _)[b]?).bind Ci=_
     rw[al2 hb];exact h2 b)
   refine⟨k1,k2,fun b hb=>?_⟩
   show(Dm (G.set a _) _)[b]?=_
   rw[k3 b (other b hb),al2 (fun e=>hb (by rw[←e];exact aiH ..))]
  ·obtain⟨k1,k2,k3⟩:=ag1 l G h1 h2
   exact⟨k1,k2,fun b hb=>k3 b (other b hb)⟩
theorem aoM{O:Hv}{H:Ab}{f:Nat}{args vs:List AV}{v:AV}{h':Ab}(hh:pkd O f args)(ha:Cb (tV H) args=some vs)(hp:vs.all (Cc 8)=true)
 (hc:O.call (.fn f) vs []=some (.ret v,h')) (h1:∀f,∃y,Es 8 f v=some y) (h2:∀c∈h',Rnm c):
 ∃v1 es H1 F,cl O H (some (.func (.func f) [] [])) (some args)=some (.ret v1,es)∧Dm H es=H1∧bg7 F (hf H1) (hf h')∧Jm 8 F v1=some v∧Kp (args.flatMap (Cf 12 (hf H))) H H1∧∀i b,F i=some b→H.length≤i:=by
 obtain⟨v1,e1⟩:=h1 (fun i=>H.length+i)
 obtain⟨ns,cs1,e2,e3,e4⟩:=ajZ (f:=fun i=>H.length+i) h2 H.length
 generalize hFF:(fun i=>if H.length≤i then some (i-H.length)else none:Nat→Option Nat)=F
 have hF:∀b,F (H.length+b)=some b:=fun b=>by rw[←hFF];simp
 have key:∃fz:List Ag,cl O H (some (.func (.func f) [] [])) (some args)=some (.ret v1,fz++ns)∧(fz=[]∨fz=Gn (hf H) (args.flatMap (Cf 12 (hf H)))):=by
  rw[ax0 hh,aw6 ha hp,hc]
  refine⟨_,by simp only[crR,adD,Gp.v,e1,e2,al5,Gp.map];rfl,?_⟩
  split
  ·exact .inl rfl
  ·exact .inr rfl
 obtain⟨fz,ec,hfz⟩:=key
 have hK:(Dm H fz).length=H.length∧(∀b,(hf (Dm H fz) b).bind Ci=(hf H b).bind Ci)∧∀b,b∉args.flatMap (Cf 12 (hf H))→(Dm H fz)[b]?=H[b]?:=by
  rcases hfz with rfl|rfl
  ·exact⟨rfl,fun _=>rfl,fun _ _=>rfl⟩
  ·exact ag1 _ H rfl (fun _=>rfl)
 obtain⟨k1,k2,k3⟩:=hK
 have hap:Dm H (fz++ns)=Dm H fz++cs1:=by rw[lD,e3]
 refine⟨v1,_,_,F,ec,hap,fun i b hi z hz=>?_,eY hF e1,⟨by simp[k1],fun b hb=>?_,fun b hb hl=>?_⟩,fun i b hi=>?_⟩
 ·rw[←hFF]at hi;simp only at hi
  split at hi
  ·rename_i hle
   simp only[al9.injEq]at hi
   obtain⟨c,hcc,hcz⟩:=acZ.1 hz
   obtain⟨c1,g1,g2⟩:=aT e4 (show h'[b]?=some c from hcc)
   obtain⟨rows',r1,r2,r3⟩:=au9 hF g2 hcz
   refine⟨rows',?_,r2,r3⟩
   show((Dm H fz++cs1)[i]?).bind Ci=_
   rw[apC (by omega),k1,hi,g1]
   exact r1
  ·cases hi
 ·rw[←k2 b]
  show((Dm H fz++cs1)[b]?).bind Ci=_
  rw[al3 (by omega)];rfl
 ·rw[al3 (by omega)];exact k3 b hl
 ·rw[←hFF]at hi;simp only at hi
  split at hi
  ·assumption
  ·cases hi
end Go.Ev
namespace Go.Ev
noncomputable section
open Go.RowKit
theorem xU{g:HF}(f:Nat→Nat):∀{d e:Nat} {v:AV} {p:AV × List Nat},d≤e→rd d g v=some p→∃y,Es e f v=some y
 |0,e,v,p,_,h=>by simp[rd]at h
 |d+1,0,v,p,he,h=>by omega
 |d+1,e+1,v,p,he,h=>by
  have L:∀{l:List AV} {q:List AV × List Nat},Xa (rd d g) l=some q→∃y,Cb (Es e f) l=some y:=fun {l}=>by
   induction l with
   |nil=>exact fun _=>⟨[],rfl⟩
   |cons a l ih=>
    intro q h
    simp only[Xa,acZ,acK]at h
    obtain⟨b,hb,c,hc,_⟩:=h
    obtain⟨y,hy⟩:=xU f (show d≤e by omega) hb
    obtain⟨ys,hys⟩:=ih hc
    exact⟨y::ys,by simp[Cb,hy,hys]⟩
  cases v with
  |agg cs=>simp only[rd,acK]at h;obtain⟨_,h,_⟩:=h;obtain⟨y,hy⟩:=L h;exact⟨.agg y,by simp[Es,hy]⟩
  |iface t x=>simp only[rd,acK]at h;obtain⟨_,h,_⟩:=h;obtain⟨y,hy⟩:=xU f (show d≤e by omega) h;exact⟨.iface t y,by simp[Es,hy]⟩
  |func fn a b=>
   cases a<;>cases b<;>first|exact⟨_,rfl⟩|(simp[rd]at h)
  |tup cs=>simp[rd]at h
  |_=>exact⟨_,rfl⟩
theorem akE{g:HF}(f:Nat→Nat){d e:Nat}(hd:d≤e):∀{l:List AV} {q:List AV × List Nat},Xa (rd d g) l=some q→∃y,Cb (Es e f) l=some y
 | [],q,_=>⟨[],rfl⟩
 |a::l,q,h=>by
  simp only[Xa,acZ,acK]at h
  obtain⟨b,hb,c,hc,_⟩:=h
  obtain⟨y,hy⟩:=xU f hd hb
  obtain⟨ys,hys⟩:=akE f hd hc
  exact⟨y::ys,by simp[Cb,hy,hys]⟩
theorem mJ{g:HF}:∀{d e:Nat} {v:AV} {p:AV × List Nat},d≤e→rd d g v=some p→Nk e g v=some p.1
 |0,e,v,p,_,h=>by simp[rd]at h
 |d+1,0,v,p,he,h=>by omega
 |d+1,e+1,v,p,he,h=>by
  cases v with
  |slr st b r len=>exact yT (ag3 he h)
  |agg cs=>
   simp only[rd,acK]at h
   obtain⟨q,hq,rfl⟩:=h
   simp[Nk,rA (f':=Nk e g) hq (fun x _ q' hx=>mJ (show d≤e by omega) hx)]
  |iface t x=>
   simp only[rd,acK]at h
   obtain⟨q,hq,rfl⟩:=h
   simp[Nk,mJ (show d≤e by omega) hq]
  |func fn a b=>cases a<;>cases b<;>first|(simp[rd]at h;subst h;rfl)|(simp[rd]at h)
  |_=>first|(simp[rd]at h;subst h;rfl)|(simp[rd]at h)
theorem ax3{e:Nat}{f:Nat→Nat}{cs y:List AV}(h:Cb (Es e f) cs=some y):Es (e+1) f (.tup cs)=some (.tup y):=by simp[Es,h]
theorem ajD{e:Nat}{F:Nat→Option Nat}{v:AV}{outs:List AV}(h:Jm (e+1) F v=some (.tup outs)):∃o,v=.tup o∧Cb (Jm e F) o=some outs:=by
 cases v with
 |tup cs=>simp[Jm]at h;exact⟨_,rfl,h⟩
 |func fn a b=>simp only[Jm,acZ,acK]at h;obtain⟨_,_,_,_,h⟩:=h;cases h
 |_=>simp[Jm]at h
theorem bfA{e:Nat}{vs:List AV}{R:List Nat}(h:SpL e vs R):Sp (e+1) (.tup vs) R:=fun m=>by
 obtain⟨l',m',a1,a2,a3⟩:=h m
 exact⟨.tup l',m',by simp[Fa,a1],a2,fun F hF=>by simp[Jm,a3 F hF]⟩
def RdT(O:Hv)(f:Nat)(vs xs:List AV)(k:Nat):Prop:=
 ∃outs h' R,O.call (.fn f) vs []=some (.ret (.tup outs),h')∧Xa (rd 6 (hf h')) outs=some (xs,R)∧R.length≤k∧∀c∈h',Rnm c
def RdV(O:Hv)(f:Nat)(vs:List AV)(x:AV)(k:Nat):Prop:=
 ∃v h' R,O.call (.fn f) vs []=some (.ret v,h')∧rd 6 (hf h') v=some (x,R)∧R.length≤k∧∀c∈h',Rnm c
theorem RdT.cl{O:Hv}{f:Nat}{vs xs:List AV}{k:Nat}(K:RdT O f vs xs k){H:Ab}{args:List AV}(hh:pkd O f args)(ha:Cb (tV H) args=some vs)(hp:vs.all (Cc 8)=true):
 ∃outs es H1 R,cl O H (some (.func (.func f) [] [])) (some args)=some (.ret (.tup outs),es)∧Dm H es=H1∧Kp (args.flatMap (Cf 12 (hf H))) H H1∧Xa (rd 6 (hf H1)) outs=some (xs,R)∧R.length≤k∧∀b∈R,H.length≤b:=by
 obtain⟨outs,h',R,hc,hr,hk,hn⟩:=K
 obtain⟨v1,es,H1,F,e1,e2,e3,e4,e5,e6⟩:=aoM hh ha hp hc (fun f=>by obtain⟨y,hy⟩:=akE f (show 6≤7 by omega) hr;exact⟨.tup y,ax3 hy⟩) hn
 obtain⟨o1,rfl,ho⟩:=ajD e4
 obtain⟨R',k1,k2,k3⟩:=sH (f':=rd 6 (hf H1)) (Z:=fun i=>∃b,F i=some b) ho hr (fun x' x q a b=>abV e3 a b)
 exact⟨o1,es,H1,R',e1,e2,e5,k1,by rw[k2];exact hk,fun b hb=>by obtain⟨c,hc⟩:=k3 b hb;exact e6 b c hc⟩
theorem RdV.cl{O:Hv}{f:Nat}{vs:List AV}{x:AV}{k:Nat}(K:RdV O f vs x k){H:Ab}{args:List AV}(hh:pkd O f args)(ha:Cb (tV H) args=some vs)(hp:vs.all (Cc 8)=true):
 ∃v es H1 R,cl O H (some (.func (.func f) [] [])) (some args)=some (.ret v,es)∧Dm H es=H1∧Kp (args.flatMap (Cf 12 (hf H))) H H1∧rd 6 (hf H1) v=some (x,R)∧R.length≤k∧∀b∈R,H.length≤b:=by
 obtain⟨v,h',R,hc,hr,hk,hn⟩:=K
 obtain⟨v1,es,H1,F,e1,e2,e3,e4,e5,e6⟩:=aoM hh ha hp hc (fun f=>xU f (show 6≤8 by omega) hr) hn
 obtain⟨R',k1,k2,k3⟩:=abV e3 e4 hr
 exact⟨v1,es,H1,R',e1,e2,e5,k1,by rw[k2];exact hk,fun b hb=>by obtain⟨c,hc⟩:=k3 b hb;exact e6 b c hc⟩
theorem Ys{O:Hv}{H:Ab}{f:Nat}{args vs:List AV}{v:AV}(hh:pkd O f args)(ha:Cb (tV H) args=some vs)(hp:vs.all (Cc 8)=true)(hc:O.call (.fn f) vs []=some (.ret v,[]))(h1:Cc 8 v=true)(h2:hasImm 8 v=false):
 cl O H (some (.func (.func f) [] [])) (some args)=some (.ret v,[]):=by
 rw[ax0 hh,aw6 ha hp,hc,agA,if_pos ⟨h1,h2⟩]
theorem yQ{h:Ab}{vs xs:List AV}{R:List Nat}{Q:Gp→Ab→Prop}(h1:Xa (rd 6 (hf h)) vs=some (xs,R))(hR:R.length<5000)(h2:aJ vs=.tup vs)
 (q:∀outs h' R',Xa (rd 6 (hf h')) outs=some (xs,R')→R'.length=R.length→(∀c∈h',Rnm c)→Q (.ret (.tup outs)) h'):Rt 0 (some vs) h Q:=by
 obtain⟨v',cs,F,e1,e2,e3,e4⟩:=auU (v:=.tup vs) (bfA (spL (e:=7) h1 (fun x _ q hx=>sp (by omega) hx))) (clL h1 (fun x _ q hx=>an9 (by omega) hx)) hR
 obtain⟨o1,rfl,ho⟩:=ajD e3
 obtain⟨R',k1,k2,_⟩:=sH (f':=rd 6 (hf cs)) (Z:=fun i=>∃b,F i=some b) ho h1 (fun x' x q a b=>abV e2 a b)
 exact⟨_,_,by simp[asO,h2,e1],q _ _ _ k1 k2 e4⟩
theorem rR{h:Ab}{v x:AV}{R:List Nat}{Q:Gp→Ab→Prop}(h1:rd 6 (hf h) v=some (x,R))(hR:R.length<5000)
 (q:∀v' h' R',rd 6 (hf h') v'=some (x,R')→R'.length=R.length→(∀c∈h',Rnm c)→Q (.ret v') h'):Rt 0 (some [v]) h Q:=by
 obtain⟨v',cs,F,e1,e2,e3,e4⟩:=auU (sp (e:=8) (by omega) h1) (an9 (by omega) h1) hR
 obtain⟨R',k1,k2,_⟩:=abV e2 e3 h1
 exact⟨_,_,by simp[asO,aJ,e1],q _ _ _ k1 k2 e4⟩
theorem Ik{C:R→Prop}[n:NoN C]{r:R}(h:∀K:R→Prop,NoN K→(∀x,C x→K x)→K r):C r:=h C n fun _ h=>h
theorem axG{v:AV}{H:Ab}{b:Nat}(l:List CB)(hb:b<H.length)(hv:∀a c r m,v=.slr a c r m→c≠b):(kl 0 v H++l)[b]?=H[b]?:=by
 rw[al3 (by rw[Jq];exact hb)]
 unfold kl
 split
 ·rename_i a c r m
  rw[al2];simpa using hv a c r m rfl
 ·rfl
theorem aoP{H:Ab}{b:Nat}{z:Nat × Bool × List (List AV)}(h:(hf H b).bind Ci=some z):b<H.length:=by
 obtain⟨c,hc,_⟩:=acZ.1 h
 exact(aiC.1 hc).1
theorem apG{l:List Nat}{H H1:Ab}(K:Kp l H H1){d:Nat}{v:AV}{p:AV × List Nat}(hd:d≤9)(h:rd d (hf H) v=some p):rd d (hf H1) v=some p:=
 abX h fun b hb z hz=>by rw[K.rows b (aoP hz)];exact hz
theorem bS{g g':HF}{d:Nat}{l:List (List AV)}{p:List (List AV) × List Nat}(h:Cj (rd d g) l=some p)(ha:Agr p.2 g g'):Cj (rd d g') l=some p:=
 cF h fun _ _ _ _ _ hq hs=>abX hq fun b hb=>ha b (hs b hb)
theorem fB{H:Ab}{d:Nat}{l:List (List AV)}{p:List (List AV) × List Nat}(hd:d≤9)(h:Cj (rd d (hf H)) l=some p):∀b∈p.2,b<H.length:=fun b hb=>by
 obtain⟨z,hz,_⟩:=clR h (fun r _ x _ q hx=>an9 hd hx) b hb
 exact aoP hz
theorem ab4{f:AV→Option (AV × List Nat)}:∀{l:List (List AV)} {p:List (List AV) × List Nat},Cj f l=some p→l.length=p.1.length
 | [],p,h=>by simp[Cj]at h;subst h;rfl
 |a::l,p,h=>by
  simp only[Cj,acZ,acK]at h
  obtain⟨q,hq,r,hr,rfl⟩:=h
  simp[ab4 hr]
theorem yX{f:AV→Option (AV × List Nat)}:∀{l:List (List AV)} {p:List (List AV) × List Nat} {i:Nat} {X:List AV},Cj f l=some p→p.1[i]?=some X→∃r R,l[i]?=some r∧Xa f r=some (X,R)
 | [],p,i,X,h,hx=>by simp[Cj]at h;subst h;simp at hx
 |a::l,p,i,X,h,hx=>by
  simp only[Cj,acZ,acK]at h
  obtain⟨q,hq,r,hr,rfl⟩:=h
  cases i with
  |zero=>simp at hx;subst hx;exact⟨a,q.2,rfl,hq⟩
  |succ i=>simp at hx;obtain⟨r',R',k1,k2⟩:=yX hr hx;exact⟨r',R',by simpa using k1,k2⟩
theorem aoJ{f:AV→Option (AV × List Nat)}:∀{l:List AV} {p:List AV × List Nat},Xa f l=some p→l.length=p.1.length
 | [],p,h=>by simp[Xa]at h;subst h;rfl
 |a::l,p,h=>by
  simp only[Xa,acZ,acK]at h
  obtain⟨q,hq,r,hr,rfl⟩:=h
  simp[aoJ hr]
theorem Oi{f:AV→Option (AV × List Nat)}{l xs:List AV}{x:AV}{R:List Nat}(h:Xa f l=some (x::xs,R)):∃a l' R1 R2,l=a::l'∧f a=some (x,R1)∧Xa f l'=some (xs,R2)∧R=R1++R2:=by
 cases l with
 |nil=>simp[Xa]at h
 |cons a l=>
  simp only[Xa,acZ,acK]at h
  obtain⟨q,hq,r,hr,he⟩:=h
  simp only[Prod.mk.injEq,List.cons.injEq]at he
  obtain⟨⟨rfl,rfl⟩,rfl⟩:=he
  exact⟨a,l,q.2,r.2,rfl,hq,hr,rfl⟩
theorem fH{f:AV→Option (AV × List Nat)}{l:List AV}{R:List Nat}(h:Xa f l=some ([],R)):l=[]∧R=[]:=by
 cases l with
 |nil=>simp[Xa]at h;exact⟨rfl,h⟩
 |cons a l=>have:=aoJ h;simp at this
theorem aiF{g:HF}{d:Nat}{v:AV}{k:IntKind}{n:Int}{R:List Nat}(h:rd (d+1) g v=some (.int k n,R)):v=.int k n∧R=[]:=by
 cases v with
 |slr st b r len=>
  simp only[rd,acZ]at h
  obtain⟨z,_,h⟩:=h
  split at h
  ·cases hfl:z.2.1<;>rw[hfl]at h<;>simp at h
  ·cases h
 |func fn a b=>cases a<;>cases b<;>simp[rd]at h
 |int k' n'=>simp[rd]at h;exact⟨by simp[h],h.2⟩
 |agg cs=>simp[rd]at h
 |iface t x=>simp[rd]at h
 |_=>simp[rd]at h
theorem Rf{g:HF}{d st:Nat}{fl nn:Bool}{v:AV}{rows:List (List AV)}{R:List Nat}(h:rd (d+1) g v=some (Af st fl nn rows,R)):
 (v=.nils∧rows=[])∨∃b rows',v=.slr st b 0 rows.length∧(g b).bind Ci=some (st,fl,rows')∧rows'.length=rows.length∧(fl=true→rows'=rows)∧(fl=false→∃R',Cj (rd d g) rows'=some (rows,R')):=by
 have hs:(Af st fl nn rows=.nils∧rows=[])∨Af st fl nn rows=.imm st fl rows:=by
  cases rows with
  |nil=>cases nn with
   |true=>exact .inr rfl
   |false=>exact .inl ⟨rfl,rfl⟩
  |cons=>exact .inr rfl
 generalize Af st fl nn rows=X at h hs
 cases v with
 |nils=>simp[rd]at h;obtain⟨rfl,_⟩:=h;rcases hs with⟨_,hs⟩|hs
        ·exact .inl ⟨rfl,hs⟩
        ·cases hs
 |slr st' b r len=>
  simp only[rd,acZ]at h
  obtain⟨z,hz,h⟩:=h
  split at h
  ·rename_i hq
   obtain⟨q1,rfl,q3⟩:=hq
   obtain⟨z1,z2,z3⟩:=z
   simp only at q1 q3 h
   subst q1
   cases z2 with
   |true=>
    simp at h
    obtain⟨rfl,_⟩:=h
    rcases hs with⟨hs,_⟩|hs
    ·cases hs
    ·cases hs
     exact .inr ⟨b,_,by rw[q3],acZ.2 hz,rfl,fun _=>rfl,fun e=>by cases e⟩
   |false=>
    simp only[cond_false,acK]at h
    obtain⟨q,hq,he⟩:=h
    simp only[Prod.mk.injEq]at he
    obtain⟨rfl,_⟩:=he
    rcases hs with⟨hs,_⟩|hs
    ·cases hs
    ·cases hs
     have hl:z3.length=q.1.length:=ab4 hq
     exact .inr ⟨b,z3,by rw[q3,hl],acZ.2 hz,hl,fun e=>(by cases e),fun _=>⟨q.2,hq⟩⟩
  ·cases h
 |func fn a b=>cases a<;>cases b<;>simp[rd]at h<;>(obtain⟨rfl,_⟩:=h;rcases hs with⟨hs,_⟩|hs<;>cases hs)
 |agg cs=>simp only[rd,acK]at h;obtain⟨_,_,h⟩:=h;simp only[Prod.mk.injEq]at h;obtain⟨rfl,_⟩:=h;rcases hs with⟨hs,_⟩|hs<;>cases hs
 |iface t x=>simp only[rd,acK]at h;obtain⟨_,_,h⟩:=h;simp only[Prod.mk.injEq]at h;obtain⟨rfl,_⟩:=h;rcases hs with⟨hs,_⟩|hs<;>cases hs
 |ptr b r o=>simp[rd]at h
 |yl b=>simp[rd]at h
 |mapr b=>simp[rd]at h
 |itr b=>simp[rd]at h
 |tup cs=>simp[rd]at h
 |imm=>simp[rd]at h
 |iptr=>simp[rd]at h
 |_=>simp[rd]at h;obtain⟨rfl,_⟩:=h;rcases hs with⟨hs,_⟩|hs<;>cases hs
theorem xY{H:Ab}{b st:Nat}{fl:Bool}{rows:List (List AV)}(h:(hf H b).bind Ci=some (st,fl,rows))(i:Nat):Qp (H[b]?) i=rows[i]?:=by
 obtain⟨c,hc,hz⟩:=acZ.1 h
 rw[show H[b]?=some c from hc]
 cases c<;>simp[Ci]at hz<;>(obtain⟨_,_,rfl⟩:=hz;rfl)
theorem awS{n:Nat}{rows:List (List AV)}{v:AV}{H:Ab}(ho:Wc 0 n false rows v H){d:Nat}{q:List (List AV) × List Nat}(hq:Cj (rd d (hf H)) rows=some q)(hn:rows=[]→v=.nils):
 ∃R,rd (d+1) (hf H) v=some (Af n false false q.1,R)∧R.length≤1+q.2.length:=by
 rcases ho with⟨rfl,rfl⟩|⟨b,w,rfl,hb⟩
 ·simp[Cj]at hq;subst hq;exact⟨[],by simp[rd,Af],by simp⟩
 ·have hne:rows≠[]:=fun e=>by have:=hn e;cases this
  have hb':(hf H (b+0)).bind Ci=some (n,false,rows):=by show(H[b]?).bind Ci=_;rw[hb];rfl
  refine⟨(b+0)::q.2,?_,by simp;omega⟩
  simp only[rd,hb',adD,if_true,and_self,cond_false,hq,al5]
  have hl:q.1≠[]:=fun e=>by
   cases rows with
   |nil=>exact hne rfl
   |cons r rs=>
    simp only[Cj,acZ,acK]at hq
    obtain⟨_,_,_,_,rfl⟩:=hq
    cases e
  cases hq1:q.1 with
  |nil=>exact absurd hq1 hl
  |cons r rs=>rfl
theorem vB{g:HF}{d:Nat}(k:IntKind)(n:Int):rd (d+1) g (.int k n)=some (.int k n,[]):=rfl
theorem wO{g:HF}{d st b n:Nat}{rows:List (List AV)}(h:(g b).bind Ci=some (st,true,rows))(hn:n=rows.length):rd (d+1) g (.slr st b 0 n)=some (.imm st true rows,[b]):=by
 subst hn;simp[rd,h]
theorem blA{g:HF}{d:Nat}{cs xs:List AV}{R:List Nat}(h:Xa (rd d g) cs=some (xs,R)):rd (d+1) g (.agg cs)=some (.agg xs,R):=by simp[rd,h]
theorem nL{f:AV→Option (AV × List Nat)}:Xa f []=some ([],[]):=rfl
theorem Oq{f:AV→Option (AV × List Nat)}{a x:AV}{l xs:List AV}{R1 R2:List Nat}(h1:f a=some (x,R1))(h2:Xa f l=some (xs,R2)):Xa f (a::l)=some (x::xs,R1++R2):=by simp[Xa,h1,h2]
theorem yS{n:Nat}{rows:List (List AV)}{v:AV}{H:Ab}(ho:Wc 0 n true rows v H):∃nn R,∀d,rd (d+1) (hf H) v=some (Af n true nn rows,R)∧R.length≤1:=by
 rcases ho with⟨rfl,rfl⟩|⟨b,w,rfl,hb⟩
 ·exact⟨false,[],fun d=>⟨rfl,by simp⟩⟩
 ·have hb':(hf H (b+0)).bind Ci=some (n,true,rows):=by show(H[b]?).bind Ci=_;rw[hb];rfl
  refine⟨true,[b+0],fun d=>⟨?_,by simp⟩⟩
  simp only[rd,hb',adD,if_true,and_self,cond_true]
  cases rows<;>rfl
theorem lC{x:Option (List AV)}{vs:List AV}{h:Ab}{Q:Gp→Ab→Prop}(hx:x=some vs)(k:Rt 0 (some vs) h Q):Rt 0 x h Q:=hx▸k
theorem jO{f:AV→Option (AV × List Nat)}:∀{l:List (List AV)} {p:List (List AV) × List Nat} {r:List AV} {q:List AV × List Nat},Cj f l=some p→Xa f r=some q→Cj f (l++[r])=some (p.1++[q.1],p.2++q.2)
 | [],p,r,q,h,hr=>by simp[Cj]at h;subst h;simp[Cj,hr]
 |a::l,p,r,q,h,hr=>by
  simp only[Cj,acZ,acK]at h
  obtain⟨q1,hq1,r1,hr1,rfl⟩:=h
  simp[Cj,hq1,jO hr1 hr]
end
noncomputable section
open Go.RowKit
section
variable {P:Program} {O:Hv}
def slx(P:Program)(ty:TypeId)(a:Option AV)(l h:Option (Option AV)):OE:=r1 (a.bind fun a=>l.bind fun l=>h.bind fun h=>tA P ty a l h)
theorem ayP(t:List AV)(h:Ab)(ty:TypeId)(x:Operand)(lo hi:Option Operand):Hn O P t h (.slice ty x lo hi none)=slx P ty (Ai t x) (tN t lo) (tN t hi):=by
 rw[En _ _ _ rfl]
 simp only[exec,slx]
 cases Ai t x with
 |none=>rfl
 |some a=>
  cases tN t lo with
  |none=>rfl
  |some l=>
   cases tN t hi with
   |none=>rfl
   |some h=>exact Lj _
def oS(x:Option AV):Option (Option AV):=x.map some
theorem aQK(v:AV):oS (some v)=some (some v):=acG rfl rfl
theorem aq0(t:List AV):tN t none=some none:=acG rfl rfl
theorem aqC(t:List AV)(x:Operand):tN t (some x)=oS (Ai t x):=acG rfl rfl
theorem be0{ty:TypeId}{n:Nat}(hs:SlT P ty n)(fl:Bool)(rows:List (List AV))(i:Nat)(hi:i≤rows.length):slx P ty (some (.imm n fl rows)) (some none) (some (some (.int .i64 i)))=some (.ret (.imm n fl (rows.take i)),[]):=by
 obtain⟨e,h1,h2⟩:=hs
 simp only[slx,adD,tA,h1,h2,Qz]
 simp[hi,r1]
end
end
noncomputable section
set_option maxRecDepth 100000
section
variable {P:Program} {G:Nat→Option Obj}
end
section
variable {P:Program}
theorem ayW{ty:TypeId}{n:Nat}(hs:SlT P ty n)(fl nn:Bool){rows:List (List AV)}{i:Nat}(hi:i<rows.length):slx P ty (some (Af n fl nn rows)) (some none) (some (some (.int .i64 i)))=some (.ret (.imm n fl (rows.take i)),[]):=by
 cases rows with
 |nil=>simp at hi
 |cons r rs=>rw[axD];exact be0 hs fl _ i (by omega)
end
def lsE(e:AV→AV→Bool):List AV→List AV→Bool
 | [],[]=>true
 |a::l,b::r=>e a b&&lsE e l r
 |_,_=>false
def rsE(e:AV→AV→Bool):List (List AV)→List (List AV)→Bool
 | [],[]=>true
 |a::l,b::r=>lsE e a b&&rsE e l r
 |_,_=>false
def avE:Nat→AV→AV→Bool
 |0,_,_=>false
 |d+1,x,y=>
  match x,y with
  | .bool a,.bool b=>a==b
  | .int k a,.int j b=>k==j&&a==b
  | .str a,.str b=>a==b
  | .nils,.nils=>true
  | .imm n f r,.imm n' f' r'=>n==n'&&f==f'&&rsE (avE d) r r'
  | .agg a,.agg b=>lsE (avE d) a b
  |_,_=>false
theorem ah4{e:AV→AV→Bool}(h:∀a b,e a b=true→a=b):∀{l r:List AV},lsE e l r=true→l=r
 | [],[],_=>rfl
 |a::l,b::r,k=>by
  simp only[lsE,al7]at k
  rw[h a b k.1,ah4 h k.2]
 | [],_::_,k=>by cases k
 |_::_,[],k=>by cases k
theorem auL{e:AV→AV→Bool}(h:∀a b,e a b=true→a=b):∀{l r:List (List AV)},rsE e l r=true→l=r
 | [],[],_=>rfl
 |a::l,b::r,k=>by
  simp only[rsE,al7]at k
  rw[ah4 h k.1,auL h k.2]
 | [],_::_,k=>by cases k
 |_::_,[],k=>by cases k
theorem an6:∀{d:Nat} {x y:AV},avE d x y=true→x=y
 |0,_,_,h=>by cases h
 |d+1,x,y,h=>by
  unfold avE at h
  split at h
  ·simp at h;rw[h]
  ·simp at h;rw[h.1,h.2]
  ·simp at h;rw[h]
  ·rfl
  ·simp only[al7,beq_iff_eq]at h
   rw[h.1.1,h.1.2,auL (fun a b k=>an6 k) h.2]
  ·rw[ah4 (fun a b k=>an6 k) h]
  ·cases h
structure Ent where
 f:Nat
 args:List AV
 res:Gp × Ab
def bjJ(tab:List Ent)(f:Nat)(a:List AV)(h:Ab):Option (Gp × Ab):=
 match h with
 | []=>(tab.find? fun e=>e.f==f&&lsE (avE 8) e.args a).map (·.res)
 |_=>none
def rK(pr:Oz)(tab:List Ent):Oz:={ pr with at_:=fun f=>if tab.any (·.f==f)=true then some (bjJ tab f)else pr f }
theorem kX{O:Hv}{pr:Oz}{tab:List Ent}(h0:∀f p,pr f=some p→∀a h r,p a h=some r→O.call (.fn f) a h=some r)(h1:∀e∈tab,O.call (.fn e.f) e.args []=some e.res):
 ∀f p,rK pr tab f=some p→∀a h r,p a h=some r→O.call (.fn f) a h=some r:=by
 intro f p hp a h r hr
 simp only[rK]at hp
 split at hp
 ·cases hp
  unfold bjJ at hr
  split at hr
  ·obtain⟨e,he,rfl⟩:=acK.1 hr
   have h2:=List.find?_some he
   simp only[al7,beq_iff_eq]at h2
   rw[←h2.1,←ah4 (fun a b k=>an6 k) h2.2]
   exact h1 e (List.mem_of_find?_eq_some he)
  ·cases hr
 ·exact h0 f p hp a h r hr
def EVu:=PLift.up (acE @ayP (acE @aq0 (acE @aqC @aQK)))
end
noncomputable section
section
variable {α:Type}
end
end
section
def sM:Ab→Ab→Ab
 | [],h'=>h'
 |c₀::h,[]=>c₀::h
 |c₀::h,c::h'=>(bif c₀.quiet c then c₀ else c.mark)::sM h h'
def aqV(h h':Ab):Prop:=h.length≤h'.length∧∀(i:Nat) (c₀ c:CB),h[i]?=some c₀→h'[i]?=some c→c₀.quiet c=true∨c₀.isLive=true
theorem mK:∀(h h' pre:Ab),aqV h h'→∃es,Io pre.length h h'=some es∧Dm (pre++h) es=pre++sM h h'
 | [],h',pre,_=>⟨_,rfl,by simp[aeJ,sM]⟩
 |c₀::h,[],pre,ok=>by simp[aqV]at ok
 |c₀::h,c::h',pre,ok=>by
  have ok':aqV h h':=⟨by simpa using ok.1,fun i a b h1 h2=>ok.2 (i+1) a b (by simpa using h1) (by simpa using h2)⟩
  cases hq:c₀.quiet c with
  |true=>
   obtain⟨es,e1,e2⟩:=mK h h' (pre++[c₀]) ok'
   refine⟨es,?_,?_⟩
   ·simp only[Io,hq,cond_true]
    simpa using e1
   ·simpa [sM,hq]using e2
  |false=>
   have hl:c₀.isLive=true:=by
    rcases ok.2 0 c₀ c rfl rfl with h|h
    ·rw[hq]at h;cases h
    ·exact h
   obtain⟨es,e1,e2⟩:=mK h h' (pre++[c.mark]) ok'
   refine⟨.put pre.length c.mark::es,?_,?_⟩
   ·simp only[Io,hq,hl,cond_false,cond_true]
    simp only[avO,al6,List.length_nil]at e1
    rw[e1];rfl
   ·simp only[Dm,Xf,sM,hq,cond_false]
    have:(pre++c₀::h).set pre.length c.mark=(pre++[c.mark])++h:=by simp
    rw[this,e2];simp
theorem yH:∀{h h':Ab},h.length≤h'.length→(sM h h').length=h'.length
 | [],h',_=>rfl
 |c₀::h,[],hl=>by simp at hl
 |c₀::h,c::h',hl=>by simp[sM,yH (h:=h) (h':=h') (by simpa using hl)]
theorem rJ:∀{h h':Ab} {i:Nat} {c₀ c:CB},h[i]?=some c₀→h'[i]?=some c→c₀.quiet c=true→(sM h h')[i]?=some c₀
 | [],h',i,c₀,c,h1,_,_=>by simp at h1
 |a::h,[],i,c₀,c,_,h2,_=>by simp at h2
 |a::h,b::h',0,c₀,c,h1,h2,hq=>by
  simp at h1 h2;subst h1 h2;simp[sM,hq]
 |a::h,b::h',i+1,c₀,c,h1,h2,hq=>by
  simp at h1 h2;simpa [sM]using rJ h1 h2 hq
theorem yB:∀{h h':Ab} {i:Nat} {c₀ c:CB},h[i]?=some c₀→h'[i]?=some c→c₀.quiet c=false→(sM h h')[i]?=some c.mark
 | [],h',i,c₀,c,h1,_,_=>by simp at h1
 |a::h,[],i,c₀,c,_,h2,_=>by simp at h2
 |a::h,b::h',0,c₀,c,h1,h2,hq=>by
  simp at h1 h2;subst h1 h2;simp[sM,hq]
 |a::h,b::h',i+1,c₀,c,h1,h2,hq=>by
  simp at h1 h2;simpa [sM]using yB h1 h2 hq
theorem ahD:∀{h h':Ab} {i:Nat},h.length≤h'.length→h.length≤i→(sM h h')[i]?=h'[i]?
 | [],h',i,_,_=>rfl
 |a::h,[],i,hl,_=>by simp at hl
 |a::h,b::h',0,_,hi=>by simp at hi
 |a::h,b::h',i+1,hl,hi=>by
  simpa [sM]using ahD (h:=h) (h':=h') (i:=i) (by simpa using hl) (by simpa using hi)
theorem Nx{h:Ab}{i:Nat}{c:CB}(hc:h[i]?=some c):(Hf h)[i]?=some c.clean:=by simp[Hf,hc]
theorem Cm(h:Ab):(Hf h).length=h.length:=by simp[Hf]
theorem gZ(c:CB):Ci c.clean=Ci c:=by cases c<;>rfl
theorem aAT{O:Hv}{H:Ab}{f:Nat}{args:List AV}{Q:Gp→Ab→Prop}(hd:yP args=true)(hm:O.md f=true)(K:ShQ O f args (Hf H) Q)(ok:∀o G,Q o G→aqV H G):
 ∃o G es,cl O H (some (.func (.func f) [] [])) (some args)=some (o,es)∧Dm H es=sM H G∧Q o G:=by
 obtain⟨o,G,hc,hq⟩:=K
 obtain⟨es,e1,e2⟩:=mK H G [] (ok o G hq)
 refine⟨o,G,es,?_,by simpa using e2,hq⟩
 rw[apF]
 simp only[apH,asX,hd,if_true,shC,hm,Bool.or_true,hc]
 rw[ahU]
 have e1':Io 0 H G=some es:=e1
 rw[e1'];rfl
structure aiB(X:List Nat)(H H1:Ab):Prop where
 len:H.length≤H1.length
 same:∀b,b<H.length→b∉X→H1[b]?=H[b]?
theorem aiB.app(H l:Ab):aiB [] H (H++l):=⟨by simp,fun b hb _=>al3 hb⟩
end
noncomputable section
open Go.RowKit
theorem amE{H:Ab}(h:∀c∈H,c.quiet c.clean=true):Bc H=true:=by simp only[Bc,amP];exact h
theorem fR{H:Ab}(h:Bc H=true){b:Nat}{c:CB}(hb:H[b]?=some c):c.quiet c.clean=true:=by
 simp only[Bc,amP]at h
 exact h c (avF hb)
theorem Bw{H l:Ab}(h:Bc H=true)(hl:Bc l=true):Bc (H++l)=true:=by
 simp only[Bc,amP,aiI]at h hl ⊢
 exact fun c hc=>hc.elim (h c) (hl c)
theorem Dj{H:Ab}(h:Bc H=true)(b:Nat){c:CB}(hc:c.quiet c.clean=true):Bc (H.set b c)=true:=by
 simp only[Bc,amP]at h ⊢
 exact fun x hx=>(atB hx).elim (h x) (fun e=>e▸hc)
theorem ax9{H0 G:Ab}{X:List Nat}(hq:Bc H0=true)(K:aiB X (Hf H0) G)(hX:∀b∈X,b<H0.length∧∀c0 c,H0[b]?=some c0→G[b]?=some c→c0.isLive=true∧c0.quiet c=false):
 aqV H0 G∧(sM H0 G).length=G.length∧(∀b,H0.length≤b→(sM H0 G)[b]?=G[b]?)∧(∀b,b<H0.length→b∉X→(sM H0 G)[b]?=H0[b]?)∧(∀b∈X,∀c,G[b]?=some c→(sM H0 G)[b]?=some c.mark):=by
 have hlen:H0.length≤G.length:=by have:=K.len;rwa[Cm]at this
 have old:∀b c0,H0[b]?=some c0→b∉X→G[b]?=some c0.clean:=fun b c0 h0 hb=>by
  rw[K.same b (by rw[Cm];exact(aiC.1 h0).1) hb,Nx h0]
 refine⟨⟨hlen,fun b c0 c h0 h1=>?_⟩,yH hlen,fun b hb=>ahD hlen hb,fun b hb hn=>?_,fun b hb c hc=>?_⟩
 ·by_cases hb:b∈X
  ·exact .inr ((hX b hb).2 c0 c h0 h1).1
  ·rw[old b c0 h0 hb]at h1;cases h1
   exact .inl (fR hq h0)
 ·obtain⟨c0,h0⟩:∃c,H0[b]?=some c:=⟨_,al4 hb⟩
  rw[h0];exact rJ h0 (old b c0 h0 hn) (fR hq h0)
 ·obtain⟨h1,h2⟩:=hX b hb
  obtain⟨c0,h0⟩:∃c,H0[b]?=some c:=⟨_,al4 h1⟩
  exact yB h0 hc (h2 c0 c h0 hc).2
end
theorem An{h:Ab}{b:Nat}{c:CB}(e:h[b]?=some c):b<h.length:=(aiC.1 e).1
structure nH(st lo:Nat)(ov:AV)(h:Ab)(rows Q:List (List AV))(Ro:List Nat):Prop where
 own:Wc 0 st false rows ov h
 nil:rows=[]→ov=.nils
 q:Cj (rd 5 (hf h)) rows=some (Q,Ro)
 dx:∀b∈Ro,lo≤b
 dov:∀a b r n,ov=.slr a b r n→lo≤b∧b∉Ro∧b<h.length
theorem nH.none{st lo:Nat}{h:Ab}:nH st lo .nils h [] [] []:=⟨.inl ⟨rfl,rfl⟩,fun _=>rfl,rfl,by simp,fun _ _ _ _ e=>by cases e⟩
theorem nH.keep{st lo:Nat}{ov:AV}{h h':Ab}{rows Q:List (List AV)}{Ro:List Nat}(I:nH st lo ov h rows Q Ro)(hl:h.length≤h'.length)(k:∀b,lo≤b→b<h.length→h'[b]?=h[b]?):nH st lo ov h' rows Q Ro:=by
 refine⟨?_,I.nil,?_,I.dx,fun a b r n e=>?_⟩
 ·rcases I.own with h1|⟨b,w,h1,h2⟩
  ·exact .inl h1
  ·exact .inr ⟨b,w,h1,by rw[k b (by have:=(I.dov _ _ _ _ h1).1;simpa using this) (An h2)];exact h2⟩
 ·refine bS I.q fun j hj z hz=>?_
  show(h'[j]?).bind Ci=_
  rw[k j (I.dx j hj) (fB (by omega) I.q j hj)];exact hz
 ·obtain⟨a1,b1,c⟩:=I.dov a b r n e
  exact⟨a1,b1,by omega⟩
theorem a2H(b:Nat):AV.isCell (.mapr b)=true:=acG rfl rfl
theorem aT8(b:Nat):AV.flat (.mapr b)=false:=acG rfl rfl
theorem aTZ(b:Nat):Am (.mapr b)=[.mapr b]:=acG rfl rfl
def Ol:=PLift.up (acE @a2H (acE @aT8 @aTZ))
theorem nH.read{st lo:Nat}{ov:AV}{h:Ab}{rows Q:List (List AV)}{Ro:List Nat}(I:nH st lo ov h rows Q Ro):∃R,rd 6 (hf h) ov=some (Af st false false Q,R)∧(∀b∈R,lo≤b)∧R.length≤1+Ro.length:=by
 have key:∀d,Cj (rd d (hf h)) rows=some (Q,Ro)→∃R,rd (d+1) (hf h) ov=some (Af st false false Q,R)∧(∀b∈R,lo≤b)∧R.length≤1+Ro.length:=fun d hq=>by
  rcases I.own with⟨rfl,rfl⟩|⟨b,w,rfl,hb⟩
  ·simp[Cj]at hq;obtain⟨rfl,rfl⟩:=hq;exact⟨[],by simp[rd,Af],by simp,by simp⟩
  ·have hne:rows≠[]:=fun e=>by have:=I.nil e;cases this
   have hb':(hf h (b+0)).bind Ci=some (st,false,rows):=by show(h[b]?).bind Ci=_;rw[hb];rfl
   refine⟨(b+0)::Ro,?_,fun c hc=>?_,by simp;omega⟩
   ·simp only[rd,hb',adD,if_true,and_self,cond_false,hq,al5]
    have hl:Q≠[]:=fun e=>by
     cases rows with
     |nil=>exact hne rfl
     |cons r rs=>
      simp only[Cj,acZ,acK]at hq
      obtain⟨_,_,_,_,hq⟩:=hq
      simp only[Prod.mk.injEq]at hq
      rw[e]at hq;cases hq.1
    cases Q with
    |nil=>exact absurd rfl hl
    |cons r rs=>rfl
   ·rcases ah3.1 hc with rfl|hc
    ·exact(I.dov _ _ _ _ rfl).1
    ·exact I.dx c hc
 exact key 5 I.q
noncomputable section
def Hr(kvs:List AV):CB:=.lp [] .skip .skip kvs .map
def lP{α:Type}(key v:α→AV)(L:List α):List AV:=L.flatMap fun s=>[key s,v s]
theorem ahT{h:Ab}{b:Nat}{kvs:List AV}(hb:h[b]?=some (Hr kvs)):jJ (hf h) b=some kvs:=by
 unfold jJ
 rw[show hf h b=some (Hr kvs)from hb];rfl
structure acP{α:Type}[DecidableEq α](P:Program)(kt:TypeId)(key:α→AV)(D:α→Prop):Prop where
 ok:∀a,D a→ah0 P kt (key a)=true
 eq:∀a b,D a→D b→iT P 12 kt (key a) (key b)=some (decide (a=b))
 same:∀a,D a→AV.sameKey (key a) (key a)=true
section
variable {α:Type} [DecidableEq α] {P:Program} {kt:TypeId} {key:α→AV} {D:α→Prop}
theorem acP.find(K:acP P kt key D){s:α}(hs:D s)(v:α→AV):∀(L:List α) (i:Nat),(∀x∈L,D x)→kO P kt (key s) (lP key v L) i=some (if s∈L then some (i+L.idxOf s,v s)else none)
 | [],i,_=>rfl
 |a::L,i,h=>by
  have ha:=h a (by simp)
  have ih:=K.find hs v L (i+1) fun x hx=>h x (ahZ _ hx)
  show kO _ _ _ (key a::v a::lP key v L) i=_
  simp only[kO,K.eq s a hs ha,adD,ih]
  by_cases e:s=a
  ·subst e;simp
  ·have e2:(a==s)=false:=by simp;exact fun h=>e h.symm
   simp only[decide_eq_true_eq,e,if_false,ah3,false_or,List.idxOf_cons,e2,cond_false,al9.injEq]
   split
   ·rw[show i+1+List.idxOf s L=i+(List.idxOf s L+1) by omega]
   ·rfl
theorem azO{v:α→AV}{L:List α}{s:α}(hs:s∉L)(x:AV):lP key v L++[key s,x]=lP key (fun y=>if y=s then x else v y) (L++[s]):=by
 unfold lP
 rw[List.flatMap_append]
 congr 1
 ·rw[av2,av2]
  congr 1
  refine awV fun y hy=>?_
  simp only[if_neg (show ¬y=s from fun e=>hs (e▸hy))]
 ·simp
variable {h:Ab} {b:Nat} {L:List α} {v:α→AV} {s:α} {ty vt:TypeId} {z:AV}
theorem acP.lk_yes(K:acP P kt key D)(hu:P.underlying ty=some (.map kt vt))(hz:Le P vt=some z)(hb:h[b]?=some (Hr (lP key v L)))(hL:∀x∈L,D x)(hs:s∈L)(ok:Bool):
 lk P h ty (some (.mapr b)) (some (key s)) ok=some (.ret (bif ok then .tup [v s,.bool true]else v s),[]):=by
 simp only[lk,adD,Tj,hu,K.ok s (hL s hs),if_true,ahT hb,K.find (hL s hs) v L 0 hL,if_pos hs,hz]
 cases ok<;>rfl
theorem acP.lk_no(K:acP P kt key D)(hu:P.underlying ty=some (.map kt vt))(hz:Le P vt=some z)(hb:h[b]?=some (Hr (lP key v L)))(hL:∀x∈L,D x)(hd:D s)(hs:s∉L)(ok:Bool):
 lk P h ty (some (.mapr b)) (some (key s)) ok=some (.ret (bif ok then .tup [z,.bool false]else z),[]):=by
 simp only[lk,adD,Tj,hu,K.ok s hd,if_true,ahT hb,K.find hd v L 0 hL,if_neg hs,hz]
 cases ok<;>rfl
theorem acP.ms_new(K:acP P kt key D)(hu:P.underlying ty=some (.map kt vt))(hb:h[b]?=some (Hr (lP key v L)))(hL:∀x∈L,D x)(hd:D s)(hs:s∉L)(x:AV):
 ms P h ty (some (.mapr b)) (some (key s)) (some x)=some (.ret (.tup []),[.put b (Hr (lP key (fun y=>if y=s then x else v y) (L++[s])))]):=by
 rw[←azO hs]
 simp only[ms,adD,Tf,hu,K.ok s hd,if_true,ahT hb,K.find hd v L 0 hL,if_neg hs]
 rfl
end
end
noncomputable section
theorem af5(c:CB):c.clean.clean=c.clean:=by cases c<;>rfl
theorem awC(c:CB):c.clean.isLive=c.isLive:=by cases c<;>rfl
def Ns(H G:Ab):Prop:=H.length≤G.length∧∀(b:Nat) (c0 c:CB),H[b]?=some c0→G[b]?=some c→c=c0∨(c0.isLive=true∧((∃st fl rows,c=.live st fl true rows)∨c=.dead))∨∃k0 k1,c0=Hr k0∧c=Hr k1
theorem Ns.refl(H:Ab):Ns H H:=⟨ap9 _,fun b c0 c h0 h1=>.inl (by rw[h0]at h1;cases h1;rfl)⟩
theorem Ns.app{H G:Ab}(k:Ns H G)(l:Ab):Ns H (G++l):=⟨by have:=k.1;simp;omega,fun b c0 c h0 h1=>by
 rw[al3 (as6 (An h0) k.1)]at h1
 exact k.2 b c0 c h0 h1⟩
theorem Ns.lv{H G:Ab}(k:Ns H G){b:Nat}{c0 c:CB}(h0:H[b]?=some c0)(g:G[b]?=some c)(hl:c.isLive=true):c0.isLive=true:=by
 rcases k.2 b c0 c h0 g with rfl|⟨h,_⟩|⟨_,_,rfl,_⟩
 ·exact hl
 ·exact h
 ·rfl
theorem Ns.upd{H G:Ab}(k:Ns H G){b:Nat}{c d:CB}(g:G[b]?=some c)(hl:c.isLive=true)(hd:(∃st fl rows,d=.live st fl true rows)∨d=.dead):Ns H (G.set b d):=⟨by simpa using k.1,fun i c0 c' h0 h1=>by
 by_cases e:b=i
 ·subst e
  rw[apN (An g)]at h1;cases h1
  exact .inr (.inl ⟨k.lv h0 g hl,hd⟩)
 ·rw[al2 e]at h1
  exact k.2 i c0 c' h0 h1⟩
theorem Ns.put{H G:Ab}(k:Ns H G){b st0:Nat}{fl0 w0:Bool}{rows0:List (List AV)}(g:G[b]?=some (.live st0 fl0 w0 rows0))(st:Nat)(fl:Bool)(rows:List (List AV)):Ns H (G.set b (.live st fl true rows)):=k.upd g rfl (.inl ⟨_,_,_,rfl⟩)
theorem Ns.kill{H G:Ab}(k:Ns H G){b st0:Nat}{fl0 w0:Bool}{rows0:List (List AV)}(g:G[b]?=some (.live st0 fl0 w0 rows0)):Ns H (G.set b .dead):=k.upd g rfl (.inr rfl)
theorem Ns.map{H G:Ab}(k:Ns H G){b:Nat}{k0:List AV}(g:G[b]?=some (Hr k0))(k1:List AV):Ns H (G.set b (Hr k1)):=⟨by simpa using k.1,fun i c0 c' h0 h1=>by
 by_cases e:b=i
 ·subst e
  rw[apN (An g)]at h1;cases h1
  rcases k.2 b c0 _ h0 g with h|⟨_,⟨_,_,_,h⟩|h⟩|⟨_,_,h,_⟩
  ·exact .inr (.inr ⟨_,_,h.symm,rfl⟩)
  ·cases h
  ·cases h
  ·exact .inr (.inr ⟨_,_,h,rfl⟩)
 ·rw[al2 e]at h1
  exact k.2 i c0 c' h0 h1⟩
theorem Ns.trans{H G M:Ab}(k:Ns H G)(k':Ns G M):Ns H M:=⟨Nat.le_trans k.1 k'.1,fun b c0 c2 h0 h2=>by
 have h1:G[b]?=some (G[b]'(as6 (An h0) k.1)):=al4 _
 generalize G[b]'(as6 (An h0) k.1)=c1 at h1
 rcases k'.2 b c1 c2 h1 h2 with rfl|⟨h,h'⟩|⟨k0,k1,rfl,rfl⟩
 ·exact k.2 b c0 _ h0 h1
 ·exact .inr (.inl ⟨k.lv h0 h1 h,h'⟩)
 ·rcases k.2 b c0 _ h0 h1 with h|⟨_,⟨_,_,_,h⟩|h⟩|⟨_,_,h,_⟩
  ·exact .inr (.inr ⟨_,_,h.symm,rfl⟩)
  ·cases h
  ·cases h
  ·exact .inr (.inr ⟨_,_,h,rfl⟩)⟩
theorem aiV{c d:CB}(h:c.clean=d.clean):c.quiet c.clean=d.quiet d.clean:=by
 cases c<;>cases d<;>first|(simp[CB.clean]at h;done)|(simp only[CB.clean]at h;cases h;rfl)|rfl
theorem agU{h h':Ab}(e:Hf h=Hf h'){b:Nat}{c:CB}(g:h[b]?=some c):∃c',h'[b]?=some c'∧c'.clean=c.clean:=by
 have h1:(Hf h')[b]?=some c.clean:=by rw[←e];exact Nx g
 unfold Hf at h1
 rw[an5]at h1
 obtain⟨c',h2,h3⟩:=acK.1 h1
 exact⟨c',h2,h3⟩
theorem abO{h h':Ab}(e:Hf h=Hf h'):h.length=h'.length:=by
 have:=congrArg List.length e
 rwa[Cm,Cm]at this
theorem uK{h h':Ab}(e:Hf h=Hf h')(hq:Bc h=true):Bc h'=true:=by
 refine amE fun c hc=>?_
 obtain⟨b,hb⟩:=List.getElem?_of_mem hc
 obtain⟨c',h1,h2⟩:=agU e.symm hb
 rw[←aiV h2];exact fR hq h1
theorem Gz(h:Ab):Hf (Hf h)=Hf h:=by
 unfold Hf
 rw[List.map_map]
 exact awV fun c _=>af5 c
theorem Ir{h h':Ab}(e:Hf h=Hf h'){b st:Nat}{fl:Bool}{rows:List (List AV)}(g:∃x,h[b]?=some (.live st fl x rows)):∃x,h'[b]?=some (.live st fl x rows):=by
 obtain⟨x,g⟩:=g
 obtain⟨c',h1,h2⟩:=agU e g
 cases c'<;>simp[CB.clean]at h2
 obtain⟨rfl,rfl,rfl⟩:=h2
 exact⟨_,h1⟩
theorem qS{h h':Ab}(e:Hf h=Hf h'){b:Nat}{c:CB}(g:h[b]?=some c)(hc:∀d:CB,d.clean=c.clean→d=c):h'[b]?=some c:=by
 obtain⟨c',h1,h2⟩:=agU e g
 rw[h1,hc c' h2]
theorem aoN{h h':Ab}(e:Hf h=Hf h'){b:Nat}{kvs:List AV}(g:h[b]?=some (Hr kvs)):h'[b]?=some (Hr kvs):=qS e g fun d hd=>by
 cases d<;>simp_all[CB.clean,Hr]
theorem ahX{H G:Ab}(hq:Bc H=true)(k:Ns (Hf H) G)(hg:Bc G=true):aqV H G∧Ns H (sM H G)∧Hf (sM H G)=Hf G∧Bc (sM H G)=true:=by
 have hl:H.length≤G.length:=by have:=k.1;rwa[Cm]at this
 have one:∀(b:Nat) (c0 c:CB),H[b]?=some c0→G[b]?=some c→(c0.quiet c=true∨c0.isLive=true)∧∃d,(sM H G)[b]?=some d∧d.clean=c.clean∧(d=c0∨(c0.isLive=true∧((∃st fl rows,d=.live st fl true rows)∨d=.dead))∨∃k0 k1,c0=Hr k0∧d=Hr k1):=fun b c0 c h0 h1=>by
  rcases k.2 b _ _ (Nx h0) h1 with rfl|⟨h,h'⟩|⟨k0,k1,e0,rfl⟩
  ·have:=fR hq h0
   exact⟨.inl this,c0,rJ h0 h1 this,(af5 c0).symm,.inl rfl⟩
  ·rw[awC]at h
   refine⟨.inr h,c,?_,rfl,.inr (.inl ⟨h,h'⟩)⟩
   have hqf:c0.quiet c=false:=by
    rcases h' with⟨_,_,_,rfl⟩|rfl<;>cases c0<;>first|rfl|(simp[CB.isLive]at h;done)|(simp[CB.quiet,CB.same];done)
   rw[yB h0 h1 hqf]
   rcases h' with⟨_,_,_,rfl⟩|rfl<;>rfl
  ·have e1:c0=Hr k0:=by cases c0<;>simp_all[CB.clean,Hr]
   subst e1
   refine⟨.inr rfl,Hr k1,?_,rfl,.inr (.inr ⟨_,_,rfl,rfl⟩)⟩
   cases hs:(Hr k0).quiet (Hr k1)with
   |true=>
    have:k0=k1:=(lB hs).1
    subst this
    exact rJ h0 h1 hs
   |false=>rw[yB h0 h1 hs];rfl
 have hcl:Hf (sM H G)=Hf G:=by
  apply List.ext_getElem?
  intro b
  by_cases hb:b<G.length
  ·have h1:G[b]?=some G[b]:=al4 hb
   rw[Nx h1]
   by_cases hb2:b<H.length
   ·have h0:H[b]?=some H[b]:=al4 hb2
    obtain⟨_,d,e1,e2,_⟩:=one b _ _ h0 h1
    rw[Nx e1,e2]
   ·rw[Nx ((ahD hl (by omega)).trans h1)]
  ·rw[axV (by rw[Cm,yH hl];omega),axV (by rw[Cm];omega)]
 refine⟨⟨hl,fun b c0 c h0 h1=>(one b c0 c h0 h1).1⟩,⟨by rw[yH hl];exact hl,fun b c0 d h0 hd=>?_⟩,hcl,uK hcl.symm hg⟩
 have hb:=An h0
 have h1:G[b]?=some (G[b]'(by omega)):=al4 _
 obtain⟨_,d',e1,_,e3⟩:=one b _ _ h0 h1
 rw[e1]at hd;cases hd
 exact e3
theorem bcV{O:Hv}{H:Ab}{f:Nat}{vs cap:List AV}{Q:Gp→Ab→Prop}(hq:Bc H=true)(hd:yP (vs++cap)=true)(hm:O.md f=true)(K:ShQ O f (vs++cap) (Hf H) fun o G=>Q o G∧Ns (Hf H) G∧Bc G=true):
 ∃o G es M,cl O H (some (.func (.func f) [] cap)) (some vs)=some (o,es)∧Dm H es=M∧Q o G∧Hf M=Hf G∧Ns H M∧Bc M=true:=by
 obtain⟨o,G,hc,hQ,hw,hg⟩:=K
 obtain⟨m1,m2,m3,m4⟩:=ahX hq hw hg
 obtain⟨es,e1,e2⟩:=mK H G [] m1
 refine⟨o,G,es,sM H G,?_,by simpa using e2,hQ,m3,m2,m4⟩
 rw[apF]
 simp only[apH,hd,if_true,shC,hm,Bool.or_true,hc]
 rw[ahU]
 have e1':Io 0 H G=some es:=e1
 rw[e1'];rfl
theorem apM{H G:Ab}{o:Gp}(hq:Bc H=true)(hw:Ns (Hf H) G)(hg:Bc G=true):∃es M,shK H (some (o,G))=some (o,es)∧Dm H es=M∧Hf M=Hf G∧Ns H M∧Bc M=true:=by
 obtain⟨m1,m2,m3,m4⟩:=ahX hq hw hg
 obtain⟨es,e1,e2⟩:=mK H G [] m1
 refine⟨es,sM H G,?_,by simpa using e2,m3,m2,m4⟩
 rw[ahU]
 have e1':Io 0 H G=some es:=e1
 rw[e1'];rfl
theorem nH.cl{st lo:Nat}{ov:AV}{h h':Ab}{rows Q:List (List AV)}{Ro:List Nat}(I:nH st lo ov h rows Q Ro)(e:Hf h=Hf h'):nH st lo ov h' rows Q Ro:=by
 refine⟨?_,I.nil,bS I.q fun j hj z hz=>?_,I.dx,fun a b r n h=>?_⟩
 ·rcases I.own with h1|⟨b,w,h1,h2⟩
  ·exact .inl h1
  ·obtain⟨x,h3⟩:=Ir e ⟨w,h2⟩
   exact .inr ⟨b,x,h1,h3⟩
 ·show(h'[j]?).bind Ci=_
  cases hc:h[j]? with
  |none=>
   have hz':(h[j]?).bind Ci=some z:=hz
   rw[hc]at hz';cases hz'
  |some c=>
   obtain⟨c',k1,k2⟩:=agU e hc
   have hz':(h[j]?).bind Ci=some z:=hz
   rw[hc]at hz'
   rw[k1]
   show Ci c'=_
   rw[←gZ c',k2,gZ];exact hz'
 ·obtain⟨a1,a2,a3⟩:=I.dov a b r n h
  exact⟨a1,a2,by rw[←abO e];exact a3⟩
theorem nH.step{st lo:Nat}{ov:AV}{h G:Ab}{rows Q:List (List AV)}{Ro:List Nat}(I:nH st lo ov h rows Q Ro){m n:Nat}{w:Bool}{r X:List AV}{R':List Nat}(hG:G[m]?=some (.live st false w (rows++[r])))
 (kR:∀j∈Ro,∀z,(h[j]?).bind Ci=some z→(G[j]?).bind Ci=some z) (hr:Xa (rd 5 (hf G)) r=some (X,R')) (hR':∀b∈R',lo≤b∧b≠m) (hm:lo≤m) (hmR:m∉Ro) (hn:n=rows.length+1):
 nH st lo (.slr st m 0 n) G (rows++[r]) (Q++[X]) (Ro++R'):=by
 subst hn
 refine⟨.inr ⟨m,w,by simp,hG⟩,fun e=>by simp at e,jO (bS I.q fun j hj z hz=>kR j hj z hz) hr,fun b hb=>?_,fun a b r n e=>?_⟩
 ·rcases aiI.1 hb with hb|hb
  ·exact I.dx b hb
  ·exact(hR' b hb).1
 ·cases e
  refine⟨hm,fun hb=>?_,An hG⟩
  rcases aiI.1 hb with hb|hb
  ·exact hmR hb
  ·exact(hR' _ hb).2 rfl
def Ge(H G:Ab)(b:Nat):Prop:=(Hf G)[b]?=(Hf H)[b]?
theorem Ge.refl(H:Ab)(b:Nat):Ge H H b:=Eq.refl _
theorem Ge.trans{H G M:Ab}{b:Nat}(h:Ge H G b)(h':Ge G M b):Ge H M b:=acG h' h
theorem Ge.of{H G:Ab}{b:Nat}(h:G[b]?=H[b]?):Ge H G b:=by
 unfold Ge Hf;rw[an5,an5,h]
theorem Ge.app{H G:Ab}{b:Nat}(h:Ge H G b)(hb:b<G.length)(l:Ab):Ge H (G++l) b:=h.trans (Ge.of (al3 hb))
theorem Ge.eqR{H G M:Ab}{b:Nat}(h:Ge H G b)(e:Hf G=Hf M):Ge H M b:=by unfold Ge at *;rw[←e,h]
theorem Ge.eqL{H H' G:Ab}{b:Nat}(h:Ge H G b)(e:Hf H=Hf H'):Ge H' G b:=by unfold Ge at *;rw[h,e]
theorem Ge.set{H G:Ab}{b i:Nat}(h:Ge H G b)(hn:i≠b)(c:CB):Ge H (G.set i c) b:=h.trans (Ge.of (al2 hn))
theorem Ge.at_{H G:Ab}{b:Nat}{c:CB}(h:Ge H G b)(g:H[b]?=some c):∃c',G[b]?=some c'∧c'.clean=c.clean:=by
 have h1:(Hf G)[b]?=some c.clean:=acG h (Nx g)
 unfold Hf at h1
 rw[an5]at h1
 exact acK.1 h1
theorem Ge.live{H G:Ab}{b st:Nat}{fl:Bool}{rows:List (List AV)}(h:Ge H G b)(g:∃x,H[b]?=some (.live st fl x rows)):∃x,G[b]?=some (.live st fl x rows):=by
 obtain⟨x,g⟩:=g
 obtain⟨c',h1,h2⟩:=h.at_ g
 cases c'<;>simp[CB.clean]at h2
 obtain⟨rfl,rfl,rfl⟩:=h2
 exact⟨_,h1⟩
theorem Ge.keep{H G:Ab}{b:Nat}{c:CB}(h:Ge H G b)(g:H[b]?=some c)(hc:∀d:CB,d.clean=c.clean→d=c):G[b]?=some c:=by
 obtain⟨c',h1,h2⟩:=h.at_ g
 rw[h1,hc c' h2]
theorem Ge.rows{H G:Ab}{b:Nat}{z:Nat × Bool × List (List AV)}(h:Ge H G b)(g:(H[b]?).bind Ci=some z):(G[b]?).bind Ci=some z:=by
 cases hc:H[b]? with
 |none=>rw[hc]at g;cases g
 |some c=>
  rw[hc]at g
  obtain⟨c',h1,h2⟩:=h.at_ hc
  rw[h1]
  show Ci c'=_
  rw[←gZ c',h2,gZ];exact g
theorem aA1{kvs:List AV}(d:CB)(hd:d.clean=(Hr kvs).clean):d=Hr kvs:=by
 cases d<;>simp_all[CB.clean,Hr]
theorem Ge.map{H G:Ab}{b:Nat}{kvs:List AV}(h:Ge H G b)(g:H[b]?=some (Hr kvs)):G[b]?=some (Hr kvs):=h.keep g aA1
theorem nH.sm{st lo:Nat}{ov:AV}{h h':Ab}{rows Q:List (List AV)}{Ro:List Nat}(I:nH st lo ov h rows Q Ro)(hl:h.length≤h'.length)(k:∀b,lo≤b→b<h.length→Ge h h' b):nH st lo ov h' rows Q Ro:=
 ((I.cl (Gz h).symm).keep (h':=Hf h') (by rw[Cm,Cm];exact hl) fun b h1 h2=>k b h1 (by rwa[Cm]at h2)).cl (Gz h')
theorem nH.put{st lo:Nat}{ov:AV}{h:Ab}{rows Q:List (List AV)}{Ro:List Nat}(I:nH st lo ov h rows Q Ro){B:Nat}{d:CB}(g:h[B]?=some d)(hn:Ci d=Option.none)(c:CB):nH st lo ov (h.set B c) rows Q Ro:=by
 refine⟨?_,I.nil,bS I.q fun j hj z hz=>?_,I.dx,fun a b r n e=>?_⟩
 ·rcases I.own with h1|⟨b,w,h1,h2⟩
  ·exact .inl h1
  ·refine .inr ⟨b,w,h1,?_⟩
   rw[al2 (fun e=>by rw[←e,g]at h2;cases h2;cases hn)];exact h2
 ·show((h.set B c)[j]?).bind Ci=_
  have hz':(h[j]?).bind Ci=some z:=hz
  rw[al2 (fun e=>by rw[←e,g]at hz';simp[hn]at hz')];exact hz'
 ·obtain⟨a1,a2,a3⟩:=I.dov a b r n e
  exact⟨a1,a2,by simpa using a3⟩
theorem Ha{h:Ab}(hq:Bc h=true):Bc (Hf h)=true:=uK (Gz h).symm hq
theorem Ns.hi{H G:Ab}(k:Ns H G){b:Nat}(hb:H.length≤b)(c:CB):Ns H (G.set b c):=⟨by simpa using k.1,fun i c0 c1 h0 h1=>by
 rw[al2 (by have:=An h0;omega)]at h1
 exact k.2 i c0 c1 h0 h1⟩
theorem Ns.back{H M:Ab}{B:Nat}{c d:CB}(k:Ns (H.set B d) M)(g:H[B]?=some c):Ns H (M.set B c):=⟨by have:=k.1;simpa using this,fun b c0 c1 h0 h1=>by
 by_cases e:B=b
 ·subst e
  rw[g]at h0;cases h0
  rw[apN (by have:=k.1;simp at this;have:=An g;omega)]at h1
  cases h1;exact .inl rfl
 ·rw[al2 e]at h1
  exact k.2 b c0 c1 (by rw[al2 e];exact h0) h1⟩
theorem aiB.wst{H G:Ab}(k:aiB [] H G):Ns H G:=⟨k.len,fun b c0 c h0 h1=>.inl (by
 have:=k.same b (An h0) (by simp)
 rw[h0,h1]at this;cases this;rfl)⟩
theorem biC{O:Hv}{H:Ab}{b:Nat}{vs:List AV}{Q:Gp→Ab→Prop}(hq:Bc H=true)(K:RnQ O (vs++[.yl b]) (Hf H) fun o G=>Q o G∧Ns (Hf H) G∧Bc G=true):
 ∃o G es M,cl O H (some (.yl b)) (some vs)=some (o,es)∧Dm H es=M∧Q o G∧Hf M=Hf G∧Ns H M∧Bc M=true:=by
 obtain⟨o,G,hc,hQ,hw,hg⟩:=K
 obtain⟨m1,m2,m3,m4⟩:=ahX hq hw hg
 obtain⟨es,e1,e2⟩:=mK H G [] m1
 refine⟨o,G,es,sM H G,?_,by simpa using e2,hQ,m3,m2,m4⟩
 rw[blC,hc,ahU]
 have e1':Io 0 H G=some es:=e1
 rw[e1'];rfl
end
end Go.Ev
namespace Go.Ev
namespace Bfs
def ahC:List Nat→List Nat→Prop
 |a::p,b::q=>a<b∨(a=b∧ahC p q)
 |_,_=>True
theorem afX:∀p,ahC p p
 | []=>trivial
 |_::p=>.inr ⟨rfl,afX p⟩
theorem acF:∀{p q r:List Nat},p.length=q.length→q.length=r.length→ahC p q→ahC q r→ahC p r
 | [],[],[],_,_,_,_=>trivial
 | [],_::_,_,h,_,_,_=>by simp at h
 |_::_,[],_,h,_,_,_=>by simp at h
 |_::_,_::_,[],_,h,_,_=>by simp at h
 | [],[],_::_,_,h,_,_=>by simp at h
 |a::p,b::q,c::r,h1,h2,h3,h4=>by
  simp only[al6,aoC]at h1 h2
  rcases h3 with h3|⟨rfl,h3⟩
  ·rcases h4 with h4|⟨rfl,h4⟩
   ·exact .inl (by omega)
   ·exact .inl h3
  ·rcases h4 with h4|⟨rfl,h4⟩
   ·exact .inl h4
   ·exact .inr ⟨rfl,acF h1 h2 h3 h4⟩
theorem afB:∀{p q:List Nat} {a b:Nat},p.length=q.length→ahC p q→(p=q→a≤b)→ahC (p++[a]) (q++[b])
 | [],[],a,b,_,_,h=>by
   have:=h rfl
   by_cases e:a=b
   ·exact .inr ⟨e,trivial⟩
   ·exact .inl (by omega)
 | [],_::_,_,_,h,_,_=>by simp at h
 |_::_,[],_,_,h,_,_=>by simp at h
 |c::p,d::q,a,b,h,h1,h2=>by
  simp only[al6,aoC]at h
  rcases h1 with h1|⟨rfl,h1⟩
  ·exact .inl h1
  ·exact .inr ⟨rfl,afB h h1 fun e=>h2 (by rw[e])⟩
def le2(p q:List Nat):Prop:=p.length<q.length∨(p.length=q.length∧ahC p q)
theorem sJ(p:List Nat):le2 p p:=.inr ⟨rfl,afX p⟩
theorem arA{p q r:List Nat}(h1:le2 p q)(h2:le2 q r):le2 p r:=by
 rcases h1 with h1|⟨h1,l1⟩
 ·rcases h2 with h2|⟨h2,_⟩
  ·exact .inl (by omega)
  ·exact .inl (by omega)
 ·rcases h2 with h2|⟨h2,l2⟩
  ·exact .inl (by omega)
  ·exact .inr ⟨h1.trans h2,acF h1 h2 l1 l2⟩
theorem yZ{p q:List Nat}(h:le2 p q){a b:Nat}(hab:p=q→a≤b):le2 (p++[a]) (q++[b]):=by
 rcases h with h|⟨h,l⟩
 ·exact .inl (by simp;omega)
 ·exact .inr ⟨by simp[h],afB h l hab⟩
theorem azL(p:List Nat):le2 [] p:=by
 cases p with
 |nil=>exact sJ _
 |cons=>exact .inl (by simp)
variable {V:Type}
def run(step:V→Nat→V)(v:V)(w:List Nat):V:=w.foldl step v
theorem ajX(step:V→Nat→V)(v:V)(w:List Nat)(a:Nat):run step v (w++[a])=step (run step v w) a:=by
 unfold run;rw[List.foldl_append];rfl
structure BF(step:V→Nat→V)(n:Nat)(v0:V)(D:List (V × List Nat))(i j:Nat):Prop where
 hd:D[0]?=some (v0,[])
 nd:∀(k k':Nat) (x x':V × List Nat),D[k]?=some x→D[k']?=some x'→x.1=x'.1→k=k'
 way:∀(k:Nat) (x:V × List Nat),D[k]?=some x→run step v0 x.2=x.1∧∀a∈x.2,a<n
 par:∀(k:Nat) (x:V × List Nat),D[k]?=some x→k≠0→∃(k':Nat) (u:V) (p:List Nat) (a:Nat),k'<k∧D[k']?=some (u,p)∧x=(step u a,p++[a])∧a<n∧(k'<i∨(k'=i∧a<j))
 srt:∀(k k':Nat) (x x':V × List Nat),k<k'→D[k]?=some x→D[k']?=some x'→le2 x.2 x'.2∧x.2≠x'.2
 cls:∀(k:Nat) (u:V) (p:List Nat),D[k]?=some (u,p)→∀a,a<n→(k<i∨(k=i∧a<j))→∃(k':Nat) (x:V × List Nat),D[k']?=some x∧x.1=step u a∧le2 x.2 (p++[a])
theorem BF.start(step:V→Nat→V)(n:Nat)(v0:V):BF step n v0 [(v0,[])] 0 0:=by
 have one:∀(k:Nat) (x:V × List Nat),[(v0,([]:List Nat))][k]?=some x→k=0∧x=(v0,[]):=fun k x h=>by
  cases k with
  |zero=>simp at h;exact⟨rfl,h.symm⟩
  |succ k=>simp at h
 refine⟨rfl,fun k k' x x' h h' _=>?_,fun k x h=>?_,fun k x h hk=>absurd (one k x h).1 hk,fun k k' x x' hl h h'=>?_,fun k u p h a ha hc=>by omega⟩
 ·rw[(one k x h).1,(one k' x' h').1]
 ·rw[(one k x h).2];exact⟨rfl,by simp⟩
 ·have:=(one k x h).1
  have:=(one k' x' h').1
  omega
theorem BF.before{step:V→Nat→V}{n:Nat}{v0:V}{D:List (V × List Nat)}{i j:Nat}(B:BF step n v0 D i j){u:V}{p:List Nat}(hi:D[i]?=some (u,p)){k:Nat}{x:V × List Nat}(hx:D[k]?=some x):le2 x.2 (p++[j])∧x.2≠p++[j]:=by
 by_cases hk:k=0
 ·subst hk
  rw[B.hd]at hx
  cases hx
  exact⟨azL _,by simp⟩
 ·obtain⟨k',u',p',a,h1,h2,rfl,ha,h3⟩:=B.par k x hx hk
  rcases h3 with h3|⟨rfl,h3⟩
  ·obtain⟨s1,s2⟩:=B.srt k' i _ _ h3 h2 hi
   simp only at s1 s2
   refine⟨yZ s1 fun e=>absurd e s2,fun e=>?_⟩
   have:=as8 e rfl
   exact s2 this.1
  ·rw[hi]at h2
   cases h2
   refine⟨yZ (sJ _) fun _=>by omega,fun e=>?_⟩
   have:=(as8 e rfl).2
   simp at this
   omega
theorem BF.old{step:V→Nat→V}{n:Nat}{v0:V}{D:List (V × List Nat)}{i j:Nat}(B:BF step n v0 D i j){u:V}{p:List Nat}(hi:D[i]?=some (u,p)){k:Nat}{x:V × List Nat}(hx:D[k]?=some x)(he:x.1=step u j):BF step n v0 D i (j+1):=by
 refine⟨B.hd,B.nd,B.way,fun k x h hk=>?_,B.srt,fun k' u' p' h a ha hc=>?_⟩
 ·obtain⟨k',u',p',a,h1,h2,h3,h4,h5⟩:=B.par k x h hk
  exact⟨k',u',p',a,h1,h2,h3,h4,by omega⟩
 ·by_cases e:k'=i∧a=j
  ·obtain⟨rfl,rfl⟩:=e
   rw[hi]at h
   cases h
   exact⟨k,x,hx,he,(B.before hi hx).1⟩
  ·exact B.cls k' u' p' h a ha (by omega)
theorem BF.new{step:V→Nat→V}{n:Nat}{v0:V}{D:List (V × List Nat)}{i j:Nat}(B:BF step n v0 D i j){u:V}{p:List Nat}(hi:D[i]?=some (u,p))(hj:j<n)(hn:∀(k:Nat) (x:V × List Nat),D[k]?=some x→x.1≠step u j):BF step n v0 (D++[(step u j,p++[j])]) i (j+1):=by
 have hil:i<D.length:=(aiC.1 hi).1
 have get:∀(k:Nat) (x:V × List Nat),(D++[(step u j,p++[j])])[k]?=some x→D[k]?=some x∨(k=D.length∧x=(step u j,p++[j])):=fun k x h=>by
  by_cases hk:k<D.length
  ·rw[al3 hk]at h;exact .inl h
  ·rw[apC (by omega)]at h
   by_cases e:k=D.length
   ·subst e;simp at h;exact .inr ⟨rfl,h.symm⟩
   ·obtain⟨d,hd⟩:∃d,k-D.length=d+1:=⟨k-D.length-1,by omega⟩
    rw[hd]at h;simp at h
 have old:∀(k:Nat) (x:V × List Nat),D[k]?=some x→(D++[(step u j,p++[j])])[k]?=some x:=fun k x h=>by
  rw[al3 (aiC.1 h).1];exact h
 have lt:∀(k:Nat) (x:V × List Nat),D[k]?=some x→k<D.length:=fun k x h=>(aiC.1 h).1
 have hw:=B.way i _ hi
 refine⟨old 0 _ B.hd,fun k k' x x' h h' e=>?_,fun k x h=>?_,fun k x h hk=>?_,fun k k' x x' hl h h'=>?_,fun k u' p' h a ha hc=>?_⟩
 ·rcases get k x h with h|⟨rfl,rfl⟩
  ·rcases get k' x' h' with h'|⟨rfl,rfl⟩
   ·exact B.nd k k' x x' h h' e
   ·exact absurd e (hn k x h)
  ·rcases get k' x' h' with h'|⟨rfl,rfl⟩
   ·exact absurd e.symm (hn k' x' h')
   ·rfl
 ·rcases get k x h with h|⟨rfl,rfl⟩
  ·exact B.way k x h
  ·refine⟨by simp only;rw[ajX,hw.1],fun a ha=>?_⟩
   rcases aiI.1 ha with ha|ha
   ·exact hw.2 a ha
   ·simp at ha;omega
 ·rcases get k x h with h|⟨rfl,rfl⟩
  ·obtain⟨k',u',p',a,h1,h2,h3,h4,h5⟩:=B.par k x h hk
   exact⟨k',u',p',a,h1,old _ _ h2,h3,h4,by omega⟩
  ·exact⟨i,u,p,j,hil,old _ _ hi,rfl,hj,.inr ⟨rfl,Nat.lt_succ_self _⟩⟩
 ·rcases get k' x' h' with h'|⟨rfl,rfl⟩
  ·rcases get k x h with h|⟨rfl,rfl⟩
   ·exact B.srt k k' x x' hl h h'
   ·have:=lt k' x' h';omega
  ·rcases get k x h with h|⟨rfl,rfl⟩
   ·exact B.before hi h
   ·omega
 ·rcases get k (u',p') h with h0|⟨rfl,e⟩
  ·by_cases e:k=i∧a=j
   ·obtain⟨rfl,rfl⟩:=e
    rw[hi]at h0
    cases h0
    exact⟨D.length,(step u a,p++[a]),by rw[apC (ap9 _),Nat.sub_self];rfl,rfl,sJ _⟩
   ·obtain⟨k2,x2,h1,h2,h3⟩:=B.cls k u' p' h0 a ha (by omega)
    exact⟨k2,x2,old _ _ h1,h2,h3⟩
  ·omega
theorem BF.next{step:V→Nat→V}{n:Nat}{v0:V}{D:List (V × List Nat)}{i:Nat}(B:BF step n v0 D i n):BF step n v0 D (i+1) 0:=
 ⟨B.hd,B.nd,B.way,fun k x h hk=>by
   obtain⟨k',u',p',a,h1,h2,h3,h4,h5⟩:=B.par k x h hk
   exact⟨k',u',p',a,h1,h2,h3,h4,by omega⟩,B.srt,fun k u p h a ha hc=>B.cls k u p h a ha (by omega)⟩
theorem BF.best{step:V→Nat→V}{n:Nat}{v0:V}{D:List (V × List Nat)}(B:BF step n v0 D D.length 0):∀(m:Nat) (w:List Nat),w.length=m→(∀a∈w,a<n)→∃(k:Nat) (x:V × List Nat),D[k]?=some x∧x.1=run step v0 w∧le2 x.2 w:=by
 intro m
 induction m with
 |zero=>
  intro w hw _
  obtain rfl:=ayH.1 hw
  exact⟨0,_,B.hd,rfl,sJ _⟩
 |succ m ih=>
  intro w hw ha
  have hne:w≠[]:=fun e=>by subst e;simp at hw
  have hsp:=List.dropLast_concat_getLast hne
  generalize w.getLast hne=a at hsp
  generalize w.dropLast=q at hsp
  subst hsp
  obtain⟨k,⟨u,p⟩,h1,h2,h3⟩:=ih q (by simpa using hw) fun b hb=>ha b (by simp[hb])
  simp only at h2 h3
  obtain⟨k',x,h4,h5,h6⟩:=B.cls k u p h1 a (ha a (by simp)) (.inl (aiC.1 h1).1)
  refine⟨k',x,h4,by rw[ajX,h5,h2],arA h6 (yZ h3 fun _=>ap9 _)⟩
theorem BF.pre{step:V→Nat→V}{n:Nat}{v0:V}{D:List (V × List Nat)}{i j:Nat}(B:BF step n v0 D i j){k:Nat}{v:V}{p:List Nat}{a:Nat}(h:D[k]?=some (v,p++[a])):∃k' u,k'<k∧D[k']?=some (u,p)∧v=step u a∧a<n:=by
 have hk:k≠0:=fun e=>by subst e;rw[B.hd]at h;simp at h
 obtain⟨k',u,p',a',h1,h2,h3,h4,_⟩:=B.par k _ h hk
 simp only[Prod.mk.injEq]at h3
 have:=as8 h3.2 rfl
 simp at this
 obtain⟨rfl,rfl⟩:=this
 exact⟨k',u,h1,h2,h3.1,h4⟩
end Bfs
end Go.Ev
namespace Go.Ev
namespace Bfs
structure Ord(A:Type)(lt:A→A→Prop):Prop where
 irr:∀a,¬lt a a
 tr:∀a b c,lt a b→lt b c→lt a c
variable {A V:Type} {lt:A→A→Prop}
def xG(lt:A→A→Prop):List A→List A→Prop
 |a::p,b::q=>lt a b∨(a=b∧xG lt p q)
 |_,_=>True
theorem agI:∀p:List A,xG lt p p
 | []=>trivial
 |_::p=>.inr ⟨rfl,agI p⟩
theorem aaW(O:Ord A lt):∀{p q r:List A},p.length=q.length→q.length=r.length→xG lt p q→xG lt q r→xG lt p r
 | [],[],[],_,_,_,_=>trivial
 | [],_::_,_,h,_,_,_=>by simp at h
 |_::_,[],_,h,_,_,_=>by simp at h
 |_::_,_::_,[],_,h,_,_=>by simp at h
 | [],[],_::_,_,h,_,_=>by simp at h
 |a::p,b::q,c::r,h1,h2,h3,h4=>by
  simp only[al6,aoC]at h1 h2
  rcases h3 with h3|⟨rfl,h3⟩
  ·rcases h4 with h4|⟨rfl,h4⟩
   ·exact .inl (O.tr _ _ _ h3 h4)
   ·exact .inl h3
  ·rcases h4 with h4|⟨rfl,h4⟩
   ·exact .inl h4
   ·exact .inr ⟨rfl,aaW O h1 h2 h3 h4⟩
theorem oI(O:Ord A lt):∀{p q:List A},p.length=q.length→xG lt p q→xG lt q p→p=q
 | [],[],_,_,_=>rfl
 | [],_::_,h,_,_=>by simp at h
 |_::_,[],h,_,_=>by simp at h
 |a::p,b::q,h,h1,h2=>by
  simp only[al6,aoC]at h
  rcases h1 with h1|⟨rfl,h1⟩
  ·rcases h2 with h2|⟨rfl,_⟩
   ·exact absurd (O.tr _ _ _ h1 h2) (O.irr _)
   ·exact absurd h1 (O.irr _)
  ·rcases h2 with h2|⟨_,h2⟩
   ·exact absurd h2 (O.irr _)
   ·rw[oI O h h1 h2]
def leA(lt:A→A→Prop)(p q:List A):Prop:=p.length<q.length∨(p.length=q.length∧xG lt p q)
theorem uG(O:Ord A lt){p q r:List A}(h1:leA lt p q)(h2:leA lt q r):leA lt p r:=by
 rcases h1 with h1|⟨h1,l1⟩
 ·rcases h2 with h2|⟨h2,_⟩
  ·exact .inl (by omega)
  ·exact .inl (by omega)
 ·rcases h2 with h2|⟨h2,l2⟩
  ·exact .inl (by omega)
  ·exact .inr ⟨h1.trans h2,aaW O h1 h2 l1 l2⟩
theorem qC(O:Ord A lt){p q:List A}(h1:leA lt p q)(h2:leA lt q p):p=q:=by
 rcases h1 with h1|⟨h1,l1⟩
 ·rcases h2 with h2|⟨h2,_⟩<;>omega
 ·rcases h2 with h2|⟨_,l2⟩
  ·omega
  ·exact oI O h1 l1 l2
theorem ajF{g:Nat→A}{n:Nat}(hg:∀i j,i<j→j<n→lt (g i) (g j)):∀{p q:List Nat},(∀a∈q,a<n)→ahC p q→xG lt (p.map g) (q.map g)
 | [],[],_,_=>trivial
 | [],_::_,_,_=>trivial
 |_::_,[],_,_=>trivial
 |a::p,b::q,hb,h=>by
  rcases h with h|⟨rfl,h⟩
  ·exact .inl (hg a b h (hb b (by simp)))
  ·exact .inr ⟨rfl,ajF hg (fun c hc=>hb c (by simp[hc])) h⟩
theorem aoQ{g:Nat→A}{n:Nat}(hg:∀i j,i<j→j<n→lt (g i) (g j)){p q:List Nat}(hq:∀a∈q,a<n)(h:le2 p q):leA lt (p.map g) (q.map g):=by
 rcases h with h|⟨h,l⟩
 ·exact .inl (by simpa using h)
 ·exact .inr ⟨by simpa using h,ajF hg hq l⟩
def akM(Ww:V→A→V)(v:V)(w:List A):V:=w.foldl Ww v
theorem run_map(Ww:V→A→V)(g:Nat→A):∀(w:List Nat) (v:V),akM Ww v (w.map g)=run (fun v i=>Ww v (g i)) v w
 | [],_=>rfl
 |a::w,v=>by
  show akM Ww (Ww v (g a)) (w.map g)=run _ (Ww v (g a)) w
  exact run_map Ww g w _
def aw5(lt:A→A→Prop)(Ww:V→A→V)(g:Nat→A)(n:Nat)(a:A):Prop:=∃i,i<n∧(∀v,Ww v (g i)=Ww v a)∧(g i=a∨lt (g i) a)
theorem ak9{Ww:V→A→V}{g:Nat→A}{n:Nat}:∀{Q:List A},(∀a∈Q,aw5 lt Ww g n a)→∀v,∃w:List Nat,w.length=Q.length∧(∀i∈w,i<n)∧akM Ww v (w.map g)=akM Ww v Q∧xG lt (w.map g) Q
 | [],_,v=>⟨[],rfl,by simp,rfl,trivial⟩
 |a::Q,h,v=>by
  obtain⟨i,h1,h2,h3⟩:=h a (by simp)
  obtain⟨w,w1,w2,w3,w4⟩:=ak9 (Q:=Q) (fun b hb=>h b (by simp[hb])) (Ww v a)
  refine⟨i::w,by simp[w1],fun j hj=>?_,?_,?_⟩
  ·rcases ah3.1 hj with rfl|hj
   ·exact h1
   ·exact w2 j hj
  ·show akM Ww (Ww v (g i)) (w.map g)=akM Ww (Ww v a) Q
   rw[h2,w3]
  ·rcases h3 with h3|h3
   ·exact .inr ⟨h3,w4⟩
   ·exact .inl h3
theorem BF.labels(O:Ord A lt){Ww:V→A→V}{g:Nat→A}{n:Nat}(hg:∀i j,i<j→j<n→lt (g i) (g j)){v0:V}{D:List (V × List Nat)}(B:BF (fun v i=>Ww v (g i)) n v0 D D.length 0){Q:List A}(hQ:∀a∈Q,aw5 lt Ww g n a):∃(k:Nat) (x:V × List Nat),D[k]?=some x∧x.1=akM Ww v0 Q∧leA lt (x.2.map g) Q:=by
 obtain⟨w,w1,w2,w3,w4⟩:=ak9 hQ v0
 obtain⟨k,x,h1,h2,h3⟩:=B.best w.length w rfl w2
 refine⟨k,x,h1,by rw[h2,←run_map,w3],uG O (aoQ hg w2 h3) (.inr ⟨by simpa using w1,w4⟩)⟩
theorem BF.same(O:Ord A lt){Ww:V→A→V}{g g':Nat→A}{n n':Nat}(hg:∀i j,i<j→j<n→lt (g i) (g j))(hg':∀i j,i<j→j<n'→lt (g' i) (g' j)){v0:V}{D D':List (V × List Nat)}(B:BF (fun v i=>Ww v (g i)) n v0 D D.length 0)(B':BF (fun v i=>Ww v (g' i)) n' v0 D' D'.length 0)
 (h:∀i,i<n'→aw5 lt Ww g n (g' i)) (h':∀i,i<n→aw5 lt Ww g' n' (g i)) {k:Nat} {x:V × List Nat} (hx:D[k]?=some x):∃(k':Nat) (x':V × List Nat),D'[k']?=some x'∧x'.1=x.1∧x'.2.map g'=x.2.map g:=by
 have hw:=B.way k x hx
 have e1:akM Ww v0 (x.2.map g)=x.1:=by rw[run_map];exact hw.1
 obtain⟨k',x',h1,h2,h3⟩:=B'.labels O hg' (Q:=x.2.map g) fun a ha=>by
  obtain⟨i,hi,rfl⟩:=aiK.1 ha
  exact h' i (hw.2 i hi)
 have hw':=B'.way k' x' h1
 obtain⟨k2,x2,h4,h5,h6⟩:=B.labels O hg (Q:=x'.2.map g') fun a ha=>by
  obtain⟨i,hi,rfl⟩:=aiK.1 ha
  exact h i (hw'.2 i hi)
 have e2:x2.1=x.1:=by
  rw[h5,run_map,hw'.1,h2,e1]
 have ek:=B.nd k2 k x2 x h4 hx e2
 subst ek
 rw[hx]at h4
 cases h4
 exact⟨k',x',h1,by rw[h2,e1],qC O h3 h6⟩
end Bfs
end Go.Ev
namespace Go.Ev
namespace Bfs
theorem zC{C:Type}(w:Int→C)(lo:Int):∀(d:Nat) (r:Int),lo≤r→r-lo=d→∃n,lo≤n∧n≤r∧w n=w r∧(n=lo∨w n≠w (n-1)):=by
 intro d
 induction d with
 |zero=>intro r h e;exact⟨r,h,Int.le_refl _,rfl,.inl (by omega)⟩
 |succ d ih=>
  intro r h e
  by_cases hc:w r=w (r-1)
  ·obtain⟨n,h1,h2,h3,h4⟩:=ih (r-1) (by omega) (by omega)
   exact⟨n,h1,by omega,by rw[h3,hc],h4⟩
  ·exact⟨r,h,Int.le_refl _,rfl,.inr hc⟩
structure Sep{C:Type}(lo hi:Int)(w:Int→C)(L:List Int):Prop where
 inc:L.Pairwise (· < ·)
 ok:∀n∈L,lo≤n∧n≤hi
 all:∀r,lo≤r→r≤hi→∃n∈L,n≤r∧w n=w r
theorem Sep.of{C:Type}{lo hi:Int}{w:Int→C}{L:List Int}(inc:L.Pairwise (· < ·))(ok:∀n∈L,lo≤n∧n≤hi)(h0:lo∈L)(hc:∀n,lo<n→n≤hi→w n≠w (n-1)→n∈L):Sep lo hi w L:=
 ⟨inc,ok,fun r h1 h2=>by
   obtain⟨n,a,b,c,d⟩:=zC w lo (r-lo).toNat r h1 (by omega)
   refine⟨n,?_,b,c⟩
   rcases d with d|d
   ·rw[d];exact h0
   ·by_cases e:n=lo
    ·rw[e];exact h0
    ·exact hc n (by omega) (by omega) d⟩
def Qu{A:Type}(ok:A→Bool)(w:A→Int):List A→List Int→List A
 | [],_=>[]
 |n::l,met=>if ok n=true∧w n∉met then n::Qu ok w l (met++[w n])else Qu ok w l met
theorem eU{A:Type}{ok:A→Bool}{w:A→Int}:∀{l:List A} {met:List Int} {n:A},n∈Qu ok w l met→n∈l∧ok n=true∧w n∉met
 | [],_,_,h=>by cases h
 |a::l,met,n,h=>by
  unfold Qu at h
  split at h
  ·rename_i hc
   rcases ah3.1 h with rfl|h
   ·exact⟨by simp,hc⟩
   ·obtain⟨h1,h2,h3⟩:=eU h
    exact⟨by simp[h1],h2,fun hm=>h3 (by simp[hm])⟩
  ·obtain⟨h1,h2,h3⟩:=eU h
   exact⟨by simp[h1],h2,h3⟩
theorem sC{A:Type}{ok:A→Bool}{w:A→Int}{R S:A→A→Prop}(hS:∀a b,R a b→w a≠w b→S a b):∀{l:List A} {met:List Int},l.Pairwise R→(Qu ok w l met).Pairwise S
 | [],_,_=>List.Pairwise.nil
 |a::l,met,h=>by
  obtain⟨h1,h2⟩:=asB.1 h
  unfold Qu
  split
  ·refine asB.2 ⟨fun b hb=>?_,sC hS h2⟩
   obtain⟨m1,_,m3⟩:=eU hb
   exact hS a b (h1 b m1) fun e=>m3 (by simp[e])
  ·exact sC hS h2
theorem lV{A:Type}{ok:A→Bool}{w:A→Int}{R:A→A→Prop}:∀{l:List A} {met:List Int},l.Pairwise R→∀{a:A},a∈l→ok a=true→w a∈met∨∃b∈Qu ok w l met,w b=w a∧(b=a∨R b a)
 | [],_,_,_,h,_=>by cases h
 |b::l,met,hp,a,h,ha=>by
  obtain⟨h1,h2⟩:=asB.1 hp
  unfold Qu
  split
  ·rename_i hc
   rcases ah3.1 h with rfl|h
   ·exact .inr ⟨_,by simp,rfl,.inl rfl⟩
   ·rcases lV (met:=met++[w b]) h2 h ha with hm|⟨c,c1,c2,c3⟩
    ·rcases aiI.1 hm with hm|hm
     ·exact .inl hm
     ·simp only[List.mem_singleton]at hm
      exact .inr ⟨b,by simp,hm.symm,.inr (h1 a h)⟩
    ·exact .inr ⟨c,by simp[c1],c2,c3⟩
  ·rename_i hc
   rcases ah3.1 h with rfl|h
   ·by_cases hm:w a∈met
    ·exact .inl hm
    ·exact absurd ⟨ha,hm⟩ hc
   ·exact lV h2 h ha
theorem awI{lo hi:Int}{w:Int→Int}{l:List Int}{ok:Int→Bool}(hok:∀n,ok n=true↔lo≤n∧n≤hi)(hs:l.Pairwise (· ≤·))(h0:lo∈l)(hc:∀n,lo<n→n≤hi→w n≠w (n-1)→n∈l):Sep lo hi w (Qu ok w l []):=
 ⟨sC (R:=(· ≤·)) (fun a b h1 h2=>by
     have:a≠b:=fun e=>h2 (by rw[e])
     omega) hs,fun n h=>(hok n).1 (eU h).2.1,fun r h1 h2=>by
   obtain⟨n,a,b,c,d⟩:=zC w lo (r-lo).toNat r h1 (by omega)
   have hn:n∈l:=by
    rcases d with d|d
    ·rw[d];exact h0
    ·by_cases e:n=lo
     ·rw[e];exact h0
     ·exact hc n (by omega) (by omega) d
   rcases lV (ok:=ok) (w:=w) (met:=[]) hs hn ((hok n).2 ⟨a,by omega⟩)with hm|⟨m,m1,m2,m3⟩
   ·cases hm
   ·refine⟨m,m1,?_,by rw[m2,c]⟩
    rcases m3 with m3|m3
    ·omega
    ·have:m≤n:=m3
     omega⟩
def ltR:List Int→List Int→Prop
 |a::p,b::q=>a<b∨(a=b∧ltR p q)
 |_,_=>False
theorem ao4:∀p,¬ltR p p
 | [],h=>h
 |a::p,h=>by
  rcases h with h|⟨_,h⟩
  ·omega
  ·exact ao4 p h
theorem amT:∀{p q r:List Int},ltR p q→ltR q r→ltR p r
 | [],_,_,h,_=>by cases h
 |_::_,[],_,h,_=>by cases h
 |_::_,_::_,[],_,h=>by cases h
 |a::p,b::q,c::r,h1,h2=>by
  rcases h1 with h1|⟨rfl,h1⟩
  ·rcases h2 with h2|⟨rfl,_⟩
   ·exact .inl (by omega)
   ·exact .inl h1
  ·rcases h2 with h2|⟨rfl,h2⟩
   ·exact .inl h2
   ·exact .inr ⟨rfl,amT h1 h2⟩
def Vu:List (List Int)→List (List Int)
 | []=>[[]]
 |l::ls=>l.flatMap fun n=>(Vu ls).map (n::·)
theorem Xk{A B:Type}{R:A→A→Prop}{S:B→B→Prop}{f:A→List B}:∀{l:List A},l.Pairwise R→(∀a∈l,(f a).Pairwise S)→(∀a b,R a b→∀x∈f a,∀y∈f b,S x y)→(l.flatMap f).Pairwise S
 | [],_,_,_=>by simp
 |a::l,h,h1,h2=>by
  obtain⟨p1,p2⟩:=asB.1 h
  rw[asS]
  refine List.pairwise_append.2 ⟨h1 a (by simp),Xk p2 (fun b hb=>h1 b (by simp[hb])) h2,fun x hx y hy=>?_⟩
  obtain⟨b,hb,hy⟩:=ao3.1 hy
  exact h2 a b (p1 b hb) x hx y hy
theorem abR:∀{ls:List (List Int)},(∀l∈ls,l.Pairwise (· < ·))→(Vu ls).Pairwise ltR
 | [],_=>List.pairwise_singleton _ _
 |l::ls,h=>by
  unfold Vu
  refine Xk (h l (by simp)) (fun n _=>?_) fun a b hab x hx y hy=>?_
  ·exact ay2.2 ((abR fun m hm=>h m (by simp[hm])).imp fun h=>.inr ⟨rfl,h⟩)
  ·obtain⟨p,_,rfl⟩:=aiK.1 hx
   obtain⟨q,_,rfl⟩:=aiK.1 hy
   exact .inl hab
def Cls{C:Type}(w:Nat→Int→C):Nat→List Int→List Int→Prop
 |_,[],[]=>True
 |k,a::p,b::q=>w k a=w k b∧Cls w (k+1) p q
 |_,_,_=>False
def iQ{C:Type}(lo hi:Int)(w:Nat→Int→C):Nat→List (List Int)→Prop
 |_,[]=>True
 |k,l::ls=>Sep lo hi (w k) l∧iQ lo hi w (k+1) ls
theorem iQ.inc{C:Type}{lo hi:Int}{w:Nat→Int→C}:∀{ls:List (List Int)} {k:Nat},iQ lo hi w k ls→∀l∈ls,l.Pairwise (· < ·)
 |_::_,k,h,l,hl=>by
  rcases ah3.1 hl with rfl|hl
  ·exact h.1.inc
  ·exact iQ.inc h.2 l hl
theorem iQ.row{C:Type}{lo hi:Int}{w:Nat→Int→C}:∀{ls:List (List Int)} {k:Nat},iQ lo hi w k ls→∀p∈Vu ls,p.length=ls.length∧∀n∈p,lo≤n∧n≤hi
 | [],_,_,p,hp=>by simp[Vu]at hp;subst hp;simp
 |l::ls,k,h,p,hp=>by
  obtain⟨n,hn,hp⟩:=ao3.1 hp
  obtain⟨q,hq,rfl⟩:=aiK.1 hp
  obtain⟨h1,h2⟩:=iQ.row h.2 q hq
  refine⟨by simp[h1],fun m hm=>?_⟩
  rcases ah3.1 hm with rfl|hm
  ·exact h.1.ok _ hn
  ·exact h2 m hm
theorem iQ.all{C:Type}{lo hi:Int}{w:Nat→Int→C}:∀{ls:List (List Int)} {k:Nat},iQ lo hi w k ls→∀x:List Int,x.length=ls.length→(∀n∈x,lo≤n∧n≤hi)→∃y∈Vu ls,Cls w k y x∧(y=x∨ltR y x)
 | [],_,_,x,hl,_=>by
   obtain rfl:=ayH.1 hl
   exact⟨[],by simp[Vu],trivial,.inl rfl⟩
 |l::ls,k,h,[],hl,_=>by simp at hl
 |l::ls,k,h,r::x,hl,hx=>by
  simp only[al6,aoC]at hl
  obtain⟨y,y1,y2,y3⟩:=iQ.all h.2 x hl fun n hn=>hx n (by simp[hn])
  obtain⟨r1,r2⟩:=hx r (by simp)
  obtain⟨n,n1,n2,n3⟩:=h.1.all r r1 r2
  refine⟨n::y,ao3.2 ⟨n,n1,aiK.2 ⟨y,y1,rfl⟩⟩,⟨n3,y2⟩,?_⟩
  by_cases e:n=r
  ·subst e
   rcases y3 with rfl|y3
   ·exact .inl rfl
   ·exact .inr (.inr ⟨rfl,y3⟩)
  ·exact .inr (.inl (by omega))
def Tv(rows:List (List Int))(l:List Int):List (List Int):=rows.flatMap fun r=>l.map fun n=>r++[n]
theorem aiN:∀(ls:List (List Int)) (rows:List (List Int)),ls.foldl Tv rows=rows.flatMap fun r=>(Vu ls).map (r++·)
 | [],rows=>by
   simp only[List.foldl_nil,Vu,List.map_cons,List.map_nil,asX]
   induction rows with
   |nil=>rfl
   |cons a l ih=>rw[asS,←ih];rfl
 |l::ls,rows=>by
  rw[List.foldl_cons,aiN ls]
  unfold Tv
  rw[show Vu (l::ls)=l.flatMap fun n=>(Vu ls).map (n::·)from rfl]
  rw[List.flatMap_assoc]
  congr 1;funext r
  rw[List.flatMap_map,List.map_flatMap]
  congr 1;funext n
  rw[List.map_map]
  congr 1;funext p
  simp
def ltS(a b:List Int × Int):Prop:=ltR a.1 b.1∨(a.1=b.1∧a.2<b.2)
theorem qH:Ord (List Int × Int) ltS:=⟨fun a h=>by
 rcases h with h|⟨_,h⟩
 ·exact ao4 _ h
 ·omega,fun a b c h1 h2=>by
 rcases h1 with h1|⟨e1,h1⟩
 ·rcases h2 with h2|⟨e2,_⟩
  ·exact .inl (amT h1 h2)
  ·exact .inl (e2▸h1)
 ·rcases h2 with h2|⟨e2,h2⟩
  ·exact .inl (e1▸h2)
  ·exact .inr ⟨e1.trans e2,by omega⟩⟩
def Vn(cs:List Int)(rows:List (List Int)):List (List Int × Int):=rows.flatMap fun r=>cs.map fun c=>(r,c)
theorem av6{cs:List Int}(hc:cs.Pairwise (· < ·)){rows:List (List Int)}(h:rows.Pairwise ltR):(Vn cs rows).Pairwise ltS:=
 Xk h (fun r _=>ay2.2 (hc.imp fun h=>.inr ⟨rfl,h⟩)) fun a b hab x hx y hy=>by
  obtain⟨c,_,rfl⟩:=aiK.1 hx
  obtain⟨d,_,rfl⟩:=aiK.1 hy
  exact .inl hab
theorem agD{cs:List Int}{rows:List (List Int)}{x:List Int × Int}:x∈Vn cs rows↔x.1∈rows∧x.2∈cs:=by
 unfold Vn
 constructor
 ·intro h
  obtain⟨r,hr,h⟩:=ao3.1 h
  obtain⟨c,hc,rfl⟩:=aiK.1 h
  exact⟨hr,hc⟩
 ·intro h
  exact ao3.2 ⟨x.1,h.1,aiK.2 ⟨x.2,h.2,rfl⟩⟩
theorem bhY{A:Type}[Inhabited A]{R:A→A→Prop}{l:List A}(h:l.Pairwise R):∀i j,i<j→j<l.length→R (l.getD i default) (l.getD j default):=fun i j hij hj=>by
 have h1:l.getD i default=l[i]'(by omega):=by rw[azA,al4 (by omega)];rfl
 have h2:l.getD j default=l[j]:=by rw[azA,al4 hj];rfl
 rw[h1,h2]
 exact List.pairwise_iff_getElem.1 h i j (by omega) hj hij
end Bfs
end Go.Ev
namespace Go.Ev
namespace Bfs
section
variable {V:Type} (safe:V→Bool) (sc:V→V→Prop)
def Rn:V→Nat→Prop
 |_,0=>True
 |v,n+1=>safe v=false∧(n=0∨∃w,sc v w∧Rn w n)
end
variable {V:Type} {safe:V→Bool} {sc:V→V→Prop}
theorem agL{A:Type}:∀{l k:List A},l.Nodup→(∀x∈l,x∈k)→l.length≤k.length
 | [],_,_,_=>by simp
 |a::l,k,h,hs=>by
  obtain⟨h1,h2⟩:=List.nodup_cons.1 h
  obtain⟨s,t,rfl⟩:=List.append_of_mem (hs a (by simp))
  have:=agL (l:=l) (k:=s++t) h2 fun x hx=>by
   have h3:=hs x (by simp[hx])
   simp only[aiI,ah3]at h3 ⊢
   rcases h3 with h3|rfl|h3
   ·exact .inl h3
   ·exact absurd hx h1
   ·exact .inr h3
  simp only[avO,al6]at this ⊢
  omega
structure IsT(safe:V→Bool)(sc:V→V→Prop)(r:Nat)(v:V)(x:Nat):Prop where
 rn:Rn safe sc v x
 le:x≤r
 top:∀n,n≤r→Rn safe sc v n→n≤x
theorem IsT.zero(v:V):IsT safe sc 0 v 0:=⟨trivial,ap9 _,fun _ h _=>h⟩
end Bfs
end Go.Ev
