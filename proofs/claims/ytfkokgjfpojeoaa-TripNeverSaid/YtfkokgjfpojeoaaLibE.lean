/- The evaluator and its soundness. -/
import Derived.Test.YtfkokgjfpojeoaaLibD
import Derived.Sort.Grow
open And renaming intro→aa9
open Eq renaming trans→adE
open Option renaming map_eq_some_iff→adJ,bind_eq_some_iff→aeU,bind_some→aiZ,map_some→as6,some→awM
open List renaming getElem?_eq_some_iff→ajP,mem_cons→ajS,mem_cons_of_mem→akQ,mem_map→alW,mem_cons_self→am1,mem_append→anK,getElem?_eq_getElem→anU,getElem?_set_ne→arO,getElem?_append_left→arP,length_cons→at6,pairwise_cons→auT,getElem?_map→au3,all_eq_true→awY,mem_append_left→ayC,mem_append_right→ayE,getElem?_set_self→ayR,mem_flatMap→ayU,getElem?_append_right→ayY,nil_append→azA,range→azC,append_inj'→aBS,replicate→aDB,flatMap_cons→aFX,range_zero→aF7,mem_or_eq_of_mem_set→aF8,append_nil→aF9,prefix_refl→aGB,mem_of_getElem?→aIC,length_append→aIU,flatMap_def→aI7,map_congr_left→aI8,getElem?_eq_none→aJJ,length_eq_zero_iff→aJL,pairwise_map→aLR,getD_eq_getElem?_getD→aL8
open Bool renaming and_eq_true→awE
open Nat renaming le_refl→ayB,add_right_cancel_iff→ayS,lt_of_lt_of_le→azS,add_zero→aBT
set_option linter.unusedSimpArgs false
set_option linter.unusedVariables false
namespace Go.Ev
noncomputable section
open Go.RowKit
theorem aZB(b:Nat):atQ [] b=(0,[b]):=adE rfl rfl
section
variable {P:Program} {O:Orc}
theorem a73(d:Nat)(m:List Nat)(b:Bool):ai3 (d+1) m (.bool b)=some (.bool b,m):=adE rfl rfl
theorem bbW(d:Nat)(m:List Nat)(k:IntKind)(n:Int):ai3 (d+1) m (.int k n)=some (.int k n,m):=adE rfl rfl
theorem a59(d:Nat)(m:List Nat):ai3 (d+1) m .nils=some (.nils,m):=adE rfl rfl
theorem bdI(d:Nat)(m:List Nat)(n:Nat)(fl:Bool)(rows:List (List AV)):ai3 (d+1) m (.imm n fl rows)=some (.imm n fl rows,m):=adE rfl rfl
theorem bcX(d:Nat)(m:List Nat)(n:Nat)(fl nn:Bool)(rows:List (List AV)):ai3 (d+1) m (slv n fl nn rows)=some (slv n fl nn rows,m):=av0 m (aqW d n fl nn rows)
theorem a98(d:Nat)(m:List Nat)(b r o:Nat):ai3 (d+1) m (.ptr b r o)=some (.ptr (atQ m b).1 r o,(atQ m b).2):=adE rfl rfl
theorem bcQ(d:Nat)(m:List Nat)(st b r len:Nat):ai3 (d+1) m (.slr st b r len)=some (.slr st (atQ m b).1 r len,(atQ m b).2):=adE rfl rfl
def rfA(x:Option (List AV × List Nat)):Option (AV × List Nat):=x.map fun(cs,m)=>(.agg cs,m)
theorem a3H(cs:List AV)(m:List Nat):rfA (some (cs,m))=some (.agg cs,m):=adE rfl rfl
theorem bc8(d:Nat)(m:List Nat)(cs:List AV):ai3 (d+1) m (.agg cs)=rfA (ai3.refL (ai3 d) m cs):=adE rfl rfl
def rfG(fn:Fn)(a:List AV)(x:Option (List AV × List Nat)):Option (AV × List Nat):=x.map fun(b,m)=>(.func fn a b,m)
def rfF(fn:Fn)(d:Nat)(b:List AV)(x:Option (List AV × List Nat)):Option (AV × List Nat):=x.bind fun(a,m)=>rfG fn a (ai3.refL (ai3 d) m b)
theorem a1P(fn:Fn)(a b:List AV)(m:List Nat):rfG fn a (some (b,m))=some (.func fn a b,m):=adE rfl rfl
theorem a3R(fn:Fn)(d:Nat)(a b:List AV)(m:List Nat):rfF fn d b (some (a,m))=rfG fn a (ai3.refL (ai3 d) m b):=adE rfl rfl
theorem a7Q(d:Nat)(m:List Nat)(fn:Fn)(a b:List AV):ai3 (d+1) m (.func fn a b)=rfF fn d b (ai3.refL (ai3 d) m a):=adE rfl rfl
def rfD(v:AV)(x:Option (List AV × List Nat)):Option (List AV × List Nat):=x.map fun(vs,m)=>(v::vs,m)
def rfC(f:List Nat→AV→Option (AV × List Nat))(vs:List AV)(x:Option (AV × List Nat)):Option (List AV × List Nat):=x.bind fun(v,m)=>rfD v (ai3.refL f m vs)
theorem a42(v:AV)(vs:List AV)(m:List Nat):rfD v (some (vs,m))=some (v::vs,m):=adE rfl rfl
theorem a1T(f:List Nat→AV→Option (AV × List Nat))(vs:List AV)(v:AV)(m:List Nat):rfC f vs (some (v,m))=rfD v (ai3.refL f m vs):=adE rfl rfl
theorem a7B(f:List Nat→AV→Option (AV × List Nat))(m:List Nat):ai3.refL f m []=some ([],m):=adE rfl rfl
theorem a2H(f:List Nat→AV→Option (AV × List Nat))(m:List Nat)(v:AV)(vs:List AV):ai3.refL f m (v::vs)=rfC f vs (f m v):=adE rfl rfl
def rrD(cs:List AV)(x:Option (List (List AV) × List Nat)):Option (List (List AV) × List Nat):=x.map fun(rs,m)=>(cs::rs,m)
def rrC(rs:List (List AV))(x:Option (List AV × List Nat)):Option (List (List AV) × List Nat):=x.bind fun(cs,m)=>rrD cs (au7 m rs)
theorem a30(cs:List AV)(rs:List (List AV))(m:List Nat):rrD cs (some (rs,m))=some (cs::rs,m):=adE rfl rfl
theorem a4Q(rs:List (List AV))(cs:List AV)(m:List Nat):rrC rs (some (cs,m))=rrD cs (au7 m rs):=adE rfl rfl
theorem a94(m:List Nat):au7 m []=some ([],m):=adE rfl rfl
theorem a6F(m:List Nat)(cs:List AV)(rs:List (List AV)):au7 m (cs::rs)=rrC rs (ai3.refL (ai3 8) m cs):=adE rfl rfl
def rbV(st:Nat)(w:Bool)(x:Option (List (List AV) × List Nat)):Option (CB × List Nat):=x.map fun(rows,m)=>(.live st false w rows,m)
theorem a4I(st:Nat)(w:Bool)(rows:List (List AV))(m:List Nat):rbV st w (some (rows,m))=some (.live st false w rows,m):=adE rfl rfl
theorem be8(m:List Nat)(st:Nat)(w:Bool)(rows:List (List AV)):aD7 m (.live st true w rows)=some (.live st true w rows,m):=adE rfl rfl
theorem bf9(m:List Nat)(st:Nat)(w:Bool)(rows:List (List AV)):aD7 m (.live st false w rows)=rbV st w (au7 m rows):=adE rfl rfl
def pcE(c:CB)(x:Option (List CB × List Nat)):Option (List CB × List Nat):=x.map fun(cs,m)=>(c::cs,m)
def pcR(n:Nat)(h:aaL)(i:Nat)(x:Option (CB × List Nat)):Option (List CB × List Nat):=x.bind fun(c,m)=>pcE c (avJ n (hf h) (i+1) m)
def pcB(n:Nat)(h:aaL)(i:Nat)(m:List Nat)(x:Option CB):Option (List CB × List Nat):=x.bind fun c=>pcR n h i (aD7 m c)
def pcK(n:Nat)(h:aaL)(i:Nat)(m:List Nat)(x:Option Nat):Option (List CB × List Nat):=
 match x with
 |none=>some ([],m)
 |some b=>pcB n h i m (h[b]?)
theorem a4Y(c:CB)(cs:List CB)(m:List Nat):pcE c (some (cs,m))=some (c::cs,m):=adE rfl rfl
theorem a3G(n:Nat)(h:aaL)(i:Nat)(c:CB)(m:List Nat):pcR n h i (some (c,m))=pcE c (avJ n (hf h) (i+1) m):=adE rfl rfl
theorem a1F(n:Nat)(h:aaL)(i:Nat)(m:List Nat)(c:CB):pcB n h i m (some c)=pcR n h i (aD7 m c):=adE rfl rfl
theorem a3J(n:Nat)(h:aaL)(i:Nat)(m:List Nat):pcK n h i m none=some ([],m):=adE rfl rfl
theorem a3A(n:Nat)(h:aaL)(i:Nat)(m:List Nat)(b:Nat):pcK n h i m (some b)=pcB n h i m (h[b]?):=adE rfl rfl
theorem bfX(n:Nat)(h:aaL)(i:Nat)(m:List Nat):avJ (n+1) (hf h) i m=pcK n h i m (m[i]?):=by
 unfold avJ pcK
 cases m[i]?<;>rfl
def pkB(vs:List AV)(x:Option (List CB × List Nat)):Option (List AV × List CB × List Nat):=x.map fun(cs,m)=>(vs,cs,m)
def pkA(h:aaL)(x:Option (List AV × List Nat)):Option (List AV × List CB × List Nat):=x.bind fun(vs,m)=>pkB vs (avJ 5000 (hf h) 0 m)
theorem a20(vs:List AV)(cs:List CB)(m:List Nat):pkB vs (some (cs,m))=some (vs,cs,m):=adE rfl rfl
theorem a4C(h:aaL)(vs:List AV)(m:List Nat):pkA h (some (vs,m))=pkB vs (avJ 5000 (hf h) 0 m):=adE rfl rfl
theorem bfP(h:aaL)(m:List Nat)(vs:List AV):avS (hf h) m vs=pkA h (ai3.refL (ai3 8) m vs):=adE rfl rfl
def upK(h:aaL)(lent:List Nat)(v:Option AV)(ps ns:Option (List abJ))(o:AV→Out):OE:=v.bind fun v=>ps.bind fun ps=>ns.bind fun ns=>
 some (o v,(if lent.isEmpty|| !(hasImm 8 v||(ps++ns).any abJ.hasImm)then []else ajV (hf h) lent)++ps++ns)
def crU(h:aaL)(base:Nat)(lent m:List Nat)(cs:List CB)(x:Option (Out × aaL)):OE:=
 match x with
 |some (.ret v,h')=>upK h lent (ajM 8 (arH m base) v) (as0 (arH m base) m cs (h'.take m.length)) (au4 (arH m base) base (h'.drop m.length)) .ret
 |some (.pan v,h')=>upK h lent (ajM 8 (arH m base) v) (as0 (arH m base) m cs (h'.take m.length)) (au4 (arH m base) base (h'.drop m.length)) .pan
 |none=>none
def crP(O:Orc)(h:aaL)(base:Nat)(f:Cal)(lent:List Nat)(x:Option (List AV × List CB × List Nat)):OE:=x.bind fun(vs,cs,m)=>
 if lent.any (m.contains ·)then none else crU h base lent m cs (O.call f vs (cs.map CB.clean))
def crQ(O:Orc)(h:aaL)(base:Nat)(f:Cal)(lent:List Nat)(x:Option (List AV)):OE:=x.bind fun vs=>crP O h base f lent (avS (hf h) [] vs)
theorem bhX(h:aaL)(base:Nat)(f:Cal)(args:List AV):cr (aKM O (hf h) base f args)=crQ O h base f (args.flatMap (ad7 12 (hf h))) (ad0 (rdV h) args):=by
 unfold aKM ajO crQ rdV
 cases ad0 (atA 12 (hf h)) args with
 |none=>rfl
 |some vs=>
  simp only[aiZ]
  unfold crP
  cases avS (hf h) [] vs with
  |none=>rfl
  |some x=>
   obtain⟨vs',cs,m⟩:=x
   simp only[aiZ]
   split
   ·rfl
   ·cases O.call f vs' (cs.map CB.clean)with
    |none=>rfl
    |some y=>
     obtain⟨out,h'⟩:=y
     simp only[aiZ,awO]
     unfold crU upK
     cases out with
     |ret v=>
      simp only[Out.v]
      cases ajM 8 (arH m base) v with
      |none=>rfl
      |some v=>
       cases as0 (arH m base) m cs (h'.take m.length)with
       |none=>rfl
       |some ps=>cases au4 (arH m base) base (h'.drop m.length)<;>rfl
     |pan v=>
      simp only[Out.v]
      cases ajM 8 (arH m base) v with
      |none=>rfl
      |some v=>
       cases as0 (arH m base) m cs (h'.take m.length)with
       |none=>rfl
       |some ps=>cases au4 (arH m base) base (h'.drop m.length)<;>rfl
theorem a2X(h:aaL)(base:Nat)(f:Cal)(lent:List Nat)(vs:List AV):crQ O h base f lent (some vs)=crP O h base f lent (avS (hf h) [] vs):=adE rfl rfl
theorem a29(h:aaL)(base:Nat)(f:Cal)(lent:List Nat)(vs:List AV)(cs:List CB)(m:List Nat):crP O h base f lent (some (vs,cs,m))=if lent.any (m.contains ·)=true then none else crU h base lent m cs (O.call f vs (cs.map CB.clean)):=adE rfl rfl
theorem a79(h:aaL)(base:Nat)(lent m:List Nat)(cs:List CB)(v:AV)(h':aaL):crU h base lent m cs (some (.ret v,h'))=upK h lent (ajM 8 (arH m base) v) (as0 (arH m base) m cs (h'.take m.length)) (au4 (arH m base) base (h'.drop m.length)) .ret:=adE rfl rfl
theorem a0B(h:aaL)(lent:List Nat)(v:AV)(ps ns:List abJ)(o:AV→Out):upK h lent (some v) (some ps) (some ns) o=some (o v,(if(lent.isEmpty|| !(hasImm 8 v||(ps++ns).any abJ.hasImm))=true then []else ajV (hf h) lent)++ps++ns):=adE rfl rfl
theorem a7E(st:Nat)(fl w:Bool)(rows:List (List AV)):CB.clean (.live st fl w rows)=.live st fl false rows:=adE rfl rfl
theorem a8H(d:Nat)(g:HF)(b:Bool):ad7 (d+1) g (.bool b)=[]:=adE rfl rfl
theorem bdB(d:Nat)(g:HF)(k:IntKind)(n:Int):ad7 (d+1) g (.int k n)=[]:=adE rfl rfl
theorem bdQ(d:Nat)(g:HF)(n:Nat)(fl:Bool)(rows:List (List AV)):ad7 (d+1) g (.imm n fl rows)=[]:=adE rfl rfl
theorem bdJ(d:Nat)(g:HF)(b r o:Nat):ad7 (d+1) g (.ptr b r o)=[]:=adE rfl rfl
theorem a7S(d:Nat)(g:HF)(fn:Fn)(a b:List AV):ad7 (d+1) g (.func fn a b)=[]:=adE rfl rfl
theorem bb8(d:Nat)(g:HF)(n:Nat)(fl nn:Bool)(rows:List (List AV)):ad7 (d+1) g (slv n fl nn rows)=[]:=axM g (d:=1) (by omega) (aqW 0 n fl nn rows)
theorem baO(d:Nat)(g:HF)(cs:List AV):ad7 (d+1) g (.agg cs)=cs.flatMap (ad7 d g):=adE rfl rfl
def lvS(b:Nat)(c:Option CB)(q:AV→List Nat)(r len:Nat):List Nat:=
 b::match c with
 |some (.live _ fl _ rows)=>if r+len≤rows.length then(if fl then []else((rows.drop r).take len).flatMap fun cs=>cs.flatMap q)else []
 |some (.frz _ fl rows)=>if r+len≤rows.length then(if fl then []else((rows.drop r).take len).flatMap fun cs=>cs.flatMap q)else []
 |_=>[]
theorem bd0(d:Nat)(h:aaL)(st b r len:Nat):ad7 (d+1) (hf h) (.slr st b r len)=lvS b (h[b]?) (ad7 d (hf h)) r len:=by
 have e:ad7 (d+1) (hf h) (.slr st b r len)=b::(match arE (hf h) b r len with|some (_,fl,rows)=>if fl then []else rows.flatMap fun cs=>cs.flatMap (ad7 d (hf h))|none=>[]):=rfl
 rw[e]
 generalize ad7 d (hf h)=q
 unfold arE lvS
 have eh:hf h b=h[b]?:=rfl
 rw[eh]
 cases h[b]? with
 |none=>rfl
 |some c=>
  cases c with
  |live st fl w rows=>simp only;by_cases hq:r+len≤rows.length<;>simp[hq]
  |frz st fl rows=>simp only;by_cases hq:r+len≤rows.length<;>simp[hq]
  |_=>rfl
theorem beG(b:Nat)(st:Nat)(w:Bool)(rows:List (List AV))(q:AV→List Nat)(r len:Nat):lvS b (some (.live st true w rows)) q r len=[b]:=by simp[lvS]
theorem bf5(b:Nat)(st:Nat)(rows:List (List AV))(q:AV→List Nat)(r len:Nat):lvS b (some (.frz st true rows)) q r len=[b]:=by simp[lvS]
theorem a61(d:Nat)(f:Nat→Nat)(b:Bool):ajM (d+1) f (.bool b)=some (.bool b):=adE rfl rfl
theorem baQ(d:Nat)(f:Nat→Nat)(k:IntKind)(n:Int):ajM (d+1) f (.int k n)=some (.int k n):=adE rfl rfl
theorem bc9(d:Nat)(f:Nat→Nat)(st b r len:Nat):ajM (d+1) f (.slr st b r len)=some (.slr st (f b) r len):=adE rfl rfl
theorem beY(f:Nat→Nat)(st:Nat)(w:Bool)(rows:List (List AV)):as5 f (.live st true w rows)=some (.live st true w rows):=adE rfl rfl
def peE(b:Nat)(c:Option CB)(x:Option (List abJ)):Option (List abJ):=c.bind fun c=>x.map fun es=>.put b c::es
def peK(f:Nat→Nat)(b:Nat)(c:CB)(same bad:Bool)(x:Option (List abJ)):Option (List abJ):=bif same then x else bif bad then none else peE b (as5 f c) x
theorem bf7(f:Nat→Nat)(b:Nat)(c:CB)(bad:Bool)(x:Option (List abJ)):peK f b c true bad x=x:=adE rfl rfl
theorem bcI(f:Nat→Nat):as0 f [] [] []=some []:=adE rfl rfl
theorem a8C(f:Nat→Nat)(b:Nat)(m:List Nat)(c₀ c:CB)(cs₀ cs:List CB):as0 f (b::m) (c₀::cs₀) (c::cs)=peK f b c (c₀.same c) (c.unw|| !c₀.isLive) (as0 f m cs₀ cs):=by
 conv=>lhs;unfold as0
 unfold peK
 cases c₀.same c with
 |true=>rfl
 |false=>
  cases(c.unw|| !c₀.isLive)with
  |true=>rfl
  |false=>
   simp only[cond_false,peE]
theorem a6K(a:Nat)(b c:Bool)(r:List (List AV))(st:Nat)(fl w:Bool)(rows:List (List AV)):CB.same (.live a b c r) (.live st fl w rows)= !w:=adE rfl rfl
theorem a66(st:Nat)(fl w:Bool)(rows:List (List AV)):CB.unw (.live st fl w rows)= !w:=adE rfl rfl
theorem a5U(st:Nat)(fl w:Bool)(rows:List (List AV)):CB.isLive (.live st fl w rows)=true:=adE rfl rfl
def neK(base:Nat)(c:Option CB)(x:Option (List abJ)):Option (List abJ):=c.bind fun c=>x.map fun es=>.new base c::es
theorem a2V(base:Nat)(c:CB)(es:List abJ):neK base (some c) (some es)=some (.new base c::es):=adE rfl rfl
theorem bcV(f:Nat→Nat)(base:Nat):au4 f base []=some []:=adE rfl rfl
theorem a57(f:Nat→Nat)(base:Nat)(c:CB)(cs:List CB):au4 f base (c::cs)=neK base (as5 f c) (au4 f (base+1) cs):=adE rfl rfl
theorem bcA(b:Nat)(c:CB):abJ.hasImm (.new b c)=c.hasImm:=adE rfl rfl
theorem beO(st:Nat)(w:Bool)(rows:List (List AV)):CB.hasImm (.live st true w rows)=false:=adE rfl rfl
theorem bcE(h:aaL)(b r o:Nat):rdV h (.ptr b r o)=some (.ptr b r o):=adE rfl rfl
theorem a82(h:aaL)(cs:List AV):rdV h (.agg cs)=rdA (ad0 (atA 11 (hf h)) cs):=adE rfl rfl
theorem aYG(l:List AV):rdA (some l)=some (.agg l):=adE rfl rfl
theorem a5S(d:Nat)(h:aaL)(b:Bool):atA (d+1) (hf h) (.bool b)=some (.bool b):=adE rfl rfl
theorem baL(d:Nat)(h:aaL)(k:IntKind)(n:Int):atA (d+1) (hf h) (.int k n)=some (.int k n):=adE rfl rfl
theorem bbX(d:Nat)(h:aaL)(n:Nat)(fl nn:Bool)(rows:List (List AV)):atA (d+1) (hf h) (slv n fl nn rows)=some (slv n fl nn rows):=awW _ (d:=1) (by omega) (aqW 0 n fl nn rows)
def mfK(f:Nat)(a b:Option (List AV)):OE:=a.bind fun a=>b.bind fun b=>some (.ret (.func (.func f) a b),[])
theorem a2Y(f:Nat)(a b:List AV):mfK f (some a) (some b)=some (.ret (.func (.func f) a b),[]):=adE rfl rfl
theorem bfK(t:List AV)(h:aaL)(f:Nat)(a b:Array Operand):amG O P t h (.makeFunc (.func f) a b)=mfK f (ag4 t a.toList) (ag4 t b.toList):=by
 rw[ai1 _ _ _ rfl]
 simp only[exec,mfK]
 cases ag4 t a.toList with
 |none=>rfl
 |some a=>cases ag4 t b.toList<;>rfl
def msK(n:Nat)(z:AV)(base:Nat)(l c:Option AV):OE:=
 match l,c with
 |some (.int .i64 l),some (.int .i64 c)=>if 0≤l∧l≤c∧c≤2 ^ 40∧(abZ z).all AV.isCell=true then some (.ret (.slr n base 0 l.toNat),[.new base (.live n ((abZ z).all AV.flat) false (aDB l.toNat (abZ z)))])else none
 |_,_=>none
theorem a32(n:Nat)(z:AV)(base:Nat)(l c:Int):msK n z base (some (.int .i64 l)) (some (.int .i64 c))=if 0≤l∧l≤c∧c≤2 ^ 40∧(abZ z).all AV.isCell=true then some (.ret (.slr n base 0 l.toNat),[.new base (.live n ((abZ z).all AV.flat) false (aDB l.toNat (abZ z)))])else none:=adE rfl rfl
def msO(P:Program)(ty:TypeId)(base:Nat)(l c:Option AV):OE:=rD (l.bind fun l=>c.bind fun c=>atB P base ty l c)
theorem bfS(t:List AV)(h:aaL)(ty:TypeId)(l c:Operand):amG O P t h (.makeSlice ty l c)=msO P ty h.length (abO t l) (abO t c):=ai1 _ _ _ rfl
theorem bfQ{ty e:TypeId}{n b:Nat}{z:AV}(he:aDX P ty=some e)(hn:szT P e=some n)(hb:byT P e=some b)(hz:asV P e=some z)(ok:(decide (b≤2 ^ 7)&&decide (n≠0)&&decide ((abZ z).length=n))=true)(base:Nat)(l c:Option AV):
 msO P ty base l c=msK n z base l c:=by
 simp only[awE,decide_eq_true_eq]at ok
 unfold msO msK
 cases l with
 |none=>rfl
 |some l=>
  cases c with
  |none=>cases l<;>first|rfl|(rename_i k _;cases k<;>rfl)
  |some c=>
   simp only[aiZ,atB,he,hn,hb,hz]
   cases l with
   |int k l=>
    cases c with
    |int k' c=>
     cases k<;>cases k'<;>first|rfl|skip
     simp only[ok.1.1,ok.1.2,ok.2,ne_eq,not_false_eq_true,true_and]
     split<;>rfl
    |_=>cases k<;>rfl
   |_=>rfl
def srS(q:Nat)(c:Option CB)(r len:Nat):Option (Bool × List (List AV)):=
 match c with
 |some (.live st fl _ rows)=>if r+len≤rows.length∧st=q then some (fl,(rows.drop r).take len)else none
 |some (.frz st fl rows)=>if r+len≤rows.length∧st=q then some (fl,(rows.drop r).take len)else none
 |_=>none
def srK(q:Nat)(h:aaL)(x:Option AV):Option (Bool × List (List AV)):=
 match x with
 |some .nils=>some (true,[])
 |some (.imm st fl rows)=>if st=q then some (fl,rows)else none
 |some (.slr _ b r len)=>srS q (h[b]?) r len
 |_=>none
theorem a3N(q st:Nat)(fl w:Bool)(rows:List (List AV))(r len:Nat):srS q (some (.live st fl w rows)) r len=if r+len≤rows.length∧st=q then some (fl,(rows.drop r).take len)else none:=adE rfl rfl
theorem aWA(q:Nat)(h:aaL)(st:Nat)(fl:Bool)(rows:List (List AV)):srK q h (some (.imm st fl rows))=if st=q then some (fl,rows)else none:=adE rfl rfl
theorem aVZ(q:Nat)(h:aaL)(st b r len:Nat):srK q h (some (.slr st b r len))=srS q (h[b]?) r len:=adE rfl rfl
def apT(n base b r len:Nat)(nfl:Bool)(new:List (List AV))(st:Nat)(fl:Bool)(rows:List (List AV)):OE:=
 if st=n∧r+len≤rows.length∧len+new.length≤2 ^ 39 then some (.ret (.slr st base 0 (len+new.length)),[.put b .dead,.new base (.live st (fl&&nfl) false ((rows.drop r).take len++new))])else none
def apS(n base b r len:Nat)(nfl:Bool)(new:List (List AV))(c:Option CB):OE:=
 match c with
 |some (.live st fl _ rows)=>if st=n∧r+len=rows.length∧len+new.length≤2 ^ 39 then some (.ret (.slr st base 0 (len+new.length)),[.put b .dead,.new base (.live st (fl&&nfl) false (rows.drop r++new))])else apT n base b r len nfl new st fl rows
 |_=>none
theorem aRP(n base b r len:Nat)(nfl:Bool)(new:List (List AV))(st:Nat)(fl w:Bool)(rows:List (List AV)):apS n base b r len nfl new (some (.live st fl w rows))=if st=n∧r+len=rows.length∧len+new.length≤2 ^ 39 then some (.ret (.slr st base 0 (len+new.length)),[.put b .dead,.new base (.live st (fl&&nfl) false (rows.drop r++new))])else apT n base b r len nfl new st fl rows:=adE rfl rfl
def apK(n:Nat)(h:aaL)(s:Option AV)(x:Option (Bool × List (List AV))):OE:=
 match s,x with
 |some .nils,some (_,[])=>some (.ret .nils,[])
 |some (.slr a b r l),some (_,[])=>some (.ret (.slr a b r l),[])
 |some (.imm a b r),some (_,[])=>some (.ret (.imm a b r),[])
 |some .nils,some (nfl,r::new)=>if(r::new).length≤2 ^ 39 then some (.ret (.slr n h.length 0 (r::new).length),[.new h.length (.live n nfl false (r::new))])else none
 |some (.slr _ b r len),some (nfl,q::new)=>apS n h.length b r len nfl (q::new) (h[b]?)
 |_,_=>none
theorem baJ(n:Nat)(h:aaL)(a b r l:Nat)(nfl:Bool):apK n h (some (.slr a b r l)) (some (nfl,[]))=some (.ret (.slr a b r l),[]):=adE rfl rfl
theorem aUU(n:Nat)(h:aaL)(nfl:Bool)(r:List AV)(new:List (List AV)):apK n h (some .nils) (some (nfl,r::new))=if(r::new).length≤2 ^ 39 then some (.ret (.slr n h.length 0 (r::new).length),[.new h.length (.live n nfl false (r::new))])else none:=adE rfl rfl
theorem aU1(n:Nat)(h:aaL)(a b r len:Nat)(nfl:Bool)(q:List AV)(new:List (List AV)):apK n h (some (.slr a b r len)) (some (nfl,q::new))=apS n h.length b r len nfl (q::new) (h[b]?):=adE rfl rfl
def apO(P:Program)(ty:TypeId)(h:aaL)(s x:Option AV):OE:=rD (s.bind fun s=>x.bind fun x=>as2 P (hf h) h.length ty s x)
theorem aWC(t:List AV)(h:aaL)(s x:Operand)(ty ty1 e1:TypeId)(hu:P.underlying ty1=some (.slice e1)):amG O P t h (.call ⟨.builtin .append,#[s,x],#[ty,ty1]⟩)=apO P ty h (abO t s) (abO t x):=by
 rw[ai1 _ _ _ rfl]
 simp only[exec,ag4,apO]
 cases abO t s with
 |none=>rfl
 |some a=>
  cases abO t x with
  |none=>rfl
  |some b=>
   simp only[aiZ,as6]
   have e0:(#[ty,ty1]:Array TypeId)[0]?=some ty:=rfl
   have e1:(#[ty,ty1]:Array TypeId)[1]?=some ty1:=rfl
   simp only[e0,e1,aiZ,hu]
theorem aRQ{ty e:TypeId}{n b:Nat}{z:AV}(he:aDX P ty=some e)(hn:szT P e=some n)(hb:byT P e=some b)(hz:asV P e=some z)(ok:(decide (b≤2 ^ 8)&&decide (n≠0)&&decide ((abZ z).length=n))=true)(h:aaL)(s x:AV)(hx:∀q,x≠.str q):
 apO P ty h (some s) (some x)=apK n h (some s) (srK n h (some x)):=by
 simp only[awE,decide_eq_true_eq]at ok
 have hbad:¬(n=0∨2 ^ 8<b∨(abZ z).length≠n):=by
  rintro(h1|h1|h1)
  ·exact ok.1.2 h1
  ·omega
  ·exact h1 ok.2
 unfold apO
 simp only[aiZ,as2,he,hn,hb,hz]
 have key:∀(nfl:Bool) (new:List (List AV)) (fs:List ajQ),rD (if n=0∨2 ^ 8<b∨(abZ z).length≠n then none else
  match s,new with
  |s,[]=>match s with
   | .nils| .slr _ _ _ _| .imm _ _ _=>some ⟨s,[],fs⟩
   |_=>none
  | .nils,new=>if new.length≤2 ^ 39 then some ⟨.slr n h.length 0 new.length,[.new h.length (.live n nfl false new)],fs⟩else none
  | .slr _ b r len,new=>
    match hf h b with
    |some (.live st fl _ rows)=>
     if st=n∧r+len≤rows.length∧len+new.length≤2 ^ 39 then
      some ⟨.slr st h.length 0 (len+new.length),[.put b .dead,.new h.length (.live st (fl&&nfl) false ((rows.drop r).take len++new))],.blk b::fs⟩
     else none
    |_=>none
  |_,_=>none)=apK n h (some s) (some (nfl,new)):=fun nfl new fs=>by
  rw[if_neg hbad]
  cases new with
  |nil=>cases s<;>rfl
  |cons q new=>
   cases s with
   |nils=>simp only[aUU];split<;>rfl
   |slr a b r len=>
    simp only[aU1]
    unfold apS
    have eh:hf h b=h[b]?:=rfl
    rw[eh]
    cases h[b]? with
    |none=>rfl
    |some c=>
     cases c with
     |live st fl w rows=>
      simp only
      by_cases h1:st=n∧r+len=rows.length∧len+(q::new).length≤2 ^ 39
      ·rw[if_pos h1,if_pos ⟨h1.1,by omega,h1.2.2⟩,List.take_of_length_le (by simp;omega)]
       rfl
      ·rw[if_neg h1]
       unfold apT
       split<;>rfl
     |_=>rfl
   |_=>rfl
 cases x with
 |nils=>exact key true [] []
 |imm st fl rows=>
  simp only[alN,aWA,hn,awM.injEq]
  by_cases hq:n=st
  ·subst hq;simp only[if_true,aiZ];exact key fl rows []
  ·rw[if_neg hq,if_neg (fun e=>hq e.symm)]
   cases s<;>rfl
 |slr st b' r len=>
  simp only[alN,aVZ,hn,arE,srS]
  have eh:hf h b'=h[b']?:=rfl
  rw[eh]
  cases h[b']? with
  |none=>cases s<;>rfl
  |some c=>
   cases c with
   |live st fl w rows=>
    simp only
    by_cases hq:r+len≤rows.length
    ·simp only[hq,if_true,aiZ,true_and,awM.injEq]
     by_cases hq2:n=st
     ·subst hq2;simp only[if_true,aiZ];exact key fl _ _
     ·rw[if_neg hq2,if_neg (fun e=>hq2 e.symm)];cases s<;>rfl
    ·simp only[hq,if_false,false_and];cases s<;>rfl
   |frz st fl rows=>
    simp only
    by_cases hq:r+len≤rows.length
    ·simp only[hq,if_true,aiZ,true_and,awM.injEq]
     by_cases hq2:n=st
     ·subst hq2;simp only[if_true,aiZ];exact key fl _ _
     ·rw[if_neg hq2,if_neg (fun e=>hq2 e.symm)];cases s<;>rfl
    ·simp only[hq,if_false,false_and];cases s<;>rfl
   |_=>cases s<;>rfl
 |str q=>exact(hx q rfl).elim
 |_=>cases s<;>rfl
def rtK(Q:Out→aaL→Prop)(x:Option (List AV × List CB × List Nat)):Prop:=
 match x with
 |some ([v],cs,_)=>Q (.ret v) cs
 |_=>False
theorem a1E(Q:Out→aaL→Prop)(v:AV)(cs:List CB)(m:List Nat):rtK Q (some ([v],cs,m))=Q (.ret v) cs:=adE rfl rfl
theorem a9I{q:Nat}{vs:List AV}{h:aaL}{Q:Out→aaL→Prop}:Rt q (some vs) h Q=rtK Q (avS (hf h) (azC q) [ayP vs]):=by
 unfold Rt aZJ
 simp only[aiZ,ayF]
 cases hp:avS (hf h) (azC q) [ayP vs]with
 |none=>simp[rtK]
 |some x=>
  obtain⟨ws,cs,m⟩:=x
  simp only[aiZ]
  match ws with
  | [v]=>
    simp only[rtK,as6]
    exact propext ⟨fun⟨o,h',e,k⟩=>by cases e;exact k,fun k=>⟨_,_,rfl,k⟩⟩
  | []=>simp[rtK]
  |_::_::_=>simp[rtK]
theorem bcT(vs:List AV)(h:aaL)(Q:Out→aaL→Prop):Rt1 0 (some vs) h Q=rtK Q (avS (hf h) [] [ayP vs]):=a9I
theorem a5Y(q:Nat)(vs:List AV)(h:aaL)(Q:Out→aaL→Prop):Rt (q+1) (some vs) h Q=rtK Q (avS (hf h) (azC (q+1)) [ayP vs]):=a9I
end
end
noncomputable section
set_option maxRecDepth 100000
def EVi:=PLift.up (aa9 @aZB (aa9 @a73 (aa9 @bbW (aa9 @a59 (aa9 @bdI (aa9 @bcX (aa9 @a98 (aa9 @bcQ (aa9 @a3H (aa9 @bc8 (aa9 @a1P (aa9 @a3R (aa9 @a7Q (aa9 @a42 (aa9 @a1T (aa9 @a7B (aa9 @a2H (aa9 @a30 (aa9 @a4Q (aa9 @a94 (aa9 @a6F (aa9 @a4I (aa9 @be8 (aa9 @bf9 (aa9 @a4Y (aa9 @a3G (aa9 @a1F @a3J)))))))))))))))))))))))))))
def EVj:=PLift.up (aa9 @a3A (aa9 @bfX (aa9 @a20 (aa9 @a4C (aa9 @bfP (aa9 @bhX (aa9 @a2X (aa9 @a29 (aa9 @a79 (aa9 @a0B (aa9 @a7E (aa9 @a8H (aa9 @bdB (aa9 @bdQ (aa9 @bdJ (aa9 @a7S (aa9 @bb8 (aa9 @baO (aa9 @bd0 (aa9 @beG (aa9 @bf5 (aa9 @a61 (aa9 @baQ @bc9)))))))))))))))))))))))
def EVk:=PLift.up (aa9 @beY (aa9 @bf7 (aa9 @bcI (aa9 @a8C (aa9 @a6K (aa9 @a66 (aa9 @a5U (aa9 @a2V (aa9 @bcV (aa9 @a57 (aa9 @bcA (aa9 @beO @bcE))))))))))))
def EVl:=PLift.up (aa9 @a82 (aa9 @aYG (aa9 @a5S (aa9 @baL (aa9 @bbX (aa9 @a2Y (aa9 @bfK (aa9 @a32 (aa9 @bfS (aa9 @a3N (aa9 @aWA (aa9 @aVZ (aa9 @aRP (aa9 @baJ (aa9 @aUU (aa9 @aU1 (aa9 @a1E (aa9 @bcT (aa9 @a5Y (aa9 @aFX.{0,0} (aa9 @List.flatMap_nil.{0,0} (aa9 @List.isEmpty_nil.{0} (aa9 @List.isEmpty_cons.{0} (aa9 @List.range_succ (aa9 @aF7 (aa9 @List.contains_nil.{0} @List.contains_cons.{0}))))))))))))))))))))))))))
def EVm:=PLift.up (aa9 @List.getElem?_nil.{0} (aa9 @bcM (aa9 @a2I (aa9 @aZK (aa9 @aPL (aa9 @aXS @aUA))))))
end
noncomputable section
theorem a3P{n:Nat}{fl nn:Bool}{rows:List (List AV)}(h:rows≠[]):slv n fl nn rows=.imm n fl rows:=by
 cases rows with
 |nil=>exact(h rfl).elim
 |cons r rs=>rfl
theorem aw6(n:Nat)(fl:Bool)(rows:List (List AV)):slv n fl true rows=.imm n fl rows:=by cases rows<;>rfl
section
variable {P:Program} {t e:TypeId} (hu:P.underlying t=some (.slice e))
include hu
theorem aSP(n:Nat)(fl:Bool)(rows:List (List AV)):avL P .eql t (.imm n fl rows) .nils=some (.bool false):=by simp[avL,aEq,hu]
end
def bbN(h:aaL)(lent:List Nat)(v:Option AV)(ns:Option (List abJ)):OE:=v.bind fun v=>ns.map fun ns=>(.ret v,(if lent.isEmpty|| !(hasImm 8 v||ns.any abJ.hasImm)then []else ajV (hf h) lent)++ns)
theorem aYM(h:aaL)(lent:List Nat)(v:AV)(ns:List abJ):bbN h lent (some v) (some ns)=some (.ret v,(if(lent.isEmpty|| !(hasImm 8 v||ns.any abJ.hasImm))=true then []else ajV (hf h) lent)++ns):=adE rfl rfl
theorem a41(h:aaL)(base:Nat)(lent:List Nat)(v:AV)(c:CB)(cs:List CB):crR h base lent (some (.ret v,c::cs))=bbN h lent (ajM 8 (fun i=>base+i) v) (au4 (fun i=>base+i) base (c::cs)):=by
 simp only[crR,bbN,aiZ,Out.v,Out.map]
section
variable {O:Orc}
theorem beQ(h:aaL)(f:Nat)(args:List AV):shC O h f args=if(aAY args||O.md f)=true then shK h (O.call (.sh f) args (clH h))else cr (ajO O (hf h) h.length (.fn f) args):=adE rfl rfl
end
theorem baB(b r o:Nat)(l:List AV):aAY (.ptr b r o::l)=false:=adE rfl rfl
theorem a97(a b r n:Nat)(l:List AV):aAY (.slr a b r n::l)=false:=adE rfl rfl
theorem bdC(k:IntKind)(n:Int)(l:List AV):aAY (.int k n::l)=false:=adE rfl rfl
theorem bb7(c:List AV)(l:List AV):aAY (.agg c::l)=false:=adE rfl rfl
theorem bgR(b:Nat)(l:List AV):aAY (.yl b::l)=true:=adE rfl rfl
theorem baX:clH []=[]:=adE rfl rfl
theorem a8U(c:CB)(h:aaL):clH (c::h)=c.clean::clH h:=adE rfl rfl
theorem bbF(h h':aaL):clH (h++h')=clH h++clH h':=List.map_append
theorem bfF(ps:List Nat)(a b:Code)(t:List AV)(st:LSt):CB.clean (.lp ps a b t st)=.lp ps a b t st:=adE rfl rfl
def adK(h:aaL):Bool:=h.all fun c=>c.quiet c.clean
theorem aN6:∀(cs:List CB) (i:Nat) (h:aaL),agN h (awB i cs)=h++cs
 | [],i,h=>by simp[awB,agN]
 |c::cs,i,h=>by simp[awB,agN,axE,aN6 cs]
theorem aPB(h:aaL)(o:Out)(h':aaL):shK h (some (o,h'))=(anD 0 h h').map fun es=>(o,es):=adE rfl rfl
def EVo:=PLift.up (aa9 @bdA (aa9 @baD (aa9 @bf2 (aa9 @bbV (aa9 @a77 (aa9 @bbJ (aa9 @baE (aa9 @bbY @bcF))))))))
def EVn:=PLift.up (aa9 @aXQ (aa9 @aW7 (aa9 @aYM @a41)))
def EVp:=PLift.up (aa9 @beQ (aa9 @bdC (aa9 @bb7 (aa9 @baB (aa9 @a97 (aa9 @bgR (aa9 @baX (aa9 @a8U (aa9 @bbF @bfF)))))))))
end
noncomputable section
def ae0:CB→Option (Nat × Bool × List (List AV))
 | .live st fl _ rows=>some (st,fl,rows)
 | .frz st fl rows=>some (st,fl,rows)
 |_=>none
def rdL(f:AV→Option (AV × List Nat)):List AV→Option (List AV × List Nat)
 | []=>some ([],[])
 |a::l=>(f a).bind fun p=>(rdL f l).map fun q=>(p.1::q.1,p.2++q.2)
def ah6(f:AV→Option (AV × List Nat)):List (List AV)→Option (List (List AV) × List Nat)
 | []=>some ([],[])
 |r::rs=>(rdL f r).bind fun p=>(ah6 f rs).map fun q=>(p.1::q.1,p.2++q.2)
def rd:Nat→HF→AV→Option (AV × List Nat)
 |0,_,_=>none
 |d+1,g,v=>
  match v with
  | .slr st b r len=>((g b).bind ae0).bind fun z=>
     if z.1=st∧r=0∧len=z.2.2.length then
      (bif z.2.1 then some (.imm st true z.2.2,[b])else(ah6 (rd d g) z.2.2).map fun q=>(.imm st false q.1,b::q.2))
     else none
  | .agg cs=>(rdL (rd d g) cs).map fun q=>(.agg q.1,q.2)
  | .iface t x=>(rd d g x).map fun q=>(.iface t q.1,q.2)
  | .func fn [] []=>some (.func fn [] [],[])
  | .func _ _ _=>none
  | .tup _=>none
  | .ptr _ _ _=>none
  | .yl _=>none
  | .mapr _=>none
  | .itr _=>none
  | .imm _ _ _=>none
  | .iptr _=>none
  |v=>some (v,[])
theorem aEW{f f':AV→Option (AV × List Nat)}:∀{l:List AV} {p:List AV × List Nat},rdL f l=some p→(∀x∈l,∀q,f x=some q→(∀b∈q.2,b∈p.2)→f' x=some q)→rdL f' l=some p
 | [],p,h,_=>h
 |a::l,p,h,hf=>by
  simp only[rdL,aeU,adJ]at h ⊢
  obtain⟨q,hq,r,hr,rfl⟩:=h
  exact⟨q,hf a (am1 ..) q hq (fun b hb=>ayC _ hb),r,aEW hr (fun x hx q' hq' hs=>hf x (akQ _ hx) q' hq' (fun b hb=>ayE _ (hs b hb))),rfl⟩
theorem azK{f f':AV→Option (AV × List Nat)}:∀{l:List (List AV)} {p:List (List AV) × List Nat},ah6 f l=some p→(∀r∈l,∀x∈r,∀q,f x=some q→(∀b∈q.2,b∈p.2)→f' x=some q)→ah6 f' l=some p
 | [],p,h,_=>h
 |a::l,p,h,hf=>by
  simp only[ah6,aeU,adJ]at h ⊢
  obtain⟨q,hq,r,hr,rfl⟩:=h
  exact⟨q,aEW hq (fun x hx q' hq' hs=>hf a (am1 ..) x hx q' hq' (fun b hb=>ayC _ (hs b hb))),r,
   azK hr (fun r' hr' x hx q' hq' hs=>hf r' (akQ _ hr') x hx q' hq' (fun b hb=>ayE _ (hs b hb))),rfl⟩
def Agr(R:List Nat)(g g':HF):Prop:=∀b∈R,∀z,(g b).bind ae0=some z→(g' b).bind ae0=some z
theorem aKC{g g':HF}:∀{d:Nat} {v:AV} {p:AV × List Nat},rd d g v=some p→Agr p.2 g g'→rd d g' v=some p
 |0,v,p,h,_=>by simp[rd]at h
 |d+1,v,p,h,ha=>by
  cases v with
  |slr st b r len=>
   simp only[rd,aeU]at h ⊢
   obtain⟨z,⟨c,hc,hz⟩,h⟩:=h
   split at h
   ·rename_i hq
    have hb:b∈p.2:=by
     cases hfl:z.2.1 with
     |true=>rw[hfl]at h;simp at h;rw[←h];simp
     |false=>rw[hfl]at h;simp only[cond_false,adJ]at h;obtain⟨q,_,rfl⟩:=h;simp
    have hz':=ha b hb z (by rw[hc];exact hz)
    obtain⟨c',hc',hz''⟩:=aeU.1 hz'
    refine⟨z,⟨c',hc',hz''⟩,?_⟩
    rw[if_pos hq]
    cases hfl:z.2.1 with
    |true=>rw[hfl]at h;exact h
    |false=>
     rw[hfl]at h
     simp only[cond_false,adJ]at h ⊢
     obtain⟨q,hq',rfl⟩:=h
     exact⟨q,azK hq' (fun r' _ x _ q' hx hs=>aKC hx (fun b' hb'=>ha b' (akQ _ (hs b' hb')))),rfl⟩
   ·cases h
  |agg cs=>
   simp only[rd,adJ]at h ⊢
   obtain⟨q,hq,rfl⟩:=h
   exact⟨q,aEW hq (fun x _ q' hx hs=>aKC hx (fun b hb=>ha b (hs b hb))),rfl⟩
  |iface t x=>
   simp only[rd,adJ]at h ⊢
   obtain⟨q,hq,rfl⟩:=h
   exact⟨q,aKC hq ha,rfl⟩
  |func fn a b=>cases a<;>cases b<;>first|exact h|(simp[rd]at h)
  |_=>first|exact h|(simp[rd]at h)
theorem aV0{g:HF}:∀{d e:Nat} {v:AV} {p:AV × List Nat},d≤e→rd d g v=some p→rd e g v=some p
 |0,e,v,p,_,h=>by simp[rd]at h
 |d+1,0,v,p,he,h=>by omega
 |d+1,e+1,v,p,he,h=>by
  have IH:∀x q,rd d g x=some q→rd e g x=some q:=fun x q hx=>aV0 (by omega) hx
  cases v with
  |slr st b r len=>
   simp only[rd,aeU]at h ⊢
   obtain⟨z,hz,h⟩:=h
   refine⟨z,hz,?_⟩
   split at h
   ·rename_i hq
    rw[if_pos hq]
    cases hfl:z.2.1 with
    |true=>rw[hfl]at h;exact h
    |false=>
     rw[hfl]at h
     simp only[cond_false,adJ]at h ⊢
     obtain⟨q,hq',rfl⟩:=h
     exact⟨q,azK hq' (fun r' _ x _ q' hx _=>IH x q' hx),rfl⟩
   ·cases h
  |agg cs=>
   simp only[rd,adJ]at h ⊢
   obtain⟨q,hq,rfl⟩:=h
   exact⟨q,aEW hq (fun x _ q' hx _=>IH x q' hx),rfl⟩
  |iface t x=>
   simp only[rd,adJ]at h ⊢
   obtain⟨q,hq,rfl⟩:=h
   exact⟨q,IH _ _ hq,rfl⟩
  |func fn a b=>cases a<;>cases b<;>first|exact h|(simp[rd]at h)
  |_=>first|exact h|(simp[rd]at h)
theorem aET{f:AV→Option (AV × List Nat)}{f':AV→Option AV}:∀{l:List AV} {p:List AV × List Nat},rdL f l=some p→(∀x∈l,∀q,f x=some q→f' x=some q.1)→ad0 f' l=some p.1
 | [],p,h,_=>by simp[rdL]at h;subst h;rfl
 |a::l,p,h,hf=>by
  simp only[rdL,aeU,adJ]at h
  obtain⟨q,hq,r,hr,rfl⟩:=h
  simp only[ad0,hf a (am1 ..) q hq,aiZ,aET hr (fun x hx=>hf x (akQ _ hx)),as6]
theorem aIK{f:AV→Option (AV × List Nat)}{f':AV→Option AV}:∀{l:List (List AV)} {p:List (List AV) × List Nat},ah6 f l=some p→(∀r∈l,∀x∈r,∀q,f x=some q→f' x=some q.1)→ad0 (ad0 f') l=some p.1
 | [],p,h,_=>by simp[ah6]at h;subst h;rfl
 |a::l,p,h,hf=>by
  simp only[ah6,aeU,adJ]at h
  obtain⟨q,hq,r,hr,rfl⟩:=h
  simp only[ad0,aET hq (fun x hx=>hf a (am1 ..) x hx),aiZ,aIK hr (fun r' hr'=>hf r' (akQ _ hr')),as6]
theorem aOE{g:HF}{b:Nat}{z:Nat × Bool × List (List AV)}(h:(g b).bind ae0=some z):arE g b 0 z.2.2.length=some z:=by
 obtain⟨c,hc,hz⟩:=aeU.1 h
 unfold arE
 rw[hc]
 cases c with
 |live st fl w rows=>simp[ae0]at hz;subst hz;simp
 |frz st fl rows=>simp[ae0]at hz;subst hz;simp
 |dead=>simp[ae0]at hz
 |lp=>simp[ae0]at hz
theorem aJI{g:HF}:∀{d:Nat} {v:AV} {p:AV × List Nat},rd d g v=some p→aoC d g v=some p.1
 |0,v,p,h=>by simp[rd]at h
 |d+1,v,p,h=>by
  cases v with
  |slr st b r len=>
   simp only[rd,aeU]at h
   obtain⟨z,hz,h⟩:=h
   split at h
   ·rename_i hq
    obtain⟨rfl,rfl,rfl⟩:=hq
    simp only[aoC,aOE (aeU.2 hz),aiZ]
    cases hfl:z.2.1 with
    |true=>rw[hfl]at h;simp at h;rw[←h];rfl
    |false=>
     rw[hfl]at h
     simp only[cond_false,adJ]at h
     obtain⟨q,hq',rfl⟩:=h
     simp[aIK hq' (fun r' _ x _ q' hx=>aJI hx)]
   ·cases h
  |agg cs=>
   simp only[rd,adJ]at h
   obtain⟨q,hq,rfl⟩:=h
   simp[aoC,aET hq (fun x _ q' hx=>aJI hx)]
  |iface t x=>
   simp only[rd,adJ]at h
   obtain⟨q,hq,rfl⟩:=h
   simp[aoC,aJI hq]
  |func fn a b=>cases a<;>cases b<;>first|(simp[rd]at h;subst h;rfl)|(simp[rd]at h)
  |_=>first|(simp[rd]at h;subst h;rfl)|(simp[rd]at h)
def arG:Nat→(Nat→Option Nat)→AV→Option AV
 |0,_,_=>none
 |d+1,F,v=>
  match v with
  | .ptr b r o=>(F b).map fun b=>.ptr b r o
  | .slr st b r len=>(F b).map fun b=>.slr st b r len
  | .agg cs=>(ad0 (arG d F) cs).map .agg
  | .tup cs=>(ad0 (arG d F) cs).map .tup
  | .iface t x=>(arG d F x).map (.iface t)
  | .func fn a b=>(ad0 (arG d F) a).bind fun a=>(ad0 (arG d F) b).map fun b=>.func fn a b
  | .yl b=>(F b).map .yl
  | .mapr b=>(F b).map .mapr
  | .itr b=>(F b).map .itr
  |v=>some v
def baR(F:Nat→Option Nat)(g' g:HF):Prop:=∀i b,F i=some b→∀z,(g b).bind ae0=some z→
 ∃rows',(g' i).bind ae0=some (z.1,z.2.1,rows')∧(z.2.1=true→rows'=z.2.2)∧(z.2.1=false→ad0 (ad0 (arG 8 F)) rows'=some z.2.2)
theorem azH{α β:Type}{f:α→Option β}:∀{l:List α} {r:List β},ad0 f l=some r→l.length=r.length
 | [],r,h=>by simp[ad0]at h;subst h;rfl
 |a::l,r,h=>by
  simp only[ad0,aeU,adJ]at h
  obtain⟨b,_,bs,h2,rfl⟩:=h
  simp[azH h2]
theorem aF0{f f':AV→Option (AV × List Nat)}{F:AV→Option AV}{Z:Nat→Prop}:∀{l l':List AV} {p:List AV × List Nat},ad0 F l'=some l→rdL f l=some p→
 (∀x' x q,F x'=some x→f x=some q→∃R',f' x'=some (q.1,R')∧R'.length=q.2.length∧∀i∈R',Z i)→∃R',rdL f' l'=some (p.1,R')∧R'.length=p.2.length∧∀i∈R',Z i
 |l,[],p,ho,h,_=>by
  simp[ad0]at ho;subst ho
  simp[rdL]at h;subst h
  exact⟨[],rfl,rfl,fun i h=>by cases h⟩
 |l,a'::l',p,ho,h,hf=>by
  simp only[ad0,aeU,adJ]at ho
  obtain⟨a,ha,l1,hl1,rfl⟩:=ho
  simp only[rdL,aeU,adJ]at h
  obtain⟨q,hq,r,hr,rfl⟩:=h
  obtain⟨R1,e1,e2,z1⟩:=hf a' a q ha hq
  obtain⟨R2,e3,e4,z2⟩:=aF0 hl1 hr hf
  exact⟨R1++R2,by simp[rdL,e1,e3],by simp[e2,e4],fun i hi=>(anK.1 hi).elim (z1 i) (z2 i)⟩
theorem aKR{f f':AV→Option (AV × List Nat)}{F:AV→Option AV}{Z:Nat→Prop}:∀{l l':List (List AV)} {p:List (List AV) × List Nat},ad0 (ad0 F) l'=some l→ah6 f l=some p→
 (∀x' x q,F x'=some x→f x=some q→∃R',f' x'=some (q.1,R')∧R'.length=q.2.length∧∀i∈R',Z i)→∃R',ah6 f' l'=some (p.1,R')∧R'.length=p.2.length∧∀i∈R',Z i
 |l,[],p,ho,h,_=>by
  simp[ad0]at ho;subst ho
  simp[ah6]at h;subst h
  exact⟨[],rfl,rfl,fun i h=>by cases h⟩
 |l,a'::l',p,ho,h,hf=>by
  simp only[ad0,aeU,adJ]at ho
  obtain⟨a,ha,l1,hl1,rfl⟩:=ho
  simp only[ah6,aeU,adJ]at h
  obtain⟨q,hq,r,hr,rfl⟩:=h
  obtain⟨R1,e1,e2,z1⟩:=aF0 ha hq hf
  obtain⟨R2,e3,e4,z2⟩:=aKR hl1 hr hf
  exact⟨R1++R2,by simp[ah6,e1,e3],by simp[e2,e4],fun i hi=>(anK.1 hi).elim (z1 i) (z2 i)⟩
theorem aLI{F:Nat→Option Nat}{g' g:HF}(H:baR F g' g):∀{d e:Nat} {x' x:AV} {p:AV × List Nat},arG e F x'=some x→rd d g x=some p→∃R',rd d g' x'=some (p.1,R')∧R'.length=p.2.length∧∀i∈R',∃b,F i=some b
 |0,e,x',x,p,_,h=>by simp[rd]at h
 |d+1,0,x',x,p,hx,_=>by simp[arG]at hx
 |d+1,e+1,x',x,p,hx,h=>by
  have IH:∀e x' x q,arG e F x'=some x→rd d g x=some q→∃R',rd d g' x'=some (q.1,R')∧R'.length=q.2.length∧∀i∈R',∃b,F i=some b:=fun e x' x q h1 h2=>aLI H h1 h2
  cases x' with
  |slr st i r len=>
   simp only[arG,adJ]at hx
   obtain⟨b,hb,rfl⟩:=hx
   simp only[rd,aeU]at h
   obtain⟨z,hz,h⟩:=h
   split at h
   ·rename_i hq
    obtain⟨rows',k1,k2,k3⟩:=H i b hb z (aeU.2 hz)
    simp only[rd,k1,aiZ]
    cases hfl:z.2.1 with
    |true=>
     rw[hfl]at h;simp at h
     rw[if_pos ⟨hq.1,hq.2.1,by rw[k2 hfl];exact hq.2.2⟩,←h,k2 hfl]
     exact⟨[i],rfl,rfl,fun j hj=>by simp at hj;subst hj;exact⟨b,hb⟩⟩
    |false=>
     rw[hfl]at h
     simp only[cond_false,adJ]at h
     obtain⟨q,hq',rfl⟩:=h
     have hl:=azH (k3 hfl)
     rw[if_pos ⟨hq.1,hq.2.1,by rw[hl];exact hq.2.2⟩]
     obtain⟨R',e1,e2,z1⟩:=aKR (f':=rd d g') (k3 hfl) hq' (fun x' x q h1 h2=>IH 8 x' x q h1 h2)
     exact⟨i::R',by simp[e1],by simp[e2],fun j hj=>(ajS.1 hj).elim (fun e=>e▸⟨b,hb⟩) (z1 j)⟩
   ·cases h
  |agg cs=>
   simp only[arG,adJ]at hx
   obtain⟨cs',hcs,rfl⟩:=hx
   simp only[rd,adJ]at h
   obtain⟨q,hq,rfl⟩:=h
   obtain⟨R',e1,e2,z1⟩:=aF0 (f':=rd d g') hcs hq (fun x' x q h1 h2=>IH e x' x q h1 h2)
   exact⟨R',by simp[rd,e1],e2,z1⟩
  |iface t y=>
   simp only[arG,adJ]at hx
   obtain⟨y',hy,rfl⟩:=hx
   simp only[rd,adJ]at h
   obtain⟨q,hq,rfl⟩:=h
   obtain⟨R',e1,e2,z1⟩:=IH e _ _ q hy hq
   exact⟨R',by simp[rd,e1],e2,z1⟩
  |func fn a b=>
   simp only[arG,aeU,adJ]at hx
   obtain⟨a1,ha,b1,hb,rfl⟩:=hx
   have la:=azH ha
   have lb:=azH hb
   cases a1 with
   |cons=>simp[rd]at h
   |nil=>
    cases b1 with
    |cons=>simp[rd]at h
    |nil=>
     simp at la lb
     obtain rfl:=la
     obtain rfl:=lb
     simp[rd]at h;subst h
     exact⟨[],rfl,rfl,fun i h=>by cases h⟩
  |ptr b r o=>
   simp only[arG,adJ]at hx
   obtain⟨b,hb,rfl⟩:=hx
   simp[rd]at h
  |tup cs=>
   simp only[arG,adJ]at hx
   obtain⟨b,hb,rfl⟩:=hx
   simp[rd]at h
  |yl b=>
   simp only[arG,adJ]at hx
   obtain⟨b,hb,rfl⟩:=hx
   simp[rd]at h
  |mapr b=>
   simp only[arG,adJ]at hx
   obtain⟨b,hb,rfl⟩:=hx
   simp[rd]at h
  |itr b=>
   simp only[arG,adJ]at hx
   obtain⟨b,hb,rfl⟩:=hx
   simp[rd]at h
  |imm=>simp[arG]at hx;subst hx;simp[rd]at h
  |iptr=>simp[arG]at hx;subst hx;simp[rd]at h
  |_=>simp[arG]at hx;subst hx;simp[rd]at h;subst h;exact⟨[],rfl,rfl,fun i h=>by cases h⟩
end
noncomputable section
open Go.RowKit
section
variable {P:Program} {O:Orc} {pr:auV}
def fnS(P:Program)(rs:List ResultVar)(x:R):Option (Out × aaL):=
 match x with
 |some (.normal,s)|some (.ret,s)=>(ay7 P s rs).map fun vs=>(.ret (ayP vs),s.h)
 |some (.pan v,s)=>some (.pan v,s.h)
 |_=>none
theorem baT{f:Nat}{fn:Func}(hf:P.funcs[f]?=some fn){c:Code}(hb:fn.body=some c){args:List AV}(hl:args.length≤fn.ntmps)(h:aaL):
 evS O P f args h=fnS P fn.results.toList (evM O P av3 c [] ⟨mk fn.ntmps (ent args),h⟩):=by
 unfold evS
 simp only[hf,hb]
 rw[a0C _ _ hl]
 cases evM O P av3 c [] ⟨mk fn.ntmps (ent args),h⟩with
 |none=>rfl
 |some x=>
  obtain⟨e,s⟩:=x
  cases e<;>rfl
def FnS(P:Program)(rs:List ResultVar)(Q:Out→aaL→Prop)(x:R):Prop:=∃o h,fnS P rs x=some (o,h)∧Q o h
def RtS(vs:Option (List AV))(h:aaL)(Q:Out→aaL→Prop):Prop:=
 match vs with
 |some vs=>Q (.ret (ayP vs)) h
 |none=>False
theorem a1K(rs:List ResultVar)(Q:Out→aaL→Prop)(t:List AV)(h:aaL):FnS P rs Q (some (.ret,⟨t,h⟩))=RtS (ay7 P ⟨t,h⟩ rs) h Q:=by
 cases hr:ay7 P ⟨t,h⟩ rs with
 |none=>simp[FnS,fnS,RtS,hr]
 |some vs=>
  have e:fnS P rs (some (.ret,⟨t,h⟩))=some (.ret (ayP vs),h):=by simp[fnS,hr]
  exact propext (Iff.intro (fun⟨o,h',e',q⟩=>by rw[e]at e';cases e';exact q) (fun q=>⟨_,_,e,q⟩))
theorem aYX(rs:List ResultVar)(Q:Out→aaL→Prop)(t:List AV)(h:aaL):FnS P rs Q (some (.normal,⟨t,h⟩))=RtS (ay7 P ⟨t,h⟩ rs) h Q:=by
 rw[←a1K];rfl
theorem a0V(vs:List AV)(h:aaL)(Q:Out→aaL→Prop):RtS (some vs) h Q=Q (.ret (ayP vs)) h:=adE rfl rfl
theorem a08{rs:List ResultVar}{Q:Out→aaL→Prop}:¬FnS P rs Q none:=fun⟨_,_,h,_⟩=>by simp[fnS]at h
def ShQ(O:Orc)(f:Nat)(args:List AV)(h:aaL)(Q:Out→aaL→Prop):Prop:=∃o h',O.call (.sh f) args h=some (o,h')∧Q o h'
theorem ShQ.start{f:Nat}{fn:Func}{c:Code}{args:List AV}{h:aaL}{Q:Out→aaL→Prop}(hp:pr f=none)(hf:P.funcs[f]?=some fn)(hb:fn.body=some c)(hl:Nat.ble args.length fn.ntmps=true)
 (he:FnS P fn.results.toList Q (evM (om P pr) P 5000 c [] ⟨mk fn.ntmps (ent args),h⟩)) (hs:pr.sh f=none:=by exact rfl):ShQ (om P pr) f args h Q:=by
 obtain⟨o,h',e,q⟩:=he
 exact⟨o,h',a9T hp hs ((baT hf hb (Nat.le_of_ble_eq_true hl) h).trans e),q⟩
def ncK(x:Option AV):OE:=
 match x with
 |some (.ptr b r o)=>some (.ret (.ptr b r o),[])
 |some (.iptr cs)=>some (.ret (.iptr cs),[])
 |some (.func (.func f) a c)=>some (.ret (.func (.func f) a c),[])
 |_=>none
theorem bcN(b r o:Nat):ncK (some (.ptr b r o))=some (.ret (.ptr b r o),[]):=adE rfl rfl
theorem bgY(t:List AV)(h:aaL)(x:Operand):amG O P t h (.nilCheck x)=ncK (abO t x):=by
 rw[ai1 _ _ _ rfl]
 simp only[exec,ncK]
 cases abO t x with
 |none=>rfl
 |some v=>
  cases v with
  |func fn a c=>cases fn<;>rfl
  |_=>rfl
theorem bgA(t:List AV)(h:aaL)(x:Operand):ftA O P t h (.nilCheck x)=some []:=adE rfl rfl
end
def EVq:=PLift.up (aa9 @a1K (aa9 @aYX (aa9 @a0V (aa9 @bcN (aa9 @bgY @bgA)))))
end
noncomputable section
open Go.RowKit
section
variable {P:Program} {O:Orc}
end
def aAA(k st:Nat)(fl:Bool)(rows:List (List AV))(v:AV)(g:aaL):Prop:=
 (rows=[]∧v=.nils)∨∃b w,v=.slr st (b+k) 0 rows.length∧g[b]?=some (.live st fl w rows)
def kl(k:Nat)(v:AV)(g:aaL):aaL:=
 match v with
 | .slr _ b _ _=>g.set (b-k) .dead
 |_=>g
theorem aAA.nil(k st:Nat)(fl:Bool)(g:aaL):aAA k st fl [] .nils g:=.inl ⟨rfl,rfl⟩
theorem aAA.blk{k st:Nat}{fl w:Bool}{rows:List (List AV)}{g:aaL}{b n c:Nat}(h:g[b]?=some (.live st fl w rows))(hc:c=b+k)(hn:n=rows.length):aAA k st fl rows (.slr st c 0 n) g:=by
 subst hc hn;exact .inr ⟨b,w,rfl,h⟩
theorem aAA.app{k st:Nat}{fl:Bool}{rows:List (List AV)}{v:AV}{g:aaL}(h:aAA k st fl rows v g)(l:aaL):aAA k st fl rows v (g++l):=by
 rcases h with h|⟨b,w,h1,h2⟩
 ·exact .inl h
 ·exact .inr ⟨b,w,h1,by rw[arP (ajP.1 h2).1];exact h2⟩
theorem auK(k:Nat)(v:AV)(g:aaL):(kl k v g).length=g.length:=by
 unfold kl;split<;>simp
theorem aWY{k:Nat}{v:AV}{g:aaL}(h:adK g=true):adK (kl k v g)=true:=by
 unfold kl
 split
 ·simp only[adK,awY]at h ⊢
  intro c hc
  rcases aF8 hc with h1|rfl
  ·exact h c h1
  ·rfl
 ·exact h
def apE(v:AV)(st:Nat)(fl:Bool)(rows:List (List AV))(base:Nat):List abJ:=
 match v with
 | .slr _ b _ _=>[.put b .dead,.new base (.live st fl false rows)]
 |_=>[.new base (.live st fl false rows)]
theorem aPP{k n:Nat}{fl:Bool}{rows:List (List AV)}{v:AV}{g:aaL}(ho:aAA k n fl rows v g){pre:aaL}(hk:pre.length=k)(l:aaL)(r:List AV)(new:List (List AV))(hl:rows.length+(new.length+1)≤549755813888):
 apK n (pre++(g++l)) (some v) (some (fl,r::new))=some (.ret (.slr n (pre++(g++l)).length 0 (rows.length+(r::new).length)),apE v n fl (rows++r::new) (pre++(g++l)).length):=by
 rcases ho with⟨rfl,rfl⟩|⟨b,w,rfl,h2⟩
 ·rw[aUU,if_pos (by simp at hl ⊢;omega)]
  simp[apE]
 ·have hb:=(ajP.1 h2).1
  have hq:(pre++(g++l))[b+k]?=some (.live n fl w rows):=by
   rw[ayY (by omega),arP (by omega)]
   rw[show b+k-pre.length=b by omega];exact h2
  rw[aU1,hq,aRP,if_pos ⟨rfl,by omega,by simp only[at6];omega⟩]
  simp[apE]
theorem aLK{k n:Nat}{fl:Bool}{rows:List (List AV)}{v:AV}{g:aaL}(ho:aAA k n fl rows v g){pre:aaL}(hk:pre.length=k)(l:aaL)(st:Nat)(fl':Bool)(rows':List (List AV))(base:Nat):
 agN (pre++(g++l)) (apE v st fl' rows' base)=pre++(kl k v g++(l++[.live st fl' false rows'])):=by
 rcases ho with⟨rfl,rfl⟩|⟨b,w,rfl,h2⟩
 ·simp[apE,agN,axE,kl]
 ·have hb:=(ajP.1 h2).1
  simp only[apE,agN,axE,kl,Nat.add_sub_cancel]
  rw[List.set_append_right _ _ (by omega),show b+k-pre.length=b by omega,List.set_append_left _ _ hb]
  simp
def pkd(O:Orc)(f:Nat)(args:List AV):Prop:=hdR args=true→(aAY args||O.md f)=false
theorem a1J{O:Orc}{f:Nat}{args:List AV}(h:hdR args=false):pkd O f args:=fun k=>by rw[h]at k;cases k
theorem azW{O:Orc}{f:Nat}{args:List AV}(h:(aAY args||O.md f)=false):pkd O f args:=fun _=>h
theorem a2W{O:Orc}{h:aaL}{f:Nat}{args:List AV}(hd:pkd O f args):cl O h (some (.func (.func f) [] [])) (some args)=cr (ajO O (hf h) h.length (.fn f) args):=by
 rw[aVR]
 simp only[azA,aF9]
 split
 ·rename_i hh
  unfold shC
  rw[hd hh];simp only[Bool.false_eq_true,if_false]
 ·rfl
def a7N(a:Int)(i:Nat):Int:=a.fdiv (2 ^ (min i 64))
def baG(a:Int):Int:=IntKind.i64.wrap ((BitVec.ofInt 64 a&&&BitVec.ofInt 64 1).toNat:Int)
def aSM(n:Nat):Int:=IntKind.i64.wrap (1*2 ^ (min n 64))
section
variable {P:Program} (ty:TypeId)
theorem bbR(a:Int)(i:Nat):avL P .shr ty (.int .i64 a) (.int .i64 (i:Int))=some (.int .i64 (a7N a i)):=by
 simp[avL,a7N,IntKind.bits]
theorem bcO(a:Int):avL P .and ty (.int .i64 a) (.int .i64 1)=some (.int .i64 (baG a)):=by
 show(if IntKind.i64=IntKind.i64 then auZ .and .i64 a 1 else none)=_
 rw[if_pos rfl];rfl
theorem baV(n:Nat):avL P .shl ty (.int .i64 1) (.int .i64 (n:Int))=some (.int .i64 (aSM n)):=by
 simp[avL,aSM,IntKind.bits]
end
def EVr:=PLift.up (aa9 @bbR (aa9 @bcO @baV))
end
noncomputable section
open Go.RowKit
section
variable {P:Program} {O:Orc} {pr:auV}
def rnX(O:Orc)(P:Program)(n:Nat)(k:List adP)(t:List AV)(b:Nat)(h2:aaL)(x:Option CB):R:=
 match x with
 |some (.lp _ _ _ _ .ready)=>aiY (evM O P n) k .normal ⟨t,h2.set b .dead⟩
 |some (.lp _ _ _ _ (.done .ret))=>aiY (evM O P n) k .ret ⟨t,h2.set b .dead⟩
 |some (.lp _ _ _ _ (.done (.exit i)))=>aiY (evM O P n) k (.exit i) ⟨t,h2.set b .dead⟩
 |_=>none
def rnE(O:Orc)(P:Program)(n:Nat)(k:List adP)(t:List AV)(b:Nat)(h1:aaL)(x:OE):R:=
 match x with
 |some (.ret _,es)=>rnX O P n k t b (agN h1 es) ((agN h1 es)[b]?)
 |_=>none
def rnC(O:Orc)(h1:aaL)(b:Nat)(fv:Option AV):OE:=
 match fv with
 |some (.func (.func g) a c)=>cr (an8 O (hf h1) h1.length (aAF g (a++[.yl b]++c)) (a++[.yl b]++c))
 |_=>none
theorem be5(n:Nat)(k:List adP)(t:List AV)(b:Nat)(h1:aaL)(x:Option av9):
 (x.bind fun d=>match d.out with
   | .ret _=>
     let h2:=agN h1 d.es
     match h2[b]? with
     |some (.lp _ _ _ _ .ready)=>aiY (evM O P n) k .normal ⟨t,h2.set b .dead⟩
     |some (.lp _ _ _ _ (.done .ret))=>aiY (evM O P n) k .ret ⟨t,h2.set b .dead⟩
     |some (.lp _ _ _ _ (.done (.exit i)))=>aiY (evM O P n) k (.exit i) ⟨t,h2.set b .dead⟩
     |_=>none
   | .pan _=>none)=rnE O P n k t b h1 (cr x):=by
 cases x with
 |none=>rfl
 |some d=>
  obtain⟨o,es,fs⟩:=d
  cases o<;>rfl
theorem bcS(n:Nat)(f:Operand)(ps:Array Nat)(asg body:Code)(k:List adP)(t:List AV)(h:aaL):
 evM O P (n+1) (.rangeFunc f ps asg body) k ⟨t,h⟩=rnE O P n k t h.length (h++[.lp ps.toList asg body t .ready]) (rnC O (h++[.lp ps.toList asg body t .ready]) h.length (abO t f)):=by
 simp only[evM,rnC]
 cases abO t f with
 |none=>rfl
 |some v=>
  simp only[aiZ]
  cases v with
  |func fn a c=>
   cases fn with
   |func g=>exact be5 n k t h.length _ _
   |_=>rfl
  |_=>rfl
theorem bdD(h1:aaL)(b g:Nat)(a c:List AV):rnC O h1 b (some (.func (.func g) a c))=if hdR (a++[.yl b]++c)=true then shC O h1 g (a++[.yl b]++c)else cr (ajO O (hf h1) h1.length (.fn g) (a++[.yl b]++c)):=aUM h1 g _
theorem a7V(n:Nat)(k:List adP)(t:List AV)(b:Nat)(h1:aaL)(v:AV)(es:List abJ):rnE O P n k t b h1 (some (.ret v,es))=rnX O P n k t b (agN h1 es) ((agN h1 es)[b]?):=adE rfl rfl
theorem aYH(n:Nat)(k:List adP)(t:List AV)(b:Nat)(h2:aaL)(ps:List Nat)(asg body:Code)(tm:List AV):rnX O P n k t b h2 (some (.lp ps asg body tm .ready))=aiY (evM O P n) k .normal ⟨t,h2.set b .dead⟩:=adE rfl rfl
def slK(h:aaL)(b:Nat)(ok:LSt→Bool)(st:LSt)(x:Option CB):Option aaL:=
 match x with
 |some (.lp ps asg body tmps st')=>if ok st' then some (h.set b (.lp ps asg body tmps st))else none
 |_=>none
theorem bfB(h:aaL)(b:Nat)(ok:LSt→Bool)(st:LSt):ax1 h b ok st=slK h b ok st (h[b]?):=by
 unfold ax1 slK
 cases h[b]? with
 |none=>rfl
 |some c=>cases c<;>rfl
theorem aZY(h:aaL)(b:Nat)(st:LSt)(ps:List Nat)(asg body:Code)(tm:List AV):slK h b LSt.isReady st (some (.lp ps asg body tm .ready))=some (h.set b (.lp ps asg body tm st)):=adE rfl rfl
theorem a7U(h:aaL)(b:Nat)(st:LSt)(ps:List Nat)(asg body:Code)(tm:List AV):slK h b LSt.isBusy st (some (.lp ps asg body tm .busy))=some (h.set b (.lp ps asg body tm st)):=adE rfl rfl
def a86(O:Orc)(P:Program)(body:Code)(t:List AV)(x:Option aaL):R:=
 match x with
 |some h1=>evM O P 5000 body [] ⟨t,h1⟩
 |none=>none
def a4E(O:Orc)(P:Program)(b:Nat)(body:Code)(x:R):R:=
 match x with
 |some (.normal,s)=>a86 O P body s.tmps (ax1 s.h b LSt.isReady .busy)
 |_=>none
def aQE(r:Bool)(x:Option aaL):Option (Out × aaL):=x.map fun h2=>(.ret (.bool r),h2)
def aYJ(b:Nat)(x:R):Option (Out × aaL):=
 match x with
 |some (.normal,s)=>aQE true (ax1 s.h b LSt.isBusy .ready)
 |some (.ret,s)=>aQE false (ax1 s.h b LSt.isBusy (.done .ret))
 |some (.exit i,s)=>aQE false (ax1 s.h b LSt.isBusy (.done (.exit i)))
 |_=>none
theorem aW5(body:Code)(t:List AV)(h:aaL):a86 O P body t (some h)=evM O P 5000 body [] ⟨t,h⟩:=adE rfl rfl
theorem aQO(b:Nat)(body:Code)(t:List AV)(h:aaL):a4E O P b body (some (.normal,⟨t,h⟩))=a86 O P body t (ax1 h b LSt.isReady .busy):=adE rfl rfl
theorem aYA(r:Bool)(h:aaL):aQE r (some h)=some (.ret (.bool r),h):=adE rfl rfl
theorem a0A{vs:List AV}{b:Nat}{h:aaL}{ps:List Nat}{asg body:Code}{tm:List AV}{st:LSt}(hb:h[b]?=some (.lp ps asg body tm st))(hl:ps.length=vs.length):
 axC O P (vs++[.yl b]) h=aYJ b (a4E O P b body (evM O P 5000 asg [] ⟨ayJ tm ps vs,h⟩)):=by
 unfold axC
 simp only[List.reverse_append,List.reverse_cons,List.reverse_nil,azA,List.cons_append,List.reverse_reverse,List.length_reverse,hb,hl,if_true,av3]
 cases evM O P 5000 asg [] ⟨ayJ tm ps vs,h⟩with
 |none=>rfl
 |some x=>
  obtain⟨e,s⟩:=x
  cases e with
  |normal=>
   simp only[aiZ,a4E]
   cases ax1 s.h b LSt.isReady .busy with
   |none=>rfl
   |some h1=>
    simp only[aiZ,a86]
    cases evM O P 5000 body [] ⟨s.tmps,h1⟩with
    |none=>rfl
    |some y=>
     obtain⟨e,s⟩:=y
     cases e with
     |normal=>simp only[aiZ,ax2,aYJ,aQE];cases ax1 s.h b LSt.isBusy .ready<;>rfl
     |ret=>simp only[aiZ,ax2,aYJ,aQE];cases ax1 s.h b LSt.isBusy (.done .ret)<;>rfl
     |exit i=>simp only[aiZ,ax2,aYJ,aQE];cases ax1 s.h b LSt.isBusy (.done (.exit i))<;>rfl
     |pan v=>rfl
  |_=>rfl
def RnE(b:Nat)(Q:Out→aaL→Prop)(x:R):Prop:=∃o h',aYJ b x=some (o,h')∧Q o h'
def RnQ(O:Orc)(args:List AV)(h:aaL)(Q:Out→aaL→Prop):Prop:=∃o h',O.call .round args h=some (o,h')∧Q o h'
theorem RnQ.start{vs:List AV}{b:Nat}{h:aaL}{ps:List Nat}{asg body:Code}{tm:List AV}{st:LSt}{Q:Out→aaL→Prop}(hb:h[b]?=some (.lp ps asg body tm st))(hl:ps.length=vs.length)
 (he:RnE b Q (a4E (om P pr) P b body (evM (om P pr) P 5000 asg [] ⟨ayJ tm ps vs,h⟩))):RnQ (om P pr) (vs++[.yl b]) h Q:=by
 obtain⟨o,h',e,q⟩:=he
 exact⟨o,h',aPZ ((a0A hb hl).trans e),q⟩
theorem bdN{C:R→Prop}{n f b:Nat}{k:List adP}{t:List AV}{h1 h2:aaL}{args:List AV}{Q:Out→aaL→Prop}(hq:ShQ O f args h2 Q)(hk:∀o h',Q o h'→C (rnE O P n k t b h1 (shK h1 (some (o,h'))))):C (rnE O P n k t b h1 (shK h1 (O.call (.sh f) args h2))):=by
 obtain⟨o,h',e,q⟩:=hq
 rw[e];exact hk o h' q
theorem aY3(b:Nat)(Q:Out→aaL→Prop)(t:List AV)(h:aaL):RnE b Q (some (.normal,⟨t,h⟩))=∃o h',aQE true (ax1 h b LSt.isBusy .ready)=some (o,h')∧Q o h':=adE rfl rfl
theorem a5N(h:aaL)(f:Nat)(args:List AV):aTE O h f args=if(aAY args||O.md f)=true then some [.all]else if args.all (ad2 8)=true then some []else ftR h args:=adE rfl rfl
theorem a3I{b:Nat}{Q:Out→aaL→Prop}:¬RnE b Q none:=fun⟨_,_,h,_⟩=>by simp[aYJ]at h
theorem a7K(n:Nat)(t:Tm)(p:Nat)(ps:List Nat)(v:AV)(vs:List AV):ayJ (mk n t) (p::ps) (v::vs)=ayJ (mk n (up t p v)) ps vs:=by
 simp only[ayJ,a2L]
theorem bbT(n:Nat)(t:Tm)(vs:List AV):ayJ (mk n t) [] vs=mk n t:=by cases vs<;>rfl
end
def mfF(f:Nat→Nat):ajQ→ajQ
 | .cells b o n=>.cells (f b) o n
 | .blk b=>.blk (f b)
 | .all=>.all
def lgF(f:Nat→Nat)(log:Log):List (List ajQ × List ajQ):=log.map fun x=>(x.1.map fun e=>mfF f e.foot,x.2.map (mfF f))
def aTC(x y:List ajQ × List ajQ):Bool:=x.1.any (fun f=>(y.1++y.2).any f.meets)||y.1.any (fun f=>x.2.any f.meets)
def a9M(ops:List Oper)(lg:List (List ajQ × List ajQ)):Bool:=
 (aH3 ops).all fun(i,j)=>match lg[i]?,lg[j]? with
   |some x,some y=> !aTC x y
   |_,_=>false
theorem aRF(f:Nat→Nat)(x y:ajQ)(h:x.meets y=true):(mfF f x).meets (mfF f y)=true:=by
 cases x<;>cases y<;>simp_all[ajQ.meets,mfF]
theorem a48(f:Nat→Nat)(x y:List abJ × List ajQ)(h:ayK x y=true):aTC (x.1.map fun e=>mfF f e.foot,x.2.map (mfF f)) (y.1.map fun e=>mfF f e.foot,y.2.map (mfF f))=true:=by
 simp only[ayK,aTC,Bool.or_eq_true,List.any_eq_true,anK,alW]at h ⊢
 rcases h with⟨a,⟨e,he,rfl⟩,b,hb,hm⟩|⟨a,⟨e,he,rfl⟩,b,hb,hm⟩
 ·refine .inl ⟨_,⟨e,he,rfl⟩,mfF f b,?_,aRF f _ _ hm⟩
  rcases hb with⟨e',he',rfl⟩|hb
  ·exact .inl ⟨e',he',rfl⟩
  ·exact .inr ⟨b,hb,rfl⟩
 ·exact .inr ⟨_,⟨e,he,rfl⟩,mfF f b,⟨b,hb,rfl⟩,aRF f _ _ hm⟩
theorem aDC(f:Nat→Nat){ops:List Oper}{log:Log}(h:a9M ops (lgF f log)=true):apX ops log=true:=by
 simp only[a9M,apX,awY]at h ⊢
 rintro⟨i,j⟩ hij
 have:=h (i,j) hij
 simp only[lgF,au3]at this ⊢
 cases hi:log[i]? with
 |none=>simp[hi]at this
 |some x=>
  cases hj:log[j]? with
  |none=>simp[hi,hj]at this
  |some y=>
   simp only[hi,hj,as6,Bool.not_eq_true',Bool.not_eq_eq_eq_not]at this ⊢
   cases hc:ayK x y with
   |false=>rfl
   |true=>rw[a48 f x y hc]at this;cases this
theorem aHT(f:Nat→Nat):lgF f []=[]:=adE rfl rfl
theorem aDI(f:Nat→Nat)(x:List abJ)(y:List ajQ)(l:Log):lgF f ((x,y)::l)=(x.map (fun e=>mfF f e.foot),y.map (mfF f))::lgF f l:=adE rfl rfl
theorem aAP(f:Nat→Nat)(b o n:Nat):mfF f (.cells b o n)=.cells (f b) o n:=adE rfl rfl
theorem aGA(f:Nat→Nat)(b:Nat):mfF f (.blk b)=.blk (f b):=adE rfl rfl
theorem aG9(b:Nat)(c:CB):abJ.foot (.new b c)=.blk b:=adE rfl rfl
theorem aHO(b:Nat)(c:CB):abJ.foot (.put b c)=.blk b:=adE rfl rfl
theorem aAS(b r o:Nat)(vs:List AV):abJ.foot (.cells b r o vs)=.cells b o vs.length:=adE rfl rfl
section
variable {P:Program} {O:Orc}
theorem a0X(t:List AV)(h:aaL)(ty:TypeId)(x i:Operand):amG O P t h (.index ty x i)=r1 ((abO t x).bind fun x=>(abO t i).bind fun i=>ayG P ty x i):=by
 rw[ai1 _ _ _ rfl]
 simp only[exec]
 cases abO t x with
 |none=>rfl
 |some a=>
  cases abO t i with
  |none=>rfl
  |some b=>exact asY _
end
def EVs:=PLift.up (aa9 @bcS (aa9 @bdD (aa9 @a7V (aa9 @aYH (aa9 @bfB (aa9 @aZY (aa9 @a7U (aa9 @aW5 (aa9 @aQO (aa9 @aYA (aa9 @aY3 (aa9 @a7K (aa9 @a5N (aa9 @a0X @bbT))))))))))))))
end
noncomputable section
open Go.RowKit
set_option maxRecDepth 100000
def EVZ:=PLift.up (aa9 EVa.down (aa9 EVb.down (aa9 EVc.down (aa9 EVd.down (aa9 EVe.down (aa9 EVf.down (aa9 EVg.down (aa9 EVh.down (aa9 EVi.down (aa9 EVj.down (aa9 EVk.down (aa9 EVl.down (aa9 EVm.down (aa9 EVn.down (aa9 EVo.down (aa9 EVp.down EVq.down))))))))))))))))
section
variable {P:Program} {O:Orc}
class NoN(C:R→Prop):Prop where
 no:¬C none
instance{q:Nat}{rs:List ResultVar}{Q:Out→aaL→Prop}:NoN (FnE P q rs Q):=⟨a15⟩
instance{rs:List ResultVar}{Q:Out→aaL→Prop}:NoN (FnS P rs Q):=⟨a08⟩
instance{N:Nat}{J:Tm→aaL→Prop}{Q:Ex→St→Prop}:NoN (Rnd N J Q):=⟨a1R⟩
instance{b:Nat}{Q:Out→aaL→Prop}:NoN (RnE b Q):=⟨a3I⟩
end
end
noncomputable section
open Go.RowKit
set_option maxRecDepth 100000
section
variable {P:Program} {O:Orc}
class Spl(r:R)(b:outParam Bool)(x y:outParam R):Prop where
 sp:∀{C:R→Prop},(b=true→C x)→(b=false→C y)→C r
instance{n:Nat}{k:List adP}{d:Option Nat}{op:Op}{cs:List CO}{b w:Bool}{t:List AV}{h:aaL}:Spl (rcG O P n k d op cs (.bool b) w t h) b (rcG O P n k d op cs (.bool true) w t h) (rcG O P n k d op cs (.bool false) w t h):=⟨bfZ⟩
instance{n:Nat}{x y:Code}{k:List adP}{g:Bool}{s:St}:Spl (cdK O P n x y k (some (.bool g)) s) g (evM O P n x k s) (evM O P n y k s):=⟨bgF⟩
instance{n:Nat}{k:List adP}{d:Option Nat}{op:Op}{cs:List CO}{b w:Bool}{t:List AV}{h:aaL}:Spl (rqG O P n k d op cs (.bool b) w t h) b (rqG O P n k d op cs (.bool true) w t h) (rqG O P n k d op cs (.bool false) w t h):=⟨beW⟩
instance{n:Nat}{k:List adP}{d:Option Nat}{op:Op}{cs:List CO}{b w:Bool}{t:List AV}{h:aaL}:Spl (rwG O P n k d op cs (.bool b) w t h) b (rwG O P n k d op cs (.bool true) w t h) (rwG O P n k d op cs (.bool false) w t h):=⟨bfV⟩
instance{n:Nat}{k:List adP}{ops:List Oper}{d:Option Nat}{op:Op}{cs:List CO}{b w:Bool}{t:List AV}{h:aaL}{log:Log}:Spl (rlG O P n k ops d op cs (.bool b) w t h log) b (rlG O P n k ops d op cs (.bool true) w t h log) (rlG O P n k ops d op cs (.bool false) w t h log):=⟨bg3⟩
theorem fsp{C:R→Prop}{r x y:R}{b:Bool}(h1:b=true→C x)(h2:b=false→C y)(s:Spl r b x y:=by infer_instance):C r:=s.sp h1 h2
class Drw(i:Nat)(r:R)(c:outParam Bool)(r':outParam R):Prop where
 dr:∀{C:R→Prop},¬C none→c=true→C r'→C r
instance{b:Bool}{k:R}:Drw 0 (atD b k) b k:=⟨fun _=>a9X⟩
instance{n id:Nat}{ops:Array Oper}{k:List adP}{t:List AV}{h:aaL}:Drw 1 (evM O P (n+1) (.region id ops true) k ⟨t,h⟩) (axP ops.toList&&aVW ops.toList) (rw O P n k (ops.toList.map (atY ops.toList)) t h):=⟨fun h=>beI h⟩
instance{n id:Nat}{ops:Array Oper}{k:List adP}{t:List AV}{h:aaL}:Drw 2 (evM O P (n+1) (.region id ops true) k ⟨t,h⟩) (axP ops.toList&&bf4 ops.toList) (rq O P n k (ops.toList.map (atY ops.toList)) t h):=⟨fun h=>bfD h⟩
instance{n id:Nat}{ops:Array Oper}{k:List adP}{t:List AV}{h:aaL}:Drw 3 (evM O P (n+1) (.region id ops true) k ⟨t,h⟩) (axP ops.toList) (rl O P n k ops.toList (ops.toList.map (atY ops.toList)) t h []):=⟨fun h=>bf0 h⟩
structure Dw(r r':R):Prop where
 dr:∀{C:R→Prop},¬C none→C r'→C r
theorem dg{r r':R}{c:Bool}[d:Drw 0 r c r'](h:c=true:=by kernel_rfl):Dw r r':=⟨fun n k=>d.dr n h k⟩
theorem dw(i:Nat){r r':R}{c:Bool}[d:Drw i r c r'](h:c=true:=by decide+kernel):Dw r r':=⟨fun n k=>d.dr n h k⟩
theorem fd{C:R→Prop}{r r':R}[n:NoN C](k:C r')(e:Dw r r':=by first|exact dg|exact dw 1|exact dw 2|exact dw 3):C r:=e.dr n.no k
theorem fdq{C:R→Prop}{r r':R}[n:NoN C](k:C r')(e:Dw r r':=by first|exact dw 1|exact dw 2|exact dw 3):C r:=e.dr n.no k
end
section
variable {P:Program} {O:Orc}
def Un(O:Orc)(P:Program)(n:Nat)(k:List adP)(c:Code)(C:R→Prop):R→Prop
 |some (.normal,s)=>C (lpK O P n k (O.loop c s))
 |some (e,s)=>C (aiY (evM O P n) k e s)
 |none=>False
theorem aYO(n:Nat)(k:List adP)(c:Code)(C:R→Prop)(s:St):Un O P n k c C (some (.normal,s))=C (lpK O P n k (O.loop c s)):=adE rfl rfl
theorem a80(n:Nat)(k:List adP)(c:Code)(C:R→Prop)(i:Nat)(s:St):Un O P n k c C (some (.exit i,s))=C (aiY (evM O P n) k (.exit i) s):=adE rfl rfl
theorem a95(n:Nat)(k:List adP)(c:Code)(C:R→Prop)(s:St):Un O P n k c C (some (.ret,s))=C (aiY (evM O P n) k .ret s):=adE rfl rfl
instance{n:Nat}{k:List adP}{c:Code}{C:R→Prop}:NoN (Un O P n k c C):=⟨fun h=>h⟩
theorem a9P{pr:auV}{C:R→Prop}[N:NoN C]{n:Nat}{k:List adP}{c:Code}{s:St}(h:Un (om P pr) P n k c C (evM (om P pr) P 5000 c [] s)):C (lpK (om P pr) P n k ((om P pr).loop c s)):=by
 cases hm:evM (om P pr) P 5000 c [] s with
 |none=>rw[hm]at h;exact h.elim
 |some x=>
  obtain⟨e,s'⟩:=x
  rw[hm]at h
  cases e with
  |normal=>
   replace h:C (lpK (om P pr) P n k ((om P pr).loop c s')):=h
   cases hl:(om P pr).loop c s' with
   |none=>rw[hl]at h;exact(N.no h).elim
   |some y=>
    obtain⟨e,s''⟩:=y
    rw[hl]at h
    rw[aBC hm hl];exact h
  |exit i=>rw[as9 hm (by simp)];exact h
  |ret=>rw[as9 hm (by simp)];exact h
  |pan v=>rw[as9 hm (by simp)];exact h
end
theorem a03:IntKind.i64.wrap 1=1:=adE rfl rfl
def EE:=PLift.up (aa9 EVZ.down (aa9 @a03 (aa9 @aYO (aa9 @a80 (aa9 @a95 (aa9 @atY.eq_1 (aa9 @abO.eq_1 (aa9 @abO.eq_2 (aa9 @abO.eq_4 (aa9 @ag4.eq_1 (aa9 @ag4.eq_2 (aa9 @aN0.eq_3 (aa9 @aDY.eq_1 (aa9 @aDY.eq_2 (aa9 @aDY.eq_5 (aa9 @aDY.eq_6 (aa9 @aDY.eq_8 (aa9 @agN.eq_1 (aa9 @agN.eq_2 (aa9 @axE.eq_1 (aa9 @axE.eq_2 (aa9 @axE.eq_3 (aa9 @av5.eq_1 (aa9 @ajN.eq_1 (aa9 @bsK.eq_1 (aa9 @ayP.eq_1 (aa9 @ayP.eq_2 (aa9 @decide_true @decide_false))))))))))))))))))))))))))))
def EF:=PLift.up (aa9 EE.down EVr.down)
def EG:=PLift.up (aa9 EF.down EVs.down)
end
noncomputable section
open Go.RowKit
def On(m:List Nat)(F:Nat→Option Nat):Prop:=∀i b,m[i]?=some b→F i=some b
theorem On.mono{m m':List Nat}{F:Nat→Option Nat}(h:On m' F)(hp:m <+:m'):On m F:=fun _ _ hi=>h _ _ (axQ hp hi)
structure Gd(m m' R:List Nat):Prop where
 pre:m <+:m'
 nd:m.Nodup→m'.Nodup
 sub:∀b∈m',b∈m∨b∈R
theorem Gd.refl(m R:List Nat):Gd m m R:=⟨aGB _,id,fun _ h=>.inl h⟩
theorem Gd.trans{m m1 m2 R1 R2 R:List Nat}(h1:Gd m m1 R1)(h2:Gd m1 m2 R2)(k1:∀b∈R1,b∈R)(k2:∀b∈R2,b∈R):Gd m m2 R:=
 ⟨h1.pre.trans h2.pre,fun h=>h2.nd (h1.nd h),fun b hb=>(h2.sub b hb).elim (fun h=>(h1.sub b h).imp id (k1 b)) (fun h=>.inr (k2 b h))⟩
theorem aZ3(m:List Nat)(b:Nat){R:List Nat}(hb:b∈R):Gd m (atQ m b).2 R:=by
 refine⟨(avO m b).2.1,(avO m b).2.2,fun x hx=>?_⟩
 unfold atQ at hx
 split at hx
 ·exact .inl hx
 ·rcases anK.1 hx with h|h
  ·exact .inl h
  ·simp at h;subst h;exact .inr hb
def Sp(e:Nat)(x:AV)(R:List Nat):Prop:=∀m,∃x' m',ai3 e m x=some (x',m')∧Gd m m' R∧∀F,On m' F→arG e F x'=some x
def SpL(e:Nat)(l:List AV)(R:List Nat):Prop:=∀m,∃l' m',ai3.refL (ai3 e) m l=some (l',m')∧Gd m m' R∧∀F,On m' F→ad0 (arG e F) l'=some l
def SpR(l:List (List AV))(R:List Nat):Prop:=∀m,∃l' m',au7 m l=some (l',m')∧Gd m m' R∧∀F,On m' F→ad0 (ad0 (arG 8 F)) l'=some l
theorem spL{f:AV→Option (AV × List Nat)}{e:Nat}:∀{l:List AV} {p:List AV × List Nat},rdL f l=some p→(∀x∈l,∀q,f x=some q→Sp e x q.2)→SpL e l p.2
 | [],p,h,_=>fun m=>⟨[],m,rfl,Gd.refl _ _,fun _ _=>rfl⟩
 |a::l,p,h,hf=>fun m=>by
  simp only[rdL,aeU,adJ]at h
  obtain⟨q,hq,r,hr,rfl⟩:=h
  obtain⟨x',m1,e1,g1,k1⟩:=hf a (am1 ..) q hq m
  obtain⟨l',m2,e2,g2,k2⟩:=spL hr (fun x hx=>hf x (akQ _ hx)) m1
  refine⟨x'::l',m2,by simp[ai3.refL,e1,e2],g1.trans g2 (fun _ h=>ayC _ h) (fun _ h=>ayE _ h),fun F hF=>?_⟩
  simp[ad0,k1 F (hF.mono g2.pre),k2 F hF]
theorem spR{f:AV→Option (AV × List Nat)}:∀{l:List (List AV)} {p:List (List AV) × List Nat},ah6 f l=some p→(∀r∈l,∀x∈r,∀q,f x=some q→Sp 8 x q.2)→SpR l p.2
 | [],p,h,_=>fun m=>⟨[],m,rfl,Gd.refl _ _,fun _ _=>rfl⟩
 |a::l,p,h,hf=>fun m=>by
  simp only[ah6,aeU,adJ]at h
  obtain⟨q,hq,r,hr,rfl⟩:=h
  obtain⟨x',m1,e1,g1,k1⟩:=spL hq (hf a (am1 ..)) m
  obtain⟨l',m2,e2,g2,k2⟩:=spR hr (fun x hx=>hf x (akQ _ hx)) m1
  refine⟨x'::l',m2,by simp[au7,e1,e2],g1.trans g2 (fun _ h=>ayC _ h) (fun _ h=>ayE _ h),fun F hF=>?_⟩
  simp[ad0,k1 F (hF.mono g2.pre),k2 F hF]
theorem sp{g:HF}:∀{d e:Nat} {v:AV} {p:AV × List Nat},d≤e→rd d g v=some p→Sp e v p.2
 |0,e,v,p,_,h=>by simp[rd]at h
 |d+1,0,v,p,he,h=>by omega
 |d+1,e+1,v,p,he,h=>by
  have IH:∀x q,rd d g x=some q→Sp e x q.2:=fun x q hx=>sp (by omega) hx
  intro m
  cases v with
  |slr st b r len=>
   simp only[rd,aeU]at h
   obtain⟨z,_,h⟩:=h
   split at h
   ·have hb:b∈p.2:=by
     cases hfl:z.2.1 with
     |true=>rw[hfl]at h;simp at h;rw[←h];simp
     |false=>rw[hfl]at h;simp only[cond_false,adJ]at h;obtain⟨q,_,rfl⟩:=h;simp
    exact⟨_,_,rfl,aZ3 m b hb,fun F hF=>by simp[arG,hF _ _ (avO m b).1]⟩
   ·cases h
  |agg cs=>
   simp only[rd,adJ]at h
   obtain⟨q,hq,rfl⟩:=h
   obtain⟨l',m1,e1,g1,k1⟩:=spL hq (fun x _=>IH x) m
   exact⟨.agg l',m1,by simp[ai3,e1],g1,fun F hF=>by simp[arG,k1 F hF]⟩
  |iface t x=>
   simp only[rd,adJ]at h
   obtain⟨q,hq,rfl⟩:=h
   obtain⟨l',m1,e1,g1,k1⟩:=IH x q hq m
   exact⟨.iface t l',m1,by simp[ai3,e1],g1,fun F hF=>by simp[arG,k1 F hF]⟩
  |func fn a b=>
   cases a with
   |cons=>simp[rd]at h
   |nil=>
    cases b with
    |cons=>simp[rd]at h
    |nil=>exact⟨_,m,rfl,Gd.refl _ _,fun _ _=>rfl⟩
  |ptr b r o=>simp[rd]at h
  |tup cs=>simp[rd]at h
  |yl b=>simp[rd]at h
  |mapr b=>simp[rd]at h
  |itr b=>simp[rd]at h
  |imm=>simp[rd]at h
  |iptr=>simp[rd]at h
  |_=>exact⟨_,m,rfl,Gd.refl _ _,fun _ _=>rfl⟩
def Cl(g:HF)(S:List Nat):Prop:=∀b∈S,∃z,(g b).bind ae0=some z∧(z.2.1=false→∃d q,d≤8∧ah6 (rd d g) z.2.2=some q∧∀x∈q.2,x∈S)
theorem Cl.nil(g:HF):Cl g []:=fun _ h=>by cases h
theorem Cl.app{g:HF}{S T:List Nat}(h1:Cl g S)(h2:Cl g T):Cl g (S++T):=fun b hb=>by
 rcases anK.1 hb with h|h
 ·obtain⟨z,k1,k2⟩:=h1 b h
  exact⟨z,k1,fun e=>by obtain⟨d,q,a1,a2,a3⟩:=k2 e;exact⟨d,q,a1,a2,fun x hx=>ayC _ (a3 x hx)⟩⟩
 ·obtain⟨z,k1,k2⟩:=h2 b h
  exact⟨z,k1,fun e=>by obtain⟨d,q,a1,a2,a3⟩:=k2 e;exact⟨d,q,a1,a2,fun x hx=>ayE _ (a3 x hx)⟩⟩
theorem clL{g:HF}{f:AV→Option (AV × List Nat)}:∀{l:List AV} {p:List AV × List Nat},rdL f l=some p→(∀x∈l,∀q,f x=some q→Cl g q.2)→Cl g p.2
 | [],p,h,_=>by simp[rdL]at h;subst h;exact Cl.nil g
 |a::l,p,h,hf=>by
  simp only[rdL,aeU,adJ]at h
  obtain⟨q,hq,r,hr,rfl⟩:=h
  exact(hf a (am1 ..) q hq).app (clL hr fun x hx=>hf x (akQ _ hx))
theorem clR{g:HF}{f:AV→Option (AV × List Nat)}:∀{l:List (List AV)} {p:List (List AV) × List Nat},ah6 f l=some p→(∀r∈l,∀x∈r,∀q,f x=some q→Cl g q.2)→Cl g p.2
 | [],p,h,_=>by simp[ah6]at h;subst h;exact Cl.nil g
 |a::l,p,h,hf=>by
  simp only[ah6,aeU,adJ]at h
  obtain⟨q,hq,r,hr,rfl⟩:=h
  exact(clL hq (hf a (am1 ..))).app (clR hr fun x hx=>hf x (akQ _ hx))
theorem aWS{g:HF}:∀{d:Nat} {v:AV} {p:AV × List Nat},d≤9→rd d g v=some p→Cl g p.2
 |0,v,p,_,h=>by simp[rd]at h
 |d+1,v,p,hd,h=>by
  have IH:∀x q,rd d g x=some q→Cl g q.2:=fun x q hx=>aWS (by omega) hx
  cases v with
  |slr st b r len=>
   simp only[rd,aeU]at h
   obtain⟨z,hz,h⟩:=h
   have hz':(g b).bind ae0=some z:=aeU.2 hz
   split at h
   ·cases hfl:z.2.1 with
    |true=>
     rw[hfl]at h;simp at h;rw[←h]
     intro b' hb'
     simp at hb';subst hb'
     exact⟨z,hz',fun e=>by rw[hfl]at e;cases e⟩
    |false=>
     rw[hfl]at h;simp only[cond_false,adJ]at h
     obtain⟨q,hq,rfl⟩:=h
     intro b' hb'
     rcases ajS.1 hb' with rfl|hb'
     ·exact⟨z,hz',fun _=>⟨d,q,by omega,hq,fun x hx=>akQ _ hx⟩⟩
     ·obtain⟨z',k1,k2⟩:=clR hq (fun r _ x _=>IH x) b' hb'
      exact⟨z',k1,fun e=>by obtain⟨d',q',a1,a2,a3⟩:=k2 e;exact⟨d',q',a1,a2,fun x hx=>akQ _ (a3 x hx)⟩⟩
   ·cases h
  |agg cs=>
   simp only[rd,adJ]at h
   obtain⟨q,hq,rfl⟩:=h
   exact clL hq fun x _=>IH x
  |iface t x=>
   simp only[rd,adJ]at h
   obtain⟨q,hq,rfl⟩:=h
   exact IH x q hq
  |func fn a b=>
   cases a<;>cases b<;>first|(simp[rd]at h;subst h;exact Cl.nil g)|(simp[rd]at h)
  |_=>first|(simp[rd]at h;subst h;exact Cl.nil g)|(simp[rd]at h)
theorem aHR{F:Nat→Option Nat}(f:Nat→Nat):∀{e:Nat} {x' x:AV},arG e F x'=some x→∃y,ajM e f x'=some y
 |0,x',x,h=>by simp[arG]at h
 |e+1,x',x,h=>by
  have L:∀{l l1:List AV},ad0 (arG e F) l=some l1→∃y,ad0 (ajM e f) l=some y:=fun {l}=>by
   induction l with
   |nil=>exact fun _=>⟨[],rfl⟩
   |cons a l ih=>
    intro l1 h
    simp only[ad0,aeU,adJ]at h
    obtain⟨b,hb,c,hc,_⟩:=h
    obtain⟨y,hy⟩:=aHR f hb
    obtain⟨ys,hys⟩:=ih hc
    exact⟨y::ys,by simp[ad0,hy,hys]⟩
  cases x' with
  |agg cs=>simp only[arG,adJ]at h;obtain⟨_,h,_⟩:=h;obtain⟨y,hy⟩:=L h;exact⟨.agg y,by simp[ajM,hy]⟩
  |tup cs=>simp only[arG,adJ]at h;obtain⟨_,h,_⟩:=h;obtain⟨y,hy⟩:=L h;exact⟨.tup y,by simp[ajM,hy]⟩
  |iface t x=>simp only[arG,adJ]at h;obtain⟨_,h,_⟩:=h;obtain⟨y,hy⟩:=aHR f h;exact⟨.iface t y,by simp[ajM,hy]⟩
  |func fn a b=>
   simp only[arG,aeU,adJ]at h
   obtain⟨_,h1,_,h2,_⟩:=h
   obtain⟨y,hy⟩:=L h1
   obtain⟨y2,hy2⟩:=L h2
   exact⟨.func fn y y2,by simp[ajM,hy,hy2]⟩
  |_=>exact⟨_,rfl⟩
theorem aPJ{α β γ:Type}{f:α→Option β}{f':α→Option γ}(H:∀a b,f a=some b→∃c,f' a=some c):∀{l:List α} {r:List β},ad0 f l=some r→∃s,ad0 f' l=some s
 | [],_,_=>⟨[],rfl⟩
 |a::l,r,h=>by
  simp only[ad0,aeU,adJ]at h
  obtain⟨b,hb,c,hc,_⟩:=h
  obtain⟨y,hy⟩:=H a b hb
  obtain⟨ys,hys⟩:=aPJ H hc
  exact⟨y::ys,by simp[ad0,hy,hys]⟩
def Stn(F:Nat→Option Nat)(c':CB)(z:Nat × Bool × List (List AV)):Prop:=
 ∃rows',ae0 c'=some (z.1,z.2.1,rows')∧(z.2.1=true→rows'=z.2.2)∧(z.2.1=false→ad0 (ad0 (arG 8 F)) rows'=some z.2.2)
def Rnm(c:CB):Prop:=∀f,∃c',as5 f c=some c'
theorem spB{g:HF}{S:List Nat}(H:Cl g S){b:Nat}(hb:b∈S)(m:List Nat):∃c c' m' z,g b=some c∧ae0 c=some z∧aD7 m c=some (c',m')∧Gd m m' S∧(∀F,On m' F→Stn F c' z)∧Rnm c':=by
 obtain⟨z,hz,hc⟩:=H b hb
 obtain⟨c,k1,k2⟩:=aeU.1 hz
 have R:∀rows,z.2.1=false→rows=z.2.2→∃l' m',au7 m rows=some (l',m')∧Gd m m' S∧∀F,On m' F→ad0 (ad0 (arG 8 F)) l'=some rows:=fun rows e er=>by
  obtain⟨d,q,a1,a2,a3⟩:=hc e
  obtain⟨l',m',e1,g1,e2⟩:=spR (er▸a2) (fun r _ x _ q hx=>sp a1 hx) m
  exact⟨l',m',e1,⟨g1.pre,g1.nd,fun x hx=>(g1.sub x hx).imp id (a3 x)⟩,e2⟩
 have R2:∀l' rows m',(∀F,On m' F→ad0 (ad0 (arG 8 F)) l'=some rows)→∀f,∃y,ad0 (ad0 (ajM 8 f)) l'=some y:=fun l' rows m' h f=>
  aPJ (fun a b hab=>aPJ (fun a b hab=>aHR f hab) hab) (h (fun i=>m'[i]?) (fun _ _ h=>h))
 cases c with
 |live st fl w rows=>
  simp[ae0]at k2;subst k2
  cases fl with
  |true=>exact⟨_,_,m,_,k1,rfl,rfl,Gd.refl _ _,fun F _=>⟨rows,rfl,fun _=>rfl,fun e=>by cases e⟩,fun f=>⟨_,rfl⟩⟩
  |false=>
   obtain⟨l',m',e1,g1,e2⟩:=R rows rfl rfl
   refine⟨_,.live st false w l',m',_,k1,rfl,by simp[aD7,e1],g1,fun F hF=>⟨l',rfl,fun e=>(by cases e),fun _=>e2 F hF⟩,fun f=>?_⟩
   obtain⟨y,hy⟩:=R2 l' rows m' e2 f
   exact⟨.live st false w y,by simp[as5,hy]⟩
 |frz st fl rows=>
  simp[ae0]at k2;subst k2
  cases fl with
  |true=>exact⟨_,_,m,_,k1,rfl,rfl,Gd.refl _ _,fun F _=>⟨rows,rfl,fun _=>rfl,fun e=>by cases e⟩,fun f=>⟨_,rfl⟩⟩
  |false=>
   obtain⟨l',m',e1,g1,e2⟩:=R rows rfl rfl
   refine⟨_,.frz st false l',m',_,k1,rfl,by simp[aD7,e1],g1,fun F hF=>⟨l',rfl,fun e=>(by cases e),fun _=>e2 F hF⟩,fun f=>?_⟩
   obtain⟨y,hy⟩:=R2 l' rows m' e2 f
   exact⟨.frz st false y,by simp[as5,hy]⟩
 |dead=>simp[ae0]at k2
 |lp=>simp[ae0]at k2
theorem a1N{S:List Nat}:∀{m:List Nat},m.Nodup→(∀b∈m,b∈S)→m.length≤S.length:=by
 induction S with
 |nil=>intro m _ h;cases m with
  |nil=>simp
  |cons a m=>exact absurd (h a (am1 ..)) (by simp)
 |cons s S ih=>
  intro m hn h
  have h2:=ih (m:=m.erase s) (hn.erase s) (fun b hb=>by
   have hb':=List.mem_of_mem_erase hb
   rcases ajS.1 (h b hb')with rfl|h'
   ·exact absurd hb (hn.not_mem_erase)
   ·exact h')
  have h3:m.length≤(m.erase s).length+1:=by
   by_cases hs:s∈m
   ·rw[List.length_erase_of_mem hs];omega
   ·rw[List.erase_of_not_mem hs];omega
  simp;omega
theorem spC{g:HF}{S:List Nat}(H:Cl g S):∀(n i:Nat) (m:List Nat),m.Nodup→(∀b∈m,b∈S)→S.length<n+i→i≤m.length→
 ∃cs m',avJ n g i m=some (cs,m')∧m <+:m'∧m'.Nodup∧(∀b∈m',b∈S)∧i+cs.length=m'.length∧(∀c∈cs,Rnm c)∧
  ∀F,On m' F→∀j c',cs[j]?=some c'→∃b z,m'[i+j]?=some b∧(g b).bind ae0=some z∧Stn F c' z
 |0,i,m,hn,hs,hl,hi=>by have:=a1N hn hs;omega
 |n+1,i,m,hn,hs,hl,hi=>by
  unfold avJ
  cases hm:m[i]? with
  |none=>
   have:m.length≤i:=List.getElem?_eq_none_iff.1 hm
   exact⟨[],m,rfl,aGB _,hn,hs,by simp;omega,(fun c hc=>by cases hc),fun F _ j c' hj=>by simp at hj⟩
  |some b=>
   have hlt:=(ajP.1 hm).1
   obtain⟨c,c',m1,z,k1,k2,k3,g1,k4,k5⟩:=spB H (hs b (aIC hm)) m
   obtain⟨cs,m',e1,p1,p2,p3,p4,p5,p6⟩:=spC H n (i+1) m1 (g1.nd hn) (fun b hb=>(g1.sub b hb).elim (hs b) id) (by omega) (by have:=g1.pre.length_le;omega)
   refine⟨c'::cs,m',by simp[k1,k3,e1],g1.pre.trans p1,p2,p3,by simp;omega,fun x hx=>?_,fun F hF j x hj=>?_⟩
   ·rcases ajS.1 hx with rfl|hx
    ·exact k5
    ·exact p5 x hx
   ·cases j with
    |zero=>
     simp at hj;subst hj
     exact⟨b,z,axQ (g1.pre.trans p1) (by simpa using hm),by rw[k1];exact k2,k4 F (hF.mono p1)⟩
    |succ j=>
     simp at hj
     obtain⟨b',z',a1,a2,a3⟩:=p6 F hF j x hj
     exact⟨b',z',by rw[←a1];congr 1;omega,a2,a3⟩
theorem a31{h:aaL}{v:AV}{R:List Nat}(hs:Sp 8 v R)(hc:Cl (hf h) R)(hR:R.length<5000):
 ∃v' cs F,ayF 0 v h=some (v',cs)∧baR F (hf cs) (hf h)∧arG 8 F v'=some v∧∀c∈cs,Rnm c:=by
 obtain⟨v',m,e1,g1,k1⟩:=hs []
 have hm:∀b∈m,b∈R:=fun b hb=>(g1.sub b hb).elim (fun h=>by cases h) id
 obtain⟨cs,m',e2,p1,p2,p3,p4,p5,p6⟩:=spC hc 5000 0 m (g1.nd List.nodup_nil) hm (by omega) (Nat.zero_le _)
 refine⟨v',cs,fun i=>m'[i]?,by simp[ayF,avS,ai3.refL,e1,e2,aF7],fun i b hi z hz=>?_,k1 _ (fun _ _ h=>axQ p1 h),p5⟩
 have hlt:=(ajP.1 hi).1
 obtain⟨b',z',a1,a2,rows',a3,a4,a5⟩:=p6 (fun i=>m'[i]?) (fun _ _ h=>h) i _ (anU (by omega))
 rw[Nat.zero_add]at a1
 have hbb:b=b':=by have hi':m'[i]?=some b:=hi;rw[hi']at a1;cases a1;rfl
 subst hbb
 rw[hz]at a2;cases a2
 exact⟨rows',by show(cs[i]?).bind ae0=_;rw[anU (by omega)];exact a3,a4,a5⟩
end
end Go.Ev
namespace Go.Ev
open Go.RowKit
theorem az8{f:Nat→Nat}{F:Nat→Option Nat}(hF:∀b,F (f b)=some b):∀{e:Nat} {x x1:AV},ajM e f x=some x1→arG e F x1=some x
 |0,x,x1,h=>by simp[ajM]at h
 |e+1,x,x1,h=>by
  have L:∀{l l1:List AV},ad0 (ajM e f) l=some l1→ad0 (arG e F) l1=some l:=fun {l}=>by
   induction l with
   |nil=>intro l1 h;simp[ad0]at h;subst h;rfl
   |cons a l ih=>
    intro l1 h
    simp only[ad0,aeU,adJ]at h
    obtain⟨b,hb,c,hc,rfl⟩:=h
    simp[ad0,az8 hF hb,ih hc]
  cases x with
  |agg cs=>simp only[ajM,adJ]at h;obtain⟨_,h,rfl⟩:=h;simp[arG,L h]
  |tup cs=>simp only[ajM,adJ]at h;obtain⟨_,h,rfl⟩:=h;simp[arG,L h]
  |iface t x=>simp only[ajM,adJ]at h;obtain⟨_,h,rfl⟩:=h;simp[arG,az8 hF h]
  |func fn a b=>
   simp only[ajM,aeU,adJ]at h
   obtain⟨_,h1,_,h2,rfl⟩:=h
   simp[arG,L h1,L h2]
  |_=>simp only[ajM,awM.injEq]at h;subst h;simp[arG,hF]
theorem aAD{α β:Type}{f:α→Option β}{f':β→Option α}(H:∀a b,f a=some b→f' b=some a):∀{l:List α} {r:List β},ad0 f l=some r→ad0 f' r=some l
 | [],r,h=>by simp[ad0]at h;subst h;rfl
 |a::l,r,h=>by
  simp only[ad0,aeU,adJ]at h
  obtain⟨b,hb,c,hc,rfl⟩:=h
  simp[ad0,H a b hb,aAD H hc]
theorem aSY{f:Nat→Nat}:∀{cs:List CB} (_:∀c∈cs,Rnm c) (base:Nat),∃ns cs1,au4 f base cs=some ns∧(∀G,agN G ns=G++cs1)∧ad0 (as5 f) cs=some cs1
 | [],_,base=>⟨[],[],rfl,fun G=>by simp[agN],rfl⟩
 |c::cs,h,base=>by
  obtain⟨c1,e1⟩:=h c (am1 ..) f
  obtain⟨ns,cs1,e2,e3,e4⟩:=aSY (f:=f) (cs:=cs) (fun c hc=>h c (akQ _ hc)) (base+1)
  exact⟨.new base c1::ns,c1::cs1,by simp[au4,e1,e2],fun G=>by simp[agN,axE,e3],by simp[ad0,e1,e4]⟩
theorem a4N{f:Nat→Nat}{F:Nat→Option Nat}(hF:∀b,F (f b)=some b){c c1:CB}(h:as5 f c=some c1){z:Nat × Bool × List (List AV)}(hz:ae0 c=some z):Stn F c1 z:=by
 cases c with
 |live st fl w rows=>
  simp[ae0]at hz;subst hz
  cases fl with
  |true=>simp[as5]at h;subst h;exact⟨rows,rfl,fun _=>rfl,fun e=>by cases e⟩
  |false=>
   simp only[as5,adJ]at h
   obtain⟨r,hr,rfl⟩:=h
   exact⟨r,rfl,fun e=>(by cases e),fun _=>aAD (fun a b hab=>aAD (fun a b hab=>az8 hF hab) hab) hr⟩
 |frz st fl rows=>
  simp[ae0]at hz;subst hz
  cases fl with
  |true=>simp[as5]at h;subst h;exact⟨rows,rfl,fun _=>rfl,fun e=>by cases e⟩
  |false=>
   simp only[as5,adJ]at h
   obtain⟨r,hr,rfl⟩:=h
   exact⟨r,rfl,fun e=>(by cases e),fun _=>aAD (fun a b hab=>aAD (fun a b hab=>az8 hF hab) hab) hr⟩
 |dead=>simp[ae0]at hz
 |lp=>simp[ae0]at hz
structure Kp(lent:List Nat)(H H1:aaL):Prop where
 len:H.length≤H1.length
 rows:∀b,b<H.length→(hf H1 b).bind ae0=(hf H b).bind ae0
 same:∀b,b<H.length→b∉lent→H1[b]?=H[b]?
theorem aPU{H:aaL}:∀(l:List Nat) (G:aaL),G.length=H.length→(∀b,(hf G b).bind ae0=(hf H b).bind ae0)→
 (agN G (ajV (hf H) l)).length=H.length∧(∀b,(hf (agN G (ajV (hf H) l)) b).bind ae0=(hf H b).bind ae0)∧∀b,b∉l→(agN G (ajV (hf H) l))[b]?=G[b]?
 | [],G,h1,h2=>⟨h1,h2,fun _ _=>rfl⟩
 |a::l,G,h1,h2=>by
  unfold ajV
  have other:∀b,b∉a::l→b∉l:=fun b hb h=>hb (akQ _ h)
  split
  ·rename_i st fl w rows ha
   have hlt:a<G.length:=by rw[h1];exact(ajP.1 ha).1
   obtain⟨k1,k2,k3⟩:=aPU (H:=H) l (G.set a (.frz st fl rows)) (by simp[h1]) (fun b=>by
    by_cases hb:a=b
    ·subst hb
     show((G.set a _)[a]?).bind ae0=_
     rw[ayR hlt,ha];rfl
    ·show((G.set a _)[b]?).bind ae0=_
     rw[arO hb];exact h2 b)
   refine⟨k1,k2,fun b hb=>?_⟩
   show(agN (G.set a _) _)[b]?=_
   rw[k3 b (other b hb),arO (fun e=>hb (by rw[←e];exact am1 ..))]
  ·obtain⟨k1,k2,k3⟩:=aPU l G h1 h2
   exact⟨k1,k2,fun b hb=>k3 b (other b hb)⟩
theorem aWI{O:Orc}{H:aaL}{f:Nat}{args vs:List AV}{v:AV}{h':aaL}(hh:pkd O f args)(ha:ad0 (rdV H) args=some vs)(hp:vs.all (ad2 8)=true)
 (hc:O.call (.fn f) vs []=some (.ret v,h')) (h1:∀f,∃y,ajM 8 f v=some y) (h2:∀c∈h',Rnm c):
 ∃v1 es H1 F,cl O H (some (.func (.func f) [] [])) (some args)=some (.ret v1,es)∧agN H es=H1∧baR F (hf H1) (hf h')∧arG 8 F v1=some v∧Kp (args.flatMap (ad7 12 (hf H))) H H1∧∀i b,F i=some b→H.length≤i:=by
 obtain⟨v1,e1⟩:=h1 (fun i=>H.length+i)
 obtain⟨ns,cs1,e2,e3,e4⟩:=aSY (f:=fun i=>H.length+i) h2 H.length
 generalize hFF:(fun i=>if H.length≤i then some (i-H.length)else none:Nat→Option Nat)=F
 have hF:∀b,F (H.length+b)=some b:=fun b=>by rw[←hFF];simp
 have key:∃fz:List abJ,cl O H (some (.func (.func f) [] [])) (some args)=some (.ret v1,fz++ns)∧(fz=[]∨fz=ajV (hf H) (args.flatMap (ad7 12 (hf H)))):=by
  rw[a2W hh,a4L ha hp,hc]
  refine⟨_,by simp only[crR,aiZ,Out.v,e1,e2,as6,Out.map];rfl,?_⟩
  split
  ·exact .inl rfl
  ·exact .inr rfl
 obtain⟨fz,ec,hfz⟩:=key
 have hK:(agN H fz).length=H.length∧(∀b,(hf (agN H fz) b).bind ae0=(hf H b).bind ae0)∧∀b,b∉args.flatMap (ad7 12 (hf H))→(agN H fz)[b]?=H[b]?:=by
  rcases hfz with rfl|rfl
  ·exact⟨rfl,fun _=>rfl,fun _ _=>rfl⟩
  ·exact aPU _ H rfl (fun _=>rfl)
 obtain⟨k1,k2,k3⟩:=hK
 have hap:agN H (fz++ns)=agN H fz++cs1:=by rw[aC2,e3]
 refine⟨v1,_,_,F,ec,hap,fun i b hi z hz=>?_,az8 hF e1,⟨by simp[k1],fun b hb=>?_,fun b hb hl=>?_⟩,fun i b hi=>?_⟩
 ·rw[←hFF]at hi;simp only at hi
  split at hi
  ·rename_i hle
   simp only[awM.injEq]at hi
   obtain⟨c,hcc,hcz⟩:=aeU.1 hz
   obtain⟨c1,g1,g2⟩:=ayZ e4 (show h'[b]?=some c from hcc)
   obtain⟨rows',r1,r2,r3⟩:=a4N hF g2 hcz
   refine⟨rows',?_,r2,r3⟩
   show((agN H fz++cs1)[i]?).bind ae0=_
   rw[ayY (by omega),k1,hi,g1]
   exact r1
  ·cases hi
 ·rw[←k2 b]
  show((agN H fz++cs1)[b]?).bind ae0=_
  rw[arP (by omega)];rfl
 ·rw[arP (by omega)];exact k3 b hl
 ·rw[←hFF]at hi;simp only at hi
  split at hi
  ·assumption
  ·cases hi
end Go.Ev
namespace Go.Ev
noncomputable section
open Go.RowKit
theorem aI1{g:HF}(f:Nat→Nat):∀{d e:Nat} {v:AV} {p:AV × List Nat},d≤e→rd d g v=some p→∃y,ajM e f v=some y
 |0,e,v,p,_,h=>by simp[rd]at h
 |d+1,0,v,p,he,h=>by omega
 |d+1,e+1,v,p,he,h=>by
  have L:∀{l:List AV} {q:List AV × List Nat},rdL (rd d g) l=some q→∃y,ad0 (ajM e f) l=some y:=fun {l}=>by
   induction l with
   |nil=>exact fun _=>⟨[],rfl⟩
   |cons a l ih=>
    intro q h
    simp only[rdL,aeU,adJ]at h
    obtain⟨b,hb,c,hc,_⟩:=h
    obtain⟨y,hy⟩:=aI1 f (show d≤e by omega) hb
    obtain⟨ys,hys⟩:=ih hc
    exact⟨y::ys,by simp[ad0,hy,hys]⟩
  cases v with
  |agg cs=>simp only[rd,adJ]at h;obtain⟨_,h,_⟩:=h;obtain⟨y,hy⟩:=L h;exact⟨.agg y,by simp[ajM,hy]⟩
  |iface t x=>simp only[rd,adJ]at h;obtain⟨_,h,_⟩:=h;obtain⟨y,hy⟩:=aI1 f (show d≤e by omega) h;exact⟨.iface t y,by simp[ajM,hy]⟩
  |func fn a b=>
   cases a<;>cases b<;>first|exact⟨_,rfl⟩|(simp[rd]at h)
  |tup cs=>simp[rd]at h
  |_=>exact⟨_,rfl⟩
theorem aSC{g:HF}(f:Nat→Nat){d e:Nat}(hd:d≤e):∀{l:List AV} {q:List AV × List Nat},rdL (rd d g) l=some q→∃y,ad0 (ajM e f) l=some y
 | [],q,_=>⟨[],rfl⟩
 |a::l,q,h=>by
  simp only[rdL,aeU,adJ]at h
  obtain⟨b,hb,c,hc,_⟩:=h
  obtain⟨y,hy⟩:=aI1 f hd hb
  obtain⟨ys,hys⟩:=aSC f hd hc
  exact⟨y::ys,by simp[ad0,hy,hys]⟩
theorem aO5{g:HF}:∀{d e:Nat} {v:AV} {p:AV × List Nat},d≤e→rd d g v=some p→atA e g v=some p.1
 |0,e,v,p,_,h=>by simp[rd]at h
 |d+1,0,v,p,he,h=>by omega
 |d+1,e+1,v,p,he,h=>by
  cases v with
  |slr st b r len=>exact aJI (aV0 he h)
  |agg cs=>
   simp only[rd,adJ]at h
   obtain⟨q,hq,rfl⟩:=h
   simp[atA,aET (f':=atA e g) hq (fun x _ q' hx=>aO5 (show d≤e by omega) hx)]
  |iface t x=>
   simp only[rd,adJ]at h
   obtain⟨q,hq,rfl⟩:=h
   simp[atA,aO5 (show d≤e by omega) hq]
  |func fn a b=>cases a<;>cases b<;>first|(simp[rd]at h;subst h;rfl)|(simp[rd]at h)
  |_=>first|(simp[rd]at h;subst h;rfl)|(simp[rd]at h)
theorem a26{e:Nat}{f:Nat→Nat}{cs y:List AV}(h:ad0 (ajM e f) cs=some y):ajM (e+1) f (.tup cs)=some (.tup y):=by simp[ajM,h]
theorem aRV{e:Nat}{F:Nat→Option Nat}{v:AV}{outs:List AV}(h:arG (e+1) F v=some (.tup outs)):∃o,v=.tup o∧ad0 (arG e F) o=some outs:=by
 cases v with
 |tup cs=>simp[arG]at h;exact⟨_,rfl,h⟩
 |func fn a b=>simp only[arG,aeU,adJ]at h;obtain⟨_,_,_,_,h⟩:=h;cases h
 |_=>simp[arG]at h
theorem bbI{e:Nat}{vs:List AV}{R:List Nat}(h:SpL e vs R):Sp (e+1) (.tup vs) R:=fun m=>by
 obtain⟨l',m',a1,a2,a3⟩:=h m
 exact⟨.tup l',m',by simp[ai3,a1],a2,fun F hF=>by simp[arG,a3 F hF]⟩
def RdT(O:Orc)(f:Nat)(vs xs:List AV)(k:Nat):Prop:=
 ∃outs h' R,O.call (.fn f) vs []=some (.ret (.tup outs),h')∧rdL (rd 6 (hf h')) outs=some (xs,R)∧R.length≤k∧∀c∈h',Rnm c
def RdV(O:Orc)(f:Nat)(vs:List AV)(x:AV)(k:Nat):Prop:=
 ∃v h' R,O.call (.fn f) vs []=some (.ret v,h')∧rd 6 (hf h') v=some (x,R)∧R.length≤k∧∀c∈h',Rnm c
theorem RdT.cl{O:Orc}{f:Nat}{vs xs:List AV}{k:Nat}(K:RdT O f vs xs k){H:aaL}{args:List AV}(hh:pkd O f args)(ha:ad0 (rdV H) args=some vs)(hp:vs.all (ad2 8)=true):
 ∃outs es H1 R,cl O H (some (.func (.func f) [] [])) (some args)=some (.ret (.tup outs),es)∧agN H es=H1∧Kp (args.flatMap (ad7 12 (hf H))) H H1∧rdL (rd 6 (hf H1)) outs=some (xs,R)∧R.length≤k∧∀b∈R,H.length≤b:=by
 obtain⟨outs,h',R,hc,hr,hk,hn⟩:=K
 obtain⟨v1,es,H1,F,e1,e2,e3,e4,e5,e6⟩:=aWI hh ha hp hc (fun f=>by obtain⟨y,hy⟩:=aSC f (show 6≤7 by omega) hr;exact⟨.tup y,a26 hy⟩) hn
 obtain⟨o1,rfl,ho⟩:=aRV e4
 obtain⟨R',k1,k2,k3⟩:=aF0 (f':=rd 6 (hf H1)) (Z:=fun i=>∃b,F i=some b) ho hr (fun x' x q a b=>aLI e3 a b)
 exact⟨o1,es,H1,R',e1,e2,e5,k1,by rw[k2];exact hk,fun b hb=>by obtain⟨c,hc⟩:=k3 b hb;exact e6 b c hc⟩
theorem RdV.cl{O:Orc}{f:Nat}{vs:List AV}{x:AV}{k:Nat}(K:RdV O f vs x k){H:aaL}{args:List AV}(hh:pkd O f args)(ha:ad0 (rdV H) args=some vs)(hp:vs.all (ad2 8)=true):
 ∃v es H1 R,cl O H (some (.func (.func f) [] [])) (some args)=some (.ret v,es)∧agN H es=H1∧Kp (args.flatMap (ad7 12 (hf H))) H H1∧rd 6 (hf H1) v=some (x,R)∧R.length≤k∧∀b∈R,H.length≤b:=by
 obtain⟨v,h',R,hc,hr,hk,hn⟩:=K
 obtain⟨v1,es,H1,F,e1,e2,e3,e4,e5,e6⟩:=aWI hh ha hp hc (fun f=>aI1 f (show 6≤8 by omega) hr) hn
 obtain⟨R',k1,k2,k3⟩:=aLI e3 e4 hr
 exact⟨v1,es,H1,R',e1,e2,e5,k1,by rw[k2];exact hk,fun b hb=>by obtain⟨c,hc⟩:=k3 b hb;exact e6 b c hc⟩
theorem awD{O:Orc}{H:aaL}{f:Nat}{args vs:List AV}{v:AV}(hh:pkd O f args)(ha:ad0 (rdV H) args=some vs)(hp:vs.all (ad2 8)=true)(hc:O.call (.fn f) vs []=some (.ret v,[]))(h1:ad2 8 v=true)(h2:hasImm 8 v=false):
 cl O H (some (.func (.func f) [] [])) (some args)=some (.ret v,[]):=by
 rw[a2W hh,a4L ha hp,hc,aNS,if_pos ⟨h1,h2⟩]
theorem aWJ{h:aaL}{vs xs:List AV}{R:List Nat}{Q:Out→aaL→Prop}(h1:rdL (rd 6 (hf h)) vs=some (xs,R))(hR:R.length<5000)(h2:ayP vs=.tup vs)
 (q:∀outs h' R',rdL (rd 6 (hf h')) outs=some (xs,R')→R'.length=R.length→(∀c∈h',Rnm c)→Q (.ret (.tup outs)) h'):Rt 0 (some vs) h Q:=by
 obtain⟨v',cs,F,e1,e2,e3,e4⟩:=a31 (v:=.tup vs) (bbI (spL (e:=7) h1 (fun x _ q hx=>sp (by omega) hx))) (clL h1 (fun x _ q hx=>aWS (by omega) hx)) hR
 obtain⟨o1,rfl,ho⟩:=aRV e3
 obtain⟨R',k1,k2,_⟩:=aF0 (f':=rd 6 (hf cs)) (Z:=fun i=>∃b,F i=some b) ho h1 (fun x' x q a b=>aLI e2 a b)
 exact⟨_,_,by simp[aZJ,h2,e1],q _ _ _ k1 k2 e4⟩
theorem aRW{h:aaL}{v x:AV}{R:List Nat}{Q:Out→aaL→Prop}(h1:rd 6 (hf h) v=some (x,R))(hR:R.length<5000)
 (q:∀v' h' R',rd 6 (hf h') v'=some (x,R')→R'.length=R.length→(∀c∈h',Rnm c)→Q (.ret v') h'):Rt 0 (some [v]) h Q:=by
 obtain⟨v',cs,F,e1,e2,e3,e4⟩:=a31 (sp (e:=8) (by omega) h1) (aWS (by omega) h1) hR
 obtain⟨R',k1,k2,_⟩:=aLI e2 e3 h1
 exact⟨_,_,by simp[aZJ,ayP,e1],q _ _ _ k1 k2 e4⟩
theorem hid{C:R→Prop}[n:NoN C]{r:R}(h:∀K:R→Prop,NoN K→(∀x,C x→K x)→K r):C r:=h C n fun _ h=>h
theorem aV3{H:aaL}{b:Nat}{z:Nat × Bool × List (List AV)}(h:(hf H b).bind ae0=some z):b<H.length:=by
 obtain⟨c,hc,_⟩:=aeU.1 h
 exact(ajP.1 hc).1
theorem bg5{l:List Nat}{H H1:aaL}(K:Kp l H H1){d:Nat}{v:AV}{p:AV × List Nat}(hd:d≤9)(h:rd d (hf H) v=some p):rd d (hf H1) v=some p:=
 aKC h fun b hb z hz=>by rw[K.rows b (aV3 hz)];exact hz
theorem ay1{g g':HF}{d:Nat}{l:List (List AV)}{p:List (List AV) × List Nat}(h:ah6 (rd d g) l=some p)(ha:Agr p.2 g g'):ah6 (rd d g') l=some p:=
 azK h fun _ _ _ _ _ hq hs=>aKC hq fun b hb=>ha b (hs b hb)
theorem aAG{H:aaL}{d:Nat}{l:List (List AV)}{p:List (List AV) × List Nat}(hd:d≤9)(h:ah6 (rd d (hf H)) l=some p):∀b∈p.2,b<H.length:=fun b hb=>by
 obtain⟨z,hz,_⟩:=clR h (fun r _ x _ q hx=>aWS hd hx) b hb
 exact aV3 hz
theorem aJM{f:AV→Option (AV × List Nat)}:∀{l:List (List AV)} {p:List (List AV) × List Nat},ah6 f l=some p→l.length=p.1.length
 | [],p,h=>by simp[ah6]at h;subst h;rfl
 |a::l,p,h=>by
  simp only[ah6,aeU,adJ]at h
  obtain⟨q,hq,r,hr,rfl⟩:=h
  simp[aJM hr]
theorem aBK{f:AV→Option (AV × List Nat)}:∀{l:List (List AV)} {p:List (List AV) × List Nat} {i:Nat} {X:List AV},ah6 f l=some p→p.1[i]?=some X→∃r R,l[i]?=some r∧rdL f r=some (X,R)
 | [],p,i,X,h,hx=>by simp[ah6]at h;subst h;simp at hx
 |a::l,p,i,X,h,hx=>by
  simp only[ah6,aeU,adJ]at h
  obtain⟨q,hq,r,hr,rfl⟩:=h
  cases i with
  |zero=>simp at hx;subst hx;exact⟨a,q.2,rfl,hq⟩
  |succ i=>simp at hx;obtain⟨r',R',k1,k2⟩:=aBK hr hx;exact⟨r',R',by simpa using k1,k2⟩
theorem aWT{f:AV→Option (AV × List Nat)}:∀{l:List AV} {p:List AV × List Nat},rdL f l=some p→l.length=p.1.length
 | [],p,h=>by simp[rdL]at h;subst h;rfl
 |a::l,p,h=>by
  simp only[rdL,aeU,adJ]at h
  obtain⟨q,hq,r,hr,rfl⟩:=h
  simp[aWT hr]
theorem av7{f:AV→Option (AV × List Nat)}{l xs:List AV}{x:AV}{R:List Nat}(h:rdL f l=some (x::xs,R)):∃a l' R1 R2,l=a::l'∧f a=some (x,R1)∧rdL f l'=some (xs,R2)∧R=R1++R2:=by
 cases l with
 |nil=>simp[rdL]at h
 |cons a l=>
  simp only[rdL,aeU,adJ]at h
  obtain⟨q,hq,r,hr,he⟩:=h
  simp only[Prod.mk.injEq,List.cons.injEq]at he
  obtain⟨⟨rfl,rfl⟩,rfl⟩:=he
  exact⟨a,l,q.2,r.2,rfl,hq,hr,rfl⟩
theorem aER{f:AV→Option (AV × List Nat)}{l:List AV}{R:List Nat}(h:rdL f l=some ([],R)):l=[]∧R=[]:=by
 cases l with
 |nil=>simp[rdL]at h;exact⟨rfl,h⟩
 |cons a l=>have:=aWT h;simp at this
theorem aLB{g:HF}{d:Nat}{v:AV}{k:IntKind}{n:Int}{R:List Nat}(h:rd (d+1) g v=some (.int k n,R)):v=.int k n∧R=[]:=by
 cases v with
 |slr st b r len=>
  simp only[rd,aeU]at h
  obtain⟨z,_,h⟩:=h
  split at h
  ·cases hfl:z.2.1<;>rw[hfl]at h<;>simp at h
  ·cases h
 |func fn a b=>cases a<;>cases b<;>simp[rd]at h
 |int k' n'=>simp[rd]at h;exact⟨by simp[h],h.2⟩
 |agg cs=>simp[rd]at h
 |iface t x=>simp[rd]at h
 |_=>simp[rd]at h
theorem aAC{g:HF}{d st:Nat}{fl nn:Bool}{v:AV}{rows:List (List AV)}{R:List Nat}(h:rd (d+1) g v=some (slv st fl nn rows,R)):
 (v=.nils∧rows=[])∨∃b rows',v=.slr st b 0 rows.length∧(g b).bind ae0=some (st,fl,rows')∧rows'.length=rows.length∧(fl=true→rows'=rows)∧(fl=false→∃R',ah6 (rd d g) rows'=some (rows,R')):=by
 have hs:(slv st fl nn rows=.nils∧rows=[])∨slv st fl nn rows=.imm st fl rows:=by
  cases rows with
  |nil=>cases nn with
   |true=>exact .inr rfl
   |false=>exact .inl ⟨rfl,rfl⟩
  |cons=>exact .inr rfl
 generalize slv st fl nn rows=X at h hs
 cases v with
 |nils=>simp[rd]at h;obtain⟨rfl,_⟩:=h;rcases hs with⟨_,hs⟩|hs
        ·exact .inl ⟨rfl,hs⟩
        ·cases hs
 |slr st' b r len=>
  simp only[rd,aeU]at h
  obtain⟨z,hz,h⟩:=h
  split at h
  ·rename_i hq
   obtain⟨q1,rfl,q3⟩:=hq
   obtain⟨z1,z2,z3⟩:=z
   simp only at q1 q3 h
   subst q1
   cases z2 with
   |true=>
    simp at h
    obtain⟨rfl,_⟩:=h
    rcases hs with⟨hs,_⟩|hs
    ·cases hs
    ·cases hs
     exact .inr ⟨b,_,by rw[q3],aeU.2 hz,rfl,fun _=>rfl,fun e=>by cases e⟩
   |false=>
    simp only[cond_false,adJ]at h
    obtain⟨q,hq,he⟩:=h
    simp only[Prod.mk.injEq]at he
    obtain⟨rfl,_⟩:=he
    rcases hs with⟨hs,_⟩|hs
    ·cases hs
    ·cases hs
     have hl:z3.length=q.1.length:=aJM hq
     exact .inr ⟨b,z3,by rw[q3,hl],aeU.2 hz,hl,fun e=>(by cases e),fun _=>⟨q.2,hq⟩⟩
  ·cases h
 |func fn a b=>cases a<;>cases b<;>simp[rd]at h<;>(obtain⟨rfl,_⟩:=h;rcases hs with⟨hs,_⟩|hs<;>cases hs)
 |agg cs=>simp only[rd,adJ]at h;obtain⟨_,_,h⟩:=h;simp only[Prod.mk.injEq]at h;obtain⟨rfl,_⟩:=h;rcases hs with⟨hs,_⟩|hs<;>cases hs
 |iface t x=>simp only[rd,adJ]at h;obtain⟨_,_,h⟩:=h;simp only[Prod.mk.injEq]at h;obtain⟨rfl,_⟩:=h;rcases hs with⟨hs,_⟩|hs<;>cases hs
 |ptr b r o=>simp[rd]at h
 |yl b=>simp[rd]at h
 |mapr b=>simp[rd]at h
 |itr b=>simp[rd]at h
 |tup cs=>simp[rd]at h
 |imm=>simp[rd]at h
 |iptr=>simp[rd]at h
 |_=>simp[rd]at h;obtain⟨rfl,_⟩:=h;rcases hs with⟨hs,_⟩|hs<;>cases hs
theorem aVI{H:aaL}{b st:Nat}{fl:Bool}{rows:List (List AV)}(h:(hf H b).bind ae0=some (st,fl,rows))(i:Nat):awH (H[b]?) i=rows[i]?:=by
 obtain⟨c,hc,hz⟩:=aeU.1 h
 rw[show H[b]?=some c from hc]
 cases c<;>simp[ae0]at hz<;>(obtain⟨_,_,rfl⟩:=hz;rfl)
theorem aV2{g:HF}{d:Nat}(k:IntKind)(n:Int):rd (d+1) g (.int k n)=some (.int k n,[]):=rfl
theorem a9J{g:HF}{d st b n:Nat}{rows:List (List AV)}(h:(g b).bind ae0=some (st,true,rows))(hn:n=rows.length):rd (d+1) g (.slr st b 0 n)=some (.imm st true rows,[b]):=by
 subst hn;simp[rd,h]
theorem a9O{g:HF}{d:Nat}{cs xs:List AV}{R:List Nat}(h:rdL (rd d g) cs=some (xs,R)):rd (d+1) g (.agg cs)=some (.agg xs,R):=by simp[rd,h]
theorem aU5{f:AV→Option (AV × List Nat)}:rdL f []=some ([],[]):=rfl
theorem aC0{f:AV→Option (AV × List Nat)}{a x:AV}{l xs:List AV}{R1 R2:List Nat}(h1:f a=some (x,R1))(h2:rdL f l=some (xs,R2)):rdL f (a::l)=some (x::xs,R1++R2):=by simp[rdL,h1,h2]
theorem aO1{n:Nat}{rows:List (List AV)}{v:AV}{H:aaL}(ho:aAA 0 n true rows v H):∃nn R,∀d,rd (d+1) (hf H) v=some (slv n true nn rows,R)∧R.length≤1:=by
 rcases ho with⟨rfl,rfl⟩|⟨b,w,rfl,hb⟩
 ·exact⟨false,[],fun d=>⟨rfl,by simp⟩⟩
 ·have hb':(hf H (b+0)).bind ae0=some (n,true,rows):=by show(H[b]?).bind ae0=_;rw[hb];rfl
  refine⟨true,[b+0],fun d=>⟨?_,by simp⟩⟩
  simp only[rd,hb',aiZ,if_true,and_self,cond_true]
  cases rows<;>rfl
theorem aPW{x:Option (List AV)}{vs:List AV}{h:aaL}{Q:Out→aaL→Prop}(hx:x=some vs)(k:Rt 0 (some vs) h Q):Rt 0 x h Q:=hx▸k
theorem aC3{f:AV→Option (AV × List Nat)}:∀{l:List (List AV)} {p:List (List AV) × List Nat} {r:List AV} {q:List AV × List Nat},ah6 f l=some p→rdL f r=some q→ah6 f (l++[r])=some (p.1++[q.1],p.2++q.2)
 | [],p,r,q,h,hr=>by simp[ah6]at h;subst h;simp[ah6,hr]
 |a::l,p,r,q,h,hr=>by
  simp only[ah6,aeU,adJ]at h
  obtain⟨q1,hq1,r1,hr1,rfl⟩:=h
  simp[ah6,hq1,aC3 hr1 hr]
end
noncomputable section
open Go.RowKit
section
variable {P:Program} {O:Orc}
def slx(P:Program)(ty:TypeId)(a:Option AV)(l h:Option (Option AV)):OE:=r1 (a.bind fun a=>l.bind fun l=>h.bind fun h=>aBH P ty a l h)
theorem a27(t:List AV)(h:aaL)(ty:TypeId)(x:Operand)(lo hi:Option Operand):amG O P t h (.slice ty x lo hi none)=slx P ty (abO t x) (aG5 t lo) (aG5 t hi):=by
 rw[ai1 _ _ _ rfl]
 simp only[exec,slx]
 cases abO t x with
 |none=>rfl
 |some a=>
  cases aG5 t lo with
  |none=>rfl
  |some l=>
   cases aG5 t hi with
   |none=>rfl
   |some h=>exact asY _
def oS(x:Option AV):Option (Option AV):=x.map some
theorem a8Y(v:AV):oS (some v)=some (some v):=adE rfl rfl
theorem aXJ(t:List AV):aG5 t none=some none:=adE rfl rfl
theorem aXY(t:List AV)(x:Operand):aG5 t (some x)=oS (abO t x):=adE rfl rfl
theorem a9Z{ty:TypeId}{n:Nat}(hs:SlT P ty n)(fl:Bool)(rows:List (List AV))(i:Nat)(hi:i≤rows.length):slx P ty (some (.imm n fl rows)) (some none) (some (some (.int .i64 i)))=some (.ret (.imm n fl (rows.take i)),[]):=by
 obtain⟨e,h1,h2⟩:=hs
 simp only[slx,aiZ,aBH,h1,h2,asX]
 simp[hi,r1]
end
end
noncomputable section
set_option maxRecDepth 100000
section
variable {P:Program} {G:Nat→Option Obj}
end
section
variable {P:Program}
theorem a18{ty:TypeId}{n:Nat}(hs:SlT P ty n)(fl nn:Bool){rows:List (List AV)}{i:Nat}(hi:i<rows.length):slx P ty (some (slv n fl nn rows)) (some none) (some (some (.int .i64 i)))=some (.ret (.imm n fl (rows.take i)),[]):=by
 cases rows with
 |nil=>simp at hi
 |cons r rs=>rw[a0Z];exact a9Z hs fl _ i (by omega)
end
def lsE(e:AV→AV→Bool):List AV→List AV→Bool
 | [],[]=>true
 |a::l,b::r=>e a b&&lsE e l r
 |_,_=>false
def rsE(e:AV→AV→Bool):List (List AV)→List (List AV)→Bool
 | [],[]=>true
 |a::l,b::r=>lsE e a b&&rsE e l r
 |_,_=>false
def avE:Nat→AV→AV→Bool
 |0,_,_=>false
 |d+1,x,y=>
  match x,y with
  | .bool a,.bool b=>a==b
  | .int k a,.int j b=>k==j&&a==b
  | .str a,.str b=>a==b
  | .nils,.nils=>true
  | .imm n f r,.imm n' f' r'=>n==n'&&f==f'&&rsE (avE d) r r'
  | .agg a,.agg b=>lsE (avE d) a b
  |_,_=>false
theorem aO8{e:AV→AV→Bool}(h:∀a b,e a b=true→a=b):∀{l r:List AV},lsE e l r=true→l=r
 | [],[],_=>rfl
 |a::l,b::r,k=>by
  simp only[lsE,awE]at k
  rw[h a b k.1,aO8 h k.2]
 | [],_::_,k=>by cases k
 |_::_,[],k=>by cases k
theorem a38{e:AV→AV→Bool}(h:∀a b,e a b=true→a=b):∀{l r:List (List AV)},rsE e l r=true→l=r
 | [],[],_=>rfl
 |a::l,b::r,k=>by
  simp only[rsE,awE]at k
  rw[aO8 h k.1,a38 h k.2]
 | [],_::_,k=>by cases k
 |_::_,[],k=>by cases k
theorem aTW:∀{d:Nat} {x y:AV},avE d x y=true→x=y
 |0,_,_,h=>by cases h
 |d+1,x,y,h=>by
  unfold avE at h
  split at h
  ·simp at h;rw[h]
  ·simp at h;rw[h.1,h.2]
  ·simp at h;rw[h]
  ·rfl
  ·simp only[awE,beq_iff_eq]at h
   rw[h.1.1,h.1.2,a38 (fun a b k=>aTW k) h.2]
  ·rw[aO8 (fun a b k=>aTW k) h]
  ·cases h
structure Ent where
 f:Nat
 args:List AV
 res:Out × aaL
def beT(tab:List Ent)(f:Nat)(a:List AV)(h:aaL):Option (Out × aaL):=
 match h with
 | []=>(tab.find? fun e=>e.f==f&&lsE (avE 8) e.args a).map (·.res)
 |_=>none
def aF4(pr:auV)(tab:List Ent):auV:={ pr with at_:=fun f=>if tab.any (·.f==f)=true then some (beT tab f)else pr f }
theorem aCI{O:Orc}{pr:auV}{tab:List Ent}(h0:∀f p,pr f=some p→∀a h r,p a h=some r→O.call (.fn f) a h=some r)(h1:∀e∈tab,O.call (.fn e.f) e.args []=some e.res):
 ∀f p,aF4 pr tab f=some p→∀a h r,p a h=some r→O.call (.fn f) a h=some r:=by
 intro f p hp a h r hr
 simp only[aF4]at hp
 split at hp
 ·cases hp
  unfold beT at hr
  split at hr
  ·obtain⟨e,he,rfl⟩:=adJ.1 hr
   have h2:=List.find?_some he
   simp only[awE,beq_iff_eq]at h2
   rw[←h2.1,←aO8 (fun a b k=>aTW k) h2.2]
   exact h1 e (List.mem_of_find?_eq_some he)
  ·cases hr
 ·exact h0 f p hp a h r hr
def EVu:=PLift.up (aa9 @a27 (aa9 @aXJ (aa9 @aXY @a8Y)))
end
noncomputable section
section
variable {α:Type}
end
end
section
def mrg:aaL→aaL→aaL
 | [],h'=>h'
 |c₀::h,[]=>c₀::h
 |c₀::h,c::h'=>(bif c₀.quiet c then c₀ else c.mark)::mrg h h'
def aZD(h h':aaL):Prop:=h.length≤h'.length∧∀(i:Nat) (c₀ c:CB),h[i]?=some c₀→h'[i]?=some c→c₀.quiet c=true∨c₀.isLive=true
theorem aC5:∀(h h' pre:aaL),aZD h h'→∃es,anD pre.length h h'=some es∧agN (pre++h) es=pre++mrg h h'
 | [],h',pre,_=>⟨_,rfl,by simp[aN6,mrg]⟩
 |c₀::h,[],pre,ok=>by simp[aZD]at ok
 |c₀::h,c::h',pre,ok=>by
  have ok':aZD h h':=⟨by simpa using ok.1,fun i a b h1 h2=>ok.2 (i+1) a b (by simpa using h1) (by simpa using h2)⟩
  cases hq:c₀.quiet c with
  |true=>
   obtain⟨es,e1,e2⟩:=aC5 h h' (pre++[c₀]) ok'
   refine⟨es,?_,?_⟩
   ·simp only[anD,hq,cond_true]
    simpa using e1
   ·simpa [mrg,hq]using e2
  |false=>
   have hl:c₀.isLive=true:=by
    rcases ok.2 0 c₀ c rfl rfl with h|h
    ·rw[hq]at h;cases h
    ·exact h
   obtain⟨es,e1,e2⟩:=aC5 h h' (pre++[c.mark]) ok'
   refine⟨.put pre.length c.mark::es,?_,?_⟩
   ·simp only[anD,hq,hl,cond_false,cond_true]
    simp only[aIU,at6,List.length_nil]at e1
    rw[e1];rfl
   ·simp only[agN,axE,mrg,hq,cond_false]
    have:(pre++c₀::h).set pre.length c.mark=(pre++[c.mark])++h:=by simp
    rw[this,e2];simp
theorem aI9:∀{h h':aaL},h.length≤h'.length→(mrg h h').length=h'.length
 | [],h',_=>rfl
 |c₀::h,[],hl=>by simp at hl
 |c₀::h,c::h',hl=>by simp[mrg,aI9 (h:=h) (h':=h') (by simpa using hl)]
theorem aFE:∀{h h':aaL} {i:Nat} {c₀ c:CB},h[i]?=some c₀→h'[i]?=some c→c₀.quiet c=true→(mrg h h')[i]?=some c₀
 | [],h',i,c₀,c,h1,_,_=>by simp at h1
 |a::h,[],i,c₀,c,_,h2,_=>by simp at h2
 |a::h,b::h',0,c₀,c,h1,h2,hq=>by
  simp at h1 h2;subst h1 h2;simp[mrg,hq]
 |a::h,b::h',i+1,c₀,c,h1,h2,hq=>by
  simp at h1 h2;simpa [mrg]using aFE h1 h2 hq
theorem aI5:∀{h h':aaL} {i:Nat} {c₀ c:CB},h[i]?=some c₀→h'[i]?=some c→c₀.quiet c=false→(mrg h h')[i]?=some c.mark
 | [],h',i,c₀,c,h1,_,_=>by simp at h1
 |a::h,[],i,c₀,c,_,h2,_=>by simp at h2
 |a::h,b::h',0,c₀,c,h1,h2,hq=>by
  simp at h1 h2;subst h1 h2;simp[mrg,hq]
 |a::h,b::h',i+1,c₀,c,h1,h2,hq=>by
  simp at h1 h2;simpa [mrg]using aI5 h1 h2 hq
theorem aPO:∀{h h':aaL} {i:Nat},h.length≤h'.length→h.length≤i→(mrg h h')[i]?=h'[i]?
 | [],h',i,_,_=>rfl
 |a::h,[],i,hl,_=>by simp at hl
 |a::h,b::h',0,_,hi=>by simp at hi
 |a::h,b::h',i+1,hl,hi=>by
  simpa [mrg]using aPO (h:=h) (h':=h') (i:=i) (by simpa using hl) (by simpa using hi)
theorem auJ{h:aaL}{i:Nat}{c:CB}(hc:h[i]?=some c):(clH h)[i]?=some c.clean:=by simp[clH,hc]
theorem aeL(h:aaL):(clH h).length=h.length:=by simp[clH]
theorem aBA(c:CB):ae0 c.clean=ae0 c:=by cases c<;>rfl
theorem a8K{O:Orc}{H:aaL}{f:Nat}{args:List AV}{Q:Out→aaL→Prop}(hd:hdR args=true)(hm:O.md f=true)(K:ShQ O f args (clH H) Q)(ok:∀o G,Q o G→aZD H G):
 ∃o G es,cl O H (some (.func (.func f) [] [])) (some args)=some (o,es)∧agN H es=mrg H G∧Q o G:=by
 obtain⟨o,G,hc,hq⟩:=K
 obtain⟨es,e1,e2⟩:=aC5 H G [] (ok o G hq)
 refine⟨o,G,es,?_,by simpa using e2,hq⟩
 rw[aVR]
 simp only[azA,aF9,hd,if_true,shC,hm,Bool.or_true,hc]
 rw[aPB]
 have e1':anD 0 H G=some es:=e1
 rw[e1'];rfl
structure aOF(X:List Nat)(H H1:aaL):Prop where
 len:H.length≤H1.length
 same:∀b,b<H.length→b∉X→H1[b]?=H[b]?
theorem aOF.app(H l:aaL):aOF [] H (H++l):=⟨by simp,fun b hb _=>arP hb⟩
end
noncomputable section
open Go.RowKit
theorem aT2{H:aaL}(h:∀c∈H,c.quiet c.clean=true):adK H=true:=by simp only[adK,awY];exact h
theorem aBE{H:aaL}(h:adK H=true){b:Nat}{c:CB}(hb:H[b]?=some c):c.quiet c.clean=true:=by
 simp only[adK,awY]at h
 exact h c (aIC hb)
theorem adY{H l:aaL}(h:adK H=true)(hl:adK l=true):adK (H++l)=true:=by
 simp only[adK,awY,anK]at h hl ⊢
 exact fun c hc=>hc.elim (h c) (hl c)
theorem aeX{H:aaL}(h:adK H=true)(b:Nat){c:CB}(hc:c.quiet c.clean=true):adK (H.set b c)=true:=by
 simp only[adK,awY]at h ⊢
 exact fun x hx=>(aF8 hx).elim (h x) (fun e=>e▸hc)
theorem a2O{H0 G:aaL}{X:List Nat}(hq:adK H0=true)(K:aOF X (clH H0) G)(hX:∀b∈X,b<H0.length∧∀c0 c,H0[b]?=some c0→G[b]?=some c→c0.isLive=true∧c0.quiet c=false):
 aZD H0 G∧(mrg H0 G).length=G.length∧(∀b,H0.length≤b→(mrg H0 G)[b]?=G[b]?)∧(∀b,b<H0.length→b∉X→(mrg H0 G)[b]?=H0[b]?)∧(∀b∈X,∀c,G[b]?=some c→(mrg H0 G)[b]?=some c.mark):=by
 have hlen:H0.length≤G.length:=by have:=K.len;rwa[aeL]at this
 have old:∀b c0,H0[b]?=some c0→b∉X→G[b]?=some c0.clean:=fun b c0 h0 hb=>by
  rw[K.same b (by rw[aeL];exact(ajP.1 h0).1) hb,auJ h0]
 refine⟨⟨hlen,fun b c0 c h0 h1=>?_⟩,aI9 hlen,fun b hb=>aPO hlen hb,fun b hb hn=>?_,fun b hb c hc=>?_⟩
 ·by_cases hb:b∈X
  ·exact .inr ((hX b hb).2 c0 c h0 h1).1
  ·rw[old b c0 h0 hb]at h1;cases h1
   exact .inl (aBE hq h0)
 ·obtain⟨c0,h0⟩:∃c,H0[b]?=some c:=⟨_,anU hb⟩
  rw[h0];exact aFE h0 (old b c0 h0 hn) (aBE hq h0)
 ·obtain⟨h1,h2⟩:=hX b hb
  obtain⟨c0,h0⟩:∃c,H0[b]?=some c:=⟨_,anU h1⟩
  exact aI5 h0 hc (h2 c0 c h0 hc).2
end
theorem adM{h:aaL}{b:Nat}{c:CB}(e:h[b]?=some c):b<h.length:=(ajP.1 e).1
structure LLG(st lo:Nat)(ov:AV)(h:aaL)(rows Q:List (List AV))(Ro:List Nat):Prop where
 own:aAA 0 st false rows ov h
 nil:rows=[]→ov=.nils
 q:ah6 (rd 5 (hf h)) rows=some (Q,Ro)
 dx:∀b∈Ro,lo≤b
 dov:∀a b r n,ov=.slr a b r n→lo≤b∧b∉Ro∧b<h.length
theorem LLG.none{st lo:Nat}{h:aaL}:LLG st lo .nils h [] [] []:=⟨.inl ⟨rfl,rfl⟩,fun _=>rfl,rfl,by simp,fun _ _ _ _ e=>by cases e⟩
theorem LLG.keep{st lo:Nat}{ov:AV}{h h':aaL}{rows Q:List (List AV)}{Ro:List Nat}(I:LLG st lo ov h rows Q Ro)(hl:h.length≤h'.length)(k:∀b,lo≤b→b<h.length→h'[b]?=h[b]?):LLG st lo ov h' rows Q Ro:=by
 refine⟨?_,I.nil,?_,I.dx,fun a b r n e=>?_⟩
 ·rcases I.own with h1|⟨b,w,h1,h2⟩
  ·exact .inl h1
  ·exact .inr ⟨b,w,h1,by rw[k b (by have:=(I.dov _ _ _ _ h1).1;simpa using this) (adM h2)];exact h2⟩
 ·refine ay1 I.q fun j hj z hz=>?_
  show(h'[j]?).bind ae0=_
  rw[k j (I.dx j hj) (aAG (by omega) I.q j hj)];exact hz
 ·obtain⟨a1,b1,c⟩:=I.dov a b r n e
  exact⟨a1,b1,by omega⟩
theorem a5T(b:Nat):AV.isCell (.mapr b)=true:=adE rfl rfl
theorem a69(b:Nat):AV.flat (.mapr b)=false:=adE rfl rfl
theorem a8J(b:Nat):abZ (.mapr b)=[.mapr b]:=adE rfl rfl
def auO:=PLift.up (aa9 @a5T (aa9 @a69 @a8J))
theorem LLG.read{st lo:Nat}{ov:AV}{h:aaL}{rows Q:List (List AV)}{Ro:List Nat}(I:LLG st lo ov h rows Q Ro):∃R,rd 6 (hf h) ov=some (slv st false false Q,R)∧(∀b∈R,lo≤b)∧R.length≤1+Ro.length:=by
 have key:∀d,ah6 (rd d (hf h)) rows=some (Q,Ro)→∃R,rd (d+1) (hf h) ov=some (slv st false false Q,R)∧(∀b∈R,lo≤b)∧R.length≤1+Ro.length:=fun d hq=>by
  rcases I.own with⟨rfl,rfl⟩|⟨b,w,rfl,hb⟩
  ·simp[ah6]at hq;obtain⟨rfl,rfl⟩:=hq;exact⟨[],by simp[rd,slv],by simp,by simp⟩
  ·have hne:rows≠[]:=fun e=>by have:=I.nil e;cases this
   have hb':(hf h (b+0)).bind ae0=some (st,false,rows):=by show(h[b]?).bind ae0=_;rw[hb];rfl
   refine⟨(b+0)::Ro,?_,fun c hc=>?_,by simp;omega⟩
   ·simp only[rd,hb',aiZ,if_true,and_self,cond_false,hq,as6]
    have hl:Q≠[]:=fun e=>by
     cases rows with
     |nil=>exact hne rfl
     |cons r rs=>
      simp only[ah6,aeU,adJ]at hq
      obtain⟨_,_,_,_,hq⟩:=hq
      simp only[Prod.mk.injEq]at hq
      rw[e]at hq;cases hq.1
    cases Q with
    |nil=>exact absurd rfl hl
    |cons r rs=>rfl
   ·rcases ajS.1 hc with rfl|hc
    ·exact(I.dov _ _ _ _ rfl).1
    ·exact I.dx c hc
 exact key 5 I.q
noncomputable section
def amD(kvs:List AV):CB:=.lp [] .skip .skip kvs .map
def kvG{α:Type}(key v:α→AV)(L:List α):List AV:=L.flatMap fun s=>[key s,v s]
theorem aOW{h:aaL}{b:Nat}{kvs:List AV}(hb:h[b]?=some (amD kvs)):aCY (hf h) b=some kvs:=by
 unfold aCY
 rw[show hf h b=some (amD kvs)from hb];rfl
structure aLU{α:Type}[DecidableEq α](P:Program)(kt:TypeId)(key:α→AV)(D:α→Prop):Prop where
 ok:∀a,D a→aO0 P kt (key a)=true
 eq:∀a b,D a→D b→aEq P 12 kt (key a) (key b)=some (decide (a=b))
 same:∀a,D a→AV.sameKey (key a) (key a)=true
section
variable {α:Type} [DecidableEq α] {P:Program} {kt:TypeId} {key:α→AV} {D:α→Prop}
theorem aLU.find(K:aLU P kt key D){s:α}(hs:D s)(v:α→AV):∀(L:List α) (i:Nat),(∀x∈L,D x)→aCC P kt (key s) (kvG key v L) i=some (if s∈L then some (i+L.idxOf s,v s)else none)
 | [],i,_=>rfl
 |a::L,i,h=>by
  have ha:=h a (by simp)
  have ih:=K.find hs v L (i+1) fun x hx=>h x (akQ _ hx)
  show aCC _ _ _ (key a::v a::kvG key v L) i=_
  simp only[aCC,K.eq s a hs ha,aiZ,ih]
  by_cases e:s=a
  ·subst e;simp
  ·have e2:(a==s)=false:=by simp;exact fun h=>e h.symm
   simp only[decide_eq_true_eq,e,if_false,ajS,false_or,List.idxOf_cons,e2,cond_false,awM.injEq]
   split
   ·rw[show i+1+List.idxOf s L=i+(List.idxOf s L+1) by omega]
   ·rfl
theorem a6C{v:α→AV}{L:List α}{s:α}(hs:s∉L)(x:AV):kvG key v L++[key s,x]=kvG key (fun y=>if y=s then x else v y) (L++[s]):=by
 unfold kvG
 rw[List.flatMap_append]
 congr 1
 ·rw[aI7,aI7]
  congr 1
  refine aI8 fun y hy=>?_
  simp only[if_neg (show ¬y=s from fun e=>hs (e▸hy))]
 ·simp
variable {h:aaL} {b:Nat} {L:List α} {v:α→AV} {s:α} {ty vt:TypeId} {z:AV}
theorem aLU.lk_yes(K:aLU P kt key D)(hu:P.underlying ty=some (.map kt vt))(hz:asV P vt=some z)(hb:h[b]?=some (amD (kvG key v L)))(hL:∀x∈L,D x)(hs:s∈L)(ok:Bool):
 lk P h ty (some (.mapr b)) (some (key s)) ok=some (.ret (bif ok then .tup [v s,.bool true]else v s),[]):=by
 simp only[lk,aiZ,avV,hu,K.ok s (hL s hs),if_true,aOW hb,K.find (hL s hs) v L 0 hL,if_pos hs,hz]
 cases ok<;>rfl
theorem aLU.lk_no(K:aLU P kt key D)(hu:P.underlying ty=some (.map kt vt))(hz:asV P vt=some z)(hb:h[b]?=some (amD (kvG key v L)))(hL:∀x∈L,D x)(hd:D s)(hs:s∉L)(ok:Bool):
 lk P h ty (some (.mapr b)) (some (key s)) ok=some (.ret (bif ok then .tup [z,.bool false]else z),[]):=by
 simp only[lk,aiZ,avV,hu,K.ok s hd,if_true,aOW hb,K.find hd v L 0 hL,if_neg hs,hz]
 cases ok<;>rfl
theorem aLU.ms_new(K:aLU P kt key D)(hu:P.underlying ty=some (.map kt vt))(hb:h[b]?=some (amD (kvG key v L)))(hL:∀x∈L,D x)(hd:D s)(hs:s∉L)(x:AV):
 ms P h ty (some (.mapr b)) (some (key s)) (some x)=some (.ret (.tup []),[.put b (amD (kvG key (fun y=>if y=s then x else v y) (L++[s])))]):=by
 rw[←a6C hs]
 simp only[ms,aiZ,avU,hu,K.ok s hd,if_true,aOW hb,K.find hd v L 0 hL,if_neg hs]
 rfl
end
end
noncomputable section
theorem aNJ(c:CB):c.clean.clean=c.clean:=by cases c<;>rfl
theorem a1W(c:CB):c.clean.isLive=c.isLive:=by cases c<;>rfl
def Wst(H G:aaL):Prop:=H.length≤G.length∧∀(b:Nat) (c0 c:CB),H[b]?=some c0→G[b]?=some c→c=c0∨(c0.isLive=true∧((∃st fl rows,c=.live st fl true rows)∨c=.dead))∨∃k0 k1,c0=amD k0∧c=amD k1
theorem Wst.refl(H:aaL):Wst H H:=⟨ayB _,fun b c0 c h0 h1=>.inl (by rw[h0]at h1;cases h1;rfl)⟩
theorem Wst.app{H G:aaL}(k:Wst H G)(l:aaL):Wst H (G++l):=⟨by have:=k.1;simp;omega,fun b c0 c h0 h1=>by
 rw[arP (azS (adM h0) k.1)]at h1
 exact k.2 b c0 c h0 h1⟩
theorem Wst.lv{H G:aaL}(k:Wst H G){b:Nat}{c0 c:CB}(h0:H[b]?=some c0)(g:G[b]?=some c)(hl:c.isLive=true):c0.isLive=true:=by
 rcases k.2 b c0 c h0 g with rfl|⟨h,_⟩|⟨_,_,rfl,_⟩
 ·exact hl
 ·exact h
 ·rfl
theorem Wst.upd{H G:aaL}(k:Wst H G){b:Nat}{c d:CB}(g:G[b]?=some c)(hl:c.isLive=true)(hd:(∃st fl rows,d=.live st fl true rows)∨d=.dead):Wst H (G.set b d):=⟨by simpa using k.1,fun i c0 c' h0 h1=>by
 by_cases e:b=i
 ·subst e
  rw[ayR (adM g)]at h1;cases h1
  exact .inr (.inl ⟨k.lv h0 g hl,hd⟩)
 ·rw[arO e]at h1
  exact k.2 i c0 c' h0 h1⟩
theorem Wst.put{H G:aaL}(k:Wst H G){b st0:Nat}{fl0 w0:Bool}{rows0:List (List AV)}(g:G[b]?=some (.live st0 fl0 w0 rows0))(st:Nat)(fl:Bool)(rows:List (List AV)):Wst H (G.set b (.live st fl true rows)):=k.upd g rfl (.inl ⟨_,_,_,rfl⟩)
theorem Wst.kill{H G:aaL}(k:Wst H G){b st0:Nat}{fl0 w0:Bool}{rows0:List (List AV)}(g:G[b]?=some (.live st0 fl0 w0 rows0)):Wst H (G.set b .dead):=k.upd g rfl (.inr rfl)
theorem Wst.map{H G:aaL}(k:Wst H G){b:Nat}{k0:List AV}(g:G[b]?=some (amD k0))(k1:List AV):Wst H (G.set b (amD k1)):=⟨by simpa using k.1,fun i c0 c' h0 h1=>by
 by_cases e:b=i
 ·subst e
  rw[ayR (adM g)]at h1;cases h1
  rcases k.2 b c0 _ h0 g with h|⟨_,⟨_,_,_,h⟩|h⟩|⟨_,_,h,_⟩
  ·exact .inr (.inr ⟨_,_,h.symm,rfl⟩)
  ·cases h
  ·cases h
  ·exact .inr (.inr ⟨_,_,h,rfl⟩)
 ·rw[arO e]at h1
  exact k.2 i c0 c' h0 h1⟩
theorem Wst.trans{H G M:aaL}(k:Wst H G)(k':Wst G M):Wst H M:=⟨Nat.le_trans k.1 k'.1,fun b c0 c2 h0 h2=>by
 have h1:G[b]?=some (G[b]'(azS (adM h0) k.1)):=anU _
 generalize G[b]'(azS (adM h0) k.1)=c1 at h1
 rcases k'.2 b c1 c2 h1 h2 with rfl|⟨h,h'⟩|⟨k0,k1,rfl,rfl⟩
 ·exact k.2 b c0 _ h0 h1
 ·exact .inr (.inl ⟨k.lv h0 h1 h,h'⟩)
 ·rcases k.2 b c0 _ h0 h1 with h|⟨_,⟨_,_,_,h⟩|h⟩|⟨_,_,h,_⟩
  ·exact .inr (.inr ⟨_,_,h.symm,rfl⟩)
  ·cases h
  ·cases h
  ·exact .inr (.inr ⟨_,_,h,rfl⟩)⟩
theorem aRN{c d:CB}(h:c.clean=d.clean):c.quiet c.clean=d.quiet d.clean:=by
 cases c<;>cases d<;>first|(simp[CB.clean]at h;done)|(simp only[CB.clean]at h;cases h;rfl)|rfl
theorem aOD{h h':aaL}(e:clH h=clH h'){b:Nat}{c:CB}(g:h[b]?=some c):∃c',h'[b]?=some c'∧c'.clean=c.clean:=by
 have h1:(clH h')[b]?=some c.clean:=by rw[←e];exact auJ g
 unfold clH at h1
 rw[au3]at h1
 obtain⟨c',h2,h3⟩:=adJ.1 h1
 exact⟨c',h2,h3⟩
theorem aLF{h h':aaL}(e:clH h=clH h'):h.length=h'.length:=by
 have:=congrArg List.length e
 rwa[aeL,aeL]at this
theorem aGL{h h':aaL}(e:clH h=clH h')(hq:adK h=true):adK h'=true:=by
 refine aT2 fun c hc=>?_
 obtain⟨b,hb⟩:=List.getElem?_of_mem hc
 obtain⟨c',h1,h2⟩:=aOD e.symm hb
 rw[←aRN h2];exact aBE hq h1
theorem ak3(h:aaL):clH (clH h)=clH h:=by
 unfold clH
 rw[List.map_map]
 exact aI8 fun c _=>aNJ c
theorem an0{h h':aaL}(e:clH h=clH h'){b st:Nat}{fl:Bool}{rows:List (List AV)}(g:∃x,h[b]?=some (.live st fl x rows)):∃x,h'[b]?=some (.live st fl x rows):=by
 obtain⟨x,g⟩:=g
 obtain⟨c',h1,h2⟩:=aOD e g
 cases c'<;>simp[CB.clean]at h2
 obtain⟨rfl,rfl,rfl⟩:=h2
 exact⟨_,h1⟩
theorem aE4{h h':aaL}(e:clH h=clH h'){b:Nat}{c:CB}(g:h[b]?=some c)(hc:∀d:CB,d.clean=c.clean→d=c):h'[b]?=some c:=by
 obtain⟨c',h1,h2⟩:=aOD e g
 rw[h1,hc c' h2]
theorem aWK{h h':aaL}(e:clH h=clH h'){b:Nat}{kvs:List AV}(g:h[b]?=some (amD kvs)):h'[b]?=some (amD kvs):=aE4 e g fun d hd=>by
 cases d<;>simp_all[CB.clean,amD]
theorem aO2{H G:aaL}(hq:adK H=true)(k:Wst (clH H) G)(hg:adK G=true):aZD H G∧Wst H (mrg H G)∧clH (mrg H G)=clH G∧adK (mrg H G)=true:=by
 have hl:H.length≤G.length:=by have:=k.1;rwa[aeL]at this
 have one:∀(b:Nat) (c0 c:CB),H[b]?=some c0→G[b]?=some c→(c0.quiet c=true∨c0.isLive=true)∧∃d,(mrg H G)[b]?=some d∧d.clean=c.clean∧(d=c0∨(c0.isLive=true∧((∃st fl rows,d=.live st fl true rows)∨d=.dead))∨∃k0 k1,c0=amD k0∧d=amD k1):=fun b c0 c h0 h1=>by
  rcases k.2 b _ _ (auJ h0) h1 with rfl|⟨h,h'⟩|⟨k0,k1,e0,rfl⟩
  ·have:=aBE hq h0
   exact⟨.inl this,c0,aFE h0 h1 this,(aNJ c0).symm,.inl rfl⟩
  ·rw[a1W]at h
   refine⟨.inr h,c,?_,rfl,.inr (.inl ⟨h,h'⟩)⟩
   have hqf:c0.quiet c=false:=by
    rcases h' with⟨_,_,_,rfl⟩|rfl<;>cases c0<;>first|rfl|(simp[CB.isLive]at h;done)|(simp[CB.quiet,CB.same];done)
   rw[aI5 h0 h1 hqf]
   rcases h' with⟨_,_,_,rfl⟩|rfl<;>rfl
  ·have e1:c0=amD k0:=by cases c0<;>simp_all[CB.clean,amD]
   subst e1
   refine⟨.inr rfl,amD k1,?_,rfl,.inr (.inr ⟨_,_,rfl,rfl⟩)⟩
   cases hs:(amD k0).quiet (amD k1)with
   |true=>
    have:k0=k1:=(aBZ hs).1
    subst this
    exact aFE h0 h1 hs
   |false=>rw[aI5 h0 h1 hs];rfl
 have hcl:clH (mrg H G)=clH G:=by
  apply List.ext_getElem?
  intro b
  by_cases hb:b<G.length
  ·have h1:G[b]?=some G[b]:=anU hb
   rw[auJ h1]
   by_cases hb2:b<H.length
   ·have h0:H[b]?=some H[b]:=anU hb2
    obtain⟨_,d,e1,e2,_⟩:=one b _ _ h0 h1
    rw[auJ e1,e2]
   ·rw[auJ ((aPO hl (by omega)).trans h1)]
  ·rw[aJJ (by rw[aeL,aI9 hl];omega),aJJ (by rw[aeL];omega)]
 refine⟨⟨hl,fun b c0 c h0 h1=>(one b c0 c h0 h1).1⟩,⟨by rw[aI9 hl];exact hl,fun b c0 d h0 hd=>?_⟩,hcl,aGL hcl.symm hg⟩
 have hb:=adM h0
 have h1:G[b]?=some (G[b]'(by omega)):=anU _
 obtain⟨_,d',e1,_,e3⟩:=one b _ _ h0 h1
 rw[e1]at hd;cases hd
 exact e3
theorem bcW{O:Orc}{H:aaL}{f:Nat}{vs cap:List AV}{Q:Out→aaL→Prop}(hq:adK H=true)(hd:hdR (vs++cap)=true)(hm:O.md f=true)(K:ShQ O f (vs++cap) (clH H) fun o G=>Q o G∧Wst (clH H) G∧adK G=true):
 ∃o G es M,cl O H (some (.func (.func f) [] cap)) (some vs)=some (o,es)∧agN H es=M∧Q o G∧clH M=clH G∧Wst H M∧adK M=true:=by
 obtain⟨o,G,hc,hQ,hw,hg⟩:=K
 obtain⟨m1,m2,m3,m4⟩:=aO2 hq hw hg
 obtain⟨es,e1,e2⟩:=aC5 H G [] m1
 refine⟨o,G,es,mrg H G,?_,by simpa using e2,hQ,m3,m2,m4⟩
 rw[aVR]
 simp only[azA,hd,if_true,shC,hm,Bool.or_true,hc]
 rw[aPB]
 have e1':anD 0 H G=some es:=e1
 rw[e1'];rfl
theorem aVO{H G:aaL}{o:Out}(hq:adK H=true)(hw:Wst (clH H) G)(hg:adK G=true):∃es M,shK H (some (o,G))=some (o,es)∧agN H es=M∧clH M=clH G∧Wst H M∧adK M=true:=by
 obtain⟨m1,m2,m3,m4⟩:=aO2 hq hw hg
 obtain⟨es,e1,e2⟩:=aC5 H G [] m1
 refine⟨es,mrg H G,?_,by simpa using e2,m3,m2,m4⟩
 rw[aPB]
 have e1':anD 0 H G=some es:=e1
 rw[e1'];rfl
theorem LLG.cl{st lo:Nat}{ov:AV}{h h':aaL}{rows Q:List (List AV)}{Ro:List Nat}(I:LLG st lo ov h rows Q Ro)(e:clH h=clH h'):LLG st lo ov h' rows Q Ro:=by
 refine⟨?_,I.nil,ay1 I.q fun j hj z hz=>?_,I.dx,fun a b r n h=>?_⟩
 ·rcases I.own with h1|⟨b,w,h1,h2⟩
  ·exact .inl h1
  ·obtain⟨x,h3⟩:=an0 e ⟨w,h2⟩
   exact .inr ⟨b,x,h1,h3⟩
 ·show(h'[j]?).bind ae0=_
  cases hc:h[j]? with
  |none=>
   have hz':(h[j]?).bind ae0=some z:=hz
   rw[hc]at hz';cases hz'
  |some c=>
   obtain⟨c',k1,k2⟩:=aOD e hc
   have hz':(h[j]?).bind ae0=some z:=hz
   rw[hc]at hz'
   rw[k1]
   show ae0 c'=_
   rw[←aBA c',k2,aBA];exact hz'
 ·obtain⟨a1,a2,a3⟩:=I.dov a b r n h
  exact⟨a1,a2,by rw[←aLF e];exact a3⟩
theorem LLG.step{st lo:Nat}{ov:AV}{h G:aaL}{rows Q:List (List AV)}{Ro:List Nat}(I:LLG st lo ov h rows Q Ro){m n:Nat}{w:Bool}{r X:List AV}{R':List Nat}(hG:G[m]?=some (.live st false w (rows++[r])))
 (kR:∀j∈Ro,∀z,(h[j]?).bind ae0=some z→(G[j]?).bind ae0=some z) (hr:rdL (rd 5 (hf G)) r=some (X,R')) (hR':∀b∈R',lo≤b∧b≠m) (hm:lo≤m) (hmR:m∉Ro) (hn:n=rows.length+1):
 LLG st lo (.slr st m 0 n) G (rows++[r]) (Q++[X]) (Ro++R'):=by
 subst hn
 refine⟨.inr ⟨m,w,by simp,hG⟩,fun e=>by simp at e,aC3 (ay1 I.q fun j hj z hz=>kR j hj z hz) hr,fun b hb=>?_,fun a b r n e=>?_⟩
 ·rcases anK.1 hb with hb|hb
  ·exact I.dx b hb
  ·exact(hR' b hb).1
 ·cases e
  refine⟨hm,fun hb=>?_,adM hG⟩
  rcases anK.1 hb with hb|hb
  ·exact hmR hb
  ·exact(hR' _ hb).2 rfl
def SmB(H G:aaL)(b:Nat):Prop:=(clH G)[b]?=(clH H)[b]?
theorem SmB.refl(H:aaL)(b:Nat):SmB H H b:=Eq.refl _
theorem SmB.trans{H G M:aaL}{b:Nat}(h:SmB H G b)(h':SmB G M b):SmB H M b:=adE h' h
theorem SmB.of{H G:aaL}{b:Nat}(h:G[b]?=H[b]?):SmB H G b:=by
 unfold SmB clH;rw[au3,au3,h]
theorem SmB.app{H G:aaL}{b:Nat}(h:SmB H G b)(hb:b<G.length)(l:aaL):SmB H (G++l) b:=h.trans (SmB.of (arP hb))
theorem SmB.eqR{H G M:aaL}{b:Nat}(h:SmB H G b)(e:clH G=clH M):SmB H M b:=by unfold SmB at *;rw[←e,h]
theorem SmB.eqL{H H' G:aaL}{b:Nat}(h:SmB H G b)(e:clH H=clH H'):SmB H' G b:=by unfold SmB at *;rw[h,e]
theorem SmB.set{H G:aaL}{b i:Nat}(h:SmB H G b)(hn:i≠b)(c:CB):SmB H (G.set i c) b:=h.trans (SmB.of (arO hn))
theorem SmB.at_{H G:aaL}{b:Nat}{c:CB}(h:SmB H G b)(g:H[b]?=some c):∃c',G[b]?=some c'∧c'.clean=c.clean:=by
 have h1:(clH G)[b]?=some c.clean:=adE h (auJ g)
 unfold clH at h1
 rw[au3]at h1
 exact adJ.1 h1
theorem SmB.live{H G:aaL}{b st:Nat}{fl:Bool}{rows:List (List AV)}(h:SmB H G b)(g:∃x,H[b]?=some (.live st fl x rows)):∃x,G[b]?=some (.live st fl x rows):=by
 obtain⟨x,g⟩:=g
 obtain⟨c',h1,h2⟩:=h.at_ g
 cases c'<;>simp[CB.clean]at h2
 obtain⟨rfl,rfl,rfl⟩:=h2
 exact⟨_,h1⟩
theorem SmB.keep{H G:aaL}{b:Nat}{c:CB}(h:SmB H G b)(g:H[b]?=some c)(hc:∀d:CB,d.clean=c.clean→d=c):G[b]?=some c:=by
 obtain⟨c',h1,h2⟩:=h.at_ g
 rw[h1,hc c' h2]
theorem SmB.rows{H G:aaL}{b:Nat}{z:Nat × Bool × List (List AV)}(h:SmB H G b)(g:(H[b]?).bind ae0=some z):(G[b]?).bind ae0=some z:=by
 cases hc:H[b]? with
 |none=>rw[hc]at g;cases g
 |some c=>
  rw[hc]at g
  obtain⟨c',h1,h2⟩:=h.at_ hc
  rw[h1]
  show ae0 c'=_
  rw[←aBA c',h2,aBA];exact g
theorem a83{kvs:List AV}(d:CB)(hd:d.clean=(amD kvs).clean):d=amD kvs:=by
 cases d<;>simp_all[CB.clean,amD]
theorem SmB.map{H G:aaL}{b:Nat}{kvs:List AV}(h:SmB H G b)(g:H[b]?=some (amD kvs)):G[b]?=some (amD kvs):=h.keep g a83
theorem LLG.sm{st lo:Nat}{ov:AV}{h h':aaL}{rows Q:List (List AV)}{Ro:List Nat}(I:LLG st lo ov h rows Q Ro)(hl:h.length≤h'.length)(k:∀b,lo≤b→b<h.length→SmB h h' b):LLG st lo ov h' rows Q Ro:=
 ((I.cl (ak3 h).symm).keep (h':=clH h') (by rw[aeL,aeL];exact hl) fun b h1 h2=>k b h1 (by rwa[aeL]at h2)).cl (ak3 h')
theorem LLG.put{st lo:Nat}{ov:AV}{h:aaL}{rows Q:List (List AV)}{Ro:List Nat}(I:LLG st lo ov h rows Q Ro){B:Nat}{d:CB}(g:h[B]?=some d)(hn:ae0 d=Option.none)(c:CB):LLG st lo ov (h.set B c) rows Q Ro:=by
 refine⟨?_,I.nil,ay1 I.q fun j hj z hz=>?_,I.dx,fun a b r n e=>?_⟩
 ·rcases I.own with h1|⟨b,w,h1,h2⟩
  ·exact .inl h1
  ·refine .inr ⟨b,w,h1,?_⟩
   rw[arO (fun e=>by rw[←e,g]at h2;cases h2;cases hn)];exact h2
 ·show((h.set B c)[j]?).bind ae0=_
  have hz':(h[j]?).bind ae0=some z:=hz
  rw[arO (fun e=>by rw[←e,g]at hz';simp[hn]at hz')];exact hz'
 ·obtain⟨a1,a2,a3⟩:=I.dov a b r n e
  exact⟨a1,a2,by simpa using a3⟩
theorem ak1{h:aaL}(hq:adK h=true):adK (clH h)=true:=aGL (ak3 h).symm hq
theorem Wst.hi{H G:aaL}(k:Wst H G){b:Nat}(hb:H.length≤b)(c:CB):Wst H (G.set b c):=⟨by simpa using k.1,fun i c0 c1 h0 h1=>by
 rw[arO (by have:=adM h0;omega)]at h1
 exact k.2 i c0 c1 h0 h1⟩
theorem Wst.back{H M:aaL}{B:Nat}{c d:CB}(k:Wst (H.set B d) M)(g:H[B]?=some c):Wst H (M.set B c):=⟨by have:=k.1;simpa using this,fun b c0 c1 h0 h1=>by
 by_cases e:B=b
 ·subst e
  rw[g]at h0;cases h0
  rw[ayR (by have:=k.1;simp at this;have:=adM g;omega)]at h1
  cases h1;exact .inl rfl
 ·rw[arO e]at h1
  exact k.2 b c0 c1 (by rw[arO e];exact h0) h1⟩
theorem aOF.wst{H G:aaL}(k:aOF [] H G):Wst H G:=⟨k.len,fun b c0 c h0 h1=>.inl (by
 have:=k.same b (adM h0) (by simp)
 rw[h0,h1]at this;cases this;rfl)⟩
theorem bcJ{O:Orc}{H:aaL}{b:Nat}{vs:List AV}{Q:Out→aaL→Prop}(hq:adK H=true)(K:RnQ O (vs++[.yl b]) (clH H) fun o G=>Q o G∧Wst (clH H) G∧adK G=true):
 ∃o G es M,cl O H (some (.yl b)) (some vs)=some (o,es)∧agN H es=M∧Q o G∧clH M=clH G∧Wst H M∧adK M=true:=by
 obtain⟨o,G,hc,hQ,hw,hg⟩:=K
 obtain⟨m1,m2,m3,m4⟩:=aO2 hq hw hg
 obtain⟨es,e1,e2⟩:=aC5 H G [] m1
 refine⟨o,G,es,mrg H G,?_,by simpa using e2,hQ,m3,m2,m4⟩
 rw[be1,hc,aPB]
 have e1':anD 0 H G=some es:=e1
 rw[e1'];rfl
end
end Go.Ev
namespace Go.Ev
namespace Bfs
def aOZ:List Nat→List Nat→Prop
 |a::p,b::q=>a<b∨(a=b∧aOZ p q)
 |_,_=>True
theorem aNL:∀p,aOZ p p
 | []=>trivial
 |_::p=>.inr ⟨rfl,aNL p⟩
theorem aLH:∀{p q r:List Nat},p.length=q.length→q.length=r.length→aOZ p q→aOZ q r→aOZ p r
 | [],[],[],_,_,_,_=>trivial
 | [],_::_,_,h,_,_,_=>by simp at h
 |_::_,[],_,h,_,_,_=>by simp at h
 |_::_,_::_,[],_,h,_,_=>by simp at h
 | [],[],_::_,_,h,_,_=>by simp at h
 |a::p,b::q,c::r,h1,h2,h3,h4=>by
  simp only[at6,ayS]at h1 h2
  rcases h3 with h3|⟨rfl,h3⟩
  ·rcases h4 with h4|⟨rfl,h4⟩
   ·exact .inl (by omega)
   ·exact .inl h3
  ·rcases h4 with h4|⟨rfl,h4⟩
   ·exact .inl h4
   ·exact .inr ⟨rfl,aLH h1 h2 h3 h4⟩
theorem aNG:∀{p q:List Nat} {a b:Nat},p.length=q.length→aOZ p q→(p=q→a≤b)→aOZ (p++[a]) (q++[b])
 | [],[],a,b,_,_,h=>by
   have:=h rfl
   by_cases e:a=b
   ·exact .inr ⟨e,trivial⟩
   ·exact .inl (by omega)
 | [],_::_,_,_,h,_,_=>by simp at h
 |_::_,[],_,_,h,_,_=>by simp at h
 |c::p,d::q,a,b,h,h1,h2=>by
  simp only[at6,ayS]at h
  rcases h1 with h1|⟨rfl,h1⟩
  ·exact .inl h1
  ·exact .inr ⟨rfl,aNG h h1 fun e=>h2 (by rw[e])⟩
def le2(p q:List Nat):Prop:=p.length<q.length∨(p.length=q.length∧aOZ p q)
theorem aE6(p:List Nat):le2 p p:=.inr ⟨rfl,aNL p⟩
theorem aXP{p q r:List Nat}(h1:le2 p q)(h2:le2 q r):le2 p r:=by
 rcases h1 with h1|⟨h1,l1⟩
 ·rcases h2 with h2|⟨h2,_⟩
  ·exact .inl (by omega)
  ·exact .inl (by omega)
 ·rcases h2 with h2|⟨h2,l2⟩
  ·exact .inl (by omega)
  ·exact .inr ⟨h1.trans h2,aLH h1 h2 l1 l2⟩
theorem aLD{p q:List Nat}(h:le2 p q){a b:Nat}(hab:p=q→a≤b):le2 (p++[a]) (q++[b]):=by
 rcases h with h|⟨h,l⟩
 ·exact .inl (by simp;omega)
 ·exact .inr ⟨by simp[h],aNG h l hab⟩
theorem a5R(p:List Nat):le2 [] p:=by
 cases p with
 |nil=>exact aE6 _
 |cons=>exact .inl (by simp)
variable {V:Type}
def run(step:V→Nat→V)(v:V)(w:List Nat):V:=w.foldl step v
theorem aP2(step:V→Nat→V)(v:V)(w:List Nat)(a:Nat):run step v (w++[a])=step (run step v w) a:=by
 unfold run;rw[List.foldl_append];rfl
structure BF(step:V→Nat→V)(n:Nat)(v0:V)(D:List (V × List Nat))(i j:Nat):Prop where
 hd:D[0]?=some (v0,[])
 nd:∀(k k':Nat) (x x':V × List Nat),D[k]?=some x→D[k']?=some x'→x.1=x'.1→k=k'
 way:∀(k:Nat) (x:V × List Nat),D[k]?=some x→run step v0 x.2=x.1∧∀a∈x.2,a<n
 par:∀(k:Nat) (x:V × List Nat),D[k]?=some x→k≠0→∃(k':Nat) (u:V) (p:List Nat) (a:Nat),k'<k∧D[k']?=some (u,p)∧x=(step u a,p++[a])∧a<n∧(k'<i∨(k'=i∧a<j))
 srt:∀(k k':Nat) (x x':V × List Nat),k<k'→D[k]?=some x→D[k']?=some x'→le2 x.2 x'.2∧x.2≠x'.2
 cls:∀(k:Nat) (u:V) (p:List Nat),D[k]?=some (u,p)→∀a,a<n→(k<i∨(k=i∧a<j))→∃(k':Nat) (x:V × List Nat),D[k']?=some x∧x.1=step u a∧le2 x.2 (p++[a])
theorem BF.start(step:V→Nat→V)(n:Nat)(v0:V):BF step n v0 [(v0,[])] 0 0:=by
 have one:∀(k:Nat) (x:V × List Nat),[(v0,([]:List Nat))][k]?=some x→k=0∧x=(v0,[]):=fun k x h=>by
  cases k with
  |zero=>simp at h;exact⟨rfl,h.symm⟩
  |succ k=>simp at h
 refine⟨rfl,fun k k' x x' h h' _=>?_,fun k x h=>?_,fun k x h hk=>absurd (one k x h).1 hk,fun k k' x x' hl h h'=>?_,fun k u p h a ha hc=>by omega⟩
 ·rw[(one k x h).1,(one k' x' h').1]
 ·rw[(one k x h).2];exact⟨rfl,by simp⟩
 ·have:=(one k x h).1
  have:=(one k' x' h').1
  omega
theorem BF.before{step:V→Nat→V}{n:Nat}{v0:V}{D:List (V × List Nat)}{i j:Nat}(B:BF step n v0 D i j){u:V}{p:List Nat}(hi:D[i]?=some (u,p)){k:Nat}{x:V × List Nat}(hx:D[k]?=some x):le2 x.2 (p++[j])∧x.2≠p++[j]:=by
 by_cases hk:k=0
 ·subst hk
  rw[B.hd]at hx
  cases hx
  exact⟨a5R _,by simp⟩
 ·obtain⟨k',u',p',a,h1,h2,rfl,ha,h3⟩:=B.par k x hx hk
  rcases h3 with h3|⟨rfl,h3⟩
  ·obtain⟨s1,s2⟩:=B.srt k' i _ _ h3 h2 hi
   simp only at s1 s2
   refine⟨aLD s1 fun e=>absurd e s2,fun e=>?_⟩
   have:=aBS e rfl
   exact s2 this.1
  ·rw[hi]at h2
   cases h2
   refine⟨aLD (aE6 _) fun _=>by omega,fun e=>?_⟩
   have:=(aBS e rfl).2
   simp at this
   omega
theorem BF.old{step:V→Nat→V}{n:Nat}{v0:V}{D:List (V × List Nat)}{i j:Nat}(B:BF step n v0 D i j){u:V}{p:List Nat}(hi:D[i]?=some (u,p)){k:Nat}{x:V × List Nat}(hx:D[k]?=some x)(he:x.1=step u j):BF step n v0 D i (j+1):=by
 refine⟨B.hd,B.nd,B.way,fun k x h hk=>?_,B.srt,fun k' u' p' h a ha hc=>?_⟩
 ·obtain⟨k',u',p',a,h1,h2,h3,h4,h5⟩:=B.par k x h hk
  exact⟨k',u',p',a,h1,h2,h3,h4,by omega⟩
 ·by_cases e:k'=i∧a=j
  ·obtain⟨rfl,rfl⟩:=e
   rw[hi]at h
   cases h
   exact⟨k,x,hx,he,(B.before hi hx).1⟩
  ·exact B.cls k' u' p' h a ha (by omega)
theorem BF.new{step:V→Nat→V}{n:Nat}{v0:V}{D:List (V × List Nat)}{i j:Nat}(B:BF step n v0 D i j){u:V}{p:List Nat}(hi:D[i]?=some (u,p))(hj:j<n)(hn:∀(k:Nat) (x:V × List Nat),D[k]?=some x→x.1≠step u j):BF step n v0 (D++[(step u j,p++[j])]) i (j+1):=by
 have hil:i<D.length:=(ajP.1 hi).1
 have get:∀(k:Nat) (x:V × List Nat),(D++[(step u j,p++[j])])[k]?=some x→D[k]?=some x∨(k=D.length∧x=(step u j,p++[j])):=fun k x h=>by
  by_cases hk:k<D.length
  ·rw[arP hk]at h;exact .inl h
  ·rw[ayY (by omega)]at h
   by_cases e:k=D.length
   ·subst e;simp at h;exact .inr ⟨rfl,h.symm⟩
   ·obtain⟨d,hd⟩:∃d,k-D.length=d+1:=⟨k-D.length-1,by omega⟩
    rw[hd]at h;simp at h
 have old:∀(k:Nat) (x:V × List Nat),D[k]?=some x→(D++[(step u j,p++[j])])[k]?=some x:=fun k x h=>by
  rw[arP (ajP.1 h).1];exact h
 have lt:∀(k:Nat) (x:V × List Nat),D[k]?=some x→k<D.length:=fun k x h=>(ajP.1 h).1
 have hw:=B.way i _ hi
 refine⟨old 0 _ B.hd,fun k k' x x' h h' e=>?_,fun k x h=>?_,fun k x h hk=>?_,fun k k' x x' hl h h'=>?_,fun k u' p' h a ha hc=>?_⟩
 ·rcases get k x h with h|⟨rfl,rfl⟩
  ·rcases get k' x' h' with h'|⟨rfl,rfl⟩
   ·exact B.nd k k' x x' h h' e
   ·exact absurd e (hn k x h)
  ·rcases get k' x' h' with h'|⟨rfl,rfl⟩
   ·exact absurd e.symm (hn k' x' h')
   ·rfl
 ·rcases get k x h with h|⟨rfl,rfl⟩
  ·exact B.way k x h
  ·refine⟨by simp only;rw[aP2,hw.1],fun a ha=>?_⟩
   rcases anK.1 ha with ha|ha
   ·exact hw.2 a ha
   ·simp at ha;omega
 ·rcases get k x h with h|⟨rfl,rfl⟩
  ·obtain⟨k',u',p',a,h1,h2,h3,h4,h5⟩:=B.par k x h hk
   exact⟨k',u',p',a,h1,old _ _ h2,h3,h4,by omega⟩
  ·exact⟨i,u,p,j,hil,old _ _ hi,rfl,hj,.inr ⟨rfl,Nat.lt_succ_self _⟩⟩
 ·rcases get k' x' h' with h'|⟨rfl,rfl⟩
  ·rcases get k x h with h|⟨rfl,rfl⟩
   ·exact B.srt k k' x x' hl h h'
   ·have:=lt k' x' h';omega
  ·rcases get k x h with h|⟨rfl,rfl⟩
   ·exact B.before hi h
   ·omega
 ·rcases get k (u',p') h with h0|⟨rfl,e⟩
  ·by_cases e:k=i∧a=j
   ·obtain⟨rfl,rfl⟩:=e
    rw[hi]at h0
    cases h0
    exact⟨D.length,(step u a,p++[a]),by rw[ayY (ayB _),Nat.sub_self];rfl,rfl,aE6 _⟩
   ·obtain⟨k2,x2,h1,h2,h3⟩:=B.cls k u' p' h0 a ha (by omega)
    exact⟨k2,x2,old _ _ h1,h2,h3⟩
  ·omega
theorem BF.next{step:V→Nat→V}{n:Nat}{v0:V}{D:List (V × List Nat)}{i:Nat}(B:BF step n v0 D i n):BF step n v0 D (i+1) 0:=
 ⟨B.hd,B.nd,B.way,fun k x h hk=>by
   obtain⟨k',u',p',a,h1,h2,h3,h4,h5⟩:=B.par k x h hk
   exact⟨k',u',p',a,h1,h2,h3,h4,by omega⟩,B.srt,fun k u p h a ha hc=>B.cls k u p h a ha (by omega)⟩
theorem BF.best{step:V→Nat→V}{n:Nat}{v0:V}{D:List (V × List Nat)}(B:BF step n v0 D D.length 0):∀(m:Nat) (w:List Nat),w.length=m→(∀a∈w,a<n)→∃(k:Nat) (x:V × List Nat),D[k]?=some x∧x.1=run step v0 w∧le2 x.2 w:=by
 intro m
 induction m with
 |zero=>
  intro w hw _
  obtain rfl:=aJL.1 hw
  exact⟨0,_,B.hd,rfl,aE6 _⟩
 |succ m ih=>
  intro w hw ha
  have hne:w≠[]:=fun e=>by subst e;simp at hw
  have hsp:=List.dropLast_concat_getLast hne
  generalize w.getLast hne=a at hsp
  generalize w.dropLast=q at hsp
  subst hsp
  obtain⟨k,⟨u,p⟩,h1,h2,h3⟩:=ih q (by simpa using hw) fun b hb=>ha b (by simp[hb])
  simp only at h2 h3
  obtain⟨k',x,h4,h5,h6⟩:=B.cls k u p h1 a (ha a (by simp)) (.inl (ajP.1 h1).1)
  refine⟨k',x,h4,by rw[aP2,h5,h2],aXP h6 (aLD h3 fun _=>ayB _)⟩
theorem BF.pre{step:V→Nat→V}{n:Nat}{v0:V}{D:List (V × List Nat)}{i j:Nat}(B:BF step n v0 D i j){k:Nat}{v:V}{p:List Nat}{a:Nat}(h:D[k]?=some (v,p++[a])):∃k' u,k'<k∧D[k']?=some (u,p)∧v=step u a∧a<n:=by
 have hk:k≠0:=fun e=>by subst e;rw[B.hd]at h;simp at h
 obtain⟨k',u,p',a',h1,h2,h3,h4,_⟩:=B.par k _ h hk
 simp only[Prod.mk.injEq]at h3
 have:=aBS h3.2 rfl
 simp at this
 obtain⟨rfl,rfl⟩:=this
 exact⟨k',u,h1,h2,h3.1,h4⟩
end Bfs
end Go.Ev
namespace Go.Ev
namespace Bfs
structure Ord(A:Type)(lt:A→A→Prop):Prop where
 irr:∀a,¬lt a a
 tr:∀a b c,lt a b→lt b c→lt a c
variable {A V:Type} {lt:A→A→Prop}
def aIQ(lt:A→A→Prop):List A→List A→Prop
 |a::p,b::q=>lt a b∨(a=b∧aIQ lt p q)
 |_,_=>True
theorem aMJ:∀p:List A,aIQ lt p p
 | []=>trivial
 |_::p=>.inr ⟨rfl,aMJ p⟩
theorem aKS(O:Ord A lt):∀{p q r:List A},p.length=q.length→q.length=r.length→aIQ lt p q→aIQ lt q r→aIQ lt p r
 | [],[],[],_,_,_,_=>trivial
 | [],_::_,_,h,_,_,_=>by simp at h
 |_::_,[],_,h,_,_,_=>by simp at h
 |_::_,_::_,[],_,h,_,_=>by simp at h
 | [],[],_::_,_,h,_,_=>by simp at h
 |a::p,b::q,c::r,h1,h2,h3,h4=>by
  simp only[at6,ayS]at h1 h2
  rcases h3 with h3|⟨rfl,h3⟩
  ·rcases h4 with h4|⟨rfl,h4⟩
   ·exact .inl (O.tr _ _ _ h3 h4)
   ·exact .inl h3
  ·rcases h4 with h4|⟨rfl,h4⟩
   ·exact .inl h4
   ·exact .inr ⟨rfl,aKS O h1 h2 h3 h4⟩
theorem azR(O:Ord A lt):∀{p q:List A},p.length=q.length→aIQ lt p q→aIQ lt q p→p=q
 | [],[],_,_,_=>rfl
 | [],_::_,h,_,_=>by simp at h
 |_::_,[],h,_,_=>by simp at h
 |a::p,b::q,h,h1,h2=>by
  simp only[at6,ayS]at h
  rcases h1 with h1|⟨rfl,h1⟩
  ·rcases h2 with h2|⟨rfl,_⟩
   ·exact absurd (O.tr _ _ _ h1 h2) (O.irr _)
   ·exact absurd h1 (O.irr _)
  ·rcases h2 with h2|⟨_,h2⟩
   ·exact absurd h2 (O.irr _)
   ·rw[azR O h h1 h2]
def leA(lt:A→A→Prop)(p q:List A):Prop:=p.length<q.length∨(p.length=q.length∧aIQ lt p q)
theorem aMQ(O:Ord A lt){p q r:List A}(h1:leA lt p q)(h2:leA lt q r):leA lt p r:=by
 rcases h1 with h1|⟨h1,l1⟩
 ·rcases h2 with h2|⟨h2,_⟩
  ·exact .inl (by omega)
  ·exact .inl (by omega)
 ·rcases h2 with h2|⟨h2,l2⟩
  ·exact .inl (by omega)
  ·exact .inr ⟨h1.trans h2,aKS O h1 h2 l1 l2⟩
theorem aOU(O:Ord A lt){p q:List A}(h1:leA lt p q)(h2:leA lt q p):p=q:=by
 rcases h1 with h1|⟨h1,l1⟩
 ·rcases h2 with h2|⟨h2,_⟩<;>omega
 ·rcases h2 with h2|⟨_,l2⟩
  ·omega
  ·exact azR O h1 l1 l2
theorem aSX{g:Nat→A}{n:Nat}(hg:∀i j,i<j→j<n→lt (g i) (g j)):∀{p q:List Nat},(∀a∈q,a<n)→aOZ p q→aIQ lt (p.map g) (q.map g)
 | [],[],_,_=>trivial
 | [],_::_,_,_=>trivial
 |_::_,[],_,_=>trivial
 |a::p,b::q,hb,h=>by
  rcases h with h|⟨rfl,h⟩
  ·exact .inl (hg a b h (hb b (by simp)))
  ·exact .inr ⟨rfl,aSX hg (fun c hc=>hb c (by simp[hc])) h⟩
theorem aU8{g:Nat→A}{n:Nat}(hg:∀i j,i<j→j<n→lt (g i) (g j)){p q:List Nat}(hq:∀a∈q,a<n)(h:le2 p q):leA lt (p.map g) (q.map g):=by
 rcases h with h|⟨h,l⟩
 ·exact .inl (by simpa using h)
 ·exact .inr ⟨by simpa using h,aSX hg hq l⟩
def auQ(stp:V→A→V)(v:V)(w:List A):V:=w.foldl stp v
theorem run_map(stp:V→A→V)(g:Nat→A):∀(w:List Nat) (v:V),auQ stp v (w.map g)=run (fun v i=>stp v (g i)) v w
 | [],_=>rfl
 |a::w,v=>by
  show auQ stp (stp v (g a)) (w.map g)=run _ (stp v (g a)) w
  exact run_map stp g w _
def a4B(lt:A→A→Prop)(stp:V→A→V)(g:Nat→A)(n:Nat)(a:A):Prop:=∃i,i<n∧(∀v,stp v (g i)=stp v a)∧(g i=a∨lt (g i) a)
theorem aP7{stp:V→A→V}{g:Nat→A}{n:Nat}:∀{Q:List A},(∀a∈Q,a4B lt stp g n a)→∀v,∃w:List Nat,w.length=Q.length∧(∀i∈w,i<n)∧auQ stp v (w.map g)=auQ stp v Q∧aIQ lt (w.map g) Q
 | [],_,v=>⟨[],rfl,by simp,rfl,trivial⟩
 |a::Q,h,v=>by
  obtain⟨i,h1,h2,h3⟩:=h a (by simp)
  obtain⟨w,w1,w2,w3,w4⟩:=aP7 (Q:=Q) (fun b hb=>h b (by simp[hb])) (stp v a)
  refine⟨i::w,by simp[w1],fun j hj=>?_,?_,?_⟩
  ·rcases ajS.1 hj with rfl|hj
   ·exact h1
   ·exact w2 j hj
  ·show auQ stp (stp v (g i)) (w.map g)=auQ stp (stp v a) Q
   rw[h2,w3]
  ·rcases h3 with h3|h3
   ·exact .inr ⟨h3,w4⟩
   ·exact .inl h3
theorem BF.labels(O:Ord A lt){stp:V→A→V}{g:Nat→A}{n:Nat}(hg:∀i j,i<j→j<n→lt (g i) (g j)){v0:V}{D:List (V × List Nat)}(B:BF (fun v i=>stp v (g i)) n v0 D D.length 0){Q:List A}(hQ:∀a∈Q,a4B lt stp g n a):∃(k:Nat) (x:V × List Nat),D[k]?=some x∧x.1=auQ stp v0 Q∧leA lt (x.2.map g) Q:=by
 obtain⟨w,w1,w2,w3,w4⟩:=aP7 hQ v0
 obtain⟨k,x,h1,h2,h3⟩:=B.best w.length w rfl w2
 refine⟨k,x,h1,by rw[h2,←run_map,w3],aMQ O (aU8 hg w2 h3) (.inr ⟨by simpa using w1,w4⟩)⟩
theorem BF.same(O:Ord A lt){stp:V→A→V}{g g':Nat→A}{n n':Nat}(hg:∀i j,i<j→j<n→lt (g i) (g j))(hg':∀i j,i<j→j<n'→lt (g' i) (g' j)){v0:V}{D D':List (V × List Nat)}(B:BF (fun v i=>stp v (g i)) n v0 D D.length 0)(B':BF (fun v i=>stp v (g' i)) n' v0 D' D'.length 0)
 (h:∀i,i<n'→a4B lt stp g n (g' i)) (h':∀i,i<n→a4B lt stp g' n' (g i)) {k:Nat} {x:V × List Nat} (hx:D[k]?=some x):∃(k':Nat) (x':V × List Nat),D'[k']?=some x'∧x'.1=x.1∧x'.2.map g'=x.2.map g:=by
 have hw:=B.way k x hx
 have e1:auQ stp v0 (x.2.map g)=x.1:=by rw[run_map];exact hw.1
 obtain⟨k',x',h1,h2,h3⟩:=B'.labels O hg' (Q:=x.2.map g) fun a ha=>by
  obtain⟨i,hi,rfl⟩:=alW.1 ha
  exact h' i (hw.2 i hi)
 have hw':=B'.way k' x' h1
 obtain⟨k2,x2,h4,h5,h6⟩:=B.labels O hg (Q:=x'.2.map g') fun a ha=>by
  obtain⟨i,hi,rfl⟩:=alW.1 ha
  exact h i (hw'.2 i hi)
 have e2:x2.1=x.1:=by
  rw[h5,run_map,hw'.1,h2,e1]
 have ek:=B.nd k2 k x2 x h4 hx e2
 subst ek
 rw[hx]at h4
 cases h4
 exact⟨k',x',h1,by rw[h2,e1],aOU O h3 h6⟩
end Bfs
end Go.Ev
namespace Go.Ev
namespace Bfs
theorem aUX{C:Type}(w:Int→C)(lo:Int):∀(d:Nat) (r:Int),lo≤r→r-lo=d→∃n,lo≤n∧n≤r∧w n=w r∧(n=lo∨w n≠w (n-1)):=by
 intro d
 induction d with
 |zero=>intro r h e;exact⟨r,h,Int.le_refl _,rfl,.inl (by omega)⟩
 |succ d ih=>
  intro r h e
  by_cases hc:w r=w (r-1)
  ·obtain⟨n,h1,h2,h3,h4⟩:=ih (r-1) (by omega) (by omega)
   exact⟨n,h1,by omega,by rw[h3,hc],h4⟩
  ·exact⟨r,h,Int.le_refl _,rfl,.inr hc⟩
structure Sep{C:Type}(lo hi:Int)(w:Int→C)(L:List Int):Prop where
 inc:L.Pairwise (· < ·)
 ok:∀n∈L,lo≤n∧n≤hi
 all:∀r,lo≤r→r≤hi→∃n∈L,n≤r∧w n=w r
def axH{A:Type}(ok:A→Bool)(w:A→Int):List A→List Int→List A
 | [],_=>[]
 |n::l,met=>if ok n=true∧w n∉met then n::axH ok w l (met++[w n])else axH ok w l met
theorem az5{A:Type}{ok:A→Bool}{w:A→Int}:∀{l:List A} {met:List Int} {n:A},n∈axH ok w l met→n∈l∧ok n=true∧w n∉met
 | [],_,_,h=>by cases h
 |a::l,met,n,h=>by
  unfold axH at h
  split at h
  ·rename_i hc
   rcases ajS.1 h with rfl|h
   ·exact⟨by simp,hc⟩
   ·obtain⟨h1,h2,h3⟩:=az5 h
    exact⟨by simp[h1],h2,fun hm=>h3 (by simp[hm])⟩
  ·obtain⟨h1,h2,h3⟩:=az5 h
   exact⟨by simp[h1],h2,h3⟩
theorem aE9{A:Type}{ok:A→Bool}{w:A→Int}{R S:A→A→Prop}(hS:∀a b,R a b→w a≠w b→S a b):∀{l:List A} {met:List Int},l.Pairwise R→(axH ok w l met).Pairwise S
 | [],_,_=>List.Pairwise.nil
 |a::l,met,h=>by
  obtain⟨h1,h2⟩:=auT.1 h
  unfold axH
  split
  ·refine auT.2 ⟨fun b hb=>?_,aE9 hS h2⟩
   obtain⟨m1,_,m3⟩:=az5 hb
   exact hS a b (h1 b m1) fun e=>m3 (by simp[e])
  ·exact aE9 hS h2
theorem aC7{A:Type}{ok:A→Bool}{w:A→Int}{R:A→A→Prop}:∀{l:List A} {met:List Int},l.Pairwise R→∀{a:A},a∈l→ok a=true→w a∈met∨∃b∈axH ok w l met,w b=w a∧(b=a∨R b a)
 | [],_,_,_,h,_=>by cases h
 |b::l,met,hp,a,h,ha=>by
  obtain⟨h1,h2⟩:=auT.1 hp
  unfold axH
  split
  ·rename_i hc
   rcases ajS.1 h with rfl|h
   ·exact .inr ⟨_,by simp,rfl,.inl rfl⟩
   ·rcases aC7 (met:=met++[w b]) h2 h ha with hm|⟨c,c1,c2,c3⟩
    ·rcases anK.1 hm with hm|hm
     ·exact .inl hm
     ·simp only[List.mem_singleton]at hm
      exact .inr ⟨b,by simp,hm.symm,.inr (h1 a h)⟩
    ·exact .inr ⟨c,by simp[c1],c2,c3⟩
  ·rename_i hc
   rcases ajS.1 h with rfl|h
   ·by_cases hm:w a∈met
    ·exact .inl hm
    ·exact absurd ⟨ha,hm⟩ hc
   ·exact aC7 h2 h ha
theorem a33{lo hi:Int}{w:Int→Int}{l:List Int}{ok:Int→Bool}(hok:∀n,ok n=true↔lo≤n∧n≤hi)(hs:l.Pairwise (· ≤·))(h0:lo∈l)(hc:∀n,lo<n→n≤hi→w n≠w (n-1)→n∈l):Sep lo hi w (axH ok w l []):=
 ⟨aE9 (R:=(· ≤·)) (fun a b h1 h2=>by
   have:a≠b:=fun e=>h2 (by rw[e])
   omega) hs,fun n h=>(hok n).1 (az5 h).2.1,fun r h1 h2=>by
   obtain⟨n,a,b,c,d⟩:=aUX w lo (r-lo).toNat r h1 (by omega)
   have hn:n∈l:=by
    rcases d with d|d
    ·rw[d];exact h0
    ·by_cases e:n=lo
     ·rw[e];exact h0
     ·exact hc n (by omega) (by omega) d
   rcases aC7 (ok:=ok) (w:=w) (met:=[]) hs hn ((hok n).2 ⟨a,by omega⟩)with hm|⟨m,m1,m2,m3⟩
   ·cases hm
   ·refine⟨m,m1,?_,by rw[m2,c]⟩
    rcases m3 with m3|m3
    ·omega
    ·have:m≤n:=m3
     omega⟩
def ltR:List Int→List Int→Prop
 |a::p,b::q=>a<b∨(a=b∧ltR p q)
 |_,_=>False
theorem aVF:∀p,¬ltR p p
 | [],h=>h
 |a::p,h=>by
  rcases h with h|⟨_,h⟩
  ·omega
  ·exact aVF p h
theorem aTX:∀{p q r:List Int},ltR p q→ltR q r→ltR p r
 | [],_,_,h,_=>by cases h
 |_::_,[],_,h,_=>by cases h
 |_::_,_::_,[],_,h=>by cases h
 |a::p,b::q,c::r,h1,h2=>by
  rcases h1 with h1|⟨rfl,h1⟩
  ·rcases h2 with h2|⟨rfl,_⟩
   ·exact .inl (by omega)
   ·exact .inl h1
  ·rcases h2 with h2|⟨rfl,h2⟩
   ·exact .inl h2
   ·exact .inr ⟨rfl,aTX h1 h2⟩
def azE:List (List Int)→List (List Int)
 | []=>[[]]
 |l::ls=>l.flatMap fun n=>(azE ls).map (n::·)
theorem axJ{A B:Type}{R:A→A→Prop}{S:B→B→Prop}{f:A→List B}:∀{l:List A},l.Pairwise R→(∀a∈l,(f a).Pairwise S)→(∀a b,R a b→∀x∈f a,∀y∈f b,S x y)→(l.flatMap f).Pairwise S
 | [],_,_,_=>by simp
 |a::l,h,h1,h2=>by
  obtain⟨p1,p2⟩:=auT.1 h
  rw[aFX]
  refine List.pairwise_append.2 ⟨h1 a (by simp),axJ p2 (fun b hb=>h1 b (by simp[hb])) h2,fun x hx y hy=>?_⟩
  obtain⟨b,hb,hy⟩:=ayU.1 hy
  exact h2 a b (p1 b hb) x hx y hy
theorem aP6:∀{ls:List (List Int)},(∀l∈ls,l.Pairwise (· < ·))→(azE ls).Pairwise ltR
 | [],_=>List.pairwise_singleton _ _
 |l::ls,h=>by
  unfold azE
  refine axJ (h l (by simp)) (fun n _=>?_) fun a b hab x hx y hy=>?_
  ·exact aLR.2 ((aP6 fun m hm=>h m (by simp[hm])).imp fun h=>.inr ⟨rfl,h⟩)
  ·obtain⟨p,_,rfl⟩:=alW.1 hx
   obtain⟨q,_,rfl⟩:=alW.1 hy
   exact .inl hab
def Cls{C:Type}(w:Nat→Int→C):Nat→List Int→List Int→Prop
 |_,[],[]=>True
 |k,a::p,b::q=>w k a=w k b∧Cls w (k+1) p q
 |_,_,_=>False
def aFT{C:Type}(lo hi:Int)(w:Nat→Int→C):Nat→List (List Int)→Prop
 |_,[]=>True
 |k,l::ls=>Sep lo hi (w k) l∧aFT lo hi w (k+1) ls
theorem aFT.inc{C:Type}{lo hi:Int}{w:Nat→Int→C}:∀{ls:List (List Int)} {k:Nat},aFT lo hi w k ls→∀l∈ls,l.Pairwise (· < ·)
 |_::_,k,h,l,hl=>by
  rcases ajS.1 hl with rfl|hl
  ·exact h.1.inc
  ·exact aFT.inc h.2 l hl
theorem aFT.row{C:Type}{lo hi:Int}{w:Nat→Int→C}:∀{ls:List (List Int)} {k:Nat},aFT lo hi w k ls→∀p∈azE ls,p.length=ls.length∧∀n∈p,lo≤n∧n≤hi
 | [],_,_,p,hp=>by simp[azE]at hp;subst hp;simp
 |l::ls,k,h,p,hp=>by
  obtain⟨n,hn,hp⟩:=ayU.1 hp
  obtain⟨q,hq,rfl⟩:=alW.1 hp
  obtain⟨h1,h2⟩:=aFT.row h.2 q hq
  refine⟨by simp[h1],fun m hm=>?_⟩
  rcases ajS.1 hm with rfl|hm
  ·exact h.1.ok _ hn
  ·exact h2 m hm
theorem aFT.all{C:Type}{lo hi:Int}{w:Nat→Int→C}:∀{ls:List (List Int)} {k:Nat},aFT lo hi w k ls→∀x:List Int,x.length=ls.length→(∀n∈x,lo≤n∧n≤hi)→∃y∈azE ls,Cls w k y x∧(y=x∨ltR y x)
 | [],_,_,x,hl,_=>by
   obtain rfl:=aJL.1 hl
   exact⟨[],by simp[azE],trivial,.inl rfl⟩
 |l::ls,k,h,[],hl,_=>by simp at hl
 |l::ls,k,h,r::x,hl,hx=>by
  simp only[at6,ayS]at hl
  obtain⟨y,y1,y2,y3⟩:=aFT.all h.2 x hl fun n hn=>hx n (by simp[hn])
  obtain⟨r1,r2⟩:=hx r (by simp)
  obtain⟨n,n1,n2,n3⟩:=h.1.all r r1 r2
  refine⟨n::y,ayU.2 ⟨n,n1,alW.2 ⟨y,y1,rfl⟩⟩,⟨n3,y2⟩,?_⟩
  by_cases e:n=r
  ·subst e
   rcases y3 with rfl|y3
   ·exact .inl rfl
   ·exact .inr (.inr ⟨rfl,y3⟩)
  ·exact .inr (.inl (by omega))
def ltS(a b:List Int × Int):Prop:=ltR a.1 b.1∨(a.1=b.1∧a.2<b.2)
theorem aDO:Ord (List Int × Int) ltS:=⟨fun a h=>by
 rcases h with h|⟨_,h⟩
 ·exact aVF _ h
 ·omega,fun a b c h1 h2=>by
 rcases h1 with h1|⟨e1,h1⟩
 ·rcases h2 with h2|⟨e2,_⟩
  ·exact .inl (aTX h1 h2)
  ·exact .inl (e2▸h1)
 ·rcases h2 with h2|⟨e2,h2⟩
  ·exact .inl (e1▸h2)
  ·exact .inr ⟨e1.trans e2,by omega⟩⟩
def aIG(cs:List Int)(rows:List (List Int)):List (List Int × Int):=rows.flatMap fun r=>cs.map fun c=>(r,c)
theorem a2G{cs:List Int}(hc:cs.Pairwise (· < ·)){rows:List (List Int)}(h:rows.Pairwise ltR):(aIG cs rows).Pairwise ltS:=
 axJ h (fun r _=>aLR.2 (hc.imp fun h=>.inr ⟨rfl,h⟩)) fun a b hab x hx y hy=>by
  obtain⟨c,_,rfl⟩:=alW.1 hx
  obtain⟨d,_,rfl⟩:=alW.1 hy
  exact .inl hab
theorem aM8{cs:List Int}{rows:List (List Int)}{x:List Int × Int}:x∈aIG cs rows↔x.1∈rows∧x.2∈cs:=by
 unfold aIG
 constructor
 ·intro h
  obtain⟨r,hr,h⟩:=ayU.1 h
  obtain⟨c,hc,rfl⟩:=alW.1 h
  exact⟨hr,hc⟩
 ·intro h
  exact ayU.2 ⟨x.1,h.1,alW.2 ⟨x.2,h.2,rfl⟩⟩
theorem a90{A:Type}[Inhabited A]{R:A→A→Prop}{l:List A}(h:l.Pairwise R):∀i j,i<j→j<l.length→R (l.getD i default) (l.getD j default):=fun i j hij hj=>by
 have h1:l.getD i default=l[i]'(by omega):=by rw[aL8,anU (by omega)];rfl
 have h2:l.getD j default=l[j]:=by rw[aL8,anU hj];rfl
 rw[h1,h2]
 exact List.pairwise_iff_getElem.1 h i j (by omega) hj hij
end Bfs
end Go.Ev
namespace Go.Ev
namespace Bfs
section
variable {V:Type} (safe:V→Bool) (sc:V→V→Prop)
def Rn:V→Nat→Prop
 |_,0=>True
 |v,n+1=>safe v=false∧(n=0∨∃w,sc v w∧Rn w n)
end
variable {V:Type} {safe:V→Bool} {sc:V→V→Prop}
theorem aMM{A:Type}:∀{l k:List A},l.Nodup→(∀x∈l,x∈k)→l.length≤k.length
 | [],_,_,_=>by simp
 |a::l,k,h,hs=>by
  obtain⟨h1,h2⟩:=List.nodup_cons.1 h
  obtain⟨s,t,rfl⟩:=List.append_of_mem (hs a (by simp))
  have:=aMM (l:=l) (k:=s++t) h2 fun x hx=>by
   have h3:=hs x (by simp[hx])
   simp only[anK,ajS]at h3 ⊢
   rcases h3 with h3|rfl|h3
   ·exact .inl h3
   ·exact absurd hx h1
   ·exact .inr h3
  simp only[aIU,at6]at this ⊢
  omega
structure IsT(safe:V→Bool)(sc:V→V→Prop)(r:Nat)(v:V)(x:Nat):Prop where
 rn:Rn safe sc v x
 le:x≤r
 top:∀n,n≤r→Rn safe sc v n→n≤x
theorem IsT.zero(v:V):IsT safe sc 0 v 0:=⟨trivial,ayB _,fun _ h _=>h⟩
end Bfs
end Go.Ev
namespace Go.Ev
namespace Bfs
variable {V A:Type} [DecidableEq V] {safe:V→Bool} {sc:V→V→Prop}
end Bfs
end Go.Ev
namespace Go.Ev
namespace Bfs
variable {V A B:Type} [DecidableEq V] {safe:V→Bool} {sc:V→V→Prop}
end Bfs
end Go.Ev
namespace Go.Ev
namespace Bfs
variable {V A:Type} [DecidableEq V] {safe:V→Bool}
end Bfs
end Go.Ev
namespace Go.Ev
noncomputable section
open Go.RowKit
def aTN(x:Int):List Int→List Int
 | []=>[x]
 |y::l=>if x≤y then x::y::l else y::aTN x l
def axW:List Int→List Int
 | []=>[]
 |x::l=>aTN x (axW l)
theorem aHE(x:Int):∀l:List Int,(aTN x l).Perm (x::l)
 | []=>List.Perm.refl _
 |y::l=>by
  unfold aTN
  split
  ·exact List.Perm.refl _
  ·exact((aHE x l).cons y).trans (List.Perm.swap x y l)
theorem aA4:∀l:List Int,(axW l).Perm l
 | []=>List.Perm.refl _
 |x::l=>(aHE x _).trans ((aA4 l).cons x)
theorem aIF(x:Int):∀{l:List Int},l.Pairwise (· ≤·)→(aTN x l).Pairwise (· ≤·)
 | [],_=>by simp[aTN]
 |y::l,h=>by
  rw[auT]at h
  unfold aTN
  split
  ·rename_i hxy
   refine auT.2 ⟨fun z hz=>?_,auT.2 h⟩
   rcases ajS.1 hz with rfl|hz
   ·exact hxy
   ·exact Int.le_trans hxy (h.1 z hz)
  ·rename_i hxy
   refine auT.2 ⟨fun z hz=>?_,aIF x h.2⟩
   rcases ajS.1 ((aHE x l).mem_iff.1 hz)with rfl|hz
   ·omega
   ·exact h.1 z hz
theorem aAZ:∀l:List Int,(axW l).Pairwise (· ≤·)
 | []=>List.Pairwise.nil
 |x::l=>aIF x (aAZ l)
theorem a1L(l:List Int):(l.mergeSort fun x y=>decide (x≤y))=axW l:=by
 have h1:=List.pairwise_mergeSort (le:=fun x y:Int=>decide (x≤y)) (by simp;omega) (by simp;omega) l
 refine List.Perm.eq_of_pairwise (le:=(· ≤·)) (fun a b _ _ h1 h2=>Int.le_antisymm h1 h2) ?_ (aAZ l) ((List.mergeSort_perm l _).trans (aA4 l).symm)
 simpa using h1
theorem aN7(l:List Int):(axW l).length=l.length:=(aA4 l).length_eq
def aCZ:List (List AV)→Option (List Int)
 | []=>some []
 | [.int .i64 n]::l=>(aCZ l).map (n::·)
 |_=>none
theorem aM2:∀{rows:List (List AV)} {l:List Int},aCZ rows=some l→rows=l.map fun n=>[.int .i64 n]
 | [],l,h=>by simp[aCZ]at h;subst h;rfl
 |r::rows,l,h=>by
  unfold aCZ at h
  split at h
  ·rename_i e;cases e
  ·rename_i n l' e
   cases e
   obtain⟨l2,h2,rfl⟩:=adJ.1 h
   rw[aM2 h2];rfl
  ·cases h
theorem aT5(l:List Int):aCZ (l.map fun n=>[.int .i64 n])=some l:=by
 induction l with
 |nil=>rfl
 |cons a l ih=>simp[aCZ,ih]
def aNI:List AV→aaL→Option (Out × aaL)
 | [.slr 1 b 0 len],h=>match h[b]? with
   |some (.live 1 true _ rows)=>if rows.length=len∧1≤len∧len≤549755813888 then(aCZ rows).map fun zs=>(.ret (.tup []),h.set b (.live 1 true true ((axW zs).map fun n=>[.int .i64 n])))else none
   |_=>none
 |_,_=>none
section
variable {P:Program} {G:Nat→Option Obj}
theorem aMB{w:World}{cb:Nat}{c:Array Value}{e:TypeId}{fz:Nat × Nat}(hk:w.heap[cb]?=some (.cells c e fz))(f:Array Value→Array Value):Go.Sort.mapBlock w cb f=setB w cb (.cells (f c) e fz):=by
 unfold Go.Sort.mapBlock setB
 congr 1
 apply Array.ext_getElem?
 intro k
 simp only[Array.getElem?_modify,Array.getElem?_setIfInBounds]
 by_cases h:cb=k
 ·subst h
  have hl:=(Array.getElem?_eq_some_iff.1 hk).1
  rw[if_pos rfl,if_pos rfl,if_pos hl,hk];rfl
 ·rw[if_neg h,if_neg h]
theorem aSW(w:World)(n:Nat):Below w.heap.size w (Go.Sort.ahead w n) where
 os:=rfl
 tape:=rfl
 output:=rfl
 size:=ayB _
 block:=fun _ _=>rfl
theorem a6D{f:Nat}(hen:∀args w,(callFunc f args).run P w=.ok (.enter f args) w)
 (hc:∀(blk off cap:Nat) (zs:List Int) (w:World),Go.Sort.Holds (Value.int .i64) w blk off zs.toArray→blk<w.heap.size→zs.length<4611686018427387904→
   Calls P f #[.slice (some ⟨blk,off,none⟩) zs.length cap] w fun e w'=>e=.returned (.tuple #[])∧∃n os,w'=Go.Sort.grow (Go.Sort.putRow (Value.int .i64) (Go.Sort.ahead w n) blk off (zs.mergeSort fun x y=>decide (x≤y)).toArray) os):aPM P G f aNI:=by
 intro args h out h' hp
 refine⟨hen,fun w S ρ cargs hI H dom all hargs=>?_⟩
 unfold aNI at hp
 split at hp
 ·rename_i b len
  split at hp
  ·rename_i wr rows hg
   split at hp
   ·rename_i hl
    obtain⟨hl1,hl2,hl3⟩:=hl
    obtain⟨zs,hz,hp⟩:=adJ.1 hp
    simp only[Prod.mk.injEq]at hp
    obtain⟨rfl,rfl⟩:=hp
    have hrows:=aM2 hz
    have hzl:zs.length=len:=by rw[←hl1,hrows];simp
    obtain⟨v,vs',e,hv,hn⟩:=hargs.cons_inv
    have:=hn.nil_inv
    subst this
    have ec:cargs=#[v]:=by apply Array.toList_inj.1;rw[e]
    subst ec
    have hbl:b<h.length:=(ajP.1 hg).1
    cases hv with
    |slrD hρ _=>have:=H.dead b hρ;rw[show hf h b=some _ from hg]at this;cases this
    | @slr _ _ _ _ cb co _ sz cap a hρ hle ha=>
      obtain⟨c,e',fz,fl',rows',k1,k2,k3,k4⟩:=H.at_ b cb co 1 sz hρ
      rcases k4 with⟨⟨wr',k4⟩,hS,hfz⟩|⟨k4,_⟩
      ·rw[show hf h b=some _ from hg]at k4
       cases k4
       rcases ha with ha|⟨rfl,hcap⟩
       ·omega
       have hco:co+len≤c.size:=by have:=k3.len;rw[hl1]at this;omega
       have hold:Go.Sort.Holds (Value.int .i64) w cb (co+0*1) zs.toArray:=fun j hj=>by
        have hj':j<zs.length:=by simpa using hj
        have hr:rows[j]?=some [AV.int .i64 zs[j]]:=by rw[hrows,au3,anU hj'];rfl
        obtain⟨v,h1,h2⟩:=k3.cell j _ 0 _ hr rfl
        cases h2
        have hlt:co+j<c.size:=by omega
        refine⟨?_,aNH k1 (hfz _ (by rw[←k2];omega))⟩
        rw[aF6 k1]
        simp only[Nat.zero_mul,aBT]
        have h1':c[co+j]?=some (Value.int .i64 zs[j]):=by simpa using h1
        rw[h1']
        simp[getElem!_pos,hj']
       rw[←hzl]
       refine(hc cb (co+0*1) cap zs w hold (H.lt hρ) (by omega)).mono fun e w' hw=>?_
       obtain⟨rfl,n,os,rfl⟩:=hw
       rw[a1L]
       have hB1:=aSW w n
       have H1:=H.below hB1
       have k1':(Go.Sort.ahead w n).heap[cb]?=some (.cells c e' fz):=k1
       have hsl:=aN7 zs
       generalize axW zs=ys at *
       have hput:Go.Sort.putRow (Value.int .i64) (Go.Sort.ahead w n) cb (co+0*1) ys.toArray=setB (Go.Sort.ahead w n) cb (.cells (Go.Sort.putCells (Value.int .i64) (co+0*1) ys.toArray c) e' fz):=aMB k1' _
       rw[hput]
       have hcs:(Go.Sort.putCells (Value.int .i64) (co+0*1) ys.toArray c).size=c.size:=by simp[Go.Sort.putCells]
       have hblk:am3 (Go.Sort.ahead w n) S ρ (Go.Sort.putCells (Value.int .i64) (co+0*1) ys.toArray c) co 1 true (ys.map fun n=>[.int .i64 n]):=by
        refine⟨by rw[hcs];simp;omega,fun r hr=>?_,fun _ r hr x hx=>?_,fun i r j x hr hx=>?_,fun r hr x hx=>?_⟩
        ·obtain⟨n,_,rfl⟩:=alW.1 hr;rfl
        ·obtain⟨n,_,rfl⟩:=alW.1 hr;simp at hx;subst hx;rfl
        ·rw[au3]at hr
         obtain⟨m,hm,rfl⟩:=adJ.1 hr
         have hi:i<ys.length:=(ajP.1 hm).1
         have hx':j=0∧x=.int .i64 m:=by
          cases j with
          |zero=>simp at hx;exact⟨rfl,hx.symm⟩
          |succ j=>simp at hx
         obtain⟨rfl,rfl⟩:=hx'
         refine⟨.int .i64 m,?_,.int _ _⟩
         simp only[Go.Sort.putCells,Array.getElem?_mapIdx,Nat.mul_one,aBT,Nat.zero_mul,aBT]
         rw[Array.getElem?_eq_getElem (by omega),as6,if_pos ⟨by omega,by simp;omega⟩,show co+i-co=i by omega]
         have:ys[i]?=some m:=hm
         have h2:=ajP.1 hm
         simp[getElem!_pos,h2.1,h2.2]
        ·obtain⟨n,_,rfl⟩:=alW.1 hr;simp at hx;subst hx;rfl
       have H2:=H1.setLive (wr:=true) hρ hS (e:=e') (fz:=fz) (by rw[hcs];exact k2) hfz ⟨_,_,_,k1'⟩ hblk
       have hs2:=Sim.setB (w:=Go.Sort.ahead w n) hρ hS ⟨_,_,_,k1'⟩ (.cells (Go.Sort.putCells (Value.int .i64) (co+0*1) ys.toArray c) e' fz)
       generalize hw2:setB (Go.Sort.ahead w n) cb (.cells (Go.Sort.putCells (Value.int .i64) (co+0*1) ys.toArray c) e' fz)=w2 at *
       have hB3:=aU2 (w:=w2) (ayB _) os
       have H3:=H2.below hB3
       refine⟨.tuple #[],S,ρ,⟨⟨_,rfl⟩,rfl⟩,.tup rfl (fun i x v hx _=>by simp at hx),by rw[aUR hbl];exact H3,((Sim.below H hB1).trans hs2).trans (Sim.below H2 hB3),fun b' hb'=>dom b' (by simpa using hb'),fun b' hb'=>all b' (by simpa using hb'),by simp,fun i x x' hx hx' hsm=>?_⟩
       by_cases e:i=b
       ·subst e
        rw[hg]at hx;cases hx
        rw[ayR hbl]at hx';cases hx'
        simp[CB.same]at hsm
       ·refine⟨rfl,fun cb' co' st' sz' hb'=>?_⟩
        have hne:cb'≠cb:=fun q=>e (H.inj _ _ _ _ _ _ _ _ _ hb' (q▸hρ))
        have hl':cb'<w.heap.size:=H.lt hb'
        have hw2s:w2.heap.size=w.heap.size:=by rw[←hw2];simp[setB,Go.Sort.ahead]
        rw[hB3.block cb' (by rw[hw2s];exact hl'),←hw2,adX hne]
        rfl
      ·rw[show hf h b=some _ from hg]at k4;cases k4
   ·cases hp
  ·cases hp
 ·cases hp
end
end
end Go.Ev
