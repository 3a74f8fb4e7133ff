/- The evaluator and its soundness. -/
import Derived.Test.YtckfcfcmfjfchaaDoorLibD
import Derived.Sort.Grow
open And renaming intro→ao5
open Eq renaming trans→azH
open Option renaming bind_some→aET,map_some→aTT,some→aZA,map_eq_some_iff→aZ7
open Nat renaming le_refl→aI5,zero_le→aLO,add_zero→aZ8
open List renaming mem_cons_self→aL7,mem_cons_of_mem→aM2,all_eq_true→aND,getElem?_eq_some_iff→aTC,mem_cons→aTD,mem_map→aWQ,getElem?_eq_getElem→aWR,foldl_cons→aW1,pairwise_cons→aXQ,replicate→aX2,range→aZI,nil_append→aZM,mem_of_getElem?→aZX,getElem?_of_mem→aZ5,getElem?_nil→a0B,cons_append→a0L,length_cons→a1U,append_nil→a1V,getD_eq_getElem?_getD→a1W,getElem?_set_self→a4V,getElem?_map→a4W
open Bool renaming and_eq_true→aY8
set_option linter.unusedSimpArgs false
set_option linter.unusedVariables false
namespace Go.Ev
noncomputable section
open Go.RowKit
theorem bg6(b:Nat):place [] b=(0,[b]):=azH rfl rfl
theorem bdZ(a b:Nat)(m:List Nat):place (a::m) b=if a=b then(0,a::m)else((place m b).1+1,a::(place m b).2):=by
 unfold place
 rw[List.idxOf?_cons]
 by_cases h:a=b
 ·simp[h]
 ·simp only[h,if_false,beq_iff_eq]
  cases List.idxOf? b m<;>simp
section
variable {P:Program} {O:Orc}
theorem bnJ(d:Nat)(m:List Nat)(b:Bool):aG4 (d+1) m (.bool b)=some (.bool b,m):=azH rfl rfl
theorem brF(d:Nat)(m:List Nat)(k:IntKind)(n:Int):aG4 (d+1) m (.int k n)=some (.int k n,m):=azH rfl rfl
theorem bs5(d:Nat)(m:List Nat)(n:Nat)(fl:Bool)(rows:List (List AV)):aG4 (d+1) m (.imm n fl rows)=some (.imm n fl rows,m):=azH rfl rfl
theorem brX(d:Nat)(m:List Nat)(n:Nat)(fl nn:Bool)(rows:List (List AV)):aG4 (d+1) m (slv n fl nn rows)=some (slv n fl nn rows,m):=aXD m (a0T d n fl nn rows)
theorem br1(d:Nat)(m:List Nat)(b r o:Nat):aG4 (d+1) m (.ptr b r o)=some (.ptr (place m b).1 r o,(place m b).2):=azH rfl rfl
theorem bsI(d:Nat)(m:List Nat)(st b r len:Nat):aG4 (d+1) m (.slr st b r len)=some (.slr st (place m b).1 r len,(place m b).2):=azH rfl rfl
def rfA(x:Option (List AV × List Nat)):Option (AV × List Nat):=x.map fun(cs,m)=>(.agg cs,m)
def rfT(x:Option (List AV × List Nat)):Option (AV × List Nat):=x.map fun(cs,m)=>(.tup cs,m)
theorem bk0(cs:List AV)(m:List Nat):rfA (some (cs,m))=some (.agg cs,m):=azH rfl rfl
theorem bi9(cs:List AV)(m:List Nat):rfT (some (cs,m))=some (.tup cs,m):=azH rfl rfl
theorem brR(d:Nat)(m:List Nat)(cs:List AV):aG4 (d+1) m (.agg cs)=rfA (aG4.refL (aG4 d) m cs):=azH rfl rfl
theorem btQ(d:Nat)(m:List Nat)(cs:List AV):aG4 (d+1) m (.tup cs)=rfT (aG4.refL (aG4 d) m cs):=azH rfl rfl
def rfG(fn:Fn)(a:List AV)(x:Option (List AV × List Nat)):Option (AV × List Nat):=x.map fun(b,m)=>(.func fn a b,m)
def rfF(fn:Fn)(d:Nat)(b:List AV)(x:Option (List AV × List Nat)):Option (AV × List Nat):=x.bind fun(a,m)=>rfG fn a (aG4.refL (aG4 d) m b)
theorem biK(fn:Fn)(a b:List AV)(m:List Nat):rfG fn a (some (b,m))=some (.func fn a b,m):=azH rfl rfl
theorem biV(fn:Fn)(d:Nat)(a b:List AV)(m:List Nat):rfF fn d b (some (a,m))=rfG fn a (aG4.refL (aG4 d) m b):=azH rfl rfl
theorem bnG(d:Nat)(m:List Nat)(fn:Fn)(a b:List AV):aG4 (d+1) m (.func fn a b)=rfF fn d b (aG4.refL (aG4 d) m a):=azH rfl rfl
def rfD(v:AV)(x:Option (List AV × List Nat)):Option (List AV × List Nat):=x.map fun(vs,m)=>(v::vs,m)
def rfC(f:List Nat→AV→Option (AV × List Nat))(vs:List AV)(x:Option (AV × List Nat)):Option (List AV × List Nat):=x.bind fun(v,m)=>rfD v (aG4.refL f m vs)
theorem blO(v:AV)(vs:List AV)(m:List Nat):rfD v (some (vs,m))=some (v::vs,m):=azH rfl rfl
theorem blS(f:List Nat→AV→Option (AV × List Nat))(vs:List AV)(v:AV)(m:List Nat):rfC f vs (some (v,m))=rfD v (aG4.refL f m vs):=azH rfl rfl
theorem bnK(f:List Nat→AV→Option (AV × List Nat))(m:List Nat):aG4.refL f m []=some ([],m):=azH rfl rfl
theorem bl9(f:List Nat→AV→Option (AV × List Nat))(m:List Nat)(v:AV)(vs:List AV):aG4.refL f m (v::vs)=rfC f vs (f m v):=azH rfl rfl
def rrD(cs:List AV)(x:Option (List (List AV) × List Nat)):Option (List (List AV) × List Nat):=x.map fun(rs,m)=>(cs::rs,m)
def rrC(rs:List (List AV))(x:Option (List AV × List Nat)):Option (List (List AV) × List Nat):=x.bind fun(cs,m)=>rrD cs (aYD m rs)
theorem bj8(cs:List AV)(rs:List (List AV))(m:List Nat):rrD cs (some (rs,m))=some (cs::rs,m):=azH rfl rfl
theorem bjR(rs:List (List AV))(cs:List AV)(m:List Nat):rrC rs (some (cs,m))=rrD cs (aYD m rs):=azH rfl rfl
theorem btS(m:List Nat):aYD m []=some ([],m):=azH rfl rfl
theorem bnV(m:List Nat)(cs:List AV)(rs:List (List AV)):aYD m (cs::rs)=rrC rs (aG4.refL (aG4 8) m cs):=azH rfl rfl
def rbV(st:Nat)(w:Bool)(x:Option (List (List AV) × List Nat)):Option (CB × List Nat):=x.map fun(rows,m)=>(.live st false w rows,m)
theorem bjW(st:Nat)(w:Bool)(rows:List (List AV))(m:List Nat):rbV st w (some (rows,m))=some (.live st false w rows,m):=azH rfl rfl
theorem bvH(m:List Nat)(st:Nat)(w:Bool)(rows:List (List AV)):a65 m (.live st true w rows)=some (.live st true w rows,m):=azH rfl rfl
theorem bu5(m:List Nat)(st:Nat)(w:Bool)(rows:List (List AV)):a65 m (.live st false w rows)=rbV st w (aYD m rows):=azH rfl rfl
def pcE(c:CB)(x:Option (List CB × List Nat)):Option (List CB × List Nat):=x.map fun(cs,m)=>(c::cs,m)
def pcR(n:Nat)(h:abY)(i:Nat)(x:Option (CB × List Nat)):Option (List CB × List Nat):=x.bind fun(c,m)=>pcE c (aX6 n (hf h) (i+1) m)
def pcB(n:Nat)(h:abY)(i:Nat)(m:List Nat)(x:Option CB):Option (List CB × List Nat):=x.bind fun c=>pcR n h i (a65 m c)
def pcK(n:Nat)(h:abY)(i:Nat)(m:List Nat)(x:Option Nat):Option (List CB × List Nat):=
 match x with
 |none=>some ([],m)
 |some b=>pcB n h i m (h[b]?)
theorem blF(c:CB)(cs:List CB)(m:List Nat):pcE c (some (cs,m))=some (c::cs,m):=azH rfl rfl
theorem bi2(n:Nat)(h:abY)(i:Nat)(c:CB)(m:List Nat):pcR n h i (some (c,m))=pcE c (aX6 n (hf h) (i+1) m):=azH rfl rfl
theorem biX(n:Nat)(h:abY)(i:Nat)(m:List Nat)(c:CB):pcB n h i m (some c)=pcR n h i (a65 m c):=azH rfl rfl
theorem biS(n:Nat)(h:abY)(i:Nat)(m:List Nat):pcK n h i m none=some ([],m):=azH rfl rfl
theorem biE(n:Nat)(h:abY)(i:Nat)(m:List Nat)(b:Nat):pcK n h i m (some b)=pcB n h i m (h[b]?):=azH rfl rfl
theorem bu3(n:Nat)(h:abY)(i:Nat)(m:List Nat):aX6 (n+1) (hf h) i m=pcK n h i m (m[i]?):=by
 unfold aX6 pcK
 cases m[i]?<;>rfl
def pkB(vs:List AV)(x:Option (List CB × List Nat)):Option (List AV × List CB × List Nat):=x.map fun(cs,m)=>(vs,cs,m)
def pkA(h:abY)(x:Option (List AV × List Nat)):Option (List AV × List CB × List Nat):=x.bind fun(vs,m)=>pkB vs (aX6 5000 (hf h) 0 m)
theorem bjX(vs:List AV)(cs:List CB)(m:List Nat):pkB vs (some (cs,m))=some (vs,cs,m):=azH rfl rfl
theorem bkM(h:abY)(vs:List AV)(m:List Nat):pkA h (some (vs,m))=pkB vs (aX6 5000 (hf h) 0 m):=azH rfl rfl
theorem bv6(h:abY)(m:List Nat)(vs:List AV):aXP (hf h) m vs=pkA h (aG4.refL (aG4 8) m vs):=azH rfl rfl
def upK(h:abY)(lent:List Nat)(v:Option AV)(ps ns:Option (List abZ))(o:AV→Out):OE:=v.bind fun v=>ps.bind fun ps=>ns.bind fun ns=>
 some (o v,(if lent.isEmpty|| !(hasImm 8 v||(ps++ns).any abZ.hasImm)then []else aO7 (hf h) lent)++ps++ns)
def crU(h:abY)(base:Nat)(lent m:List Nat)(cs:List CB)(x:Option (Out × abY)):OE:=
 match x with
 |some (.ret v,h')=>upK h lent (aC3 8 (aM1 m base) v) (aTJ (aM1 m base) m cs (h'.take m.length)) (aWU (aM1 m base) base (h'.drop m.length)) .ret
 |some (.pan v,h')=>upK h lent (aC3 8 (aM1 m base) v) (aTJ (aM1 m base) m cs (h'.take m.length)) (aWU (aM1 m base) base (h'.drop m.length)) .pan
 |none=>none
def crP(O:Orc)(h:abY)(base:Nat)(f:Cal)(lent:List Nat)(x:Option (List AV × List CB × List Nat)):OE:=x.bind fun(vs,cs,m)=>
 if lent.any (m.contains ·)then none else crU h base lent m cs (O.call f vs (cs.map CB.clean))
def crQ(O:Orc)(h:abY)(base:Nat)(f:Cal)(lent:List Nat)(x:Option (List AV)):OE:=x.bind fun vs=>crP O h base f lent (aXP (hf h) [] vs)
theorem bxV(h:abY)(base:Nat)(f:Cal)(args:List AV):cr (a7P O (hf h) base f args)=crQ O h base f (args.flatMap (atQ 12 (hf h))) (ax5 (rdV h) args):=by
 unfold a7P aC2 crQ rdV
 cases ax5 (aWG 12 (hf h)) args with
 |none=>rfl
 |some vs=>
  simp only[aET]
  unfold crP
  cases aXP (hf h) [] vs with
  |none=>rfl
  |some x=>
   obtain⟨vs',cs,m⟩:=x
   simp only[aET]
   split
   ·rfl
   ·cases O.call f vs' (cs.map CB.clean)with
    |none=>rfl
    |some y=>
     obtain⟨out,h'⟩:=y
     simp only[aET,aX3]
     unfold crU upK
     cases out with
     |ret v=>
      simp only[Out.v]
      cases aC3 8 (aM1 m base) v with
      |none=>rfl
      |some v=>
       cases aTJ (aM1 m base) m cs (h'.take m.length)with
       |none=>rfl
       |some ps=>cases aWU (aM1 m base) base (h'.drop m.length)<;>rfl
     |pan v=>
      simp only[Out.v]
      cases aC3 8 (aM1 m base) v with
      |none=>rfl
      |some v=>
       cases aTJ (aM1 m base) m cs (h'.take m.length)with
       |none=>rfl
       |some ps=>cases aWU (aM1 m base) base (h'.drop m.length)<;>rfl
theorem blH(h:abY)(base:Nat)(f:Cal)(lent:List Nat)(vs:List AV):crQ O h base f lent (some vs)=crP O h base f lent (aXP (hf h) [] vs):=azH rfl rfl
theorem bl2(h:abY)(base:Nat)(f:Cal)(lent:List Nat)(vs:List AV)(cs:List CB)(m:List Nat):crP O h base f lent (some (vs,cs,m))=if lent.any (m.contains ·)=true then none else crU h base lent m cs (O.call f vs (cs.map CB.clean)):=azH rfl rfl
theorem bpC(h:abY)(base:Nat)(lent m:List Nat)(cs:List CB)(v:AV)(h':abY):crU h base lent m cs (some (.ret v,h'))=upK h lent (aC3 8 (aM1 m base) v) (aTJ (aM1 m base) m cs (h'.take m.length)) (aWU (aM1 m base) base (h'.drop m.length)) .ret:=azH rfl rfl
theorem bk8(h:abY)(lent:List Nat)(v:AV)(ps ns:List abZ)(o:AV→Out):upK h lent (some v) (some ps) (some ns) o=some (o v,(if(lent.isEmpty|| !(hasImm 8 v||(ps++ns).any abZ.hasImm))=true then []else aO7 (hf h) lent)++ps++ns):=azH rfl rfl
theorem bn1(st:Nat)(fl w:Bool)(rows:List (List AV)):CB.clean (.live st fl w rows)=.live st fl false rows:=azH rfl rfl
theorem boZ(d:Nat)(g:HF)(b:Bool):atQ (d+1) g (.bool b)=[]:=azH rfl rfl
theorem br2(d:Nat)(g:HF)(k:IntKind)(n:Int):atQ (d+1) g (.int k n)=[]:=azH rfl rfl
theorem bs6(d:Nat)(g:HF)(b r o:Nat):atQ (d+1) g (.ptr b r o)=[]:=azH rfl rfl
theorem bnT(d:Nat)(g:HF)(fn:Fn)(a b:List AV):atQ (d+1) g (.func fn a b)=[]:=azH rfl rfl
theorem btK(d:Nat)(g:HF)(n:Nat)(fl nn:Bool)(rows:List (List AV)):atQ (d+1) g (slv n fl nn rows)=[]:=a06 g (d:=1) (by omega) (a0T 0 n fl nn rows)
theorem btO(d:Nat)(g:HF)(cs:List AV):atQ (d+1) g (.agg cs)=cs.flatMap (atQ d g):=azH rfl rfl
def lvS(b:Nat)(c:Option CB)(q:AV→List Nat)(r len:Nat):List Nat:=
 b::match c with
 |some (.live _ fl _ rows)=>if r+len≤rows.length then(if fl then []else((rows.drop r).take len).flatMap fun cs=>cs.flatMap q)else []
 |some (.frz _ fl rows)=>if r+len≤rows.length then(if fl then []else((rows.drop r).take len).flatMap fun cs=>cs.flatMap q)else []
 |_=>[]
theorem brI(d:Nat)(h:abY)(st b r len:Nat):atQ (d+1) (hf h) (.slr st b r len)=lvS b (h[b]?) (atQ d (hf h)) r len:=by
 have e:atQ (d+1) (hf h) (.slr st b r len)=b::(match aS2 (hf h) b r len with|some (_,fl,rows)=>if fl then []else rows.flatMap fun cs=>cs.flatMap (atQ d (hf h))|none=>[]):=rfl
 rw[e]
 generalize atQ d (hf h)=q
 unfold aS2 lvS
 have eh:hf h b=h[b]?:=rfl
 rw[eh]
 cases h[b]? with
 |none=>rfl
 |some c=>
  cases c with
  |live st fl w rows=>simp only;by_cases hq:r+len≤rows.length<;>simp[hq]
  |frz st fl rows=>simp only;by_cases hq:r+len≤rows.length<;>simp[hq]
  |_=>rfl
theorem buK(b:Nat)(st:Nat)(w:Bool)(rows:List (List AV))(q:AV→List Nat)(r len:Nat):lvS b (some (.live st true w rows)) q r len=[b]:=by simp[lvS]
theorem bu8(m:List Nat)(base i:Nat):aM1 m base i=if i<m.length then m.getD i base else base+(i-m.length):=azH rfl rfl
theorem bo3(d:Nat)(f:Nat→Nat)(b:Bool):aC3 (d+1) f (.bool b)=some (.bool b):=azH rfl rfl
theorem btF(d:Nat)(f:Nat→Nat)(k:IntKind)(n:Int):aC3 (d+1) f (.int k n)=some (.int k n):=azH rfl rfl
theorem bsH(d:Nat)(f:Nat→Nat)(n:Nat)(fl nn:Bool)(rows:List (List AV)):aC3 (d+1) f (slv n fl nn rows)=some (slv n fl nn rows):=aYA f (a0T d n fl nn rows)
theorem bq5(d:Nat)(f:Nat→Nat)(b r o:Nat):aC3 (d+1) f (.ptr b r o)=some (.ptr (f b) r o):=azH rfl rfl
theorem bqZ(d:Nat)(f:Nat→Nat)(st b r len:Nat):aC3 (d+1) f (.slr st b r len)=some (.slr st (f b) r len):=azH rfl rfl
def rnA(x:Option (List AV)):Option AV:=x.map .agg
def rnT(x:Option (List AV)):Option AV:=x.map .tup
theorem bmJ(cs:List AV):rnA (some cs)=some (.agg cs):=azH rfl rfl
theorem blJ(cs:List AV):rnT (some cs)=some (.tup cs):=azH rfl rfl
theorem brC(d:Nat)(f:Nat→Nat)(cs:List AV):aC3 (d+1) f (.agg cs)=rnA (ax5 (aC3 d f) cs):=azH rfl rfl
theorem brS(d:Nat)(f:Nat→Nat)(cs:List AV):aC3 (d+1) f (.tup cs)=rnT (ax5 (aC3 d f) cs):=azH rfl rfl
def rnG(fn:Fn)(a:List AV)(x:Option (List AV)):Option AV:=x.map fun b=>.func fn a b
def rnF(fn:Fn)(b:Option (List AV))(x:Option (List AV)):Option AV:=x.bind fun a=>rnG fn a b
theorem blQ(fn:Fn)(a b:List AV):rnG fn a (some b)=some (.func fn a b):=azH rfl rfl
theorem bmA(fn:Fn)(b:Option (List AV))(a:List AV):rnF fn b (some a)=rnG fn a b:=azH rfl rfl
theorem bn0(d:Nat)(f:Nat→Nat)(fn:Fn)(a b:List AV):aC3 (d+1) f (.func fn a b)=rnF fn (ax5 (aC3 d f) b) (ax5 (aC3 d f) a):=azH rfl rfl
def rbW(st:Nat)(w:Bool)(x:Option (List (List AV))):Option CB:=x.map (.live st false w)
theorem bl5(st:Nat)(w:Bool)(rows:List (List AV)):rbW st w (some rows)=some (.live st false w rows):=azH rfl rfl
theorem bvR(f:Nat→Nat)(st:Nat)(w:Bool)(rows:List (List AV)):aXV f (.live st true w rows)=some (.live st true w rows):=azH rfl rfl
theorem buP(f:Nat→Nat)(st:Nat)(w:Bool)(rows:List (List AV)):aXV f (.live st false w rows)=rbW st w (ax5 (ax5 (aC3 8 f)) rows):=azH rfl rfl
def peE(b:Nat)(c:Option CB)(x:Option (List abZ)):Option (List abZ):=c.bind fun c=>x.map fun es=>.put b c::es
def peK(f:Nat→Nat)(b:Nat)(c:CB)(same bad:Bool)(x:Option (List abZ)):Option (List abZ):=bif same then x else bif bad then none else peE b (aXV f c) x
theorem buU(f:Nat→Nat)(b:Nat)(c:CB)(bad:Bool)(x:Option (List abZ)):peK f b c true bad x=x:=azH rfl rfl
theorem bq1(f:Nat→Nat):aTJ f [] [] []=some []:=azH rfl rfl
theorem bo1(f:Nat→Nat)(b:Nat)(m:List Nat)(c₀ c:CB)(cs₀ cs:List CB):aTJ f (b::m) (c₀::cs₀) (c::cs)=peK f b c (c₀.same c) (c.unw|| !c₀.isLive) (aTJ f m cs₀ cs):=by
 conv=>lhs;unfold aTJ
 unfold peK
 cases c₀.same c with
 |true=>rfl
 |false=>
  cases(c.unw|| !c₀.isLive)with
  |true=>rfl
  |false=>
   simp only[cond_false,peE]
theorem boW(a:Nat)(b c:Bool)(r:List (List AV))(st:Nat)(fl w:Bool)(rows:List (List AV)):CB.same (.live a b c r) (.live st fl w rows)= !w:=azH rfl rfl
theorem boC(st:Nat)(fl w:Bool)(rows:List (List AV)):CB.unw (.live st fl w rows)= !w:=azH rfl rfl
theorem bpI(st:Nat)(fl w:Bool)(rows:List (List AV)):CB.isLive (.live st fl w rows)=true:=azH rfl rfl
def neK(base:Nat)(c:Option CB)(x:Option (List abZ)):Option (List abZ):=c.bind fun c=>x.map fun es=>.new base c::es
theorem bmI(base:Nat)(c:CB)(es:List abZ):neK base (some c) (some es)=some (.new base c::es):=azH rfl rfl
theorem brG(f:Nat→Nat)(base:Nat):aWU f base []=some []:=azH rfl rfl
theorem bpB(f:Nat→Nat)(base:Nat)(c:CB)(cs:List CB):aWU f base (c::cs)=neK base (aXV f c) (aWU f (base+1) cs):=azH rfl rfl
theorem bpU(d:Nat)(fn:Fn)(a b:List AV):hasImm (d+1) (.func fn a b)=(a.any (hasImm d)||b.any (hasImm d)):=azH rfl rfl
theorem brE(b:Nat)(c:CB):abZ.hasImm (.new b c)=c.hasImm:=azH rfl rfl
theorem bwJ(st:Nat)(w:Bool)(rows:List (List AV)):CB.hasImm (.live st true w rows)=false:=azH rfl rfl
theorem buN(st:Nat)(w:Bool)(rows:List (List AV)):CB.hasImm (.live st false w rows)=rows.any fun cs=>cs.any (Ev.hasImm 8):=azH rfl rfl
theorem bsC(h:abY)(b r o:Nat):rdV h (.ptr b r o)=some (.ptr b r o):=azH rfl rfl
theorem bnF(h:abY)(cs:List AV):rdV h (.agg cs)=rdA (ax5 (aWG 11 (hf h)) cs):=azH rfl rfl
theorem bgJ(l:List AV):rdA (some l)=some (.agg l):=azH rfl rfl
theorem boO(d:Nat)(h:abY)(b:Bool):aWG (d+1) (hf h) (.bool b)=some (.bool b):=azH rfl rfl
theorem br9(d:Nat)(h:abY)(k:IntKind)(n:Int):aWG (d+1) (hf h) (.int k n)=some (.int k n):=azH rfl rfl
theorem bsV(d:Nat)(h:abY)(n:Nat)(fl nn:Bool)(rows:List (List AV)):aWG (d+1) (hf h) (slv n fl nn rows)=some (slv n fl nn rows):=a0R _ (d:=1) (by omega) (a0T 0 n fl nn rows)
def mfK(f:Nat)(a b:Option (List AV)):OE:=a.bind fun a=>b.bind fun b=>some (.ret (.func (.func f) a b),[])
theorem bj6(f:Nat)(a b:List AV):mfK f (some a) (some b)=some (.ret (.func (.func f) a b),[]):=azH rfl rfl
theorem bwC(t:List AV)(h:abY)(f:Nat)(a b:Array Operand):aMK O P t h (.makeFunc (.func f) a b)=mfK f (avT t a.toList) (avT t b.toList):=by
 rw[aE2 _ _ _ rfl]
 simp only[exec,mfK]
 cases avT t a.toList with
 |none=>rfl
 |some a=>cases avT t b.toList<;>rfl
def msK(n:Nat)(z:AV)(base:Nat)(l c:Option AV):OE:=
 match l,c with
 |some (.int .i64 l),some (.int .i64 c)=>if 0≤l∧l≤c∧c≤2 ^ 40∧(alG z).all AV.isCell=true then some (.ret (.slr n base 0 l.toNat),[.new base (.live n ((alG z).all AV.flat) false (aX2 l.toNat (alG z)))])else none
 |_,_=>none
theorem bjK(n:Nat)(z:AV)(base:Nat)(l c:Int):msK n z base (some (.int .i64 l)) (some (.int .i64 c))=if 0≤l∧l≤c∧c≤2 ^ 40∧(alG z).all AV.isCell=true then some (.ret (.slr n base 0 l.toNat),[.new base (.live n ((alG z).all AV.flat) false (aX2 l.toNat (alG z)))])else none:=azH rfl rfl
def msO(P:Program)(ty:TypeId)(base:Nat)(l c:Option AV):OE:=rD (l.bind fun l=>c.bind fun c=>aTO P base ty l c)
theorem bwF(t:List AV)(h:abY)(ty:TypeId)(l c:Operand):aMK O P t h (.makeSlice ty l c)=msO P ty h.length (ab1 t l) (ab1 t c):=aE2 _ _ _ rfl
theorem bvK{ty e:TypeId}{n b:Nat}{z:AV}(he:a2Z P ty=some e)(hn:szT P e=some n)(hb:byT P e=some b)(hz:aYF P e=some z)(ok:(decide (b≤2 ^ 7)&&decide (n≠0)&&decide ((alG z).length=n))=true)(base:Nat)(l c:Option AV):
 msO P ty base l c=msK n z base l c:=by
 simp only[aY8,decide_eq_true_eq]at ok
 unfold msO msK
 cases l with
 |none=>rfl
 |some l=>
  cases c with
  |none=>cases l<;>first|rfl|(rename_i k _;cases k<;>rfl)
  |some c=>
   simp only[aET,aTO,he,hn,hb,hz]
   cases l with
   |int k l=>
    cases c with
    |int k' c=>
     cases k<;>cases k'<;>first|rfl|skip
     simp only[ok.1.1,ok.1.2,ok.2,ne_eq,not_false_eq_true,true_and]
     split<;>rfl
    |_=>cases k<;>rfl
   |_=>rfl
def srS(q:Nat)(c:Option CB)(r len:Nat):Option (Bool × List (List AV)):=
 match c with
 |some (.live st fl _ rows)=>if r+len≤rows.length∧st=q then some (fl,(rows.drop r).take len)else none
 |some (.frz st fl rows)=>if r+len≤rows.length∧st=q then some (fl,(rows.drop r).take len)else none
 |_=>none
def srK(q:Nat)(h:abY)(x:Option AV):Option (Bool × List (List AV)):=
 match x with
 |some .nils=>some (true,[])
 |some (.imm st fl rows)=>if st=q then some (fl,rows)else none
 |some (.slr _ b r len)=>srS q (h[b]?) r len
 |_=>none
theorem biD(q st:Nat)(fl w:Bool)(rows:List (List AV))(r len:Nat):srS q (some (.live st fl w rows)) r len=if r+len≤rows.length∧st=q then some (fl,(rows.drop r).take len)else none:=azH rfl rfl
theorem biF(q:Nat)(h:abY):srK q h (some .nils)=some (true,[]):=azH rfl rfl
theorem bp6(q:Nat)(h:abY)(st:Nat)(fl:Bool)(rows:List (List AV)):srK q h (some (.imm st fl rows))=if st=q then some (fl,rows)else none:=azH rfl rfl
theorem bfZ(q:Nat)(h:abY)(st b r len:Nat):srK q h (some (.slr st b r len))=srS q (h[b]?) r len:=azH rfl rfl
def apT(n base b r len:Nat)(nfl:Bool)(new:List (List AV))(st:Nat)(fl:Bool)(rows:List (List AV)):OE:=
 if st=n∧r+len≤rows.length∧len+new.length≤2 ^ 39 then some (.ret (.slr st base 0 (len+new.length)),[.put b .dead,.new base (.live st (fl&&nfl) false ((rows.drop r).take len++new))])else none
def apS(n base b r len:Nat)(nfl:Bool)(new:List (List AV))(c:Option CB):OE:=
 match c with
 |some (.live st fl _ rows)=>if st=n∧r+len=rows.length∧len+new.length≤2 ^ 39 then some (.ret (.slr st base 0 (len+new.length)),[.put b .dead,.new base (.live st (fl&&nfl) false (rows.drop r++new))])else apT n base b r len nfl new st fl rows
 |_=>none
theorem bkE(n base b r len:Nat)(nfl:Bool)(new:List (List AV))(st:Nat)(fl w:Bool)(rows:List (List AV)):apS n base b r len nfl new (some (.live st fl w rows))=if st=n∧r+len=rows.length∧len+new.length≤2 ^ 39 then some (.ret (.slr st base 0 (len+new.length)),[.put b .dead,.new base (.live st (fl&&nfl) false (rows.drop r++new))])else apT n base b r len nfl new st fl rows:=azH rfl rfl
def apK(n:Nat)(h:abY)(s:Option AV)(x:Option (Bool × List (List AV))):OE:=
 match s,x with
 |some .nils,some (_,[])=>some (.ret .nils,[])
 |some (.slr a b r l),some (_,[])=>some (.ret (.slr a b r l),[])
 |some (.imm a b r),some (_,[])=>some (.ret (.imm a b r),[])
 |some .nils,some (nfl,r::new)=>if(r::new).length≤2 ^ 39 then some (.ret (.slr n h.length 0 (r::new).length),[.new h.length (.live n nfl false (r::new))])else none
 |some (.slr _ b r len),some (nfl,q::new)=>apS n h.length b r len nfl (q::new) (h[b]?)
 |_,_=>none
theorem btJ(n:Nat)(h:abY)(a b r l:Nat)(nfl:Bool):apK n h (some (.slr a b r l)) (some (nfl,[]))=some (.ret (.slr a b r l),[]):=azH rfl rfl
theorem bj5(n:Nat)(h:abY)(nfl:Bool)(r:List AV)(new:List (List AV)):apK n h (some .nils) (some (nfl,r::new))=if(r::new).length≤2 ^ 39 then some (.ret (.slr n h.length 0 (r::new).length),[.new h.length (.live n nfl false (r::new))])else none:=azH rfl rfl
theorem bkV(n:Nat)(h:abY)(a b r len:Nat)(nfl:Bool)(q:List AV)(new:List (List AV)):apK n h (some (.slr a b r len)) (some (nfl,q::new))=apS n h.length b r len nfl (q::new) (h[b]?):=azH rfl rfl
def apO(P:Program)(ty:TypeId)(h:abY)(s x:Option AV):OE:=rD (s.bind fun s=>x.bind fun x=>aTK P (hf h) h.length ty s x)
theorem bqE(t:List AV)(h:abY)(s x:Operand)(ty ty1 e1:TypeId)(hu:P.underlying ty1=some (.slice e1)):aMK O P t h (.call ⟨.builtin .append,#[s,x],#[ty,ty1]⟩)=apO P ty h (ab1 t s) (ab1 t x):=by
 rw[aE2 _ _ _ rfl]
 simp only[exec,avT,apO]
 cases ab1 t s with
 |none=>rfl
 |some a=>
  cases ab1 t x with
  |none=>rfl
  |some b=>
   simp only[aET,aTT]
   have e0:(#[ty,ty1]:Array TypeId)[0]?=some ty:=rfl
   have e1:(#[ty,ty1]:Array TypeId)[1]?=some ty1:=rfl
   simp only[e0,e1,aET,hu]
theorem bh8{ty e:TypeId}{n b:Nat}{z:AV}(he:a2Z P ty=some e)(hn:szT P e=some n)(hb:byT P e=some b)(hz:aYF P e=some z)(ok:(decide (b≤2 ^ 7)&&decide (n≠0)&&decide ((alG z).length=n))=true)(h:abY)(s x:AV)(hx:∀q,x≠.str q):
 apO P ty h (some s) (some x)=apK n h (some s) (srK n h (some x)):=by
 simp only[aY8,decide_eq_true_eq]at ok
 have hbad:¬(n=0∨2 ^ 7<b∨(alG z).length≠n):=by
  rintro(h1|h1|h1)
  ·exact ok.1.2 h1
  ·omega
  ·exact h1 ok.2
 unfold apO
 simp only[aET,aTK,he,hn,hb,hz]
 have key:∀(nfl:Bool) (new:List (List AV)) (fs:List aH9),rD (if n=0∨2 ^ 7<b∨(alG z).length≠n then none else
  match s,new with
  |s,[]=>match s with
   | .nils| .slr _ _ _ _| .imm _ _ _=>some ⟨s,[],fs⟩
   |_=>none
  | .nils,new=>if new.length≤2 ^ 39 then some ⟨.slr n h.length 0 new.length,[.new h.length (.live n nfl false new)],fs⟩else none
  | .slr _ b r len,new=>
    match hf h b with
    |some (.live st fl _ rows)=>
     if st=n∧r+len≤rows.length∧len+new.length≤2 ^ 39 then
      some ⟨.slr st h.length 0 (len+new.length),[.put b .dead,.new h.length (.live st (fl&&nfl) false ((rows.drop r).take len++new))],.blk b::fs⟩
     else none
    |_=>none
  |_,_=>none)=apK n h (some s) (some (nfl,new)):=fun nfl new fs=>by
  rw[if_neg hbad]
  cases new with
  |nil=>cases s<;>rfl
  |cons q new=>
   cases s with
   |nils=>simp only[bj5];split<;>rfl
   |slr a b r len=>
    simp only[bkV]
    unfold apS
    have eh:hf h b=h[b]?:=rfl
    rw[eh]
    cases h[b]? with
    |none=>rfl
    |some c=>
     cases c with
     |live st fl w rows=>
      simp only
      by_cases h1:st=n∧r+len=rows.length∧len+(q::new).length≤2 ^ 39
      ·rw[if_pos h1,if_pos ⟨h1.1,by omega,h1.2.2⟩,List.take_of_length_le (by simp;omega)]
       rfl
      ·rw[if_neg h1]
       unfold apT
       split<;>rfl
     |_=>rfl
   |_=>rfl
 cases x with
 |nils=>exact key true [] []
 |imm st fl rows=>
  simp only[aDH,bp6,hn,aZA.injEq]
  by_cases hq:n=st
  ·subst hq;simp only[if_true,aET];exact key fl rows []
  ·rw[if_neg hq,if_neg (fun e=>hq e.symm)]
   cases s<;>rfl
 |slr st b' r len=>
  simp only[aDH,bfZ,hn,aS2,srS]
  have eh:hf h b'=h[b']?:=rfl
  rw[eh]
  cases h[b']? with
  |none=>cases s<;>rfl
  |some c=>
   cases c with
   |live st fl w rows=>
    simp only
    by_cases hq:r+len≤rows.length
    ·simp only[hq,if_true,aET,true_and,aZA.injEq]
     by_cases hq2:n=st
     ·subst hq2;simp only[if_true,aET];exact key fl _ _
     ·rw[if_neg hq2,if_neg (fun e=>hq2 e.symm)];cases s<;>rfl
    ·simp only[hq,if_false,false_and];cases s<;>rfl
   |frz st fl rows=>
    simp only
    by_cases hq:r+len≤rows.length
    ·simp only[hq,if_true,aET,true_and,aZA.injEq]
     by_cases hq2:n=st
     ·subst hq2;simp only[if_true,aET];exact key fl _ _
     ·rw[if_neg hq2,if_neg (fun e=>hq2 e.symm)];cases s<;>rfl
    ·simp only[hq,if_false,false_and];cases s<;>rfl
   |_=>cases s<;>rfl
 |str q=>exact(hx q rfl).elim
 |_=>cases s<;>rfl
def rtK(Q:Out→abY→Prop)(x:Option (List AV × List CB × List Nat)):Prop:=
 match x with
 |some ([v],cs,_)=>Q (.ret v) cs
 |_=>False
theorem blD(Q:Out→abY→Prop)(v:AV)(cs:List CB)(m:List Nat):rtK Q (some ([v],cs,m))=Q (.ret v) cs:=azH rfl rfl
theorem bqA{q:Nat}{vs:List AV}{h:abY}{Q:Out→abY→Prop}:Rt q (some vs) h Q=rtK Q (aXP (hf h) (aZI q) [aZ2 vs]):=by
 unfold Rt bnH
 simp only[aET,a0O]
 cases hp:aXP (hf h) (aZI q) [aZ2 vs]with
 |none=>simp[rtK]
 |some x=>
  obtain⟨ws,cs,m⟩:=x
  simp only[aET]
  match ws with
  | [v]=>
    simp only[rtK,aTT]
    exact propext ⟨fun⟨o,h',e,k⟩=>by cases e;exact k,fun k=>⟨_,_,rfl,k⟩⟩
  | []=>simp[rtK]
  |_::_::_=>simp[rtK]
theorem brQ(vs:List AV)(h:abY)(Q:Out→abY→Prop):Rt1 0 (some vs) h Q=rtK Q (aXP (hf h) [] [aZ2 vs]):=bqA
theorem bn6(q:Nat)(vs:List AV)(h:abY)(Q:Out→abY→Prop):Rt (q+1) (some vs) h Q=rtK Q (aXP (hf h) (aZI (q+1)) [aZ2 vs]):=bqA
end
end
noncomputable section
set_option maxRecDepth 100000
def EVi:=PLift.up (ao5 @bg6 (ao5 @bdZ (ao5 @bnJ (ao5 @brF (ao5 @bs5 (ao5 @brX (ao5 @br1 (ao5 @bsI (ao5 @bk0 (ao5 @bi9 (ao5 @brR (ao5 @btQ (ao5 @biK (ao5 @biV (ao5 @bnG (ao5 @blO (ao5 @blS (ao5 @bnK (ao5 @bl9 (ao5 @bj8 (ao5 @bjR (ao5 @btS (ao5 @bnV (ao5 @bjW (ao5 @bvH (ao5 @bu5 (ao5 @blF (ao5 @bi2 (ao5 @biX @biS)))))))))))))))))))))))))))))
def EVj:=PLift.up (ao5 @biE (ao5 @bu3 (ao5 @bjX (ao5 @bkM (ao5 @bv6 (ao5 @bxV (ao5 @blH (ao5 @bl2 (ao5 @bpC (ao5 @bk8 (ao5 @bn1 (ao5 @boZ (ao5 @br2 (ao5 @bs6 (ao5 @bnT (ao5 @btK (ao5 @btO (ao5 @brI (ao5 @buK (ao5 @bu8 (ao5 @bo3 (ao5 @btF (ao5 @bsH (ao5 @bq5 (ao5 @bqZ @bmJ)))))))))))))))))))))))))
def EVk:=PLift.up (ao5 @blJ (ao5 @brC (ao5 @brS (ao5 @blQ (ao5 @bmA (ao5 @bn0 (ao5 @bl5 (ao5 @bvR (ao5 @buP (ao5 @buU (ao5 @bq1 (ao5 @bo1 (ao5 @boW (ao5 @boC (ao5 @bpI (ao5 @bmI (ao5 @brG (ao5 @bpB (ao5 @bpU (ao5 @brE (ao5 @bwJ (ao5 @buN @bsC))))))))))))))))))))))
def EVl:=PLift.up (ao5 @bnF (ao5 @bgJ (ao5 @boO (ao5 @br9 (ao5 @bsV (ao5 @bj6 (ao5 @bwC (ao5 @bjK (ao5 @bwF (ao5 @biD (ao5 @biF (ao5 @bfZ (ao5 @bkE (ao5 @btJ (ao5 @bj5 (ao5 @bkV (ao5 @blD (ao5 @brQ (ao5 @bn6 (ao5 @List.flatMap_cons.{0,0} (ao5 @List.flatMap_nil.{0,0} (ao5 @List.isEmpty_nil.{0} (ao5 @List.getD_cons_zero.{0} (ao5 @List.range_succ (ao5 @List.range_zero (ao5 @List.contains_nil.{0} @List.contains_cons.{0}))))))))))))))))))))))))))
def EVm:=PLift.up (ao5 @a0B.{0} @a0B.{0})
end
noncomputable section
theorem a79(n:Nat)(fl:Bool)(rows:List (List AV)):slv n fl true rows=.imm n fl rows:=by cases rows<;>rfl
section
variable {P:Program} {t e:TypeId} (hu:P.underlying t=some (.slice e))
include hu
end
def btD(v:Option AV)(ns:Option (List abZ)):Option aXJ:=v.bind fun v=>ns.map fun ns=>⟨.ret v,ns,[]⟩
theorem bhU(v:AV)(ns:List abZ):btD (some v) (some ns)=some ⟨.ret v,ns,[]⟩:=azH rfl rfl
theorem bl7(base:Nat)(v:AV)(c:CB)(cs:List CB):ac0 base (some (.ret v,c::cs))=btD (aC3 8 (fun i=>base+i) v) (aWU (fun i=>base+i) base (c::cs)):=by
 simp only[ac0,btD,aET,Out.v,Out.map]
section
variable {O:Orc}
theorem bvY(h:abY)(f:Nat)(args:List AV):shC O h f args=if(a5G args||O.md f)=true then shK h (O.call (.sh f) args (clH h))else cr (aC2 O (hf h) h.length (.fn f) args):=azH rfl rfl
end
theorem bqT(b r o:Nat)(l:List AV):a5G (.ptr b r o::l)=false:=azH rfl rfl
theorem bqR(a b r n:Nat)(l:List AV):a5G (.slr a b r n::l)=false:=azH rfl rfl
theorem bwD(b:Nat)(l:List AV):a5G (.yl b::l)=true:=azH rfl rfl
theorem bt2:clH []=[]:=azH rfl rfl
theorem bnO(c:CB)(h:abY):clH (c::h)=c.clean::clH h:=azH rfl rfl
theorem bsS(h h':abY):clH (h++h')=clH h++clH h':=List.map_append
theorem bq3(h:abY)(b:Nat):(clH h)[b]?=(h[b]?).map CB.clean:=by simp[clH]
theorem bv7(ps:List Nat)(a b:Code)(t:List AV)(st:LSt):CB.clean (.lp ps a b t st)=.lp ps a b t st:=azH rfl rfl
def auH(h:abY):Bool:=h.all fun c=>c.quiet c.clean
theorem beU:∀{h:abY} (_:auH h=true) (i:Nat) (l:abY),aH6 i h (clH h++l)=some (aWP (i+h.length) l)
 | [],_,i,l=>by simp[clH,aH6]
 |c::h,hq,i,l=>by
  simp only[auH,List.all_cons,aY8]at hq
  have ih:=beU (h:=h) hq.2 (i+1) l
  simp only[clH,List.map_cons,a0L,aH6,hq.1,cond_true]at ih ⊢
  rw[ih,a1U]
  congr 2;omega
theorem a9G:∀(cs:List CB) (i:Nat) (h:abY),aCD h (aWP i cs)=h++cs
 | [],i,h=>by simp[aWP,aCD]
 |c::cs,i,h=>by simp[aWP,aCD,aZ1,a9G cs]
theorem baO(h:abY)(o:Out)(h':abY):shK h (some (o,h'))=(aH6 0 h h').map fun es=>(o,es):=azH rfl rfl
def EVo:=PLift.up (ao5 @brN (ao5 @brA (ao5 @bvS (ao5 @bpX (ao5 @bq7 (ao5 @bpD (ao5 @bt1 (ao5 @bqX @bsD))))))))
def EVn:=PLift.up (ao5 @bhU @bl7)
def EVp:=PLift.up (ao5 @bvY (ao5 @bqT (ao5 @bqR (ao5 @bwD (ao5 @bt2 (ao5 @bnO (ao5 @bsS (ao5 @bq3 @bv7))))))))
end
noncomputable section
def aZ0:CB→Option (Nat × Bool × List (List AV))
 | .live st fl _ rows=>some (st,fl,rows)
 | .frz st fl rows=>some (st,fl,rows)
 |_=>none
end
noncomputable section
open Go.RowKit
section
variable {P:Program} {O:Orc} {pr:aYY}
def fnS(P:Program)(rs:List ResultVar)(x:R):Option (Out × abY):=
 match x with
 |some (.normal,s)|some (.ret,s)=>(aZ9 P s rs).map fun vs=>(.ret (aZ2 vs),s.h)
 |some (.pan v,s)=>some (.pan v,s.h)
 |_=>none
theorem btB{f:Nat}{fn:Func}(hf:P.funcs[f]?=some fn){c:Code}(hb:fn.body=some c){args:List AV}(hl:args.length≤fn.ntmps)(h:abY):
 evS O P f args h=fnS P fn.results.toList (evM O P aXE c [] ⟨mk fn.ntmps (ent args),h⟩):=by
 unfold evS
 simp only[hf,hb]
 rw[bkG _ _ hl]
 cases evM O P aXE c [] ⟨mk fn.ntmps (ent args),h⟩with
 |none=>rfl
 |some x=>
  obtain⟨e,s⟩:=x
  cases e<;>rfl
def FnS(P:Program)(rs:List ResultVar)(Q:Out→abY→Prop)(x:R):Prop:=∃o h,fnS P rs x=some (o,h)∧Q o h
def RtS(vs:Option (List AV))(h:abY)(Q:Out→abY→Prop):Prop:=
 match vs with
 |some vs=>Q (.ret (aZ2 vs)) h
 |none=>False
theorem bd2(rs:List ResultVar)(Q:Out→abY→Prop)(t:List AV)(h:abY):FnS P rs Q (some (.ret,⟨t,h⟩))=RtS (aZ9 P ⟨t,h⟩ rs) h Q:=by
 cases hr:aZ9 P ⟨t,h⟩ rs with
 |none=>simp[FnS,fnS,RtS,hr]
 |some vs=>
  have e:fnS P rs (some (.ret,⟨t,h⟩))=some (.ret (aZ2 vs),h):=by simp[fnS,hr]
  exact propext (Iff.intro (fun⟨o,h',e',q⟩=>by rw[e]at e';cases e';exact q) (fun q=>⟨_,_,e,q⟩))
theorem aZN(rs:List ResultVar)(Q:Out→abY→Prop)(t:List AV)(h:abY):FnS P rs Q (some (.normal,⟨t,h⟩))=RtS (aZ9 P ⟨t,h⟩ rs) h Q:=by
 rw[←bd2];rfl
theorem biQ(vs:List AV)(h:abY)(Q:Out→abY→Prop):RtS (some vs) h Q=Q (.ret (aZ2 vs)) h:=azH rfl rfl
theorem blZ{rs:List ResultVar}{Q:Out→abY→Prop}:¬FnS P rs Q none:=fun⟨_,_,h,_⟩=>by simp[fnS]at h
def ShQ(O:Orc)(f:Nat)(args:List AV)(h:abY)(Q:Out→abY→Prop):Prop:=∃o h',O.call (.sh f) args h=some (o,h')∧Q o h'
theorem ShQ.start{f:Nat}{fn:Func}{c:Code}{args:List AV}{h:abY}{Q:Out→abY→Prop}(hp:pr f=none)(hf:P.funcs[f]?=some fn)(hb:fn.body=some c)(hl:Nat.ble args.length fn.ntmps=true)
 (he:FnS P fn.results.toList Q (evM (om P pr) P 5000 c [] ⟨mk fn.ntmps (ent args),h⟩)) (hs:pr.sh f=none:=by exact rfl):ShQ (om P pr) f args h Q:=by
 obtain⟨o,h',e,q⟩:=he
 exact⟨o,h',bqQ hp hs ((btB hf hb (Nat.le_of_ble_eq_true hl) h).trans e),q⟩
theorem ShQ.eq{f:Nat}{args:List AV}{h:abY}{o:Out}{h':abY}(k:ShQ O f args h fun o1 h1=>(o1,h1)=(o,h')):O.call (.sh f) args h=some (o,h'):=by
 obtain⟨o1,h1,e,q⟩:=k
 rw[e,q]
def ncK(x:Option AV):OE:=
 match x with
 |some (.ptr b r o)=>some (.ret (.ptr b r o),[])
 |some (.iptr cs)=>some (.ret (.iptr cs),[])
 |some (.func (.func f) a c)=>some (.ret (.func (.func f) a c),[])
 |_=>none
theorem bqY(b r o:Nat):ncK (some (.ptr b r o))=some (.ret (.ptr b r o),[]):=azH rfl rfl
theorem buQ(t:List AV)(h:abY)(x:Operand):aMK O P t h (.nilCheck x)=ncK (ab1 t x):=by
 rw[aE2 _ _ _ rfl]
 simp only[exec,ncK]
 cases ab1 t x with
 |none=>rfl
 |some v=>
  cases v with
  |func fn a c=>cases fn<;>rfl
  |_=>rfl
end
def EVq:=PLift.up (ao5 @bd2 (ao5 @aZN (ao5 @biQ (ao5 @bqY @buQ))))
end
noncomputable section
open Go.RowKit
section
variable {P:Program} {O:Orc}
end
section
variable {P:Program} (ty:TypeId)
end
theorem baK{α:Type}{f:α→Option α}:∀{l:List α},(∀x∈l,f x=some x)→ax5 f l=some l
 | [],_=>rfl
 |a::l,h=>by simp only[ax5,h a (aL7 ..),aET,baK (fun x hx=>h x (aM2 _ hx)),aTT]
end
noncomputable section
open Go.RowKit
section
variable {P:Program} {O:Orc} {pr:aYY}
def rnX(O:Orc)(P:Program)(n:Nat)(k:List aqG)(t:List AV)(b:Nat)(h2:abY)(x:Option CB):R:=
 match x with
 |some (.lp _ _ _ _ .ready)=>ax4 (evM O P n) k .normal ⟨t,h2.set b .dead⟩
 |some (.lp _ _ _ _ (.done .ret))=>ax4 (evM O P n) k .ret ⟨t,h2.set b .dead⟩
 |some (.lp _ _ _ _ (.done (.exit i)))=>ax4 (evM O P n) k (.exit i) ⟨t,h2.set b .dead⟩
 |_=>none
def rnE(O:Orc)(P:Program)(n:Nat)(k:List aqG)(t:List AV)(b:Nat)(h1:abY)(x:OE):R:=
 match x with
 |some (.ret _,es)=>rnX O P n k t b (aCD h1 es) ((aCD h1 es)[b]?)
 |_=>none
def rnC(O:Orc)(h1:abY)(b:Nat)(fv:Option AV):OE:=
 match fv with
 |some (.func (.func g) a c)=>cr (aMD O (hf h1) h1.length (a0G g (a++[.yl b]++c)) (a++[.yl b]++c))
 |_=>none
theorem buH(n:Nat)(k:List aqG)(t:List AV)(b:Nat)(h1:abY)(x:Option aXJ):
 (x.bind fun d=>match d.out with
   | .ret _=>
     let h2:=aCD h1 d.es
     match h2[b]? with
     |some (.lp _ _ _ _ .ready)=>ax4 (evM O P n) k .normal ⟨t,h2.set b .dead⟩
     |some (.lp _ _ _ _ (.done .ret))=>ax4 (evM O P n) k .ret ⟨t,h2.set b .dead⟩
     |some (.lp _ _ _ _ (.done (.exit i)))=>ax4 (evM O P n) k (.exit i) ⟨t,h2.set b .dead⟩
     |_=>none
   | .pan _=>none)=rnE O P n k t b h1 (cr x):=by
 cases x with
 |none=>rfl
 |some d=>
  obtain⟨o,es,fs⟩:=d
  cases o<;>rfl
theorem bsB(n:Nat)(f:Operand)(ps:Array Nat)(asg body:Code)(k:List aqG)(t:List AV)(h:abY):
 evM O P (n+1) (.rangeFunc f ps asg body) k ⟨t,h⟩=rnE O P n k t h.length (h++[.lp ps.toList asg body t .ready]) (rnC O (h++[.lp ps.toList asg body t .ready]) h.length (ab1 t f)):=by
 simp only[evM,rnC]
 cases ab1 t f with
 |none=>rfl
 |some v=>
  simp only[aET]
  cases v with
  |func fn a c=>
   cases fn with
   |func g=>exact buH n k t h.length _ _
   |_=>rfl
  |_=>rfl
theorem btU(h1:abY)(b g:Nat)(a c:List AV):rnC O h1 b (some (.func (.func g) a c))=if hdR (a++[.yl b]++c)=true then shC O h1 g (a++[.yl b]++c)else cr (aC2 O (hf h1) h1.length (.fn g) (a++[.yl b]++c)):=blU h1 g _
theorem bnP(n:Nat)(k:List aqG)(t:List AV)(b:Nat)(h1:abY)(v:AV)(es:List abZ):rnE O P n k t b h1 (some (.ret v,es))=rnX O P n k t b (aCD h1 es) ((aCD h1 es)[b]?):=azH rfl rfl
theorem bg0(n:Nat)(k:List aqG)(t:List AV)(b:Nat)(h2:abY)(ps:List Nat)(asg body:Code)(tm:List AV):rnX O P n k t b h2 (some (.lp ps asg body tm .ready))=ax4 (evM O P n) k .normal ⟨t,h2.set b .dead⟩:=azH rfl rfl
def slK(h:abY)(b:Nat)(ok:LSt→Bool)(st:LSt)(x:Option CB):Option abY:=
 match x with
 |some (.lp ps asg body tmps st')=>if ok st' then some (h.set b (.lp ps asg body tmps st))else none
 |_=>none
theorem bu0(h:abY)(b:Nat)(ok:LSt→Bool)(st:LSt):aYX h b ok st=slK h b ok st (h[b]?):=by
 unfold aYX slK
 cases h[b]? with
 |none=>rfl
 |some c=>cases c<;>rfl
theorem blW(h:abY)(b:Nat)(st:LSt)(ps:List Nat)(asg body:Code)(tm:List AV):slK h b LSt.isReady st (some (.lp ps asg body tm .ready))=some (h.set b (.lp ps asg body tm st)):=azH rfl rfl
theorem bn9(h:abY)(b:Nat)(st:LSt)(ps:List Nat)(asg body:Code)(tm:List AV):slK h b LSt.isBusy st (some (.lp ps asg body tm .busy))=some (h.set b (.lp ps asg body tm st)):=azH rfl rfl
def bo7(O:Orc)(P:Program)(body:Code)(t:List AV)(x:Option abY):R:=
 match x with
 |some h1=>evM O P 5000 body [] ⟨t,h1⟩
 |none=>none
def bkN(O:Orc)(P:Program)(b:Nat)(body:Code)(x:R):R:=
 match x with
 |some (.normal,s)=>bo7 O P body s.tmps (aYX s.h b LSt.isReady .busy)
 |_=>none
def bb4(r:Bool)(x:Option abY):Option (Out × abY):=x.map fun h2=>(.ret (.bool r),h2)
def bgD(b:Nat)(x:R):Option (Out × abY):=
 match x with
 |some (.normal,s)=>bb4 true (aYX s.h b LSt.isBusy .ready)
 |some (.ret,s)=>bb4 false (aYX s.h b LSt.isBusy (.done .ret))
 |some (.exit i,s)=>bb4 false (aYX s.h b LSt.isBusy (.done (.exit i)))
 |_=>none
theorem bgP(body:Code)(t:List AV)(h:abY):bo7 O P body t (some h)=evM O P 5000 body [] ⟨t,h⟩:=azH rfl rfl
theorem bbW(b:Nat)(body:Code)(t:List AV)(h:abY):bkN O P b body (some (.normal,⟨t,h⟩))=bo7 O P body t (aYX h b LSt.isReady .busy):=azH rfl rfl
theorem bgK(r:Bool)(h:abY):bb4 r (some h)=some (.ret (.bool r),h):=azH rfl rfl
theorem bmP{vs:List AV}{b:Nat}{h:abY}{ps:List Nat}{asg body:Code}{tm:List AV}{st:LSt}(hb:h[b]?=some (.lp ps asg body tm st))(hl:ps.length=vs.length):
 aYG O P (vs++[.yl b]) h=bgD b (bkN O P b body (evM O P 5000 asg [] ⟨aZD tm ps vs,h⟩)):=by
 unfold aYG
 simp only[List.reverse_append,List.reverse_cons,List.reverse_nil,aZM,a0L,List.reverse_reverse,List.length_reverse,hb,hl,if_true,aXE]
 cases evM O P 5000 asg [] ⟨aZD tm ps vs,h⟩with
 |none=>rfl
 |some x=>
  obtain⟨e,s⟩:=x
  cases e with
  |normal=>
   simp only[aET,bkN]
   cases aYX s.h b LSt.isReady .busy with
   |none=>rfl
   |some h1=>
    simp only[aET,bo7]
    cases evM O P 5000 body [] ⟨s.tmps,h1⟩with
    |none=>rfl
    |some y=>
     obtain⟨e,s⟩:=y
     cases e with
     |normal=>simp only[aET,aY4,bgD,bb4];cases aYX s.h b LSt.isBusy .ready<;>rfl
     |ret=>simp only[aET,aY4,bgD,bb4];cases aYX s.h b LSt.isBusy (.done .ret)<;>rfl
     |exit i=>simp only[aET,aY4,bgD,bb4];cases aYX s.h b LSt.isBusy (.done (.exit i))<;>rfl
     |pan v=>rfl
  |_=>rfl
def RnE(b:Nat)(Q:Out→abY→Prop)(x:R):Prop:=∃o h',bgD b x=some (o,h')∧Q o h'
def RnQ(O:Orc)(args:List AV)(h:abY)(Q:Out→abY→Prop):Prop:=∃o h',O.call .round args h=some (o,h')∧Q o h'
theorem RnQ.start{vs:List AV}{b:Nat}{h:abY}{ps:List Nat}{asg body:Code}{tm:List AV}{st:LSt}{Q:Out→abY→Prop}(hb:h[b]?=some (.lp ps asg body tm st))(hl:ps.length=vs.length)
 (he:RnE b Q (bkN (om P pr) P b body (evM (om P pr) P 5000 asg [] ⟨aZD tm ps vs,h⟩))):RnQ (om P pr) (vs++[.yl b]) h Q:=by
 obtain⟨o,h',e,q⟩:=he
 exact⟨o,h',bcO ((bmP hb hl).trans e),q⟩
theorem btN{C:R→Prop}{n f b:Nat}{k:List aqG}{t:List AV}{h1 h2:abY}{args:List AV}{Q:Out→abY→Prop}(hq:ShQ O f args h2 Q)(hk:∀o h',Q o h'→C (rnE O P n k t b h1 (shK h1 (some (o,h'))))):C (rnE O P n k t b h1 (shK h1 (O.call (.sh f) args h2))):=by
 obtain⟨o,h',e,q⟩:=hq
 rw[e];exact hk o h' q
theorem bf9(b:Nat)(Q:Out→abY→Prop)(t:List AV)(h:abY):RnE b Q (some (.normal,⟨t,h⟩))=∃o h',bb4 true (aYX h b LSt.isBusy .ready)=some (o,h')∧Q o h':=azH rfl rfl
theorem blK{b:Nat}{Q:Out→abY→Prop}:¬RnE b Q none:=fun⟨_,_,h,_⟩=>by simp[bgD]at h
theorem bnA(n:Nat)(t:Tm)(p:Nat)(ps:List Nat)(v:AV)(vs:List AV):aZD (mk n t) (p::ps) (v::vs)=aZD (mk n (up t p v)) ps vs:=by
 simp only[aZD,biM]
theorem br0(n:Nat)(t:Tm)(vs:List AV):aZD (mk n t) [] vs=mk n t:=by cases vs<;>rfl
end
section
variable {P:Program} {O:Orc}
end
def EVs:=PLift.up (ao5 @bsB (ao5 @btU (ao5 @bnP (ao5 @bg0 (ao5 @bu0 (ao5 @blW (ao5 @bn9 (ao5 @bgP (ao5 @bbW (ao5 @bgK (ao5 @bf9 (ao5 @bnA @br0))))))))))))
end
noncomputable section
open Go.RowKit
set_option maxRecDepth 100000
def EVZ:=PLift.up (ao5 EVa.down (ao5 EVb.down (ao5 EVc.down (ao5 EVd.down (ao5 EVe.down (ao5 EVf.down (ao5 EVg.down (ao5 EVh.down (ao5 EVi.down (ao5 EVj.down (ao5 EVk.down (ao5 EVl.down (ao5 EVm.down (ao5 EVn.down (ao5 EVo.down (ao5 EVp.down EVq.down))))))))))))))))
section
variable {P:Program} {O:Orc}
class NoN(C:R→Prop):Prop where
 no:¬C none
instance{q:Nat}{rs:List ResultVar}{Q:Out→abY→Prop}:NoN (FnE P q rs Q):=⟨bjT⟩
instance{rs:List ResultVar}{Q:Out→abY→Prop}:NoN (FnS P rs Q):=⟨blZ⟩
instance{N:Nat}{J:Tm→abY→Prop}{Q:Ex→St→Prop}:NoN (Rnd N J Q):=⟨bmC⟩
instance{b:Nat}{Q:Out→abY→Prop}:NoN (RnE b Q):=⟨blK⟩
end
end
noncomputable section
open Go.RowKit
set_option maxRecDepth 100000
section
variable {P:Program} {O:Orc}
class Spl(r:R)(b:outParam Bool)(x y:outParam R):Prop where
 sp:∀{C:R→Prop},(b=true→C x)→(b=false→C y)→C r
instance{n:Nat}{k:List aqG}{d:Option Nat}{op:Op}{cs:List CO}{b w:Bool}{t:List AV}{h:abY}:Spl (rcG O P n k d op cs (.bool b) w t h) b (rcG O P n k d op cs (.bool true) w t h) (rcG O P n k d op cs (.bool false) w t h):=⟨buL⟩
instance{n:Nat}{x y:Code}{k:List aqG}{g:Bool}{s:St}:Spl (cdK O P n x y k (some (.bool g)) s) g (evM O P n x k s) (evM O P n y k s):=⟨bvU⟩
instance{n:Nat}{k:List aqG}{d:Option Nat}{op:Op}{cs:List CO}{b w:Bool}{t:List AV}{h:abY}:Spl (rqG O P n k d op cs (.bool b) w t h) b (rqG O P n k d op cs (.bool true) w t h) (rqG O P n k d op cs (.bool false) w t h):=⟨bv3⟩
instance{n:Nat}{k:List aqG}{d:Option Nat}{op:Op}{cs:List CO}{b w:Bool}{t:List AV}{h:abY}:Spl (rwG O P n k d op cs (.bool b) w t h) b (rwG O P n k d op cs (.bool true) w t h) (rwG O P n k d op cs (.bool false) w t h):=⟨bvW⟩
instance{n:Nat}{k:List aqG}{ops:List Oper}{d:Option Nat}{op:Op}{cs:List CO}{b w:Bool}{t:List AV}{h:abY}{log:Log}:Spl (rlG O P n k ops d op cs (.bool b) w t h log) b (rlG O P n k ops d op cs (.bool true) w t h log) (rlG O P n k ops d op cs (.bool false) w t h log):=⟨buO⟩
theorem fsp{C:R→Prop}{r x y:R}{b:Bool}(h1:b=true→C x)(h2:b=false→C y)(s:Spl r b x y:=by infer_instance):C r:=s.sp h1 h2
class Drw(i:Nat)(r:R)(c:outParam Bool)(r':outParam R):Prop where
 dr:∀{C:R→Prop},¬C none→c=true→C r'→C r
instance{b:Bool}{k:R}:Drw 0 (aV9 b k) b k:=⟨fun _=>bwP⟩
instance{n id:Nat}{ops:Array Oper}{k:List aqG}{t:List AV}{h:abY}:Drw 1 (evM O P (n+1) (.region id ops true) k ⟨t,h⟩) (aYM ops.toList&&be5 ops.toList) (rw O P n k (ops.toList.map (aVG ops.toList)) t h):=⟨fun h=>bwK h⟩
instance{n id:Nat}{ops:Array Oper}{k:List aqG}{t:List AV}{h:abY}:Drw 2 (evM O P (n+1) (.region id ops true) k ⟨t,h⟩) (aYM ops.toList&&bvQ ops.toList) (rq O P n k (ops.toList.map (aVG ops.toList)) t h):=⟨fun h=>buG h⟩
instance{n id:Nat}{ops:Array Oper}{k:List aqG}{t:List AV}{h:abY}:Drw 3 (evM O P (n+1) (.region id ops true) k ⟨t,h⟩) (aYM ops.toList) (rl O P n k ops.toList (ops.toList.map (aVG ops.toList)) t h []):=⟨fun h=>bvO h⟩
structure Dw(r r':R):Prop where
 dr:∀{C:R→Prop},¬C none→C r'→C r
theorem dg{r r':R}{c:Bool}[d:Drw 0 r c r'](h:c=true:=by kernel_rfl):Dw r r':=⟨fun n k=>d.dr n h k⟩
theorem dw(i:Nat){r r':R}{c:Bool}[d:Drw i r c r'](h:c=true:=by decide+kernel):Dw r r':=⟨fun n k=>d.dr n h k⟩
theorem fd{C:R→Prop}{r r':R}[n:NoN C](k:C r')(e:Dw r r':=by first|exact dg|exact dw 1|exact dw 2|exact dw 3):C r:=e.dr n.no k
theorem fdl{C:R→Prop}{r r':R}[n:NoN C](k:C r')(e:Dw r r':=by first|exact dg|exact dw 1|exact dw 3):C r:=e.dr n.no k
end
section
variable {P:Program} {O:Orc}
def Un(O:Orc)(P:Program)(n:Nat)(k:List aqG)(c:Code)(C:R→Prop):R→Prop
 |some (.normal,s)=>C (lpK O P n k (O.loop c s))
 |some (e,s)=>C (ax4 (evM O P n) k e s)
 |none=>False
instance{n:Nat}{k:List aqG}{c:Code}{C:R→Prop}:NoN (Un O P n k c C):=⟨fun h=>h⟩
end
theorem bjB:IntKind.i64.wrap 1=1:=azH rfl rfl
def EE:=PLift.up (ao5 EVZ.down (ao5 @bjB (ao5 @aVG.eq_1 (ao5 @ab1.eq_1 (ao5 @ab1.eq_2 (ao5 @ab1.eq_4 (ao5 @avT.eq_1 (ao5 @avT.eq_2 (ao5 @a86.eq_3 (ao5 @a29.eq_1 (ao5 @a29.eq_2 (ao5 @a29.eq_4 (ao5 @a29.eq_5 (ao5 @a29.eq_6 (ao5 @aCD.eq_1 (ao5 @aCD.eq_2 (ao5 @aZ1.eq_1 (ao5 @aZ1.eq_2 (ao5 @aZ1.eq_3 (ao5 @aXN.eq_1 (ao5 @aAM.eq_1 (ao5 @bsK.eq_1 (ao5 @aZ2.eq_1 (ao5 @aZ2.eq_2 (ao5 @decide_true @decide_false)))))))))))))))))))))))))
def EF:=PLift.up (ao5 EE.down EE.down)
def EG:=PLift.up (ao5 EF.down EVs.down)
end
noncomputable section
open Go.RowKit
end
end Go.Ev
namespace Go.Ev
open Go.RowKit
structure Kp(lent:List Nat)(H H1:abY):Prop where
 len:H.length≤H1.length
 rows:∀b,b<H.length→(hf H1 b).bind aZ0=(hf H b).bind aZ0
 same:∀b,b<H.length→b∉lent→H1[b]?=H[b]?
end Go.Ev
namespace Go.Ev
noncomputable section
open Go.RowKit
theorem hid{C:R→Prop}[n:NoN C]{r:R}(h:∀K:R→Prop,NoN K→(∀x,C x→K x)→K r):C r:=h C n fun _ h=>h
end
noncomputable section
open Go.RowKit
section
variable {P:Program} {O:Orc}
def slx(P:Program)(ty:TypeId)(a:Option AV)(l h:Option (Option AV)):OE:=r1 (a.bind fun a=>l.bind fun l=>h.bind fun h=>a66 P ty a l h)
theorem bk4(t:List AV)(h:abY)(ty:TypeId)(x:Operand)(lo hi:Option Operand):aMK O P t h (.slice ty x lo hi none)=slx P ty (ab1 t x) (a48 t lo) (a48 t hi):=by
 rw[aE2 _ _ _ rfl]
 simp only[exec,slx]
 cases ab1 t x with
 |none=>rfl
 |some a=>
  cases a48 t lo with
  |none=>rfl
  |some l=>
   cases a48 t hi with
   |none=>rfl
   |some h=>exact aWC _
def oS(x:Option AV):Option (Option AV):=x.map some
theorem bnS(v:AV):oS (some v)=some (some v):=azH rfl rfl
theorem bg1(t:List AV):a48 t none=some none:=azH rfl rfl
theorem bg8(t:List AV)(x:Operand):a48 t (some x)=oS (ab1 t x):=azH rfl rfl
end
end
noncomputable section
set_option maxRecDepth 100000
section
variable {P:Program} {G:Nat→Option Obj}
end
section
variable {P:Program}
end
def EVu:=PLift.up (ao5 @bk4 (ao5 @bg1 (ao5 @bg8 @bnS)))
end
noncomputable section
section
variable {α:Type}
end
end
section
def mrg:abY→abY→abY
 | [],h'=>h'
 |c₀::h,[]=>c₀::h
 |c₀::h,c::h'=>(bif c₀.quiet c then c₀ else c.mark)::mrg h h'
def beS(h h':abY):Prop:=h.length≤h'.length∧∀(i:Nat) (c₀ c:CB),h[i]?=some c₀→h'[i]?=some c→c₀.quiet c=true∨c₀.isLive=true
theorem a3P:∀(h h' pre:abY),beS h h'→∃es,aH6 pre.length h h'=some es∧aCD (pre++h) es=pre++mrg h h'
 | [],h',pre,_=>⟨_,rfl,by simp[a9G,mrg]⟩
 |c₀::h,[],pre,ok=>by simp[beS]at ok
 |c₀::h,c::h',pre,ok=>by
  have ok':beS h h':=⟨by simpa using ok.1,fun i a b h1 h2=>ok.2 (i+1) a b (by simpa using h1) (by simpa using h2)⟩
  cases hq:c₀.quiet c with
  |true=>
   obtain⟨es,e1,e2⟩:=a3P h h' (pre++[c₀]) ok'
   refine⟨es,?_,?_⟩
   ·simp only[aH6,hq,cond_true]
    simpa using e1
   ·simpa [mrg,hq]using e2
  |false=>
   have hl:c₀.isLive=true:=by
    rcases ok.2 0 c₀ c rfl rfl with h|h
    ·rw[hq]at h;cases h
    ·exact h
   obtain⟨es,e1,e2⟩:=a3P h h' (pre++[c.mark]) ok'
   refine⟨.put pre.length c.mark::es,?_,?_⟩
   ·simp only[aH6,hq,hl,cond_false,cond_true]
    simp only[List.length_append,a1U,List.length_nil]at e1
    rw[e1];rfl
   ·simp only[aCD,aZ1,mrg,hq,cond_false]
    have:(pre++c₀::h).set pre.length c.mark=(pre++[c.mark])++h:=by simp
    rw[this,e2];simp
theorem a3S:∀{h h':abY},h.length≤h'.length→(mrg h h').length=h'.length
 | [],h',_=>rfl
 |c₀::h,[],hl=>by simp at hl
 |c₀::h,c::h',hl=>by simp[mrg,a3S (h:=h) (h':=h') (by simpa using hl)]
theorem a0V:∀{h h':abY} {i:Nat} {c₀ c:CB},h[i]?=some c₀→h'[i]?=some c→c₀.quiet c=true→(mrg h h')[i]?=some c₀
 | [],h',i,c₀,c,h1,_,_=>by simp at h1
 |a::h,[],i,c₀,c,_,h2,_=>by simp at h2
 |a::h,b::h',0,c₀,c,h1,h2,hq=>by
  simp at h1 h2;subst h1 h2;simp[mrg,hq]
 |a::h,b::h',i+1,c₀,c,h1,h2,hq=>by
  simp at h1 h2;simpa [mrg]using a0V h1 h2 hq
theorem a3T:∀{h h':abY} {i:Nat} {c₀ c:CB},h[i]?=some c₀→h'[i]?=some c→c₀.quiet c=false→(mrg h h')[i]?=some c.mark
 | [],h',i,c₀,c,h1,_,_=>by simp at h1
 |a::h,[],i,c₀,c,_,h2,_=>by simp at h2
 |a::h,b::h',0,c₀,c,h1,h2,hq=>by
  simp at h1 h2;subst h1 h2;simp[mrg,hq]
 |a::h,b::h',i+1,c₀,c,h1,h2,hq=>by
  simp at h1 h2;simpa [mrg]using a3T h1 h2 hq
theorem a6K:∀{h h':abY} {i:Nat},h.length≤h'.length→h.length≤i→(mrg h h')[i]?=h'[i]?
 | [],h',i,_,_=>rfl
 |a::h,[],i,hl,_=>by simp at hl
 |a::h,b::h',0,_,hi=>by simp at hi
 |a::h,b::h',i+1,hl,hi=>by
  simpa [mrg]using a6K (h:=h) (h':=h') (i:=i) (by simpa using hl) (by simpa using hi)
theorem aVJ{h:abY}{i:Nat}{c:CB}(hc:h[i]?=some c):(clH h)[i]?=some c.clean:=by simp[clH,hc]
theorem aIB(h:abY):(clH h).length=h.length:=by simp[clH]
theorem bd1(c:CB):aZ0 c.clean=aZ0 c:=by cases c<;>rfl
theorem bg7(c:CB):aZ0 c.mark=aZ0 c:=by cases c<;>rfl
theorem a6R{O:Orc}{H:abY}{f:Nat}{args:List AV}{Q:Out→abY→Prop}(hd:hdR args=true)(hm:O.md f=true)(K:ShQ O f args (clH H) Q)(ok:∀o G,Q o G→beS H G):
 ∃o G es,cl O H (some (.func (.func f) [] [])) (some args)=some (o,es)∧aCD H es=mrg H G∧Q o G:=by
 obtain⟨o,G,hc,hq⟩:=K
 obtain⟨es,e1,e2⟩:=a3P H G [] (ok o G hq)
 refine⟨o,G,es,?_,by simpa using e2,hq⟩
 rw[bjA]
 simp only[aZM,a1V,hd,if_true,shC,hm,Bool.or_true,hc]
 rw[baO]
 have e1':aH6 0 H G=some es:=e1
 rw[e1'];rfl
structure a33(X:List Nat)(H H1:abY):Prop where
 len:H.length≤H1.length
 same:∀b,b<H.length→b∉X→H1[b]?=H[b]?
theorem a33.app(H l:abY):a33 [] H (H++l):=⟨by simp,fun b hb _=>List.getElem?_append_left hb⟩
end
noncomputable section
open Go.RowKit
theorem bp8{O:Orc}{H:abY}{f:Nat}{args:List AV}{o:Out}{l:abY}(hd:hdR args=true)(hm:O.md f=true)(hc:O.call (.sh f) args (clH H)=some (o,clH H++l))(hq:auH H=true):
 cl O H (some (.func (.func f) [] [])) (some args)=some (o,aWP H.length l):=by
 rw[bjA]
 simp only[aZM,a1V,hd,if_true,shC,hm,Bool.or_true,hc]
 rw[baO,beU hq]
 simp
theorem bo6{O:Orc}{H:abY}{f:Nat}{args:List AV}{o:Out}(hd:hdR args=true)(hm:O.md f=true)(hc:O.call (.sh f) args (clH H)=some (o,clH H))(hq:auH H=true):
 cl O H (some (.func (.func f) [] [])) (some args)=some (o,[]):=by
 have:=bp8 (l:=[]) hd hm (by simpa using hc) hq
 simpa [aWP]using this
theorem a3O{H:abY}(h:∀c∈H,c.quiet c.clean=true):auH H=true:=by simp only[auH,aND];exact h
theorem aTZ{H:abY}(h:auH H=true){b:Nat}{c:CB}(hb:H[b]?=some c):c.quiet c.clean=true:=by
 simp only[auH,aND]at h
 exact h c (aZX hb)
theorem aH8{H l:abY}(h:auH H=true)(hl:auH l=true):auH (H++l)=true:=by
 simp only[auH,aND,List.mem_append]at h hl ⊢
 exact fun c hc=>hc.elim (h c) (hl c)
theorem aMF{H:abY}(h:auH H=true)(b:Nat){c:CB}(hc:c.quiet c.clean=true):auH (H.set b c)=true:=by
 simp only[auH,aND]at h ⊢
 exact fun x hx=>(List.mem_or_eq_of_mem_set hx).elim (h x) (fun e=>e▸hc)
theorem bbK{c:CB}(h:c.quiet c.clean=true):c.clean.quiet c.clean.clean=true:=by cases c<;>first|rfl|exact h
theorem a0Q{H:abY}(h:auH H=true):auH (clH H)=true:=by
 simp only[auH,clH,aND,aWQ]at h ⊢
 rintro c ⟨c0,h0,rfl⟩
 exact bbK (h c0 h0)
theorem a7S{c:CB}(h:c.quiet c.clean=true):c.mark.quiet c.mark.clean=true:=by cases c<;>first|rfl|exact h
theorem aWX{H0 G:abY}{X:List Nat}(hq:auH H0=true)(K:a33 X (clH H0) G)(hX:∀b∈X,b<H0.length∧∀c0 c,H0[b]?=some c0→G[b]?=some c→c0.isLive=true∧c0.quiet c=false):
 beS H0 G∧(mrg H0 G).length=G.length∧(∀b,H0.length≤b→(mrg H0 G)[b]?=G[b]?)∧(∀b,b<H0.length→b∉X→(mrg H0 G)[b]?=H0[b]?)∧(∀b∈X,∀c,G[b]?=some c→(mrg H0 G)[b]?=some c.mark):=by
 have hlen:H0.length≤G.length:=by have:=K.len;rwa[aIB]at this
 have old:∀b c0,H0[b]?=some c0→b∉X→G[b]?=some c0.clean:=fun b c0 h0 hb=>by
  rw[K.same b (by rw[aIB];exact(aTC.1 h0).1) hb,aVJ h0]
 refine⟨⟨hlen,fun b c0 c h0 h1=>?_⟩,a3S hlen,fun b hb=>a6K hlen hb,fun b hb hn=>?_,fun b hb c hc=>?_⟩
 ·by_cases hb:b∈X
  ·exact .inr ((hX b hb).2 c0 c h0 h1).1
  ·rw[old b c0 h0 hb]at h1;cases h1
   exact .inl (aTZ hq h0)
 ·obtain⟨c0,h0⟩:∃c,H0[b]?=some c:=⟨_,aWR hb⟩
  rw[h0];exact a0V h0 (old b c0 h0 hn) (aTZ hq h0)
 ·obtain⟨h1,h2⟩:=hX b hb
  obtain⟨c0,h0⟩:∃c,H0[b]?=some c:=⟨_,aWR h1⟩
  exact a3T h0 hc (h2 c0 c h0 hc).2
theorem a2O{H0 G:abY}{X:List Nat}(hq:auH H0=true)(K:a33 X (clH H0) G)(hX:∀b∈X,b<H0.length∧∀c0 c,H0[b]?=some c0→G[b]?=some c→c0.isLive=true∧c0.quiet c=false)(hg:auH G=true):auH (mrg H0 G)=true:=by
 obtain⟨_,k1,k2,k3,k4⟩:=aWX hq K hX
 refine a3O fun c hc=>?_
 obtain⟨b,hb⟩:=aZ5 hc
 by_cases h1:b<H0.length
 ·by_cases h2:b∈X
  ·obtain⟨c1,h3⟩:∃c,G[b]?=some c:=⟨_,aWR (by rw[←k1];exact(aTC.1 hb).1)⟩
   rw[k4 b h2 c1 h3]at hb;cases hb
   exact a7S (aTZ hg h3)
  ·rw[k3 b h1 h2]at hb;exact aTZ hq hb
 ·rw[k2 b (by omega)]at hb;exact aTZ hg hb
theorem bhE{H0 G:abY}{X:List Nat}(hq:auH H0=true)(K:a33 X (clH H0) G)(hX:∀b∈X,b<H0.length∧∀c0 c,H0[b]?=some c0→G[b]?=some c→c0.isLive=true∧c0.quiet c=false)(b:Nat):(hf (mrg H0 G) b).bind aZ0=(hf G b).bind aZ0:=by
 obtain⟨_,k1,k2,k3,k4⟩:=aWX hq K hX
 show((mrg H0 G)[b]?).bind aZ0=(G[b]?).bind aZ0
 by_cases h1:b<H0.length
 ·by_cases h2:b∈X
  ·cases h3:G[b]? with
   |none=>rw[List.getElem?_eq_none_iff]at h3;have h4:=K.len;rw[aIB]at h4;omega
   |some c1=>rw[k4 b h2 c1 h3];exact bg7 c1
  ·rw[k3 b h1 h2,K.same b (by rw[aIB];exact h1) h2]
   cases h3:H0[b]? with
   |none=>simp[clH,h3]
   |some c=>rw[aVJ h3];exact(bd1 c).symm
 ·rw[k2 b (by omega)]
end
end Go.Ev
namespace Go.Ev
namespace Net
abbrev Edge:=Nat × Nat × Nat
inductive a1M(E:List Edge)(s:Nat):Nat→Nat→Nat→Prop
 |nil (n:Nat):a1M E s n s 0
 |fwd {n a b c k:Nat} (h:a1M E s n a k) (he:(a,b,c)∈E):a1M E s (n+1) b (k+c)
 |bwd {n a b c k:Nat} (h:a1M E s n b k) (he:(a,b,c)∈E):a1M E s (n+1) a (k+c)
def Stp(E:List Edge)(u v c:Nat):Prop:=(u,v,c)∈E∨(v,u,c)∈E
theorem a1M.step{E:List Edge}{s n u v k c:Nat}(h:a1M E s n u k)(hs:Stp E u v c):a1M E s (n+1) v (k+c):=hs.elim (fun e=>.fwd h e) (fun e=>.bwd h e)
theorem a1M.cases'{E:List Edge}{s n v k:Nat}(h:a1M E s n v k):(v=s∧k=0)∨∃m u j c,n=m+1∧a1M E s m u j∧Stp E u v c∧k=j+c:=by
 cases h with
 |nil=>exact .inl ⟨rfl,rfl⟩
 |fwd h he=>exact .inr ⟨_,_,_,_,rfl,h,.inl he,rfl⟩
 |bwd h he=>exact .inr ⟨_,_,_,_,rfl,h,.inr he,rfl⟩
theorem a1M.more{E:List Edge}{s n v k:Nat}(h:a1M E s n v k):∀{m:Nat},n≤m→a1M E s m v k:=by
 induction h with
 |nil n=>exact fun _=>.nil _
 |fwd h he ih=>
  intro m hm
  obtain⟨m,rfl⟩:∃j,m=j+1:=⟨m-1,by omega⟩
  exact .fwd (ih (by omega)) he
 |bwd h he ih=>
  intro m hm
  obtain⟨m,rfl⟩:∃j,m=j+1:=⟨m-1,by omega⟩
  exact .bwd (ih (by omega)) he
def Cst(E:List Edge)(s v k:Nat):Prop:=∃n,a1M E s n v k
theorem Cst.step{E:List Edge}{s u v k c:Nat}(h:Cst E s u k)(hs:Stp E u v c):Cst E s v (k+c):=by obtain⟨n,h⟩:=h;exact⟨_,h.step hs⟩
def Lst(E:List Edge)(s v k:Nat):Prop:=Cst E s v k∧∀j,Cst E s v j→k≤j
theorem least{p:Nat→Prop}:(∃n,p n)→∃n,p n∧∀j,p j→n≤j:=fun⟨n,hn⟩=>by
 induction n using Nat.strongRecOn with
 |ind n ih=>
  by_cases h:∃j,j<n∧p j
  ·obtain⟨j,h1,h2⟩:=h;exact ih j h1 h2
  ·exact⟨n,hn,fun j hj=>Nat.le_of_not_lt fun hlt=>h ⟨j,hlt,hj⟩⟩
theorem Lst.ex{E:List Edge}{s v k:Nat}(h:Cst E s v k):∃j,Lst E s v j:=least ⟨k,h⟩
theorem Lst.eq{E:List Edge}{s v k j:Nat}(h1:Lst E s v k)(h2:Lst E s v j):k=j:=Nat.le_antisymm (h1.2 j h2.1) (h2.2 k h1.1)
def Lvl(E:List Edge)(s n v:Nat):Prop:=∃k,Lst E s v k∧a1M E s n v k
theorem Lvl.more{E:List Edge}{s n m v:Nat}(h:Lvl E s n v)(hm:n≤m):Lvl E s m v:=by obtain⟨k,h1,h2⟩:=h;exact⟨k,h1,h2.more hm⟩
theorem Lvl.prev{E:List Edge}{s n v:Nat}(h:Lvl E s (n+1) v):v=s∨∃u c k,Lvl E s n u∧Lst E s u k∧Stp E u v c∧Lst E s v (k+c):=by
 obtain⟨k,h1,h2⟩:=h
 rcases h2.cases' with⟨h,_⟩|⟨m,u,j,c,hm,hw,hs,rfl⟩
 ·exact .inl h
 ·cases hm
  have hl:Lst E s u j:=⟨⟨_,hw⟩,fun i hi=>by have:=h1.2 _ (hi.step hs);omega⟩
  exact .inr ⟨u,c,j,⟨j,hl,hw⟩,hl,hs,h1⟩
theorem Lvl.next{E:List Edge}{s n u v c k:Nat}(h:Lvl E s n u)(hu:Lst E s u k)(hs:Stp E u v c)(hv:Lst E s v (k+c)):Lvl E s (n+1) v:=by
 obtain⟨j,h1,h2⟩:=h
 cases h1.eq hu
 exact⟨_,hv,h2.step hs⟩
theorem Lst.src{E:List Edge}{s:Nat}:Lst E s s 0:=⟨⟨0,.nil 0⟩,fun j _=>aLO j⟩
theorem Lvl.src{E:List Edge}{s:Nat}(n:Nat):Lvl E s n s:=⟨0,Lst.src,.nil n⟩
theorem Lvl.stable{E:List Edge}{s n:Nat}(h:∀v,Lvl E s (n+1) v→Lvl E s n v):∀m v,Lvl E s m v→Lvl E s n v
 |0,v,hv=>hv.more (aLO n)
 |m+1,v,hv=>by
  rcases hv.prev with rfl|⟨u,c,k,h1,h2,h3,h4⟩
  ·exact Lvl.src n
  ·exact h v ((Lvl.stable h m u h1).next h2 h3 h4)
noncomputable def a6H(p:Nat→Prop):Nat→Nat
 |0=>0
 |N+1=>a6H p N+(@ite Nat (p N) (Classical.propDecidable _) 1 0)
theorem bdO(p:Nat→Prop):∀N,a6H p N≤N
 |0=>aI5 0
 |N+1=>by
  have:=bdO p N
  unfold a6H
  split<;>omega
theorem bbJ{p q:Nat→Prop}(h:∀v,p v→q v):∀N,a6H p N≤a6H q N
 |0=>aI5 0
 |N+1=>by
  have:=bbJ h N
  unfold a6H
  split
  ·rename_i h1;rw[if_pos (h _ h1)];omega
  ·split<;>omega
theorem beE{p q:Nat→Prop}(h:∀v,p v→q v){v:Nat}(hq:q v)(hp:¬p v):∀{N:Nat},v<N→a6H p N+1≤a6H q N
 |0,hv=>by omega
 |N+1,hv=>by
  unfold a6H
  by_cases e:v=N
  ·subst e
   have:=bbJ h v
   rw[if_neg hp,if_pos hq];omega
  ·have:=beE h hq hp (N:=N) (by omega)
   split
   ·rename_i h1;rw[if_pos (h _ h1)];omega
   ·split<;>omega
theorem bfX{p:Nat→Prop}{v:Nat}(hp:p v):∀{N:Nat},v<N→1≤a6H p N
 |0,hv=>by omega
 |N+1,hv=>by
  unfold a6H
  by_cases e:v=N
  ·subst e;rw[if_pos hp];omega
  ·have:=bfX hp (N:=N) (by omega);split<;>omega
theorem bnU{E:List Edge}{s N:Nat}(hs:s<N)(hE:∀a b c,(a,b,c)∈E→a<N∧b<N):∀m v,Lvl E s m v→Lvl E s (N-1) v:=by
 have lt:∀m v,Lvl E s m v→v<N:=fun m=>by
  induction m with
  |zero=>
   intro v ⟨k,_,h⟩
   rcases h.cases' with⟨rfl,_⟩|⟨_,_,_,_,h,_⟩
   ·exact hs
   ·cases h
  |succ m ih=>
   intro v hv
   rcases hv.prev with rfl|⟨u,c,k,h1,h2,h3,h4⟩
   ·exact hs
   ·rcases h3 with h3|h3
    ·exact(hE _ _ _ h3).2
    ·exact(hE _ _ _ h3).1
 have grow:∀n,(∃k,k≤n∧∀v,Lvl E s (k+1) v→Lvl E s k v)∨n+1≤a6H (Lvl E s n) N:=fun n=>by
  induction n with
  |zero=>exact .inr (bfX (Lvl.src 0) hs)
  |succ n ih=>
   rcases ih with⟨k,h1,h2⟩|h
   ·exact .inl ⟨k,by omega,h2⟩
   ·by_cases e:∀v,Lvl E s (n+1) v→Lvl E s n v
    ·exact .inl ⟨n,by omega,e⟩
    ·obtain⟨v,hv⟩:=Classical.not_forall.1 e
     have h1:Lvl E s (n+1) v:=Classical.byContradiction fun h=>hv fun h'=>(h h').elim
     have h2:¬Lvl E s n v:=fun h=>hv fun _=>h
     have:=beE (p:=Lvl E s n) (q:=Lvl E s (n+1)) (fun v h=>h.more (Nat.le_succ n)) h1 h2 (lt _ v h1)
     exact .inr (by omega)
 intro m v hv
 rcases grow N with⟨k,h1,h2⟩|h
 ·by_cases e:k≤N-1
  ·exact(Lvl.stable h2 m v hv).more e
  ·
   have hk:k=N:=by omega
   rcases grow (N-1)with⟨k',h1',h2'⟩|h'
   ·exact(Lvl.stable h2' m v hv).more h1'
   ·exact Classical.byContradiction fun hn=>by
     have:=beE (p:=Lvl E s (N-1)) (q:=fun _=>True) (fun _ _=>trivial) trivial hn (lt _ v hv)
     have:=bdO (fun _=>True) N
     omega
 ·have:=bdO (Lvl E s N) N;omega
theorem Lst.lvl{E:List Edge}{s N v k:Nat}(hs:s<N)(hE:∀a b c,(a,b,c)∈E→a<N∧b<N)(h:Lst E s v k):Lvl E s (N-1) v:=by
 obtain⟨n,hw⟩:=h.1
 exact bnU hs hE n v ⟨k,h,hw⟩
theorem a1M.le{E:List Edge}{s n v k:Nat}(hc:∀a b c,(a,b,c)∈E→c≤1)(h:a1M E s n v k):k≤n:=by
 induction h with
 |nil=>omega
 |fwd h he ih=>have:=hc _ _ _ he;omega
 |bwd h he ih=>have:=hc _ _ _ he;omega
theorem Lst.le{E:List Edge}{s N v k:Nat}(hs:s<N)(hE:∀a b c,(a,b,c)∈E→a<N∧b<N)(hc:∀a b c,(a,b,c)∈E→c≤1)(h:Lst E s v k):k≤N-1:=by
 obtain⟨j,h1,h2⟩:=h.lvl hs hE
 cases h1.eq h
 exact h2.le hc
def a2B(E:List Edge)(s N far:Nat)(d:Nat→Nat):Prop:=∀v,v<N→(∀k,Lst E s v k→d v=k)∧((∀k,¬Cst E s v k)→d v=far)
theorem bkJ{E:List Edge}{s N far:Nat}{d:Nat→Nat}(h0:d s=0)(hr:∀v,v<N→d v=far∨Cst E s v (d v))(hc:∀u v c,Stp E u v c→d v≤d u+c)(hf:∀v k,Lst E s v k→k<far):a2B E s N far d:=fun v hv=>by
 have le:∀n v k,a1M E s n v k→d v≤k:=fun n v k h=>by
  induction h with
  |nil=>omega
  |fwd h he ih=>have:=hc _ _ _ (.inl he);omega
  |bwd h he ih=>have:=hc _ _ _ (.inr he);omega
 refine⟨fun k hk=>?_,fun h=>?_⟩
 ·obtain⟨n,hn⟩:=hk.1
  have h1:=le n v k hn
  rcases hr v hv with h|h
  ·have:=hf v k hk;omega
  ·have:=hk.2 _ h;omega
 ·rcases hr v hv with h1|h1
  ·exact h1
  ·exact(h _ h1).elim
def a1J(d:List Nat)(e:Edge):List Nat:=(d.set e.2.1 (min (d.getD e.2.1 0) (d.getD e.1 0+e.2.2))).set e.1 (min (d.getD e.1 0) (d.getD e.2.1 0+e.2.2))
def boY(E:List Edge)(d:List Nat):List Nat:=E.foldl a1J d
def aZ6(E:List Edge):Nat→List Nat→List Nat
 |0,d=>d
 |n+1,d=>aZ6 E n (boY E d)
theorem a3U(d:List Nat)(e:Edge):(a1J d e).length=d.length:=by simp[a1J]
theorem bcB:∀(E:List Edge) (d:List Nat),(E.foldl a1J d).length=d.length
 | [],d=>rfl
 |e::E,d=>by rw[aW1,bcB E,a3U]
theorem bjI(E:List Edge)(d:List Nat):(boY E d).length=d.length:=bcB E d
theorem a8E(E:List Edge):∀n d,(aZ6 E n d).length=d.length
 |0,d=>rfl
 |n+1,d=>by rw[aZ6,a8E E n,bjI]
theorem a4O{d:List Nat}{i v x:Nat}(hi:i<d.length):(d.set i x).getD v 0=if i=v then x else d.getD v 0:=by
 simp only[a1W]
 by_cases h:i=v
 ·subst h;rw[a4V hi,if_pos rfl];rfl
 ·rw[List.getElem?_set_ne h,if_neg h]
theorem baP{d:List Nat}{a b c:Nat}(ha:a<d.length)(hb:b<d.length)(hab:a≠b)(v:Nat):(a1J d (a,b,c)).getD v 0=if v=a then min (d.getD a 0) (d.getD b 0+c)else if v=b then min (d.getD b 0) (d.getD a 0+c)else d.getD v 0:=by
 unfold a1J
 rw[a4O (by simpa using ha),a4O hb]
 by_cases h1:v=a
 ·subst h1;simp
 ·rw[if_neg (fun e=>h1 e.symm),if_neg h1]
  by_cases h2:v=b
  ·subst h2;simp
  ·rw[if_neg (fun e=>h2 e.symm),if_neg h2]
structure a8F(E:List Edge)(s N far:Nat)(d:List Nat):Prop where
 len:d.length=N
 src:d.getD s 0=0
 real:∀v,v<N→d.getD v 0=far∨Cst E s v (d.getD v 0)
 le:∀v,v<N→d.getD v 0≤far
theorem a8F.one{E:List Edge}{s N far:Nat}{d:List Nat}(I:a8F E s N far d){a b c:Nat}(he:(a,b,c)∈E)(ha:a<N)(hb:b<N)(hab:a≠b):a8F E s N far (a1J d (a,b,c)):=by
 have hl:=I.len
 have at_:=fun v=>baP (d:=d) (c:=c) (by omega) (by omega) hab v
 have mn:∀u v,u<N→v<N→Stp E u v c→(min (d.getD v 0) (d.getD u 0+c)=far∨Cst E s v (min (d.getD v 0) (d.getD u 0+c))):=fun u v hu hv hs=>by
  have h1:=I.le v hv
  rcases Nat.le_total (d.getD v 0) (d.getD u 0+c)with h|h
  ·rw[Nat.min_eq_left h];exact I.real v hv
  ·rw[Nat.min_eq_right h]
   rcases I.real u hu with hh|hh
   ·left;omega
   ·exact .inr (hh.step hs)
 refine⟨by rw[a3U,hl],?_,fun v hv=>?_,fun v hv=>?_⟩
 ·rw[at_]
  have:=I.src
  split
  ·rename_i h;subst h;rw[this];simp
  ·split
   ·rename_i h;subst h;rw[this];simp
   ·exact this
 ·rw[at_]
  split
  ·rename_i h;subst h;exact mn b v hb hv (.inr he)
  ·split
   ·rename_i h;subst h;exact mn a v ha hv (.inl he)
   ·exact I.real v hv
 ·rw[at_]
  split
  ·rename_i h;subst h;have:=I.le v hv;omega
  ·split
   ·rename_i h;subst h;have:=I.le v hv;omega
   ·exact I.le v hv
def EOk(E:List Edge)(N:Nat):Prop:=∀a b c,(a,b,c)∈E→a<N∧b<N∧a≠b∧c≤1
theorem bfM{d:List Nat}{a b c:Nat}(ha:a<d.length)(hb:b<d.length)(hab:a≠b)(v:Nat):(a1J d (a,b,c)).getD v 0≤d.getD v 0:=by
 rw[baP ha hb hab]
 split
 ·rename_i h;subst h;omega
 ·split
  ·rename_i h;subst h;omega
  ·exact aI5 _
theorem baB:∀{L:List Edge} {d:List Nat} {N:Nat},d.length=N→EOk L N→∀v,(L.foldl a1J d).getD v 0≤d.getD v 0
 | [],d,N,_,_,v=>aI5 _
 |(a,b,c)::L,d,N,hl,hE,v=>by
  have h:=hE a b c (aL7 ..)
  have h1:=baB (L:=L) (d:=a1J d (a,b,c)) (by rw[a3U,hl]) (fun a b c hm=>hE a b c (aM2 _ hm)) v
  have h2:=bfM (d:=d) (c:=c) (by omega) (by omega) h.2.2.1 v
  rw[aW1];omega
theorem beB{E:List Edge}{s N far:Nat}:∀{L:List Edge} {d:List Nat},(∀e∈L,e∈E)→EOk E N→a8F E s N far d→a8F E s N far (L.foldl a1J d)
 | [],d,_,_,I=>I
 |(a,b,c)::L,d,hs,hE,I=>by
  have he:=hs _ (aL7 ..)
  have h:=hE a b c he
  rw[aW1]
  exact beB (L:=L) (fun e hm=>hs e (aM2 _ hm)) hE (I.one he h.1 h.2.1 h.2.2.1)
theorem a64{N:Nat}:∀{L:List Edge} {d:List Nat},d.length=N→EOk L N→∀{u v c k:Nat},(u,v,c)∈L∨(v,u,c)∈L→d.getD u 0≤k→(L.foldl a1J d).getD v 0≤k+c
 | [],d,_,_,u,v,c,k,h,_=>by rcases h with h|h<;>cases h
 |(a,b,e)::L,d,hl,hE,u,v,c,k,h,hk=>by
  have q:=hE a b e (aL7 ..)
  have hE':EOk L N:=fun a b c hm=>hE a b c (aM2 _ hm)
  have hl':(a1J d (a,b,e)).length=N:=by rw[a3U,hl]
  have key:(u=a∧v=b∧c=e)∨(u=b∧v=a∧c=e)∨((u,v,c)∈L∨(v,u,c)∈L):=by
   rcases h with h|h
   ·rcases aTD.1 h with h|h
    ·cases h;exact .inl ⟨rfl,rfl,rfl⟩
    ·exact .inr (.inr (.inl h))
   ·rcases aTD.1 h with h|h
    ·cases h;exact .inr (.inl ⟨rfl,rfl,rfl⟩)
    ·exact .inr (.inr (.inr h))
  rw[aW1]
  have at_:=fun v=>baP (d:=d) (c:=e) (by omega) (by omega) q.2.2.1 v
  rcases key with⟨rfl,rfl,rfl⟩|⟨rfl,rfl,rfl⟩|h
  ·have h1:=baB hl' hE' v
   rw[at_ v,if_neg (fun e=>q.2.2.1 e.symm),if_pos rfl]at h1
   omega
  ·have h1:=baB hl' hE' v
   rw[at_ v,if_pos rfl]at h1
   omega
  ·have h2:=bfM (d:=d) (c:=e) (by omega) (by omega) q.2.2.1 u
   exact a64 hl' hE' h (by omega)
theorem a68{E:List Edge}{s N far:Nat}(hE:EOk E N):∀(n:Nat) {d:List Nat},a8F E s N far d→a8F E s N far (aZ6 E n d)
 |0,d,I=>I
 |n+1,d,I=>a68 hE n (beB (fun _ h=>h) hE I)
theorem a3Q(E:List Edge):∀(n:Nat) (d:List Nat),aZ6 E (n+1) d=boY E (aZ6 E n d)
 |0,d=>rfl
 |n+1,d=>by rw[aZ6,a3Q E n];rfl
theorem bbI{E:List Edge}{s N far:Nat}(hE:EOk E N){d:List Nat}(I:a8F E s N far d):∀(n:Nat) {v k:Nat},Lvl E s n v→Lst E s v k→(aZ6 E n d).getD v 0≤k
 |0,v,k,⟨j,h1,h2⟩,hk=>by
  rcases h2.cases' with⟨rfl,rfl⟩|⟨_,_,_,_,h,_⟩
  ·rw[aZ6,I.src];exact aLO _
  ·cases h
 |n+1,v,k,hv,hk=>by
  rw[a3Q]
  have J:=a68 hE n I
  rcases hv.prev with rfl|⟨u,c,j,h1,h2,h3,h4⟩
  ·have K:=a68 hE (n+1) I
   rw[a3Q]at K
   rw[K.src];exact aLO _
  ·cases h4.eq hk
   exact a64 J.len hE h3 (bbI hE I n h1 h2)
theorem bdV{E:List Edge}{s N far:Nat}(hs:s<N)(hE:EOk E N)(hf:N≤far){d:List Nat}(I:a8F E s N far d){n:Nat}(hn:N-1≤n):a2B E s N far (fun v=>(aZ6 E n d).getD v 0):=fun v hv=>by
 have J:=a68 hE n I
 have hE1:∀a b c,(a,b,c)∈E→a<N∧b<N:=fun a b c h=>⟨(hE a b c h).1,(hE a b c h).2.1⟩
 have hE2:∀a b c,(a,b,c)∈E→c≤1:=fun a b c h=>(hE a b c h).2.2.2
 refine⟨fun k hk=>?_,fun h=>?_⟩
 ·have h1:=bbI hE I n ((hk.lvl hs hE1).more hn) hk
  have h2:=hk.le hs hE1 hE2
  rcases J.real v hv with h|h
  ·simp only[h]at h1 ⊢;omega
  ·have:=hk.2 _ h;simp only;omega
 ·rcases J.real v hv with h1|h1
  ·exact h1
  ·exact(h _ h1).elim
end Net
end Go.Ev
namespace Go.Ev
namespace Net
structure DqI(E:List Edge)(s N far:Nat)(d q:List Nat)(X:Nat→Nat→Nat→Prop):Prop where
 i:a8F E s N far d
 w:∀r∈q,r<N
 tr:∀u v c,Stp E u v c→u∈q∨X u v c∨d.getD v 0≤d.getD u 0+c
def a01(E:List Edge)(r i u v c:Nat):Prop:=u=r∧∃j,i≤j∧(E[j]?=some (r,v,c)∨E[j]?=some (v,r,c))
theorem DqI.take{E:List Edge}{s N far:Nat}{d q:List Nat}{r:Nat}(I:DqI E s N far d (r::q) (fun _ _ _=>False)):r<N∧DqI E s N far d q (a01 E r 0):=by
 refine⟨I.w r (aL7 ..),I.i,fun u hu=>I.w u (aM2 _ hu),fun u v c h=>?_⟩
 rcases I.tr u v c h with h1|h1|h1
 ·rcases aTD.1 h1 with rfl|h1
  ·right;left
   refine⟨rfl,?_⟩
   rcases h with h|h
   ·obtain⟨j,hj⟩:=aZ5 h;exact⟨j,aLO j,.inl hj⟩
   ·obtain⟨j,hj⟩:=aZ5 h;exact⟨j,aLO j,.inr hj⟩
  ·exact .inl h1
 ·exact h1.elim
 ·exact .inr (.inr h1)
theorem a01.next{E:List Edge}{r i u v c:Nat}(h:a01 E r i u v c):a01 E r (i+1) u v c∨(u=r∧(E[i]?=some (r,v,c)∨E[i]?=some (v,r,c))):=by
 obtain⟨h1,j,h2,h3⟩:=h
 by_cases e:i=j
 ·subst e;exact .inr ⟨h1,h3⟩
 ·exact .inl ⟨h1,j,by omega,h3⟩
theorem DqI.skip{E:List Edge}{s N far:Nat}{d q:List Nat}{r i a b c:Nat}(I:DqI E s N far d q (a01 E r i))(hi:E[i]?=some (a,b,c))(ha:r≠a)(hb:r≠b):DqI E s N far d q (a01 E r (i+1)):=by
 refine⟨I.i,I.w,fun u v c' h=>?_⟩
 rcases I.tr u v c' h with h1|h1|h1
 ·exact .inl h1
 ·rcases h1.next with h1|⟨_,h2|h2⟩
  ·exact .inr (.inl h1)
  ·rw[hi]at h2;cases h2;exact(ha rfl).elim
  ·rw[hi]at h2;cases h2;exact(hb rfl).elim
 ·exact .inr (.inr h1)
theorem DqI.same{E:List Edge}{s N far:Nat}{d q:List Nat}{r i t c:Nat}(I:DqI E s N far d q (a01 E r i))(hi:E[i]?=some (r,t,c)∨E[i]?=some (t,r,c))(hn:d.getD t 0≤d.getD r 0+c):DqI E s N far d q (a01 E r (i+1)):=by
 refine⟨I.i,I.w,fun u v c' h=>?_⟩
 rcases I.tr u v c' h with h1|h1|h1
 ·exact .inl h1
 ·rcases h1.next with h1|⟨rfl,h2⟩
  ·exact .inr (.inl h1)
  ·right;right
   rcases hi with h3|h3<;>rcases h2 with h2|h2<;>(rw[h3]at h2;cases h2;exact hn)
 ·exact .inr (.inr h1)
theorem DqI.less{E:List Edge}{s N far:Nat}{d q q':List Nat}{r i t c:Nat}(I:DqI E s N far d q (a01 E r i))(hr:r<N)(ht:t<N)(hrt:r≠t)(hi:E[i]?=some (r,t,c)∨E[i]?=some (t,r,c))(hn:d.getD r 0+c<d.getD t 0)(hq:∀x,x∈q'↔x=t∨x∈q):DqI E s N far (d.set t (d.getD r 0+c)) q' (a01 E r (i+1)):=by
 have hl:=I.i.len
 have at_:=fun v=>a4O (d:=d) (v:=v) (x:=d.getD r 0+c) (show t<d.length by omega)
 have hst:Stp E r t c:=hi.elim (fun h=>.inl (aZX h)) (fun h=>.inr (aZX h))
 have hfar:=I.i.le t ht
 have le:∀v,(d.set t (d.getD r 0+c)).getD v 0≤d.getD v 0:=fun v=>by
  rw[at_];split
  ·rename_i h;subst h;omega
  ·exact aI5 _
 refine⟨⟨by simpa using hl,?_,fun v hv=>?_,fun v hv=>?_⟩,fun x hx=>?_,fun u v c' h=>?_⟩
 ·rw[at_];split
  ·rename_i h;subst h;have:=I.i.src;omega
  ·exact I.i.src
 ·rw[at_];split
  ·rename_i h;subst h
   rcases I.i.real r hr with h|h
   ·omega
   ·exact .inr (h.step hst)
  ·exact I.i.real v hv
 ·have:=le v;have:=I.i.le v hv;omega
 ·rcases(hq x).1 hx with rfl|h
  ·exact ht
  ·exact I.w x h
 ·by_cases hu:u=t
  ·exact .inl ((hq u).2 (.inl hu))
  ·have hdu:(d.set t (d.getD r 0+c)).getD u 0=d.getD u 0:=by rw[at_,if_neg (fun e=>hu e.symm)]
   rcases I.tr u v c' h with h1|h1|h1
   ·exact .inl ((hq u).2 (.inr h1))
   ·rcases h1.next with h1|⟨rfl,h2⟩
    ·exact .inr (.inl h1)
    ·right;right
     have hvt:v=t∧c'=c:=by
      rcases hi with h3|h3<;>rcases h2 with h2|h2<;>(rw[h3]at h2;cases h2;first|exact⟨rfl,rfl⟩|exact(hrt rfl).elim)
     obtain⟨rfl,rfl⟩:=hvt
     rw[hdu,at_,if_pos rfl]
     exact aI5 _
   ·right;right
    have:=le v
    rw[hdu];omega
theorem a01.none{E:List Edge}{r i u v c:Nat}(hi:E.length≤i):¬a01 E r i u v c:=fun⟨_,j,h1,h2⟩=>by
 rw[List.getElem?_eq_none (by omega)]at h2
 rcases h2 with h2|h2<;>cases h2
theorem DqI.done{E:List Edge}{s N far:Nat}{d q:List Nat}{r i:Nat}(I:DqI E s N far d q (a01 E r i))(hi:E.length≤i):DqI E s N far d q (fun _ _ _=>False):=
 ⟨I.i,I.w,fun u v c h=>(I.tr u v c h).imp id fun h=>h.elim (fun h=>(a01.none hi h).elim) .inr⟩
theorem boL{d:List Nat}:∀{t x:Nat},t<d.length→(d.set t x).sum+d.getD t 0=d.sum+x:=by
 induction d with
 |nil=>intro t x h;simp at h
 |cons a d ih=>
  intro t x h
  cases t with
  |zero=>simp;omega
  |succ t=>
   have:=ih (t:=t) (x:=x) (by simpa using h)
   simp only[List.set_cons_succ,List.sum_cons,List.getD_cons_succ]
   omega
theorem bmH{d:List Nat}{t x:Nat}(ht:t<d.length)(hx:x<d.getD t 0):(d.set t x).sum<d.sum:=by
 have:=boL (d:=d) (x:=x) ht
 omega
theorem DqI.right{E:List Edge}{s N far:Nat}{d:List Nat}(hs:s<N)(hE:EOk E N)(hf:N≤far)(I:DqI E s N far d [] (fun _ _ _=>False)):a2B E s N far (fun v=>d.getD v 0):=by
 refine bkJ I.i.src I.i.real (fun u v c h=>?_) fun v k hk=>?_
 ·rcases I.tr u v c h with h1|h1|h1
  ·cases h1
  ·exact h1.elim
  ·exact h1
 ·have:=hk.le hs (fun a b c h=>⟨(hE a b c h).1,(hE a b c h).2.1⟩) (fun a b c h=>(hE a b c h).2.2.2)
  omega
theorem a2B.num{E:List Edge}{s N far far':Nat}{d d':Nat→Nat}(h:a2B E s N far d)(h':a2B E s N far' d')(hf:N≤far)(hf':N≤far')(hs:s<N)(hE:EOk E N){v:Nat}(hv:v<N):(d v=far↔d' v=far')∧(d v≠far→d v=d' v)∧(d v≠far→d v<N):=by
 have hE1:∀a b c,(a,b,c)∈E→a<N∧b<N:=fun a b c h=>⟨(hE a b c h).1,(hE a b c h).2.1⟩
 have hE2:∀a b c,(a,b,c)∈E→c≤1:=fun a b c h=>(hE a b c h).2.2.2
 by_cases e:∃k,Cst E s v k
 ·obtain⟨k,hk⟩:=e
  obtain⟨j,hj⟩:=Lst.ex hk
  have h1:=(h v hv).1 j hj
  have h2:=(h' v hv).1 j hj
  have h3:=hj.le hs hE1 hE2
  rw[h1,h2]
  exact⟨⟨fun e=>by omega,fun e=>by omega⟩,fun _=>rfl,fun _=>by omega⟩
 ·have hn:∀k,¬Cst E s v k:=fun k hk=>e ⟨k,hk⟩
  have h1:=(h v hv).2 hn
  have h2:=(h' v hv).2 hn
  rw[h1,h2]
  exact⟨⟨fun _=>rfl,fun _=>rfl⟩,fun h=>(h rfl).elim,fun h=>(h rfl).elim⟩
end Net
end Go.Ev
namespace Go.Ev
namespace Net
def aTG(N s far:Nat):List Nat:=(aX2 N far).set s 0
theorem a6O{N s far v:Nat}(hs:s<N)(hv:v<N):(aTG N s far).getD v 0=if s=v then 0 else far:=by
 unfold aTG
 rw[a4O (by simpa using hs)]
 split
 ·rfl
 ·simp[a1W,hv]
theorem baV{E:List Edge}{N s far:Nat}(hs:s<N):a8F E s N far (aTG N s far):=by
 refine⟨by simp[aTG],by rw[a6O hs hs,if_pos rfl],fun v hv=>?_,fun v hv=>?_⟩
 ·rw[a6O hs hv]
  split
  ·rename_i h;subst h;exact .inr ⟨0,.nil 0⟩
  ·exact .inl rfl
 ·rw[a6O hs hv];split<;>omega
theorem bpY{E:List Edge}{N s far:Nat}(hs:s<N)(hE:EOk E N):DqI E s N far (aTG N s far) [s] (fun _ _ _=>False):=by
 refine⟨baV hs,fun r hr=>by simp at hr;omega,fun u v c h=>?_⟩
 have hb:u<N∧v<N:=h.elim (fun h=>⟨(hE _ _ _ h).1,(hE _ _ _ h).2.1⟩) (fun h=>⟨(hE _ _ _ h).2.1,(hE _ _ _ h).1⟩)
 by_cases e:u=s
 ·exact .inl (by simp[e])
 ·right;right
  rw[a6O hs hb.1,if_neg (fun h=>e h.symm)]
  have:=(baV (E:=E) (far:=far) hs).le v hb.2
  omega
def a97(E:List Edge)(N len:Nat):Nat:=if 1000≤(aZ6 E N (aTG N 0 1000)).getD 1 0 then len+1 else(aZ6 E N (aTG N 0 1000)).getD 1 0
theorem beA{E:List Edge}{N:Nat}(hN:2≤N)(hN2:N≤1000)(hE:EOk E N):a2B E 0 N 1000 (fun v=>(aZ6 E N (aTG N 0 1000)).getD v 0):=
 bdV (by omega) hE hN2 (baV (by omega)) (by omega)
theorem btW{E:List Edge}{N far len:Nat}(hN:2≤N)(hN2:N≤1000)(hf:N≤far)(hE:EOk E N){d:Nat→Nat}(h:a2B E 0 N far d):(if d 1=far then len+1 else d 1)=a97 E N len:=by
 obtain⟨h1,h2,h3⟩:=a2B.num (beA hN hN2 hE) h hN2 hf (by omega) hE (v:=1) (by omega)
 unfold a97
 by_cases e:(aZ6 E N (aTG N 0 1000)).getD 1 0=1000
 ·rw[if_pos (h1.1 e),if_pos (by rw[e];exact aI5 _)]
 ·have:=h3 e
  rw[if_neg (fun h=>e (h1.2 h)),if_neg (by omega)]
  exact(h2 e).symm
end Net
end Go.Ev
namespace Go.Ev
namespace Net
end Net
end Go.Ev
namespace Go.Ev
namespace Net
end Net
end Go.Ev
namespace Go.Ev
noncomputable section
open Go.RowKit
def bdP(x:Int):List Int→List Int
 | []=>[x]
 |y::l=>if x≤y then x::y::l else y::bdP x l
def aZE:List Int→List Int
 | []=>[]
 |x::l=>bdP x (aZE l)
theorem a40(x:Int):∀l:List Int,(bdP x l).Perm (x::l)
 | []=>List.Perm.refl _
 |y::l=>by
  unfold bdP
  split
  ·exact List.Perm.refl _
  ·exact((a40 x l).cons y).trans (List.Perm.swap x y l)
theorem a1C:∀l:List Int,(aZE l).Perm l
 | []=>List.Perm.refl _
 |x::l=>(a40 x _).trans ((a1C l).cons x)
theorem a55(x:Int):∀{l:List Int},l.Pairwise (· ≤·)→(bdP x l).Pairwise (· ≤·)
 | [],_=>by simp[bdP]
 |y::l,h=>by
  rw[aXQ]at h
  unfold bdP
  split
  ·rename_i hxy
   refine aXQ.2 ⟨fun z hz=>?_,aXQ.2 h⟩
   rcases aTD.1 hz with rfl|hz
   ·exact hxy
   ·exact Int.le_trans hxy (h.1 z hz)
  ·rename_i hxy
   refine aXQ.2 ⟨fun z hz=>?_,a55 x h.2⟩
   rcases aTD.1 ((a40 x l).mem_iff.1 hz)with rfl|hz
   ·omega
   ·exact h.1 z hz
theorem a09:∀l:List Int,(aZE l).Pairwise (· ≤·)
 | []=>List.Pairwise.nil
 |x::l=>a55 x (a09 l)
theorem bj7(l:List Int):(l.mergeSort fun x y=>decide (x≤y))=aZE l:=by
 have h1:=List.pairwise_mergeSort (le:=fun x y:Int=>decide (x≤y)) (by simp;omega) (by simp;omega) l
 refine List.Perm.eq_of_pairwise (le:=(· ≤·)) (fun a b _ _ h1 h2=>Int.le_antisymm h1 h2) ?_ (a09 l) ((List.mergeSort_perm l _).trans (a1C l).symm)
 simpa using h1
theorem a9R(l:List Int):(aZE l).length=l.length:=(a1C l).length_eq
def a2D:List (List AV)→Option (List Int)
 | []=>some []
 | [.int .i64 n]::l=>(a2D l).map (n::·)
 |_=>none
theorem a9T:∀{rows:List (List AV)} {l:List Int},a2D rows=some l→rows=l.map fun n=>[.int .i64 n]
 | [],l,h=>by simp[a2D]at h;subst h;rfl
 |r::rows,l,h=>by
  unfold a2D at h
  split at h
  ·rename_i e;cases e
  ·rename_i n l' e
   cases e
   obtain⟨l2,h2,rfl⟩:=aZ7.1 h
   rw[a9T h2];rfl
  ·cases h
theorem beG(l:List Int):a2D (l.map fun n=>[.int .i64 n])=some l:=by
 induction l with
 |nil=>rfl
 |cons a l ih=>simp[a2D,ih]
def a7K:List AV→abY→Option (Out × abY)
 | [.slr 1 b 0 len],h=>match h[b]? with
   |some (.live 1 true _ rows)=>if rows.length=len∧1≤len∧len≤549755813888 then(a2D rows).map fun zs=>(.ret (.tup []),h.set b (.live 1 true true ((aZE zs).map fun n=>[.int .i64 n])))else none
   |_=>none
 |_,_=>none
section
variable {P:Program} {G:Nat→Option Obj}
theorem a80{w:World}{cb:Nat}{c:Array Value}{e:TypeId}{fz:Nat × Nat}(hk:w.heap[cb]?=some (.cells c e fz))(f:Array Value→Array Value):Go.Sort.mapBlock w cb f=setB w cb (.cells (f c) e fz):=by
 unfold Go.Sort.mapBlock setB
 congr 1
 apply Array.ext_getElem?
 intro k
 simp only[Array.getElem?_modify,Array.getElem?_setIfInBounds]
 by_cases h:cb=k
 ·subst h
  have hl:=(Array.getElem?_eq_some_iff.1 hk).1
  rw[if_pos rfl,if_pos rfl,if_pos hl,hk];rfl
 ·rw[if_neg h,if_neg h]
theorem bdF(w:World)(n:Nat):Below w.heap.size w (Go.Sort.ahead w n) where
 os:=rfl
 tape:=rfl
 output:=rfl
 size:=aI5 _
 block:=fun _ _=>rfl
theorem bnX{f:Nat}(hen:∀args w,(callFunc f args).run P w=.ok (.enter f args) w)
 (hc:∀(blk off cap:Nat) (zs:List Int) (w:World),Go.Sort.Holds (Value.int .i64) w blk off zs.toArray→blk<w.heap.size→zs.length<4611686018427387904→
   Calls P f #[.slice (some ⟨blk,off,none⟩) zs.length cap] w fun e w'=>e=.returned (.tuple #[])∧∃n os,w'=Go.Sort.grow (Go.Sort.putRow (Value.int .i64) (Go.Sort.ahead w n) blk off (zs.mergeSort fun x y=>decide (x≤y)).toArray) os):a5A P G f a7K:=by
 intro args h out h' hp
 refine⟨hen,fun w S ρ cargs hI H dom all hargs=>?_⟩
 unfold a7K at hp
 split at hp
 ·rename_i b len
  split at hp
  ·rename_i wr rows hg
   split at hp
   ·rename_i hl
    obtain⟨hl1,hl2,hl3⟩:=hl
    obtain⟨zs,hz,hp⟩:=aZ7.1 hp
    simp only[Prod.mk.injEq]at hp
    obtain⟨rfl,rfl⟩:=hp
    have hrows:=a9T hz
    have hzl:zs.length=len:=by rw[←hl1,hrows];simp
    obtain⟨v,vs',e,hv,hn⟩:=hargs.cons_inv
    have:=hn.nil_inv
    subst this
    have ec:cargs=#[v]:=by apply Array.toList_inj.1;rw[e]
    subst ec
    have hbl:b<h.length:=(aTC.1 hg).1
    cases hv with
    |slrD hρ _=>have:=H.dead b hρ;rw[show hf h b=some _ from hg]at this;cases this
    | @slr _ _ _ _ cb co _ sz cap a hρ hle ha=>
      obtain⟨c,e',fz,fl',rows',k1,k2,k3,k4⟩:=H.at_ b cb co 1 sz hρ
      rcases k4 with⟨⟨wr',k4⟩,hS,hfz⟩|⟨k4,_⟩
      ·rw[show hf h b=some _ from hg]at k4
       cases k4
       rcases ha with ha|⟨rfl,hcap⟩
       ·omega
       have hco:co+len≤c.size:=by have:=k3.len;rw[hl1]at this;omega
       have hold:Go.Sort.Holds (Value.int .i64) w cb (co+0*1) zs.toArray:=fun j hj=>by
        have hj':j<zs.length:=by simpa using hj
        have hr:rows[j]?=some [AV.int .i64 zs[j]]:=by rw[hrows,a4W,aWR hj'];rfl
        obtain⟨v,h1,h2⟩:=k3.cell j _ 0 _ hr rfl
        cases h2
        have hlt:co+j<c.size:=by omega
        refine⟨?_,a9W k1 (hfz _ (by rw[←k2];omega))⟩
        rw[a4D k1]
        simp only[Nat.zero_mul,aZ8]
        have h1':c[co+j]?=some (Value.int .i64 zs[j]):=by simpa using h1
        rw[h1']
        simp[getElem!_pos,hj']
       rw[←hzl]
       refine(hc cb (co+0*1) cap zs w hold (H.lt hρ) (by omega)).mono fun e w' hw=>?_
       obtain⟨rfl,n,os,rfl⟩:=hw
       rw[bj7]
       have hB1:=bdF w n
       have H1:=H.below hB1
       have k1':(Go.Sort.ahead w n).heap[cb]?=some (.cells c e' fz):=k1
       have hsl:=a9R zs
       generalize aZE zs=ys at *
       have hput:Go.Sort.putRow (Value.int .i64) (Go.Sort.ahead w n) cb (co+0*1) ys.toArray=setB (Go.Sort.ahead w n) cb (.cells (Go.Sort.putCells (Value.int .i64) (co+0*1) ys.toArray c) e' fz):=a80 k1' _
       rw[hput]
       have hcs:(Go.Sort.putCells (Value.int .i64) (co+0*1) ys.toArray c).size=c.size:=by simp[Go.Sort.putCells]
       have hblk:aIG (Go.Sort.ahead w n) S ρ (Go.Sort.putCells (Value.int .i64) (co+0*1) ys.toArray c) co 1 true (ys.map fun n=>[.int .i64 n]):=by
        refine⟨by rw[hcs];simp;omega,fun r hr=>?_,fun _ r hr x hx=>?_,fun i r j x hr hx=>?_,fun r hr x hx=>?_⟩
        ·obtain⟨n,_,rfl⟩:=aWQ.1 hr;rfl
        ·obtain⟨n,_,rfl⟩:=aWQ.1 hr;simp at hx;subst hx;rfl
        ·rw[a4W]at hr
         obtain⟨m,hm,rfl⟩:=aZ7.1 hr
         have hi:i<ys.length:=(aTC.1 hm).1
         have hx':j=0∧x=.int .i64 m:=by
          cases j with
          |zero=>simp at hx;exact⟨rfl,hx.symm⟩
          |succ j=>simp at hx
         obtain⟨rfl,rfl⟩:=hx'
         refine⟨.int .i64 m,?_,.int _ _⟩
         simp only[Go.Sort.putCells,Array.getElem?_mapIdx,Nat.mul_one,aZ8,Nat.zero_mul,aZ8]
         rw[Array.getElem?_eq_getElem (by omega),aTT,if_pos ⟨by omega,by simp;omega⟩,show co+i-co=i by omega]
         have:ys[i]?=some m:=hm
         have h2:=aTC.1 hm
         simp[getElem!_pos,h2.1,h2.2]
        ·obtain⟨n,_,rfl⟩:=aWQ.1 hr;simp at hx;subst hx;rfl
       have H2:=H1.setLive (wr:=true) hρ hS (e:=e') (fz:=fz) (by rw[hcs];exact k2) hfz ⟨_,_,_,k1'⟩ hblk
       have hs2:=Sim.setB (w:=Go.Sort.ahead w n) hρ hS ⟨_,_,_,k1'⟩ (.cells (Go.Sort.putCells (Value.int .i64) (co+0*1) ys.toArray c) e' fz)
       generalize hw2:setB (Go.Sort.ahead w n) cb (.cells (Go.Sort.putCells (Value.int .i64) (co+0*1) ys.toArray c) e' fz)=w2 at *
       have hB3:=a7F (w:=w2) (aI5 _) os
       have H3:=H2.below hB3
       refine⟨.tuple #[],S,ρ,⟨⟨_,rfl⟩,rfl⟩,.tup rfl (fun i x v hx _=>by simp at hx),by rw[beK hbl];exact H3,((Sim.below H hB1).trans hs2).trans (Sim.below H2 hB3),fun b' hb'=>dom b' (by simpa using hb'),fun b' hb'=>all b' (by simpa using hb'),by simp,fun i x x' hx hx' hsm=>?_⟩
       by_cases e:i=b
       ·subst e
        rw[hg]at hx;cases hx
        rw[a4V hbl]at hx';cases hx'
        simp[CB.same]at hsm
       ·refine⟨rfl,fun cb' co' st' sz' hb'=>?_⟩
        have hne:cb'≠cb:=fun q=>e (H.inj _ _ _ _ _ _ _ _ _ hb' (q▸hρ))
        have hl':cb'<w.heap.size:=H.lt hb'
        have hw2s:w2.heap.size=w.heap.size:=by rw[←hw2];simp[setB,Go.Sort.ahead]
        rw[hB3.block cb' (by rw[hw2s];exact hl'),←hw2,aq1 hne]
        rfl
      ·rw[show hf h b=some _ from hg]at k4;cases k4
   ·cases hp
  ·cases hp
 ·cases hp
end
def a93(fI fJ fS:Nat)(md:Nat→Bool):aYY:={ at_:=fun f=>if f=fI then some beW else if f=fJ then some bbQ else none,md:=md,sh:=fun f=>if f=fS then some a7K else none }
theorem bhM{P:Program}{G:Nat→Option Obj}{fI fJ fS:Nat}{md:Nat→Bool}(hI:a5A P G fI beW)(hJ:a5A P G fJ bbQ)(hS:a5A P G fS a7K):baG P G (a93 fI fJ fS md):=by
 refine⟨fun f p hp=>?_,fun f p hp=>?_⟩
 ·simp only[a93]at hp
  split at hp
  ·rename_i e;subst e;cases hp;exact hI
  ·split at hp
   ·rename_i e;subst e;cases hp;exact hJ
   ·cases hp
 ·simp only[a93]at hp
  split at hp
  ·rename_i e;subst e;cases hp;exact hS
  ·cases hp
end
end Go.Ev
