/- The evaluator and its soundness. -/
import Derived.Test.YtfkokgjfpojeoaaLibD
open And renaming intro→acL
open Eq renaming trans→acR
open Option renaming map_eq_some_iff→acZ,bind_eq_some_iff→aqD,bind_some→aAM,map_some→aE9,some→aID
open List renaming mem_cons→aAN,mem_cons_of_mem→aAO,getElem?_eq_some_iff→aAP,mem_cons_self→aCF,mem_append→aC6,mem_map→aC7,getElem?_eq_getElem→aEO,getElem?_set_ne→aER,getElem?_append_left→aG6,length_cons→aHJ,mem_append_left→aJZ,mem_append_right→aKM,all_eq_true→aLD,getElem?_map→aLE,mem_flatMap→aLG,getElem?_append_right→aLH,nil_append→aLI,getElem?_set_self→aOD,idxOf→aON,flatMap_def→aOW,pairwise_cons→aOX,range→aOY,flatMap_cons→aOZ,append_nil→aPA,nodup_cons→aPH,map_congr_left→aQ7,replicate→aRG,range_zero→aR1,prefix_refl→aR5,mem_of_getElem?→aR6,nodup_nil→aSU,length_append→aSY,idxOf_cons→aS0,getElem?_eq_none→aTE,append_inj'→aTP,length_eq_zero_iff→aT3,pairwise_map→aVS,foldl_cons→aVT,getD_eq_getElem?_getD→aV9
open Nat renaming le_refl→aHM,add_right_cancel_iff→aLF,zero_le→aM9,lt_of_lt_of_le→aRF
open Bool renaming and_eq_true→aIC
set_option linter.unusedSimpArgs false
set_option linter.unusedVariables false
namespace Go.Ev
noncomputable section
open Go.RowKit
theorem aSZ(b:Nat):Om [] b=(0,[b]):=acR rfl rfl
section
variable {P:Program} {O:Hz}
theorem a22(d:Nat)(m:List Nat)(b:Bool):Fv (d+1) m (.bool b)=some (.bool b,m):=acR rfl rfl
theorem bbN(d:Nat)(m:List Nat)(k:IntKind)(n:Int):Fv (d+1) m (.int k n)=some (.int k n,m):=acR rfl rfl
theorem a3W(d:Nat)(m:List Nat):Fv (d+1) m .nils=some (.nils,m):=acR rfl rfl
theorem a7U(d:Nat)(m:List Nat)(n:Nat)(fl:Bool)(rows:List (List AV)):Fv (d+1) m (.imm n fl rows)=some (.imm n fl rows,m):=acR rfl rfl
theorem a9X(d:Nat)(m:List Nat)(n:Nat)(fl nn:Bool)(rows:List (List AV)):Fv (d+1) m (Ak n fl nn rows)=some (Ak n fl nn rows,m):=Wi m (Xy d n fl nn rows)
theorem a8K(d:Nat)(m:List Nat)(b r o:Nat):Fv (d+1) m (.ptr b r o)=some (.ptr (Om m b).1 r o,(Om m b).2):=acR rfl rfl
theorem a8W(d:Nat)(m:List Nat)(st b r len:Nat):Fv (d+1) m (.slr st b r len)=some (.slr st (Om m b).1 r len,(Om m b).2):=acR rfl rfl
def rfA(x:Option (List AV × List Nat)):Option (AV × List Nat):=x.map fun(cs,m)=>(.agg cs,m)
theorem aWF(cs:List AV)(m:List Nat):rfA (some (cs,m))=some (.agg cs,m):=acR rfl rfl
theorem baC(d:Nat)(m:List Nat)(cs:List AV):Fv (d+1) m (.agg cs)=rfA (Fv.refL (Fv d) m cs):=acR rfl rfl
def rfG(fn:Fn)(a:List AV)(x:Option (List AV × List Nat)):Option (AV × List Nat):=x.map fun(b,m)=>(.func fn a b,m)
def rfF(fn:Fn)(d:Nat)(b:List AV)(x:Option (List AV × List Nat)):Option (AV × List Nat):=x.bind fun(a,m)=>rfG fn a (Fv.refL (Fv d) m b)
theorem aZV(fn:Fn)(a b:List AV)(m:List Nat):rfG fn a (some (b,m))=some (.func fn a b,m):=acR rfl rfl
theorem aXY(fn:Fn)(d:Nat)(a b:List AV)(m:List Nat):rfF fn d b (some (a,m))=rfG fn a (Fv.refL (Fv d) m b):=acR rfl rfl
theorem a27(d:Nat)(m:List Nat)(fn:Fn)(a b:List AV):Fv (d+1) m (.func fn a b)=rfF fn d b (Fv.refL (Fv d) m a):=acR rfl rfl
def rfD(v:AV)(x:Option (List AV × List Nat)):Option (List AV × List Nat):=x.map fun(vs,m)=>(v::vs,m)
def rfC(f:List Nat→AV→Option (AV × List Nat))(vs:List AV)(x:Option (AV × List Nat)):Option (List AV × List Nat):=x.bind fun(v,m)=>rfD v (Fv.refL f m vs)
theorem a0N(v:AV)(vs:List AV)(m:List Nat):rfD v (some (vs,m))=some (v::vs,m):=acR rfl rfl
theorem aXB(f:List Nat→AV→Option (AV × List Nat))(vs:List AV)(v:AV)(m:List Nat):rfC f vs (some (v,m))=rfD v (Fv.refL f m vs):=acR rfl rfl
theorem a3Z(f:List Nat→AV→Option (AV × List Nat))(m:List Nat):Fv.refL f m []=some ([],m):=acR rfl rfl
theorem aXD(f:List Nat→AV→Option (AV × List Nat))(m:List Nat)(v:AV)(vs:List AV):Fv.refL f m (v::vs)=rfC f vs (f m v):=acR rfl rfl
def rrD(cs:List AV)(x:Option (List (List AV) × List Nat)):Option (List (List AV) × List Nat):=x.map fun(rs,m)=>(cs::rs,m)
def rrC(rs:List (List AV))(x:Option (List AV × List Nat)):Option (List (List AV) × List Nat):=x.bind fun(cs,m)=>rrD cs (Rl m rs)
theorem aYR(cs:List AV)(rs:List (List AV))(m:List Nat):rrD cs (some (rs,m))=some (cs::rs,m):=acR rfl rfl
theorem aXP(rs:List (List AV))(cs:List AV)(m:List Nat):rrC rs (some (cs,m))=rrD cs (Rl m rs):=acR rfl rfl
theorem a9A(m:List Nat):Rl m []=some ([],m):=acR rfl rfl
theorem a4G(m:List Nat)(cs:List AV)(rs:List (List AV)):Rl m (cs::rs)=rrC rs (Fv.refL (Fv 8) m cs):=acR rfl rfl
def rbV(st:Nat)(w:Bool)(x:Option (List (List AV) × List Nat)):Option (CB × List Nat):=x.map fun(rows,m)=>(.live st false w rows,m)
theorem aXQ(st:Nat)(w:Bool)(rows:List (List AV))(m:List Nat):rbV st w (some (rows,m))=some (.live st false w rows,m):=acR rfl rfl
theorem biL(m:List Nat)(st:Nat)(w:Bool)(rows:List (List AV)):aiZ m (.live st true w rows)=some (.live st true w rows,m):=acR rfl rfl
theorem bdY(m:List Nat)(st:Nat)(w:Bool)(rows:List (List AV)):aiZ m (.live st false w rows)=rbV st w (Rl m rows):=acR rfl rfl
def pcE(c:CB)(x:Option (List CB × List Nat)):Option (List CB × List Nat):=x.map fun(cs,m)=>(c::cs,m)
def pcR(n:Nat)(h:Aa)(i:Nat)(x:Option (CB × List Nat)):Option (List CB × List Nat):=x.bind fun(c,m)=>pcE c (Rx n (hf h) (i+1) m)
def pcB(n:Nat)(h:Aa)(i:Nat)(m:List Nat)(x:Option CB):Option (List CB × List Nat):=x.bind fun c=>pcR n h i (aiZ m c)
def pcK(n:Nat)(h:Aa)(i:Nat)(m:List Nat)(x:Option Nat):Option (List CB × List Nat):=
 match x with
 |none=>some ([],m)
 |some b=>pcB n h i m (h[b]?)
theorem aZZ(c:CB)(cs:List CB)(m:List Nat):pcE c (some (cs,m))=some (c::cs,m):=acR rfl rfl
theorem aZK(n:Nat)(h:Aa)(i:Nat)(c:CB)(m:List Nat):pcR n h i (some (c,m))=pcE c (Rx n (hf h) (i+1) m):=acR rfl rfl
theorem aWE(n:Nat)(h:Aa)(i:Nat)(m:List Nat)(c:CB):pcB n h i m (some c)=pcR n h i (aiZ m c):=acR rfl rfl
theorem aZ1(n:Nat)(h:Aa)(i:Nat)(m:List Nat):pcK n h i m none=some ([],m):=acR rfl rfl
theorem aWN(n:Nat)(h:Aa)(i:Nat)(m:List Nat)(b:Nat):pcK n h i m (some b)=pcB n h i m (h[b]?):=acR rfl rfl
theorem bcN(n:Nat)(h:Aa)(i:Nat)(m:List Nat):Rx (n+1) (hf h) i m=pcK n h i m (m[i]?):=by
 unfold Rx pcK
 cases m[i]?<;>rfl
def pkB(vs:List AV)(x:Option (List CB × List Nat)):Option (List AV × List CB × List Nat):=x.map fun(cs,m)=>(vs,cs,m)
def pkA(h:Aa)(x:Option (List AV × List Nat)):Option (List AV × List CB × List Nat):=x.bind fun(vs,m)=>pkB vs (Rx 5000 (hf h) 0 m)
theorem aYF(vs:List AV)(cs:List CB)(m:List Nat):pkB vs (some (cs,m))=some (vs,cs,m):=acR rfl rfl
theorem a1D(h:Aa)(vs:List AV)(m:List Nat):pkA h (some (vs,m))=pkB vs (Rx 5000 (hf h) 0 m):=acR rfl rfl
theorem biM(h:Aa)(m:List Nat)(vs:List AV):Vw (hf h) m vs=pkA h (Fv.refL (Fv 8) m vs):=acR rfl rfl
def upK(h:Aa)(lent:List Nat)(v:Option AV)(ps ns:Option (List As))(o:AV→Gw):OE:=v.bind fun v=>ps.bind fun ps=>ns.bind fun ns=>
 some (o v,(if lent.isEmpty|| !(hasImm 8 v||(ps++ns).any As.hasImm)then []else Gu (hf h) lent)++ps++ns)
def crU(h:Aa)(base:Nat)(lent m:List Nat)(cs:List CB)(x:Option (Gw × Aa)):OE:=
 match x with
 |some (.ret v,h')=>upK h lent (Ft 8 (Jx m base) v) (Nv (Jx m base) m cs (h'.take m.length)) (Qe (Jx m base) base (h'.drop m.length)) .ret
 |some (.pan v,h')=>upK h lent (Ft 8 (Jx m base) v) (Nv (Jx m base) m cs (h'.take m.length)) (Qe (Jx m base) base (h'.drop m.length)) .pan
 |none=>none
def crP(O:Hz)(h:Aa)(base:Nat)(f:qE)(lent:List Nat)(x:Option (List AV × List CB × List Nat)):OE:=x.bind fun(vs,cs,m)=>
 if lent.any (m.contains ·)then none else crU h base lent m cs (O.call f vs (cs.map CB.clean))
def crQ(O:Hz)(h:Aa)(base:Nat)(f:qE)(lent:List Nat)(x:Option (List AV)):OE:=x.bind fun vs=>crP O h base f lent (Vw (hf h) [] vs)
theorem bmL(h:Aa)(base:Nat)(f:qE)(args:List AV):cr (aE4 O (hf h) base f args)=crQ O h base f (args.flatMap (Dk 12 (hf h))) (Da (rdV h) args):=by
 unfold aE4 Gg crQ rdV
 cases Da (Of 12 (hf h)) args with
 |none=>rfl
 |some vs=>
  simp only[aAM]
  unfold crP
  cases Vw (hf h) [] vs with
  |none=>rfl
  |some x=>
   obtain⟨vs',cs,m⟩:=x
   simp only[aAM]
   split
   ·rfl
   ·cases O.call f vs' (cs.map CB.clean)with
    |none=>rfl
    |some y=>
     obtain⟨out,h'⟩:=y
     simp only[aAM,Yu]
     unfold crU upK
     cases out with
     |ret v=>
      simp only[Gw.v]
      cases Ft 8 (Jx m base) v with
      |none=>rfl
      |some v=>
       cases Nv (Jx m base) m cs (h'.take m.length)with
       |none=>rfl
       |some ps=>cases Qe (Jx m base) base (h'.drop m.length)<;>rfl
     |pan v=>
      simp only[Gw.v]
      cases Ft 8 (Jx m base) v with
      |none=>rfl
      |some v=>
       cases Nv (Jx m base) m cs (h'.take m.length)with
       |none=>rfl
       |some ps=>cases Qe (Jx m base) base (h'.drop m.length)<;>rfl
theorem a0J(h:Aa)(base:Nat)(f:qE)(lent:List Nat)(vs:List AV):crQ O h base f lent (some vs)=crP O h base f lent (Vw (hf h) [] vs):=acR rfl rfl
theorem aXA(h:Aa)(base:Nat)(f:qE)(lent:List Nat)(vs:List AV)(cs:List CB)(m:List Nat):crP O h base f lent (some (vs,cs,m))=if lent.any (m.contains ·)=true then none else crU h base lent m cs (O.call f vs (cs.map CB.clean)):=acR rfl rfl
theorem a57(h:Aa)(base:Nat)(lent m:List Nat)(cs:List CB)(v:AV)(h':Aa):crU h base lent m cs (some (.ret v,h'))=upK h lent (Ft 8 (Jx m base) v) (Nv (Jx m base) m cs (h'.take m.length)) (Qe (Jx m base) base (h'.drop m.length)) .ret:=acR rfl rfl
theorem a1B(h:Aa)(lent:List Nat)(v:AV)(ps ns:List As)(o:AV→Gw):upK h lent (some v) (some ps) (some ns) o=some (o v,(if(lent.isEmpty|| !(hasImm 8 v||(ps++ns).any As.hasImm))=true then []else Gu (hf h) lent)++ps++ns):=acR rfl rfl
theorem a19(st:Nat)(fl w:Bool)(rows:List (List AV)):CB.clean (.live st fl w rows)=.live st fl false rows:=acR rfl rfl
theorem a1T(d:Nat)(g:HF)(b:Bool):Dk (d+1) g (.bool b)=[]:=acR rfl rfl
theorem baU(d:Nat)(g:HF)(k:IntKind)(n:Int):Dk (d+1) g (.int k n)=[]:=acR rfl rfl
theorem a9H(d:Nat)(g:HF)(n:Nat)(fl:Bool)(rows:List (List AV)):Dk (d+1) g (.imm n fl rows)=[]:=acR rfl rfl
theorem a8G(d:Nat)(g:HF)(b r o:Nat):Dk (d+1) g (.ptr b r o)=[]:=acR rfl rfl
theorem a2T(d:Nat)(g:HF)(fn:Fn)(a b:List AV):Dk (d+1) g (.func fn a b)=[]:=acR rfl rfl
theorem baS(d:Nat)(g:HF)(n:Nat)(fl nn:Bool)(rows:List (List AV)):Dk (d+1) g (Ak n fl nn rows)=[]:=Vk g (d:=1) (by omega) (Xy 0 n fl nn rows)
theorem a8A(d:Nat)(g:HF)(cs:List AV):Dk (d+1) g (.agg cs)=cs.flatMap (Dk d g):=acR rfl rfl
def lvS(b:Nat)(c:Option CB)(q:AV→List Nat)(r len:Nat):List Nat:=
 b::match c with
 |some (.live _ fl _ rows)=>if r+len≤rows.length then(if fl then []else((rows.drop r).take len).flatMap fun cs=>cs.flatMap q)else []
 |some (.frz _ fl rows)=>if r+len≤rows.length then(if fl then []else((rows.drop r).take len).flatMap fun cs=>cs.flatMap q)else []
 |_=>[]
theorem a8P(d:Nat)(h:Aa)(st b r len:Nat):Dk (d+1) (hf h) (.slr st b r len)=lvS b (h[b]?) (Dk d (hf h)) r len:=by
 have e:Dk (d+1) (hf h) (.slr st b r len)=b::(match Ju (hf h) b r len with|some (_,fl,rows)=>if fl then []else rows.flatMap fun cs=>cs.flatMap (Dk d (hf h))|none=>[]):=rfl
 rw[e]
 generalize Dk d (hf h)=q
 unfold Ju lvS
 have eh:hf h b=h[b]?:=rfl
 rw[eh]
 cases h[b]? with
 |none=>rfl
 |some c=>
  cases c with
  |live st fl w rows=>simp only;by_cases hq:r+len≤rows.length<;>simp[hq]
  |frz st fl rows=>simp only;by_cases hq:r+len≤rows.length<;>simp[hq]
  |_=>rfl
theorem bd9(b:Nat)(st:Nat)(w:Bool)(rows:List (List AV))(q:AV→List Nat)(r len:Nat):lvS b (some (.live st true w rows)) q r len=[b]:=by simp[lvS]
theorem a41(d:Nat)(f:Nat→Nat)(b:Bool):Ft (d+1) f (.bool b)=some (.bool b):=acR rfl rfl
theorem a9N(d:Nat)(f:Nat→Nat)(k:IntKind)(n:Int):Ft (d+1) f (.int k n)=some (.int k n):=acR rfl rfl
theorem a7A(d:Nat)(f:Nat→Nat)(st b r len:Nat):Ft (d+1) f (.slr st b r len)=some (.slr st (f b) r len):=acR rfl rfl
theorem biW(f:Nat→Nat)(st:Nat)(w:Bool)(rows:List (List AV)):Ny f (.live st true w rows)=some (.live st true w rows):=acR rfl rfl
def peE(b:Nat)(c:Option CB)(x:Option (List As)):Option (List As):=c.bind fun c=>x.map fun es=>.put b c::es
def peK(f:Nat→Nat)(b:Nat)(c:CB)(same bad:Bool)(x:Option (List As)):Option (List As):=bif same then x else bif bad then none else peE b (Ny f c) x
theorem bdF(f:Nat→Nat)(b:Nat)(c:CB)(bad:Bool)(x:Option (List As)):peK f b c true bad x=x:=acR rfl rfl
theorem a7V(f:Nat→Nat):Nv f [] [] []=some []:=acR rfl rfl
theorem a2F(f:Nat→Nat)(b:Nat)(m:List Nat)(c₀ c:CB)(cs₀ cs:List CB):Nv f (b::m) (c₀::cs₀) (c::cs)=peK f b c (c₀.same c) (c.unw|| !c₀.isLive) (Nv f m cs₀ cs):=by
 conv=>lhs;unfold Nv
 unfold peK
 cases c₀.same c with
 |true=>rfl
 |false=>
  cases(c.unw|| !c₀.isLive)with
  |true=>rfl
  |false=>
   simp only[cond_false,peE]
theorem a55(a:Nat)(b c:Bool)(r:List (List AV))(st:Nat)(fl w:Bool)(rows:List (List AV)):CB.same (.live a b c r) (.live st fl w rows)= !w:=acR rfl rfl
theorem a5U(st:Nat)(fl w:Bool)(rows:List (List AV)):CB.unw (.live st fl w rows)= !w:=acR rfl rfl
theorem a2W(st:Nat)(fl w:Bool)(rows:List (List AV)):CB.isLive (.live st fl w rows)=true:=acR rfl rfl
def neK(base:Nat)(c:Option CB)(x:Option (List As)):Option (List As):=c.bind fun c=>x.map fun es=>.new base c::es
theorem a0L(base:Nat)(c:CB)(es:List As):neK base (some c) (some es)=some (.new base c::es):=acR rfl rfl
theorem baA(f:Nat→Nat)(base:Nat):Qe f base []=some []:=acR rfl rfl
theorem a5O(f:Nat→Nat)(base:Nat)(c:CB)(cs:List CB):Qe f base (c::cs)=neK base (Ny f c) (Qe f (base+1) cs):=acR rfl rfl
theorem a68(b:Nat)(c:CB):As.hasImm (.new b c)=c.hasImm:=acR rfl rfl
theorem biK(st:Nat)(w:Bool)(rows:List (List AV)):CB.hasImm (.live st true w rows)=false:=acR rfl rfl
theorem a9L(h:Aa)(b r o:Nat):rdV h (.ptr b r o)=some (.ptr b r o):=acR rfl rfl
theorem a2Y(h:Aa)(cs:List AV):rdV h (.agg cs)=rdA (Da (Of 11 (hf h)) cs):=acR rfl rfl
theorem aVU(l:List AV):rdA (some l)=some (.agg l):=acR rfl rfl
theorem a45(d:Nat)(h:Aa)(b:Bool):Of (d+1) (hf h) (.bool b)=some (.bool b):=acR rfl rfl
theorem a7D(d:Nat)(h:Aa)(k:IntKind)(n:Int):Of (d+1) (hf h) (.int k n)=some (.int k n):=acR rfl rfl
theorem a72(d:Nat)(h:Aa)(n:Nat)(fl nn:Bool)(rows:List (List AV)):Of (d+1) (hf h) (Ak n fl nn rows)=some (Ak n fl nn rows):=dM _ (d:=1) (by omega) (Xy 0 n fl nn rows)
def mfK(f:Nat)(a b:Option (List AV)):OE:=a.bind fun a=>b.bind fun b=>some (.ret (.func (.func f) a b),[])
theorem aYK(f:Nat)(a b:List AV):mfK f (some a) (some b)=some (.ret (.func (.func f) a b),[]):=acR rfl rfl
theorem beT(t:List AV)(h:Aa)(f:Nat)(a b:Array Operand):Gx O P t h (.makeFunc (.func f) a b)=mfK f (Et t a.toList) (Et t b.toList):=by
 rw[Fb _ _ _ rfl]
 simp only[exec,mfK]
 cases Et t a.toList with
 |none=>rfl
 |some a=>cases Et t b.toList<;>rfl
def msK(n:Nat)(z:AV)(base:Nat)(l c:Option AV):OE:=
 match l,c with
 |some (.int .i64 l),some (.int .i64 c)=>if 0≤l∧l≤c∧c≤2 ^ 40∧(Bd z).all AV.isCell=true then some (.ret (.slr n base 0 l.toNat),[.new base (.live n ((Bd z).all AV.flat) false (aRG l.toNat (Bd z)))])else none
 |_,_=>none
theorem aYE(n:Nat)(z:AV)(base:Nat)(l c:Int):msK n z base (some (.int .i64 l)) (some (.int .i64 c))=if 0≤l∧l≤c∧c≤2 ^ 40∧(Bd z).all AV.isCell=true then some (.ret (.slr n base 0 l.toNat),[.new base (.live n ((Bd z).all AV.flat) false (aRG l.toNat (Bd z)))])else none:=acR rfl rfl
def msO(P:Program)(ty:TypeId)(base:Nat)(l c:Option AV):OE:=rD (l.bind fun l=>c.bind fun c=>Og P base ty l c)
theorem beN(t:List AV)(h:Aa)(ty:TypeId)(l c:Operand):Gx O P t h (.makeSlice ty l c)=msO P ty h.length (Ar t l) (Ar t c):=Fb _ _ _ rfl
theorem aZ8{ty e:TypeId}{n b:Nat}{z:AV}(he:al2 P ty=some e)(hn:mV P e=some n)(hb:byT P e=some b)(hz:Lr P e=some z)(ok:(decide (b≤2 ^ 7)&&decide (n≠0)&&decide ((Bd z).length=n))=true)(base:Nat)(l c:Option AV):
 msO P ty base l c=msK n z base l c:=by
 simp only[aIC,decide_eq_true_eq]at ok
 unfold msO msK
 cases l with
 |none=>rfl
 |some l=>
  cases c with
  |none=>cases l<;>first|rfl|(rename_i k _;cases k<;>rfl)
  |some c=>
   simp only[aAM,Og,he,hn,hb,hz]
   cases l with
   |int k l=>
    cases c with
    |int k' c=>
     cases k<;>cases k'<;>first|rfl|skip
     simp only[ok.1.1,ok.1.2,ok.2,ne_eq,not_false_eq_true,true_and]
     split<;>rfl
    |_=>cases k<;>rfl
   |_=>rfl
def srS(q:Nat)(c:Option CB)(r len:Nat):Option (Bool × List (List AV)):=
 match c with
 |some (.live st fl _ rows)=>if r+len≤rows.length∧st=q then some (fl,(rows.drop r).take len)else none
 |some (.frz st fl rows)=>if r+len≤rows.length∧st=q then some (fl,(rows.drop r).take len)else none
 |_=>none
def srK(q:Nat)(h:Aa)(x:Option AV):Option (Bool × List (List AV)):=
 match x with
 |some .nils=>some (true,[])
 |some (.imm st fl rows)=>if st=q then some (fl,rows)else none
 |some (.slr _ b r len)=>srS q (h[b]?) r len
 |_=>none
theorem aZ0(q st:Nat)(fl w:Bool)(rows:List (List AV))(r len:Nat):srS q (some (.live st fl w rows)) r len=if r+len≤rows.length∧st=q then some (fl,(rows.drop r).take len)else none:=acR rfl rfl
theorem a0B(q:Nat)(h:Aa):srK q h (some .nils)=some (true,[]):=acR rfl rfl
theorem aQ9(q:Nat)(h:Aa)(st:Nat)(fl:Bool)(rows:List (List AV)):srK q h (some (.imm st fl rows))=if st=q then some (fl,rows)else none:=acR rfl rfl
theorem aSD(q:Nat)(h:Aa)(st b r len:Nat):srK q h (some (.slr st b r len))=srS q (h[b]?) r len:=acR rfl rfl
def apT(n base b r len:Nat)(nfl:Bool)(new:List (List AV))(st:Nat)(fl:Bool)(rows:List (List AV)):OE:=
 if st=n∧r+len≤rows.length∧len+new.length≤2 ^ 39 then some (.ret (.slr st base 0 (len+new.length)),[.put b .dead,.new base (.live st (fl&&nfl) false ((rows.drop r).take len++new))])else none
def apS(n base b r len:Nat)(nfl:Bool)(new:List (List AV))(c:Option CB):OE:=
 match c with
 |some (.live st fl _ rows)=>if st=n∧r+len=rows.length∧len+new.length≤2 ^ 39 then some (.ret (.slr st base 0 (len+new.length)),[.put b .dead,.new base (.live st (fl&&nfl) false (rows.drop r++new))])else apT n base b r len nfl new st fl rows
 |_=>none
theorem aNU(n base b r len:Nat)(nfl:Bool)(new:List (List AV))(st:Nat)(fl w:Bool)(rows:List (List AV)):apS n base b r len nfl new (some (.live st fl w rows))=if st=n∧r+len=rows.length∧len+new.length≤2 ^ 39 then some (.ret (.slr st base 0 (len+new.length)),[.put b .dead,.new base (.live st (fl&&nfl) false (rows.drop r++new))])else apT n base b r len nfl new st fl rows:=acR rfl rfl
def apK(n:Nat)(h:Aa)(s:Option AV)(x:Option (Bool × List (List AV))):OE:=
 match s,x with
 |some .nils,some (_,[])=>some (.ret .nils,[])
 |some (.slr a b r l),some (_,[])=>some (.ret (.slr a b r l),[])
 |some (.imm a b r),some (_,[])=>some (.ret (.imm a b r),[])
 |some .nils,some (nfl,r::new)=>if(r::new).length≤2 ^ 39 then some (.ret (.slr n h.length 0 (r::new).length),[.new h.length (.live n nfl false (r::new))])else none
 |some (.slr _ b r len),some (nfl,q::new)=>apS n h.length b r len nfl (q::new) (h[b]?)
 |_,_=>none
theorem a8Z(n:Nat)(h:Aa)(nfl:Bool):apK n h (some .nils) (some (nfl,[]))=some (.ret .nils,[]):=acR rfl rfl
theorem baL(n:Nat)(h:Aa)(a b r l:Nat)(nfl:Bool):apK n h (some (.slr a b r l)) (some (nfl,[]))=some (.ret (.slr a b r l),[]):=acR rfl rfl
theorem aP6(n:Nat)(h:Aa)(nfl:Bool)(r:List AV)(new:List (List AV)):apK n h (some .nils) (some (nfl,r::new))=if(r::new).length≤2 ^ 39 then some (.ret (.slr n h.length 0 (r::new).length),[.new h.length (.live n nfl false (r::new))])else none:=acR rfl rfl
theorem aQQ(n:Nat)(h:Aa)(a b r len:Nat)(nfl:Bool)(q:List AV)(new:List (List AV)):apK n h (some (.slr a b r len)) (some (nfl,q::new))=apS n h.length b r len nfl (q::new) (h[b]?):=acR rfl rfl
def apO(P:Program)(ty:TypeId)(h:Aa)(s x:Option AV):OE:=rD (s.bind fun s=>x.bind fun x=>Oc P (hf h) h.length ty s x)
theorem aJE(t:List AV)(h:Aa)(s x:Operand)(ty ty1 e1:TypeId)(hu:P.underlying ty1=some (.slice e1)):Gx O P t h (.call ⟨.builtin .append,#[s,x],#[ty,ty1]⟩)=apO P ty h (Ar t s) (Ar t x):=by
 rw[Fb _ _ _ rfl]
 simp only[exec,Et,apO]
 cases Ar t s with
 |none=>rfl
 |some a=>
  cases Ar t x with
  |none=>rfl
  |some b=>
   simp only[aAM,aE9]
   have e0:(#[ty,ty1]:Array TypeId)[0]?=some ty:=rfl
   have e1:(#[ty,ty1]:Array TypeId)[1]?=some ty1:=rfl
   simp only[e0,e1,aAM,hu]
theorem azF{ty e:TypeId}{n b:Nat}{z:AV}(he:al2 P ty=some e)(hn:mV P e=some n)(hb:byT P e=some b)(hz:Lr P e=some z)(ok:(decide (b≤2 ^ 8)&&decide (n≠0)&&decide ((Bd z).length=n))=true)(h:Aa)(s x:AV)(hx:∀q,x≠.str q):
 apO P ty h (some s) (some x)=apK n h (some s) (srK n h (some x)):=by
 simp only[aIC,decide_eq_true_eq]at ok
 have hbad:¬(n=0∨2 ^ 8<b∨(Bd z).length≠n):=by
  rintro(h1|h1|h1)
  ·exact ok.1.2 h1
  ·omega
  ·exact h1 ok.2
 unfold apO
 simp only[aAM,Oc,he,hn,hb,hz]
 have key:∀(nfl:Bool) (new:List (List AV)) (fs:List Ew),rD (if n=0∨2 ^ 8<b∨(Bd z).length≠n then none else
  match s,new with
  |s,[]=>match s with
   | .nils| .slr _ _ _ _| .imm _ _ _=>some ⟨s,[],fs⟩
   |_=>none
  | .nils,new=>if new.length≤2 ^ 39 then some ⟨.slr n h.length 0 new.length,[.new h.length (.live n nfl false new)],fs⟩else none
  | .slr _ b r len,new=>
    match hf h b with
    |some (.live st fl _ rows)=>
     if st=n∧r+len≤rows.length∧len+new.length≤2 ^ 39 then
      some ⟨.slr st h.length 0 (len+new.length),[.put b .dead,.new h.length (.live st (fl&&nfl) false ((rows.drop r).take len++new))],.blk b::fs⟩
     else none
    |_=>none
  |_,_=>none)=apK n h (some s) (some (nfl,new)):=fun nfl new fs=>by
  rw[if_neg hbad]
  cases new with
  |nil=>cases s<;>rfl
  |cons q new=>
   cases s with
   |nils=>simp only[aP6];split<;>rfl
   |slr a b r len=>
    simp only[aQQ]
    unfold apS
    have eh:hf h b=h[b]?:=rfl
    rw[eh]
    cases h[b]? with
    |none=>rfl
    |some c=>
     cases c with
     |live st fl w rows=>
      simp only
      by_cases h1:st=n∧r+len=rows.length∧len+(q::new).length≤2 ^ 39
      ·rw[if_pos h1,if_pos ⟨h1.1,by omega,h1.2.2⟩,List.take_of_length_le (by simp;omega)]
       rfl
      ·rw[if_neg h1]
       unfold apT
       split<;>rfl
     |_=>rfl
   |_=>rfl
 cases x with
 |nils=>exact key true [] []
 |imm st fl rows=>
  simp only[Hi,aQ9,hn,aID.injEq]
  by_cases hq:n=st
  ·subst hq;simp only[if_true,aAM];exact key fl rows []
  ·rw[if_neg hq,if_neg (fun e=>hq e.symm)]
   cases s<;>rfl
 |slr st b' r len=>
  simp only[Hi,aSD,hn,Ju,srS]
  have eh:hf h b'=h[b']?:=rfl
  rw[eh]
  cases h[b']? with
  |none=>cases s<;>rfl
  |some c=>
   cases c with
   |live st fl w rows=>
    simp only
    by_cases hq:r+len≤rows.length
    ·simp only[hq,if_true,aAM,true_and,aID.injEq]
     by_cases hq2:n=st
     ·subst hq2;simp only[if_true,aAM];exact key fl _ _
     ·rw[if_neg hq2,if_neg (fun e=>hq2 e.symm)];cases s<;>rfl
    ·simp only[hq,if_false,false_and];cases s<;>rfl
   |frz st fl rows=>
    simp only
    by_cases hq:r+len≤rows.length
    ·simp only[hq,if_true,aAM,true_and,aID.injEq]
     by_cases hq2:n=st
     ·subst hq2;simp only[if_true,aAM];exact key fl _ _
     ·rw[if_neg hq2,if_neg (fun e=>hq2 e.symm)];cases s<;>rfl
    ·simp only[hq,if_false,false_and];cases s<;>rfl
   |_=>cases s<;>rfl
 |str q=>exact(hx q rfl).elim
 |_=>cases s<;>rfl
def rtK(Q:Gw→Aa→Prop)(x:Option (List AV × List CB × List Nat)):Prop:=
 match x with
 |some ([v],cs,_)=>Q (.ret v) cs
 |_=>False
theorem aWB(Q:Gw→Aa→Prop)(v:AV)(cs:List CB)(m:List Nat):rtK Q (some ([v],cs,m))=Q (.ret v) cs:=acR rfl rfl
theorem a6N{q:Nat}{vs:List AV}{h:Aa}{Q:Gw→Aa→Prop}:Rt q (some vs) h Q=rtK Q (Vw (hf h) (aOY q) [lW vs]):=by
 unfold Rt aTW
 simp only[aAM,jR]
 cases hp:Vw (hf h) (aOY q) [lW vs]with
 |none=>simp[rtK]
 |some x=>
  obtain⟨ws,cs,m⟩:=x
  simp only[aAM]
  match ws with
  | [v]=>
    simp only[rtK,aE9]
    exact propext ⟨fun⟨o,h',e,k⟩=>by cases e;exact k,fun k=>⟨_,_,rfl,k⟩⟩
  | []=>simp[rtK]
  |_::_::_=>simp[rtK]
theorem a8E(vs:List AV)(h:Aa)(Q:Gw→Aa→Prop):Rt1 0 (some vs) h Q=rtK Q (Vw (hf h) [] [lW vs]):=a6N
theorem a5E(q:Nat)(vs:List AV)(h:Aa)(Q:Gw→Aa→Prop):Rt (q+1) (some vs) h Q=rtK Q (Vw (hf h) (aOY (q+1)) [lW vs]):=a6N
end
end
noncomputable section
set_option maxRecDepth 100000
def EVi:=PLift.up (acL @aSZ (acL @a22 (acL @bbN (acL @a3W (acL @a7U (acL @a9X (acL @a8K (acL @a8W (acL @aWF (acL @baC (acL @aZV (acL @aXY (acL @a27 (acL @a0N (acL @aXB (acL @a3Z (acL @aXD (acL @aYR (acL @aXP (acL @a9A (acL @a4G (acL @aXQ (acL @biL (acL @bdY (acL @aZZ (acL @aZK (acL @aWE @aZ1)))))))))))))))))))))))))))
def EVj:=PLift.up (acL @aWN (acL @bcN (acL @aYF (acL @a1D (acL @biM (acL @bmL (acL @a0J (acL @aXA (acL @a57 (acL @a1B (acL @a19 (acL @a1T (acL @baU (acL @a9H (acL @a8G (acL @a2T (acL @baS (acL @a8A (acL @a8P (acL @bd9 (acL @a41 (acL @a9N @a7A))))))))))))))))))))))
def EVk:=PLift.up (acL @biW (acL @bdF (acL @a7V (acL @a2F (acL @a55 (acL @a5U (acL @a2W (acL @a0L (acL @baA (acL @a5O (acL @a68 (acL @biK @a9L))))))))))))
def EVl:=PLift.up (acL @a2Y (acL @aVU (acL @a45 (acL @a7D (acL @a72 (acL @aYK (acL @beT (acL @aYE (acL @beN (acL @aZ0 (acL @a0B (acL @aQ9 (acL @aSD (acL @aNU (acL @a8Z (acL @baL (acL @aP6 (acL @aQQ (acL @aWB (acL @a8E (acL @a5E (acL @aOZ.{0,0} (acL @List.flatMap_nil.{0,0} (acL @List.isEmpty_nil.{0} (acL @List.isEmpty_cons.{0} (acL @List.range_succ (acL @aR1 (acL @List.contains_nil.{0} @List.contains_cons.{0}))))))))))))))))))))))))))))
def EVm:=PLift.up (acL @List.getElem?_nil.{0} (acL @a8U (acL @aY8 (acL @aU1 (acL @aKD (acL @aUR @aQE))))))
end
noncomputable section
theorem aE8{n:Nat}{fl nn:Bool}{rows:List (List AV)}(h:rows≠[]):Ak n fl nn rows=.imm n fl rows:=by
 cases rows with
 |nil=>exact(h rfl).elim
 |cons r rs=>rfl
theorem nT(n:Nat)(fl:Bool)(rows:List (List AV)):Ak n fl true rows=.imm n fl rows:=by cases rows<;>rfl
theorem a4R(n:Nat)(fl:Bool):Ak n fl false []=.nils:=rfl
section
variable {P:Program} {t e:TypeId} (hu:P.underlying t=some (.slice e))
include hu
theorem aMQ(n:Nat)(fl:Bool)(rows:List (List AV)):Qm P .eql t (.imm n fl rows) .nils=some (.bool false):=by simp[Qm,aEq,hu]
end
def a9G(v:Option AV)(ns:Option (List As)):Option Wz:=v.bind fun v=>ns.map fun ns=>⟨.ret v,ns,[]⟩
theorem aU2(v:AV)(ns:List As):a9G (some v) (some ns)=some ⟨.ret v,ns,[]⟩:=acR rfl rfl
theorem aYZ(base:Nat)(v:AV)(c:CB)(cs:List CB):ac0 base (some (.ret v,c::cs))=a9G (Ft 8 (fun i=>base+i) v) (Qe (fun i=>base+i) base (c::cs)):=by
 simp only[ac0,a9G,aAM,Gw.v,Gw.map]
def a9F(h:Aa)(lent:List Nat)(v:Option AV)(ns:Option (List As)):OE:=v.bind fun v=>ns.map fun ns=>(.ret v,(if lent.isEmpty|| !(hasImm 8 v||ns.any As.hasImm)then []else Gu (hf h) lent)++ns)
theorem aT0(h:Aa)(lent:List Nat)(v:AV)(ns:List As):a9F h lent (some v) (some ns)=some (.ret v,(if(lent.isEmpty|| !(hasImm 8 v||ns.any As.hasImm))=true then []else Gu (hf h) lent)++ns):=acR rfl rfl
theorem aWZ(h:Aa)(base:Nat)(lent:List Nat)(v:AV)(c:CB)(cs:List CB):crR h base lent (some (.ret v,c::cs))=a9F h lent (Ft 8 (fun i=>base+i) v) (Qe (fun i=>base+i) base (c::cs)):=by
 simp only[crR,a9F,aAM,Gw.v,Gw.map]
section
variable {O:Hz}
theorem bd4(h:Aa)(f:Nat)(args:List AV):shC O h f args=if(acV args||O.md f)=true then shK h (O.call (.sh f) args (Hj h))else cr (Gg O (hf h) h.length (.fn f) args):=acR rfl rfl
end
theorem a8T(b r o:Nat)(l:List AV):acV (.ptr b r o::l)=false:=acR rfl rfl
theorem a7H(a b r n:Nat)(l:List AV):acV (.slr a b r n::l)=false:=acR rfl rfl
theorem baQ(k:IntKind)(n:Int)(l:List AV):acV (.int k n::l)=false:=acR rfl rfl
theorem a7L(c:List AV)(l:List AV):acV (.agg c::l)=false:=acR rfl rfl
theorem bjA(b:Nat)(l:List AV):acV (.yl b::l)=true:=acR rfl rfl
theorem a8D:Hj []=[]:=acR rfl rfl
theorem a4F(c:CB)(h:Aa):Hj (c::h)=c.clean::Hj h:=acR rfl rfl
theorem baI(h h':Aa):Hj (h++h')=Hj h++Hj h':=List.map_append
theorem bd8(ps:List Nat)(a b:Code)(t:List AV)(st:Yk):CB.clean (.lp ps a b t st)=.lp ps a b t st:=acR rfl rfl
def Bv(h:Aa):Bool:=h.all fun c=>c.quiet c.clean
theorem aIJ:∀(cs:List CB) (i:Nat) (h:Aa),Eh h (Xw i cs)=h++cs
 | [],i,h=>by simp[Xw,Eh]
 |c::cs,i,h=>by simp[Xw,Eh,cM,aIJ cs]
theorem aKJ(h:Aa)(o:Gw)(h':Aa):shK h (some (o,h'))=(Iw 0 h h').map fun es=>(o,es):=acR rfl rfl
def EVo:=PLift.up (acL @a7R (acL @a9P (acL @bfZ (acL @a8L (acL @baG (acL @a95 (acL @a69 @ba4)))))))
def EVn:=PLift.up (acL @aU2 (acL @aYZ (acL @aT0 @aWZ)))
def EVp:=PLift.up (acL @bd4 (acL @baQ (acL @a7L (acL @a8T (acL @a7H (acL @bjA (acL @a8D (acL @a4F (acL @baI @bd8)))))))))
end
noncomputable section
def Dn:CB→Option (Nat × Bool × List (List AV))
 | .live st fl _ rows=>some (st,fl,rows)
 | .frz st fl rows=>some (st,fl,rows)
 |_=>none
def cY(f:AV→Option (AV × List Nat)):List AV→Option (List AV × List Nat)
 | []=>some ([],[])
 |a::l=>(f a).bind fun p=>(cY f l).map fun q=>(p.1::q.1,p.2++q.2)
def Ek(f:AV→Option (AV × List Nat)):List (List AV)→Option (List (List AV) × List Nat)
 | []=>some ([],[])
 |r::rs=>(cY f r).bind fun p=>(Ek f rs).map fun q=>(p.1::q.1,p.2++q.2)
def rd:Nat→HF→AV→Option (AV × List Nat)
 |0,_,_=>none
 |d+1,g,v=>
  match v with
  | .slr st b r len=>((g b).bind Dn).bind fun z=>
     if z.1=st∧r=0∧len=z.2.2.length then
      (bif z.2.1 then some (.imm st true z.2.2,[b])else(Ek (rd d g) z.2.2).map fun q=>(.imm st false q.1,b::q.2))
     else none
  | .agg cs=>(cY (rd d g) cs).map fun q=>(.agg q.1,q.2)
  | .iface t x=>(rd d g x).map fun q=>(.iface t q.1,q.2)
  | .func fn [] []=>some (.func fn [] [],[])
  | .func _ _ _=>none
  | .tup _=>none
  | .ptr _ _ _=>none
  | .yl _=>none
  | .mapr _=>none
  | .itr _=>none
  | .imm _ _ _=>none
  | .iptr _=>none
  |v=>some (v,[])
theorem azA{f f':AV→Option (AV × List Nat)}:∀{l:List AV} {p:List AV × List Nat},cY f l=some p→(∀x∈l,∀q,f x=some q→(∀b∈q.2,b∈p.2)→f' x=some q)→cY f' l=some p
 | [],p,h,_=>h
 |a::l,p,h,hf=>by
  simp only[cY,aqD,acZ]at h ⊢
  obtain⟨q,hq,r,hr,rfl⟩:=h
  exact⟨q,hf a (aCF ..) q hq (fun b hb=>aJZ _ hb),r,azA hr (fun x hx q' hq' hs=>hf x (aAO _ hx) q' hq' (fun b hb=>aKM _ (hs b hb))),rfl⟩
theorem qO{f f':AV→Option (AV × List Nat)}:∀{l:List (List AV)} {p:List (List AV) × List Nat},Ek f l=some p→(∀r∈l,∀x∈r,∀q,f x=some q→(∀b∈q.2,b∈p.2)→f' x=some q)→Ek f' l=some p
 | [],p,h,_=>h
 |a::l,p,h,hf=>by
  simp only[Ek,aqD,acZ]at h ⊢
  obtain⟨q,hq,r,hr,rfl⟩:=h
  exact⟨q,azA hq (fun x hx q' hq' hs=>hf a (aCF ..) x hx q' hq' (fun b hb=>aJZ _ (hs b hb))),r,
   qO hr (fun r' hr' x hx q' hq' hs=>hf r' (aAO _ hr') x hx q' hq' (fun b hb=>aKM _ (hs b hb))),rfl⟩
def Agr(R:List Nat)(g g':HF):Prop:=∀b∈R,∀z,(g b).bind Dn=some z→(g' b).bind Dn=some z
theorem aKU{g g':HF}:∀{d:Nat} {v:AV} {p:AV × List Nat},rd d g v=some p→Agr p.2 g g'→rd d g' v=some p
 |0,v,p,h,_=>by simp[rd]at h
 |d+1,v,p,h,ha=>by
  cases v with
  |slr st b r len=>
   simp only[rd,aqD]at h ⊢
   obtain⟨z,⟨c,hc,hz⟩,h⟩:=h
   split at h
   ·rename_i hq
    have hb:b∈p.2:=by
     cases hfl:z.2.1 with
     |true=>rw[hfl]at h;simp at h;rw[←h];simp
     |false=>rw[hfl]at h;simp only[cond_false,acZ]at h;obtain⟨q,_,rfl⟩:=h;simp
    have hz':=ha b hb z (by rw[hc];exact hz)
    obtain⟨c',hc',hz''⟩:=aqD.1 hz'
    refine⟨z,⟨c',hc',hz''⟩,?_⟩
    rw[if_pos hq]
    cases hfl:z.2.1 with
    |true=>rw[hfl]at h;exact h
    |false=>
     rw[hfl]at h
     simp only[cond_false,acZ]at h ⊢
     obtain⟨q,hq',rfl⟩:=h
     exact⟨q,qO hq' (fun r' _ x _ q' hx hs=>aKU hx (fun b' hb'=>ha b' (aAO _ (hs b' hb')))),rfl⟩
   ·cases h
  |agg cs=>
   simp only[rd,acZ]at h ⊢
   obtain⟨q,hq,rfl⟩:=h
   exact⟨q,azA hq (fun x _ q' hx hs=>aKU hx (fun b hb=>ha b (hs b hb))),rfl⟩
  |iface t x=>
   simp only[rd,acZ]at h ⊢
   obtain⟨q,hq,rfl⟩:=h
   exact⟨q,aKU hq ha,rfl⟩
  |func fn a b=>cases a<;>cases b<;>first|exact h|(simp[rd]at h)
  |_=>first|exact h|(simp[rd]at h)
theorem aRO{g:HF}:∀{d e:Nat} {v:AV} {p:AV × List Nat},d≤e→rd d g v=some p→rd e g v=some p
 |0,e,v,p,_,h=>by simp[rd]at h
 |d+1,0,v,p,he,h=>by omega
 |d+1,e+1,v,p,he,h=>by
  have IH:∀x q,rd d g x=some q→rd e g x=some q:=fun x q hx=>aRO (by omega) hx
  cases v with
  |slr st b r len=>
   simp only[rd,aqD]at h ⊢
   obtain⟨z,hz,h⟩:=h
   refine⟨z,hz,?_⟩
   split at h
   ·rename_i hq
    rw[if_pos hq]
    cases hfl:z.2.1 with
    |true=>rw[hfl]at h;exact h
    |false=>
     rw[hfl]at h
     simp only[cond_false,acZ]at h ⊢
     obtain⟨q,hq',rfl⟩:=h
     exact⟨q,qO hq' (fun r' _ x _ q' hx _=>IH x q' hx),rfl⟩
   ·cases h
  |agg cs=>
   simp only[rd,acZ]at h ⊢
   obtain⟨q,hq,rfl⟩:=h
   exact⟨q,azA hq (fun x _ q' hx _=>IH x q' hx),rfl⟩
  |iface t x=>
   simp only[rd,acZ]at h ⊢
   obtain⟨q,hq,rfl⟩:=h
   exact⟨q,IH _ _ hq,rfl⟩
  |func fn a b=>cases a<;>cases b<;>first|exact h|(simp[rd]at h)
  |_=>first|exact h|(simp[rd]at h)
theorem azR{f:AV→Option (AV × List Nat)}{f':AV→Option AV}:∀{l:List AV} {p:List AV × List Nat},cY f l=some p→(∀x∈l,∀q,f x=some q→f' x=some q.1)→Da f' l=some p.1
 | [],p,h,_=>by simp[cY]at h;subst h;rfl
 |a::l,p,h,hf=>by
  simp only[cY,aqD,acZ]at h
  obtain⟨q,hq,r,hr,rfl⟩:=h
  simp only[Da,hf a (aCF ..) q hq,aAM,azR hr (fun x hx=>hf x (aAO _ hx)),aE9]
theorem aCS{f:AV→Option (AV × List Nat)}{f':AV→Option AV}:∀{l:List (List AV)} {p:List (List AV) × List Nat},Ek f l=some p→(∀r∈l,∀x∈r,∀q,f x=some q→f' x=some q.1)→Da (Da f') l=some p.1
 | [],p,h,_=>by simp[Ek]at h;subst h;rfl
 |a::l,p,h,hf=>by
  simp only[Ek,aqD,acZ]at h
  obtain⟨q,hq,r,hr,rfl⟩:=h
  simp only[Da,azR hq (fun x hx=>hf a (aCF ..) x hx),aAM,aCS hr (fun r' hr'=>hf r' (aAO _ hr')),aE9]
theorem aJW{g:HF}{b:Nat}{z:Nat × Bool × List (List AV)}(h:(g b).bind Dn=some z):Ju g b 0 z.2.2.length=some z:=by
 obtain⟨c,hc,hz⟩:=aqD.1 h
 unfold Ju
 rw[hc]
 cases c with
 |live st fl w rows=>simp[Dn]at hz;subst hz;simp
 |frz st fl rows=>simp[Dn]at hz;subst hz;simp
 |dead=>simp[Dn]at hz
 |lp=>simp[Dn]at hz
theorem aEG{g:HF}:∀{d:Nat} {v:AV} {p:AV × List Nat},rd d g v=some p→Je d g v=some p.1
 |0,v,p,h=>by simp[rd]at h
 |d+1,v,p,h=>by
  cases v with
  |slr st b r len=>
   simp only[rd,aqD]at h
   obtain⟨z,hz,h⟩:=h
   split at h
   ·rename_i hq
    obtain⟨rfl,rfl,rfl⟩:=hq
    simp only[Je,aJW (aqD.2 hz),aAM]
    cases hfl:z.2.1 with
    |true=>rw[hfl]at h;simp at h;rw[←h];rfl
    |false=>
     rw[hfl]at h
     simp only[cond_false,acZ]at h
     obtain⟨q,hq',rfl⟩:=h
     simp[aCS hq' (fun r' _ x _ q' hx=>aEG hx)]
   ·cases h
  |agg cs=>
   simp only[rd,acZ]at h
   obtain⟨q,hq,rfl⟩:=h
   simp[Je,azR hq (fun x _ q' hx=>aEG hx)]
  |iface t x=>
   simp only[rd,acZ]at h
   obtain⟨q,hq,rfl⟩:=h
   simp[Je,aEG hq]
  |func fn a b=>cases a<;>cases b<;>first|(simp[rd]at h;subst h;rfl)|(simp[rd]at h)
  |_=>first|(simp[rd]at h;subst h;rfl)|(simp[rd]at h)
def Jw:Nat→(Nat→Option Nat)→AV→Option AV
 |0,_,_=>none
 |d+1,F,v=>
  match v with
  | .ptr b r o=>(F b).map fun b=>.ptr b r o
  | .slr st b r len=>(F b).map fun b=>.slr st b r len
  | .agg cs=>(Da (Jw d F) cs).map .agg
  | .tup cs=>(Da (Jw d F) cs).map .tup
  | .iface t x=>(Jw d F x).map (.iface t)
  | .func fn a b=>(Da (Jw d F) a).bind fun a=>(Da (Jw d F) b).map fun b=>.func fn a b
  | .yl b=>(F b).map .yl
  | .mapr b=>(F b).map .mapr
  | .itr b=>(F b).map .itr
  |v=>some v
def a9W(F:Nat→Option Nat)(g' g:HF):Prop:=∀i b,F i=some b→∀z,(g b).bind Dn=some z→
 ∃rows',(g' i).bind Dn=some (z.1,z.2.1,rows')∧(z.2.1=true→rows'=z.2.2)∧(z.2.1=false→Da (Da (Jw 8 F)) rows'=some z.2.2)
theorem sK{α β:Type}{f:α→Option β}:∀{l:List α} {r:List β},Da f l=some r→l.length=r.length
 | [],r,h=>by simp[Da]at h;subst h;rfl
 |a::l,r,h=>by
  simp only[Da,aqD,acZ]at h
  obtain⟨b,_,bs,h2,rfl⟩:=h
  simp[sK h2]
theorem asB{f f':AV→Option (AV × List Nat)}{F:AV→Option AV}{Z:Nat→Prop}:∀{l l':List AV} {p:List AV × List Nat},Da F l'=some l→cY f l=some p→
 (∀x' x q,F x'=some x→f x=some q→∃R',f' x'=some (q.1,R')∧R'.length=q.2.length∧∀i∈R',Z i)→∃R',cY f' l'=some (p.1,R')∧R'.length=p.2.length∧∀i∈R',Z i
 |l,[],p,ho,h,_=>by
  simp[Da]at ho;subst ho
  simp[cY]at h;subst h
  exact⟨[],rfl,rfl,fun i h=>by cases h⟩
 |l,a'::l',p,ho,h,hf=>by
  simp only[Da,aqD,acZ]at ho
  obtain⟨a,ha,l1,hl1,rfl⟩:=ho
  simp only[cY,aqD,acZ]at h
  obtain⟨q,hq,r,hr,rfl⟩:=h
  obtain⟨R1,e1,e2,z1⟩:=hf a' a q ha hq
  obtain⟨R2,e3,e4,z2⟩:=asB hl1 hr hf
  exact⟨R1++R2,by simp[cY,e1,e3],by simp[e2,e4],fun i hi=>(aC6.1 hi).elim (z1 i) (z2 i)⟩
theorem aFT{f f':AV→Option (AV × List Nat)}{F:AV→Option AV}{Z:Nat→Prop}:∀{l l':List (List AV)} {p:List (List AV) × List Nat},Da (Da F) l'=some l→Ek f l=some p→
 (∀x' x q,F x'=some x→f x=some q→∃R',f' x'=some (q.1,R')∧R'.length=q.2.length∧∀i∈R',Z i)→∃R',Ek f' l'=some (p.1,R')∧R'.length=p.2.length∧∀i∈R',Z i
 |l,[],p,ho,h,_=>by
  simp[Da]at ho;subst ho
  simp[Ek]at h;subst h
  exact⟨[],rfl,rfl,fun i h=>by cases h⟩
 |l,a'::l',p,ho,h,hf=>by
  simp only[Da,aqD,acZ]at ho
  obtain⟨a,ha,l1,hl1,rfl⟩:=ho
  simp only[Ek,aqD,acZ]at h
  obtain⟨q,hq,r,hr,rfl⟩:=h
  obtain⟨R1,e1,e2,z1⟩:=asB ha hq hf
  obtain⟨R2,e3,e4,z2⟩:=aFT hl1 hr hf
  exact⟨R1++R2,by simp[Ek,e1,e3],by simp[e2,e4],fun i hi=>(aC6.1 hi).elim (z1 i) (z2 i)⟩
theorem aG0{F:Nat→Option Nat}{g' g:HF}(H:a9W F g' g):∀{d e:Nat} {x' x:AV} {p:AV × List Nat},Jw e F x'=some x→rd d g x=some p→∃R',rd d g' x'=some (p.1,R')∧R'.length=p.2.length∧∀i∈R',∃b,F i=some b
 |0,e,x',x,p,_,h=>by simp[rd]at h
 |d+1,0,x',x,p,hx,_=>by simp[Jw]at hx
 |d+1,e+1,x',x,p,hx,h=>by
  have IH:∀e x' x q,Jw e F x'=some x→rd d g x=some q→∃R',rd d g' x'=some (q.1,R')∧R'.length=q.2.length∧∀i∈R',∃b,F i=some b:=fun e x' x q h1 h2=>aG0 H h1 h2
  cases x' with
  |slr st i r len=>
   simp only[Jw,acZ]at hx
   obtain⟨b,hb,rfl⟩:=hx
   simp only[rd,aqD]at h
   obtain⟨z,hz,h⟩:=h
   split at h
   ·rename_i hq
    obtain⟨rows',k1,k2,k3⟩:=H i b hb z (aqD.2 hz)
    simp only[rd,k1,aAM]
    cases hfl:z.2.1 with
    |true=>
     rw[hfl]at h;simp at h
     rw[if_pos ⟨hq.1,hq.2.1,by rw[k2 hfl];exact hq.2.2⟩,←h,k2 hfl]
     exact⟨[i],rfl,rfl,fun j hj=>by simp at hj;subst hj;exact⟨b,hb⟩⟩
    |false=>
     rw[hfl]at h
     simp only[cond_false,acZ]at h
     obtain⟨q,hq',rfl⟩:=h
     have hl:=sK (k3 hfl)
     rw[if_pos ⟨hq.1,hq.2.1,by rw[hl];exact hq.2.2⟩]
     obtain⟨R',e1,e2,z1⟩:=aFT (f':=rd d g') (k3 hfl) hq' (fun x' x q h1 h2=>IH 8 x' x q h1 h2)
     exact⟨i::R',by simp[e1],by simp[e2],fun j hj=>(aAN.1 hj).elim (fun e=>e▸⟨b,hb⟩) (z1 j)⟩
   ·cases h
  |agg cs=>
   simp only[Jw,acZ]at hx
   obtain⟨cs',hcs,rfl⟩:=hx
   simp only[rd,acZ]at h
   obtain⟨q,hq,rfl⟩:=h
   obtain⟨R',e1,e2,z1⟩:=asB (f':=rd d g') hcs hq (fun x' x q h1 h2=>IH e x' x q h1 h2)
   exact⟨R',by simp[rd,e1],e2,z1⟩
  |iface t y=>
   simp only[Jw,acZ]at hx
   obtain⟨y',hy,rfl⟩:=hx
   simp only[rd,acZ]at h
   obtain⟨q,hq,rfl⟩:=h
   obtain⟨R',e1,e2,z1⟩:=IH e _ _ q hy hq
   exact⟨R',by simp[rd,e1],e2,z1⟩
  |func fn a b=>
   simp only[Jw,aqD,acZ]at hx
   obtain⟨a1,ha,b1,hb,rfl⟩:=hx
   have la:=sK ha
   have lb:=sK hb
   cases a1 with
   |cons=>simp[rd]at h
   |nil=>
    cases b1 with
    |cons=>simp[rd]at h
    |nil=>
     simp at la lb
     obtain rfl:=la
     obtain rfl:=lb
     simp[rd]at h;subst h
     exact⟨[],rfl,rfl,fun i h=>by cases h⟩
  |ptr b r o=>
   simp only[Jw,acZ]at hx
   obtain⟨b,hb,rfl⟩:=hx
   simp[rd]at h
  |tup cs=>
   simp only[Jw,acZ]at hx
   obtain⟨b,hb,rfl⟩:=hx
   simp[rd]at h
  |yl b=>
   simp only[Jw,acZ]at hx
   obtain⟨b,hb,rfl⟩:=hx
   simp[rd]at h
  |mapr b=>
   simp only[Jw,acZ]at hx
   obtain⟨b,hb,rfl⟩:=hx
   simp[rd]at h
  |itr b=>
   simp only[Jw,acZ]at hx
   obtain⟨b,hb,rfl⟩:=hx
   simp[rd]at h
  |imm=>simp[Jw]at hx;subst hx;simp[rd]at h
  |iptr=>simp[Jw]at hx;subst hx;simp[rd]at h
  |_=>simp[Jw]at hx;subst hx;simp[rd]at h;subst h;exact⟨[],rfl,rfl,fun i h=>by cases h⟩
end
noncomputable section
open Go.RowKit
section
variable {P:Program} {O:Hz} {pr:Pz}
def fnS(P:Program)(rs:List ResultVar)(x:R):Option (Gw × Aa):=
 match x with
 |some (.normal,s)|some (.ret,s)=>(qI P s rs).map fun vs=>(.ret (lW vs),s.h)
 |some (.pan v,s)=>some (.pan v,s.h)
 |_=>none
theorem a89{f:Nat}{fn:Func}(hf:P.funcs[f]?=some fn){c:Code}(hb:fn.body=some c){args:List AV}(hl:args.length≤fn.ntmps)(h:Aa):
 evS O P f args h=fnS P fn.results.toList (Fp O P Wu c [] ⟨mk fn.ntmps (Fe args),h⟩):=by
 unfold evS
 simp only[hf,hb]
 rw[aYO _ _ hl]
 cases Fp O P Wu c [] ⟨mk fn.ntmps (Fe args),h⟩with
 |none=>rfl
 |some x=>
  obtain⟨e,s⟩:=x
  cases e<;>rfl
def FnS(P:Program)(rs:List ResultVar)(Q:Gw→Aa→Prop)(x:R):Prop:=∃o h,fnS P rs x=some (o,h)∧Q o h
def RtS(vs:Option (List AV))(h:Aa)(Q:Gw→Aa→Prop):Prop:=
 match vs with
 |some vs=>Q (.ret (lW vs)) h
 |none=>False
theorem aZ3(rs:List ResultVar)(Q:Gw→Aa→Prop)(t:List AV)(h:Aa):FnS P rs Q (some (.ret,⟨t,h⟩))=RtS (qI P ⟨t,h⟩ rs) h Q:=by
 cases hr:qI P ⟨t,h⟩ rs with
 |none=>simp[FnS,fnS,RtS,hr]
 |some vs=>
  have e:fnS P rs (some (.ret,⟨t,h⟩))=some (.ret (lW vs),h):=by simp[fnS,hr]
  exact propext (Iff.intro (fun⟨o,h',e',q⟩=>by rw[e]at e';cases e';exact q) (fun q=>⟨_,_,e,q⟩))
theorem aS1(rs:List ResultVar)(Q:Gw→Aa→Prop)(t:List AV)(h:Aa):FnS P rs Q (some (.normal,⟨t,h⟩))=RtS (qI P ⟨t,h⟩ rs) h Q:=by
 rw[←aZ3];rfl
theorem a0A(vs:List AV)(h:Aa)(Q:Gw→Aa→Prop):RtS (some vs) h Q=Q (.ret (lW vs)) h:=acR rfl rfl
theorem aYU{rs:List ResultVar}{Q:Gw→Aa→Prop}:¬FnS P rs Q none:=fun⟨_,_,h,_⟩=>by simp[fnS]at h
def ShQ(O:Hz)(f:Nat)(args:List AV)(h:Aa)(Q:Gw→Aa→Prop):Prop:=∃o h',O.call (.sh f) args h=some (o,h')∧Q o h'
theorem ShQ.start{f:Nat}{fn:Func}{c:Code}{args:List AV}{h:Aa}{Q:Gw→Aa→Prop}(hp:pr f=none)(hf:P.funcs[f]?=some fn)(hb:fn.body=some c)(hl:Nat.ble args.length fn.ntmps=true)
 (he:FnS P fn.results.toList Q (Fp (om P pr) P 5000 c [] ⟨mk fn.ntmps (Fe args),h⟩)) (hs:pr.sh f=none:=by exact rfl):ShQ (om P pr) f args h Q:=by
 obtain⟨o,h',e,q⟩:=he
 exact⟨o,h',a6E hp hs ((a89 hf hb (Nat.le_of_ble_eq_true hl) h).trans e),q⟩
def ncK(x:Option AV):OE:=
 match x with
 |some (.ptr b r o)=>some (.ret (.ptr b r o),[])
 |some (.iptr cs)=>some (.ret (.iptr cs),[])
 |some (.func (.func f) a c)=>some (.ret (.func (.func f) a c),[])
 |_=>none
theorem a8M(b r o:Nat):ncK (some (.ptr b r o))=some (.ret (.ptr b r o),[]):=acR rfl rfl
theorem bdR(t:List AV)(h:Aa)(x:Operand):Gx O P t h (.nilCheck x)=ncK (Ar t x):=by
 rw[Fb _ _ _ rfl]
 simp only[exec,ncK]
 cases Ar t x with
 |none=>rfl
 |some v=>
  cases v with
  |func fn a c=>cases fn<;>rfl
  |_=>rfl
theorem bhK(t:List AV)(h:Aa)(x:Operand):ftA O P t h (.nilCheck x)=some []:=acR rfl rfl
end
def EVq:=PLift.up (acL @aZ3 (acL @aS1 (acL @a0A (acL @a8M (acL @bdR @bhK)))))
end
noncomputable section
open Go.RowKit
section
variable {P:Program} {O:Hz}
end
def jV(k st:Nat)(fl:Bool)(rows:List (List AV))(v:AV)(g:Aa):Prop:=
 (rows=[]∧v=.nils)∨∃b w,v=.slr st (b+k) 0 rows.length∧g[b]?=some (.live st fl w rows)
def kl(k:Nat)(v:AV)(g:Aa):Aa:=
 match v with
 | .slr _ b _ _=>g.set (b-k) .dead
 |_=>g
theorem jV.nil(k st:Nat)(fl:Bool)(g:Aa):jV k st fl [] .nils g:=.inl ⟨rfl,rfl⟩
theorem jV.blk{k st:Nat}{fl w:Bool}{rows:List (List AV)}{g:Aa}{b n c:Nat}(h:g[b]?=some (.live st fl w rows))(hc:c=b+k)(hn:n=rows.length):jV k st fl rows (.slr st c 0 n) g:=by
 subst hc hn;exact .inr ⟨b,w,rfl,h⟩
theorem aBZ(k:Nat)(v:AV)(g:Aa):(kl k v g).length=g.length:=by
 unfold kl;split<;>simp
def apE(v:AV)(st:Nat)(fl:Bool)(rows:List (List AV))(base:Nat):List As:=
 match v with
 | .slr _ b _ _=>[.put b .dead,.new base (.live st fl false rows)]
 |_=>[.new base (.live st fl false rows)]
theorem aw2{k n:Nat}{fl:Bool}{rows:List (List AV)}{v:AV}{g:Aa}(ho:jV k n fl rows v g){pre:Aa}(hk:pre.length=k)(l:Aa)(r:List AV)(new:List (List AV))(hl:rows.length+(new.length+1)≤549755813888):
 apK n (pre++(g++l)) (some v) (some (fl,r::new))=some (.ret (.slr n (pre++(g++l)).length 0 (rows.length+(r::new).length)),apE v n fl (rows++r::new) (pre++(g++l)).length):=by
 rcases ho with⟨rfl,rfl⟩|⟨b,w,rfl,h2⟩
 ·rw[aP6,if_pos (by simp at hl ⊢;omega)]
  simp[apE]
 ·have hb:=(aAP.1 h2).1
  have hq:(pre++(g++l))[b+k]?=some (.live n fl w rows):=by
   rw[aLH (by omega),aG6 (by omega)]
   rw[show b+k-pre.length=b by omega];exact h2
  rw[aQQ,hq,aNU,if_pos ⟨rfl,by omega,by simp only[aHJ];omega⟩]
  simp[apE]
theorem aE0{k n:Nat}{fl:Bool}{rows:List (List AV)}{v:AV}{g:Aa}(ho:jV k n fl rows v g){pre:Aa}(hk:pre.length=k)(l:Aa)(st:Nat)(fl':Bool)(rows':List (List AV))(base:Nat):
 Eh (pre++(g++l)) (apE v st fl' rows' base)=pre++(kl k v g++(l++[.live st fl' false rows'])):=by
 rcases ho with⟨rfl,rfl⟩|⟨b,w,rfl,h2⟩
 ·simp[apE,Eh,cM,kl]
 ·have hb:=(aAP.1 h2).1
  simp only[apE,Eh,cM,kl,Nat.add_sub_cancel]
  rw[List.set_append_right _ _ (by omega),show b+k-pre.length=b by omega,List.set_append_left _ _ hb]
  simp
def pkd(O:Hz)(f:Nat)(args:List AV):Prop:=hdR args=true→(acV args||O.md f)=false
theorem uA{O:Hz}{f:Nat}{args:List AV}(h:(acV args||O.md f)=false):pkd O f args:=fun _=>h
theorem a04{O:Hz}{h:Aa}{f:Nat}{args:List AV}(hd:pkd O f args):cl O h (some (.func (.func f) [] [])) (some args)=cr (Gg O (hf h) h.length (.fn f) args):=by
 rw[aR4]
 simp only[aLI,aPA]
 split
 ·rename_i hh
  unfold shC
  rw[hd hh];simp only[Bool.false_eq_true,if_false]
 ·rfl
theorem jV.ln{P:Program}{k st:Nat}{fl:Bool}{rows:List (List AV)}{v:AV}{g:Aa}(h:jV k st fl rows v g){ty e:TypeId}(hu:P.underlying ty=some (.slice e)):ln P ty (some v)=some (.ret (.int .i64 rows.length),[]):=by
 rcases h with⟨rfl,rfl⟩|⟨b,w,rfl,_⟩
 ·simp[Ev.ln,aKK,hu,r1]
 ·simp[Ev.ln,aKK,hu,r1]
def aUQ(a:Int)(i:Nat):Int:=a.fdiv (2 ^ (min i 64))
def aXM(a:Int):Int:=IntKind.i64.wrap ((BitVec.ofInt 64 a&&&BitVec.ofInt 64 1).toNat:Int)
def aMM(n:Nat):Int:=IntKind.i64.wrap (1*2 ^ (min n 64))
section
variable {P:Program} (ty:TypeId)
theorem a8C(a:Int)(i:Nat):Qm P .shr ty (.int .i64 a) (.int .i64 (i:Int))=some (.int .i64 (aUQ a i)):=by
 simp[Qm,aUQ,IntKind.bits]
theorem bbV(a:Int):Qm P .and ty (.int .i64 a) (.int .i64 1)=some (.int .i64 (aXM a)):=by
 show(if IntKind.i64=IntKind.i64 then Nl .and .i64 a 1 else none)=_
 rw[if_pos rfl];rfl
theorem ba5(n:Nat):Qm P .shl ty (.int .i64 1) (.int .i64 (n:Int))=some (.int .i64 (aMM n)):=by
 simp[Qm,aMM,IntKind.bits]
end
def EVr:=PLift.up (acL @a8C (acL @bbV @ba5))
end
noncomputable section
open Go.RowKit
section
variable {P:Program} {O:Hz} {pr:Pz}
def rnX(O:Hz)(P:Program)(n:Nat)(k:List Br)(t:List AV)(b:Nat)(h2:Aa)(x:Option CB):R:=
 match x with
 |some (.lp _ _ _ _ .ready)=>Fj (Fp O P n) k .normal ⟨t,h2.set b .dead⟩
 |some (.lp _ _ _ _ (.done .ret))=>Fj (Fp O P n) k .ret ⟨t,h2.set b .dead⟩
 |some (.lp _ _ _ _ (.done (.exit i)))=>Fj (Fp O P n) k (.exit i) ⟨t,h2.set b .dead⟩
 |_=>none
def rnE(O:Hz)(P:Program)(n:Nat)(k:List Br)(t:List AV)(b:Nat)(h1:Aa)(x:OE):R:=
 match x with
 |some (.ret _,es)=>rnX O P n k t b (Eh h1 es) ((Eh h1 es)[b]?)
 |_=>none
def rnC(O:Hz)(h1:Aa)(b:Nat)(fv:Option AV):OE:=
 match fv with
 |some (.func (.func g) a c)=>cr (Jd O (hf h1) h1.length (vW g (a++[.yl b]++c)) (a++[.yl b]++c))
 |_=>none
theorem biS(n:Nat)(k:List Br)(t:List AV)(b:Nat)(h1:Aa)(x:Option Wz):
 (x.bind fun d=>match d.out with
   | .ret _=>
     let h2:=Eh h1 d.es
     match h2[b]? with
     |some (.lp _ _ _ _ .ready)=>Fj (Fp O P n) k .normal ⟨t,h2.set b .dead⟩
     |some (.lp _ _ _ _ (.done .ret))=>Fj (Fp O P n) k .ret ⟨t,h2.set b .dead⟩
     |some (.lp _ _ _ _ (.done (.exit i)))=>Fj (Fp O P n) k (.exit i) ⟨t,h2.set b .dead⟩
     |_=>none
   | .pan _=>none)=rnE O P n k t b h1 (cr x):=by
 cases x with
 |none=>rfl
 |some d=>
  obtain⟨o,es,fs⟩:=d
  cases o<;>rfl
theorem baB(n:Nat)(f:Operand)(ps:Array Nat)(asg body:Code)(k:List Br)(t:List AV)(h:Aa):
 Fp O P (n+1) (.rangeFunc f ps asg body) k ⟨t,h⟩=rnE O P n k t h.length (h++[.lp ps.toList asg body t .ready]) (rnC O (h++[.lp ps.toList asg body t .ready]) h.length (Ar t f)):=by
 simp only[Fp,rnC]
 cases Ar t f with
 |none=>rfl
 |some v=>
  simp only[aAM]
  cases v with
  |func fn a c=>
   cases fn with
   |func g=>exact biS n k t h.length _ _
   |_=>rfl
  |_=>rfl
theorem ba6(h1:Aa)(b g:Nat)(a c:List AV):rnC O h1 b (some (.func (.func g) a c))=if hdR (a++[.yl b]++c)=true then shC O h1 g (a++[.yl b]++c)else cr (Gg O (hf h1) h1.length (.fn g) (a++[.yl b]++c)):=aP3 h1 g _
theorem a43(n:Nat)(k:List Br)(t:List AV)(b:Nat)(h1:Aa)(v:AV)(es:List As):rnE O P n k t b h1 (some (.ret v,es))=rnX O P n k t b (Eh h1 es) ((Eh h1 es)[b]?):=acR rfl rfl
theorem aS6(n:Nat)(k:List Br)(t:List AV)(b:Nat)(h2:Aa)(ps:List Nat)(asg body:Code)(tm:List AV):rnX O P n k t b h2 (some (.lp ps asg body tm .ready))=Fj (Fp O P n) k .normal ⟨t,h2.set b .dead⟩:=acR rfl rfl
def slK(h:Aa)(b:Nat)(ok:Yk→Bool)(st:Yk)(x:Option CB):Option Aa:=
 match x with
 |some (.lp ps asg body tmps st')=>if ok st' then some (h.set b (.lp ps asg body tmps st))else none
 |_=>none
theorem bcZ(h:Aa)(b:Nat)(ok:Yk→Bool)(st:Yk):jH h b ok st=slK h b ok st (h[b]?):=by
 unfold jH slK
 cases h[b]? with
 |none=>rfl
 |some c=>cases c<;>rfl
theorem aZG(h:Aa)(b:Nat)(st:Yk)(ps:List Nat)(asg body:Code)(tm:List AV):slK h b Yk.isReady st (some (.lp ps asg body tm .ready))=some (h.set b (.lp ps asg body tm st)):=acR rfl rfl
theorem a4T(h:Aa)(b:Nat)(st:Yk)(ps:List Nat)(asg body:Code)(tm:List AV):slK h b Yk.isBusy st (some (.lp ps asg body tm .busy))=some (h.set b (.lp ps asg body tm st)):=acR rfl rfl
def a4X(O:Hz)(P:Program)(body:Code)(t:List AV)(x:Option Aa):R:=
 match x with
 |some h1=>Fp O P 5000 body [] ⟨t,h1⟩
 |none=>none
def aYV(O:Hz)(P:Program)(b:Nat)(body:Code)(x:R):R:=
 match x with
 |some (.normal,s)=>a4X O P body s.tmps (jH s.h b Yk.isReady .busy)
 |_=>none
def aLY(r:Bool)(x:Option Aa):Option (Gw × Aa):=x.map fun h2=>(.ret (.bool r),h2)
def aT1(b:Nat)(x:R):Option (Gw × Aa):=
 match x with
 |some (.normal,s)=>aLY true (jH s.h b Yk.isBusy .ready)
 |some (.ret,s)=>aLY false (jH s.h b Yk.isBusy (.done .ret))
 |some (.exit i,s)=>aLY false (jH s.h b Yk.isBusy (.done (.exit i)))
 |_=>none
theorem aTO(body:Code)(t:List AV)(h:Aa):a4X O P body t (some h)=Fp O P 5000 body [] ⟨t,h⟩:=acR rfl rfl
theorem aLZ(b:Nat)(body:Code)(t:List AV)(h:Aa):aYV O P b body (some (.normal,⟨t,h⟩))=a4X O P body t (jH h b Yk.isReady .busy):=acR rfl rfl
theorem aV8(r:Bool)(h:Aa):aLY r (some h)=some (.ret (.bool r),h):=acR rfl rfl
theorem aZD{vs:List AV}{b:Nat}{h:Aa}{ps:List Nat}{asg body:Code}{tm:List AV}{st:Yk}(hb:h[b]?=some (.lp ps asg body tm st))(hl:ps.length=vs.length):
 aY O P (vs++[.yl b]) h=aT1 b (aYV O P b body (Fp O P 5000 asg [] ⟨kH tm ps vs,h⟩)):=by
 unfold aY
 simp only[List.reverse_append,List.reverse_cons,List.reverse_nil,aLI,List.cons_append,List.reverse_reverse,List.length_reverse,hb,hl,if_true,Wu]
 cases Fp O P 5000 asg [] ⟨kH tm ps vs,h⟩with
 |none=>rfl
 |some x=>
  obtain⟨e,s⟩:=x
  cases e with
  |normal=>
   simp only[aAM,aYV]
   cases jH s.h b Yk.isReady .busy with
   |none=>rfl
   |some h1=>
    simp only[aAM,a4X]
    cases Fp O P 5000 body [] ⟨s.tmps,h1⟩with
    |none=>rfl
    |some y=>
     obtain⟨e,s⟩:=y
     cases e with
     |normal=>simp only[aAM,iC,aT1,aLY];cases jH s.h b Yk.isBusy .ready<;>rfl
     |ret=>simp only[aAM,iC,aT1,aLY];cases jH s.h b Yk.isBusy (.done .ret)<;>rfl
     |exit i=>simp only[aAM,iC,aT1,aLY];cases jH s.h b Yk.isBusy (.done (.exit i))<;>rfl
     |pan v=>rfl
  |_=>rfl
def RnE(b:Nat)(Q:Gw→Aa→Prop)(x:R):Prop:=∃o h',aT1 b x=some (o,h')∧Q o h'
def RnQ(O:Hz)(args:List AV)(h:Aa)(Q:Gw→Aa→Prop):Prop:=∃o h',O.call .round args h=some (o,h')∧Q o h'
theorem RnQ.start{vs:List AV}{b:Nat}{h:Aa}{ps:List Nat}{asg body:Code}{tm:List AV}{st:Yk}{Q:Gw→Aa→Prop}(hb:h[b]?=some (.lp ps asg body tm st))(hl:ps.length=vs.length)
 (he:RnE b Q (aYV (om P pr) P b body (Fp (om P pr) P 5000 asg [] ⟨kH tm ps vs,h⟩))):RnQ (om P pr) (vs++[.yl b]) h Q:=by
 obtain⟨o,h',e,q⟩:=he
 exact⟨o,h',aLU ((aZD hb hl).trans e),q⟩
theorem a86{C:R→Prop}{n f b:Nat}{k:List Br}{t:List AV}{h1 h2:Aa}{args:List AV}{Q:Gw→Aa→Prop}(hq:ShQ O f args h2 Q)(hk:∀o h',Q o h'→C (rnE O P n k t b h1 (shK h1 (some (o,h'))))):C (rnE O P n k t b h1 (shK h1 (O.call (.sh f) args h2))):=by
 obtain⟨o,h',e,q⟩:=hq
 rw[e];exact hk o h' q
theorem aU6(b:Nat)(Q:Gw→Aa→Prop)(t:List AV)(h:Aa):RnE b Q (some (.normal,⟨t,h⟩))=∃o h',aLY true (jH h b Yk.isBusy .ready)=some (o,h')∧Q o h':=acR rfl rfl
theorem a2E(h:Aa)(f:Nat)(args:List AV):aQO O h f args=if(acV args||O.md f)=true then some [.all]else if args.all (Di 8)=true then some []else ftR h args:=acR rfl rfl
theorem aW9{b:Nat}{Q:Gw→Aa→Prop}:¬RnE b Q none:=fun⟨_,_,h,_⟩=>by simp[aT1]at h
theorem a5M(n:Nat)(t:Tm)(p:Nat)(ps:List Nat)(v:AV)(vs:List AV):kH (mk n t) (p::ps) (v::vs)=kH (mk n (up t p v)) ps vs:=by
 simp only[kH,aXH]
theorem a91(n:Nat)(t:Tm)(vs:List AV):kH (mk n t) [] vs=mk n t:=by cases vs<;>rfl
end
def mfF(f:Nat→Nat):Ew→Ew
 | .cells b o n=>.cells (f b) o n
 | .blk b=>.blk (f b)
 | .all=>.all
def lgF(f:Nat→Nat)(log:Log):List (List Ew × List Ew):=log.map fun x=>(x.1.map fun e=>mfF f e.foot,x.2.map (mfF f))
def ae1(x y:List Ew × List Ew):Bool:=x.1.any (fun f=>(y.1++y.2).any f.meets)||y.1.any (fun f=>x.2.any f.meets)
def aQ4(ops:List Oper)(lg:List (List Ew × List Ew)):Bool:=
 (aC3 ops).all fun(i,j)=>match lg[i]?,lg[j]? with
   |some x,some y=> !ae1 x y
   |_,_=>false
theorem aOS(f:Nat→Nat)(x y:Ew)(h:x.meets y=true):(mfF f x).meets (mfF f y)=true:=by
 cases x<;>cases y<;>simp_all[Ew.meets,mfF]
theorem aN4(f:Nat→Nat)(x y:List As × List Ew)(h:Xt x y=true):ae1 (x.1.map fun e=>mfF f e.foot,x.2.map (mfF f)) (y.1.map fun e=>mfF f e.foot,y.2.map (mfF f))=true:=by
 simp only[Xt,ae1,Bool.or_eq_true,List.any_eq_true,aC6,aC7]at h ⊢
 rcases h with⟨a,⟨e,he,rfl⟩,b,hb,hm⟩|⟨a,⟨e,he,rfl⟩,b,hb,hm⟩
 ·refine .inl ⟨_,⟨e,he,rfl⟩,mfF f b,?_,aOS f _ _ hm⟩
  rcases hb with⟨e',he',rfl⟩|hb
  ·exact .inl ⟨e',he',rfl⟩
  ·exact .inr ⟨b,hb,rfl⟩
 ·exact .inr ⟨_,⟨e,he,rfl⟩,mfF f b,⟨b,hb,rfl⟩,aOS f _ _ hm⟩
theorem eR(f:Nat→Nat){ops:List Oper}{log:Log}(h:aQ4 ops (lgF f log)=true):It ops log=true:=by
 simp only[aQ4,It,aLD]at h ⊢
 rintro⟨i,j⟩ hij
 have:=h (i,j) hij
 simp only[lgF,aLE]at this ⊢
 cases hi:log[i]? with
 |none=>simp[hi]at this
 |some x=>
  cases hj:log[j]? with
  |none=>simp[hi,hj]at this
  |some y=>
   simp only[hi,hj,aE9,Bool.not_eq_true',Bool.not_eq_eq_eq_not]at this ⊢
   cases hc:Xt x y with
   |false=>rfl
   |true=>rw[aN4 f x y hc]at this;cases this
theorem oL(f:Nat→Nat):lgF f []=[]:=acR rfl rfl
theorem bW(f:Nat→Nat)(x:List As)(y:List Ew)(l:Log):lgF f ((x,y)::l)=(x.map (fun e=>mfF f e.foot),y.map (mfF f))::lgF f l:=acR rfl rfl
theorem Ry(f:Nat→Nat)(b o n:Nat):mfF f (.cells b o n)=.cells (f b) o n:=acR rfl rfl
theorem oD(f:Nat→Nat)(b:Nat):mfF f (.blk b)=.blk (f b):=acR rfl rfl
theorem oV(f:Nat→Nat):mfF f .all=.all:=acR rfl rfl
theorem nZ(b:Nat)(c:CB):As.foot (.new b c)=.blk b:=acR rfl rfl
theorem nY(b:Nat)(c:CB):As.foot (.put b c)=.blk b:=acR rfl rfl
theorem Rz(b r o:Nat)(vs:List AV):As.foot (.cells b r o vs)=.cells b o vs.length:=acR rfl rfl
section
variable {P:Program} {O:Hz}
theorem aXT(t:List AV)(h:Aa)(ty:TypeId)(x i:Operand):Gx O P t h (.index ty x i)=r1 ((Ar t x).bind fun x=>(Ar t i).bind fun i=>jT P ty x i):=by
 rw[Fb _ _ _ rfl]
 simp only[exec]
 cases Ar t x with
 |none=>rfl
 |some a=>
  cases Ar t i with
  |none=>rfl
  |some b=>exact Lc _
end
def EVs:=PLift.up (acL @baB (acL @ba6 (acL @a43 (acL @aS6 (acL @bcZ (acL @aZG (acL @a4T (acL @aTO (acL @aLZ (acL @aV8 (acL @aU6 (acL @a5M (acL @a2E (acL @aXT @a91))))))))))))))
end
noncomputable section
open Go.RowKit
set_option maxRecDepth 100000
def EVZ:=PLift.up (acL EVa.down (acL EVb.down (acL EVc.down (acL EVd.down (acL EVe.down (acL EVf.down (acL EVg.down (acL EVh.down (acL EVi.down (acL EVj.down (acL EVk.down (acL EVl.down (acL EVm.down (acL EVn.down (acL EVo.down (acL EVp.down EVq.down))))))))))))))))
section
variable {P:Program} {O:Hz}
class NoN(C:R→Prop):Prop where
 no:¬C none
instance{q:Nat}{rs:List ResultVar}{Q:Gw→Aa→Prop}:NoN (FnE P q rs Q):=⟨aZP⟩
instance{rs:List ResultVar}{Q:Gw→Aa→Prop}:NoN (FnS P rs Q):=⟨aYU⟩
instance{N:Nat}{J:Tm→Aa→Prop}{Q:Ex→St→Prop}:NoN (Rnd N J Q):=⟨aXR⟩
instance{b:Nat}{Q:Gw→Aa→Prop}:NoN (RnE b Q):=⟨aW9⟩
end
end
noncomputable section
open Go.RowKit
set_option maxRecDepth 100000
section
variable {P:Program} {O:Hz}
class Spl(r:R)(b:outParam Bool)(x y:outParam R):Prop where
 sp:∀{C:R→Prop},(b=true→C x)→(b=false→C y)→C r
instance{n:Nat}{k:List Br}{d:Option Nat}{op:Op}{cs:List CO}{b w:Bool}{t:List AV}{h:Aa}:Spl (rcG O P n k d op cs (.bool b) w t h) b (rcG O P n k d op cs (.bool true) w t h) (rcG O P n k d op cs (.bool false) w t h):=⟨bdD⟩
instance{n:Nat}{x y:Code}{k:List Br}{g:Bool}{s:St}:Spl (cdK O P n x y k (some (.bool g)) s) g (Fp O P n x k s) (Fp O P n y k s):=⟨bdK⟩
instance{n:Nat}{k:List Br}{d:Option Nat}{op:Op}{cs:List CO}{b w:Bool}{t:List AV}{h:Aa}:Spl (rqG O P n k d op cs (.bool b) w t h) b (rqG O P n k d op cs (.bool true) w t h) (rqG O P n k d op cs (.bool false) w t h):=⟨bcM⟩
instance{n:Nat}{k:List Br}{d:Option Nat}{op:Op}{cs:List CO}{b w:Bool}{t:List AV}{h:Aa}:Spl (rwG O P n k d op cs (.bool b) w t h) b (rwG O P n k d op cs (.bool true) w t h) (rwG O P n k d op cs (.bool false) w t h):=⟨bgN⟩
instance{n:Nat}{k:List Br}{ops:List Oper}{d:Option Nat}{op:Op}{cs:List CO}{b w:Bool}{t:List AV}{h:Aa}{log:Log}:Spl (rlG O P n k ops d op cs (.bool b) w t h log) b (rlG O P n k ops d op cs (.bool true) w t h log) (rlG O P n k ops d op cs (.bool false) w t h log):=⟨biJ⟩
theorem Bm{C:R→Prop}{r x y:R}{b:Bool}(h1:b=true→C x)(h2:b=false→C y)(s:Spl r b x y:=by infer_instance):C r:=s.sp h1 h2
class Drw(i:Nat)(r:R)(c:outParam Bool)(r':outParam R):Prop where
 dr:∀{C:R→Prop},¬C none→c=true→C r'→C r
instance{b:Bool}{k:R}:Drw 0 (Oh b k) b k:=⟨fun _=>a6F⟩
instance{n id:Nat}{ops:Array Oper}{k:List Br}{t:List AV}{h:Aa}:Drw 1 (Fp O P (n+1) (.region id ops true) k ⟨t,h⟩) (dL ops.toList&&aRI ops.toList) (rw O P n k (ops.toList.map (Oo ops.toList)) t h):=⟨fun h=>bd7 h⟩
instance{n id:Nat}{ops:Array Oper}{k:List Br}{t:List AV}{h:Aa}:Drw 2 (Fp O P (n+1) (.region id ops true) k ⟨t,h⟩) (dL ops.toList&&beJ ops.toList) (rq O P n k (ops.toList.map (Oo ops.toList)) t h):=⟨fun h=>biR h⟩
instance{n id:Nat}{ops:Array Oper}{k:List Br}{t:List AV}{h:Aa}:Drw 3 (Fp O P (n+1) (.region id ops true) k ⟨t,h⟩) (dL ops.toList) (rl O P n k ops.toList (ops.toList.map (Oo ops.toList)) t h []):=⟨fun h=>biG h⟩
structure Dw(r r':R):Prop where
 dr:∀{C:R→Prop},¬C none→C r'→C r
theorem dg{r r':R}{c:Bool}[d:Drw 0 r c r'](h:c=true:=by kernel_rfl):Dw r r':=⟨fun n k=>d.dr n h k⟩
theorem dw(i:Nat){r r':R}{c:Bool}[d:Drw i r c r'](h:c=true:=by decide+kernel):Dw r r':=⟨fun n k=>d.dr n h k⟩
theorem fd{C:R→Prop}{r r':R}[n:NoN C](k:C r')(e:Dw r r':=by first|exact dg|exact dw 1|exact dw 2|exact dw 3):C r:=e.dr n.no k
theorem fdq{C:R→Prop}{r r':R}[n:NoN C](k:C r')(e:Dw r r':=by first|exact dw 1|exact dw 2|exact dw 3):C r:=e.dr n.no k
end
section
variable {P:Program} {O:Hz}
def Un(O:Hz)(P:Program)(n:Nat)(k:List Br)(c:Code)(C:R→Prop):R→Prop
 |some (.normal,s)=>C (lpK O P n k (O.loop c s))
 |some (e,s)=>C (Fj (Fp O P n) k e s)
 |none=>False
theorem aUE(n:Nat)(k:List Br)(c:Code)(C:R→Prop)(s:St):Un O P n k c C (some (.normal,s))=C (lpK O P n k (O.loop c s)):=acR rfl rfl
theorem a3F(n:Nat)(k:List Br)(c:Code)(C:R→Prop)(i:Nat)(s:St):Un O P n k c C (some (.exit i,s))=C (Fj (Fp O P n) k (.exit i) s):=acR rfl rfl
theorem a7Z(n:Nat)(k:List Br)(c:Code)(C:R→Prop)(s:St):Un O P n k c C (some (.ret,s))=C (Fj (Fp O P n) k .ret s):=acR rfl rfl
instance{n:Nat}{k:List Br}{c:Code}{C:R→Prop}:NoN (Un O P n k c C):=⟨fun h=>h⟩
theorem a6I{pr:Pz}{C:R→Prop}[N:NoN C]{n:Nat}{k:List Br}{c:Code}{s:St}(h:Un (om P pr) P n k c C (Fp (om P pr) P 5000 c [] s)):C (lpK (om P pr) P n k ((om P pr).loop c s)):=by
 cases hm:Fp (om P pr) P 5000 c [] s with
 |none=>rw[hm]at h;exact h.elim
 |some x=>
  obtain⟨e,s'⟩:=x
  rw[hm]at h
  cases e with
  |normal=>
   replace h:C (lpK (om P pr) P n k ((om P pr).loop c s')):=h
   cases hl:(om P pr).loop c s' with
   |none=>rw[hl]at h;exact(N.no h).elim
   |some y=>
    obtain⟨e,s''⟩:=y
    rw[hl]at h
    rw[aaI hm hl];exact h
  |exit i=>rw[Nw hm (by simp)];exact h
  |ret=>rw[Nw hm (by simp)];exact h
  |pan v=>rw[Nw hm (by simp)];exact h
end
theorem a0S:IntKind.i64.wrap 1=1:=acR rfl rfl
def EE:=PLift.up (acL EVZ.down (acL @a0S (acL @aUE (acL @a3F (acL @a7Z (acL @Oo.eq_1 (acL @Ar.eq_1 (acL @Ar.eq_2 (acL @Ar.eq_4 (acL @Et.eq_1 (acL @Et.eq_2 (acL @aHY.eq_3 (acL @al4.eq_1 (acL @al4.eq_2 (acL @al4.eq_5 (acL @al4.eq_6 (acL @al4.eq_8 (acL @Eh.eq_1 (acL @Eh.eq_2 (acL @cM.eq_1 (acL @cM.eq_2 (acL @cM.eq_3 (acL @Xg.eq_1 (acL @Gf.eq_1 (acL @bsK.eq_1 (acL @lW.eq_1 (acL @lW.eq_2 (acL @decide_true @decide_false))))))))))))))))))))))))))))
def EF:=PLift.up (acL EE.down EVr.down)
def EG:=PLift.up (acL EF.down EVs.down)
end
noncomputable section
open Go.RowKit
def On(m:List Nat)(F:Nat→Option Nat):Prop:=∀i b,m[i]?=some b→F i=some b
theorem On.mono{m m':List Nat}{F:Nat→Option Nat}(h:On m' F)(hp:m <+:m'):On m F:=fun _ _ hi=>h _ _ (dD hp hi)
structure Gd(m m' R:List Nat):Prop where
 pre:m <+:m'
 nd:m.Nodup→m'.Nodup
 sub:∀b∈m',b∈m∨b∈R
theorem Gd.refl(m R:List Nat):Gd m m R:=⟨aR5 _,id,fun _ h=>.inl h⟩
theorem Gd.trans{m m1 m2 R1 R2 R:List Nat}(h1:Gd m m1 R1)(h2:Gd m1 m2 R2)(k1:∀b∈R1,b∈R)(k2:∀b∈R2,b∈R):Gd m m2 R:=
 ⟨h1.pre.trans h2.pre,fun h=>h2.nd (h1.nd h),fun b hb=>(h2.sub b hb).elim (fun h=>(h1.sub b h).imp id (k1 b)) (fun h=>.inr (k2 b h))⟩
theorem aZW(m:List Nat)(b:Nat){R:List Nat}(hb:b∈R):Gd m (Om m b).2 R:=by
 refine⟨(Vr m b).2.1,(Vr m b).2.2,fun x hx=>?_⟩
 unfold Om at hx
 split at hx
 ·exact .inl hx
 ·rcases aC6.1 hx with h|h
  ·exact .inl h
  ·simp at h;subst h;exact .inr hb
def Sp(e:Nat)(x:AV)(R:List Nat):Prop:=∀m,∃x' m',Fv e m x=some (x',m')∧Gd m m' R∧∀F,On m' F→Jw e F x'=some x
def SpL(e:Nat)(l:List AV)(R:List Nat):Prop:=∀m,∃l' m',Fv.refL (Fv e) m l=some (l',m')∧Gd m m' R∧∀F,On m' F→Da (Jw e F) l'=some l
def SpR(l:List (List AV))(R:List Nat):Prop:=∀m,∃l' m',Rl m l=some (l',m')∧Gd m m' R∧∀F,On m' F→Da (Da (Jw 8 F)) l'=some l
theorem spL{f:AV→Option (AV × List Nat)}{e:Nat}:∀{l:List AV} {p:List AV × List Nat},cY f l=some p→(∀x∈l,∀q,f x=some q→Sp e x q.2)→SpL e l p.2
 | [],p,h,_=>fun m=>⟨[],m,rfl,Gd.refl _ _,fun _ _=>rfl⟩
 |a::l,p,h,hf=>fun m=>by
  simp only[cY,aqD,acZ]at h
  obtain⟨q,hq,r,hr,rfl⟩:=h
  obtain⟨x',m1,e1,g1,k1⟩:=hf a (aCF ..) q hq m
  obtain⟨l',m2,e2,g2,k2⟩:=spL hr (fun x hx=>hf x (aAO _ hx)) m1
  refine⟨x'::l',m2,by simp[Fv.refL,e1,e2],g1.trans g2 (fun _ h=>aJZ _ h) (fun _ h=>aKM _ h),fun F hF=>?_⟩
  simp[Da,k1 F (hF.mono g2.pre),k2 F hF]
theorem spR{f:AV→Option (AV × List Nat)}:∀{l:List (List AV)} {p:List (List AV) × List Nat},Ek f l=some p→(∀r∈l,∀x∈r,∀q,f x=some q→Sp 8 x q.2)→SpR l p.2
 | [],p,h,_=>fun m=>⟨[],m,rfl,Gd.refl _ _,fun _ _=>rfl⟩
 |a::l,p,h,hf=>fun m=>by
  simp only[Ek,aqD,acZ]at h
  obtain⟨q,hq,r,hr,rfl⟩:=h
  obtain⟨x',m1,e1,g1,k1⟩:=spL hq (hf a (aCF ..)) m
  obtain⟨l',m2,e2,g2,k2⟩:=spR hr (fun x hx=>hf x (aAO _ hx)) m1
  refine⟨x'::l',m2,by simp[Rl,e1,e2],g1.trans g2 (fun _ h=>aJZ _ h) (fun _ h=>aKM _ h),fun F hF=>?_⟩
  simp[Da,k1 F (hF.mono g2.pre),k2 F hF]
theorem sp{g:HF}:∀{d e:Nat} {v:AV} {p:AV × List Nat},d≤e→rd d g v=some p→Sp e v p.2
 |0,e,v,p,_,h=>by simp[rd]at h
 |d+1,0,v,p,he,h=>by omega
 |d+1,e+1,v,p,he,h=>by
  have IH:∀x q,rd d g x=some q→Sp e x q.2:=fun x q hx=>sp (by omega) hx
  intro m
  cases v with
  |slr st b r len=>
   simp only[rd,aqD]at h
   obtain⟨z,_,h⟩:=h
   split at h
   ·have hb:b∈p.2:=by
     cases hfl:z.2.1 with
     |true=>rw[hfl]at h;simp at h;rw[←h];simp
     |false=>rw[hfl]at h;simp only[cond_false,acZ]at h;obtain⟨q,_,rfl⟩:=h;simp
    exact⟨_,_,rfl,aZW m b hb,fun F hF=>by simp[Jw,hF _ _ (Vr m b).1]⟩
   ·cases h
  |agg cs=>
   simp only[rd,acZ]at h
   obtain⟨q,hq,rfl⟩:=h
   obtain⟨l',m1,e1,g1,k1⟩:=spL hq (fun x _=>IH x) m
   exact⟨.agg l',m1,by simp[Fv,e1],g1,fun F hF=>by simp[Jw,k1 F hF]⟩
  |iface t x=>
   simp only[rd,acZ]at h
   obtain⟨q,hq,rfl⟩:=h
   obtain⟨l',m1,e1,g1,k1⟩:=IH x q hq m
   exact⟨.iface t l',m1,by simp[Fv,e1],g1,fun F hF=>by simp[Jw,k1 F hF]⟩
  |func fn a b=>
   cases a with
   |cons=>simp[rd]at h
   |nil=>
    cases b with
    |cons=>simp[rd]at h
    |nil=>exact⟨_,m,rfl,Gd.refl _ _,fun _ _=>rfl⟩
  |ptr b r o=>simp[rd]at h
  |tup cs=>simp[rd]at h
  |yl b=>simp[rd]at h
  |mapr b=>simp[rd]at h
  |itr b=>simp[rd]at h
  |imm=>simp[rd]at h
  |iptr=>simp[rd]at h
  |_=>exact⟨_,m,rfl,Gd.refl _ _,fun _ _=>rfl⟩
def Cl(g:HF)(S:List Nat):Prop:=∀b∈S,∃z,(g b).bind Dn=some z∧(z.2.1=false→∃d q,d≤8∧Ek (rd d g) z.2.2=some q∧∀x∈q.2,x∈S)
theorem Cl.nil(g:HF):Cl g []:=fun _ h=>by cases h
theorem Cl.app{g:HF}{S T:List Nat}(h1:Cl g S)(h2:Cl g T):Cl g (S++T):=fun b hb=>by
 rcases aC6.1 hb with h|h
 ·obtain⟨z,k1,k2⟩:=h1 b h
  exact⟨z,k1,fun e=>by obtain⟨d,q,a1,a2,a3⟩:=k2 e;exact⟨d,q,a1,a2,fun x hx=>aJZ _ (a3 x hx)⟩⟩
 ·obtain⟨z,k1,k2⟩:=h2 b h
  exact⟨z,k1,fun e=>by obtain⟨d,q,a1,a2,a3⟩:=k2 e;exact⟨d,q,a1,a2,fun x hx=>aKM _ (a3 x hx)⟩⟩
theorem clL{g:HF}{f:AV→Option (AV × List Nat)}:∀{l:List AV} {p:List AV × List Nat},cY f l=some p→(∀x∈l,∀q,f x=some q→Cl g q.2)→Cl g p.2
 | [],p,h,_=>by simp[cY]at h;subst h;exact Cl.nil g
 |a::l,p,h,hf=>by
  simp only[cY,aqD,acZ]at h
  obtain⟨q,hq,r,hr,rfl⟩:=h
  exact(hf a (aCF ..) q hq).app (clL hr fun x hx=>hf x (aAO _ hx))
theorem clR{g:HF}{f:AV→Option (AV × List Nat)}:∀{l:List (List AV)} {p:List (List AV) × List Nat},Ek f l=some p→(∀r∈l,∀x∈r,∀q,f x=some q→Cl g q.2)→Cl g p.2
 | [],p,h,_=>by simp[Ek]at h;subst h;exact Cl.nil g
 |a::l,p,h,hf=>by
  simp only[Ek,aqD,acZ]at h
  obtain⟨q,hq,r,hr,rfl⟩:=h
  exact(clL hq (hf a (aCF ..))).app (clR hr fun x hx=>hf x (aAO _ hx))
theorem aQ3{g:HF}:∀{d:Nat} {v:AV} {p:AV × List Nat},d≤9→rd d g v=some p→Cl g p.2
 |0,v,p,_,h=>by simp[rd]at h
 |d+1,v,p,hd,h=>by
  have IH:∀x q,rd d g x=some q→Cl g q.2:=fun x q hx=>aQ3 (by omega) hx
  cases v with
  |slr st b r len=>
   simp only[rd,aqD]at h
   obtain⟨z,hz,h⟩:=h
   have hz':(g b).bind Dn=some z:=aqD.2 hz
   split at h
   ·cases hfl:z.2.1 with
    |true=>
     rw[hfl]at h;simp at h;rw[←h]
     intro b' hb'
     simp at hb';subst hb'
     exact⟨z,hz',fun e=>by rw[hfl]at e;cases e⟩
    |false=>
     rw[hfl]at h;simp only[cond_false,acZ]at h
     obtain⟨q,hq,rfl⟩:=h
     intro b' hb'
     rcases aAN.1 hb' with rfl|hb'
     ·exact⟨z,hz',fun _=>⟨d,q,by omega,hq,fun x hx=>aAO _ hx⟩⟩
     ·obtain⟨z',k1,k2⟩:=clR hq (fun r _ x _=>IH x) b' hb'
      exact⟨z',k1,fun e=>by obtain⟨d',q',a1,a2,a3⟩:=k2 e;exact⟨d',q',a1,a2,fun x hx=>aAO _ (a3 x hx)⟩⟩
   ·cases h
  |agg cs=>
   simp only[rd,acZ]at h
   obtain⟨q,hq,rfl⟩:=h
   exact clL hq fun x _=>IH x
  |iface t x=>
   simp only[rd,acZ]at h
   obtain⟨q,hq,rfl⟩:=h
   exact IH x q hq
  |func fn a b=>
   cases a<;>cases b<;>first|(simp[rd]at h;subst h;exact Cl.nil g)|(simp[rd]at h)
  |_=>first|(simp[rd]at h;subst h;exact Cl.nil g)|(simp[rd]at h)
theorem aB0{F:Nat→Option Nat}(f:Nat→Nat):∀{e:Nat} {x' x:AV},Jw e F x'=some x→∃y,Ft e f x'=some y
 |0,x',x,h=>by simp[Jw]at h
 |e+1,x',x,h=>by
  have L:∀{l l1:List AV},Da (Jw e F) l=some l1→∃y,Da (Ft e f) l=some y:=fun {l}=>by
   induction l with
   |nil=>exact fun _=>⟨[],rfl⟩
   |cons a l ih=>
    intro l1 h
    simp only[Da,aqD,acZ]at h
    obtain⟨b,hb,c,hc,_⟩:=h
    obtain⟨y,hy⟩:=aB0 f hb
    obtain⟨ys,hys⟩:=ih hc
    exact⟨y::ys,by simp[Da,hy,hys]⟩
  cases x' with
  |agg cs=>simp only[Jw,acZ]at h;obtain⟨_,h,_⟩:=h;obtain⟨y,hy⟩:=L h;exact⟨.agg y,by simp[Ft,hy]⟩
  |tup cs=>simp only[Jw,acZ]at h;obtain⟨_,h,_⟩:=h;obtain⟨y,hy⟩:=L h;exact⟨.tup y,by simp[Ft,hy]⟩
  |iface t x=>simp only[Jw,acZ]at h;obtain⟨_,h,_⟩:=h;obtain⟨y,hy⟩:=aB0 f h;exact⟨.iface t y,by simp[Ft,hy]⟩
  |func fn a b=>
   simp only[Jw,aqD,acZ]at h
   obtain⟨_,h1,_,h2,_⟩:=h
   obtain⟨y,hy⟩:=L h1
   obtain⟨y2,hy2⟩:=L h2
   exact⟨.func fn y y2,by simp[Ft,hy,hy2]⟩
  |_=>exact⟨_,rfl⟩
theorem aKI{α β γ:Type}{f:α→Option β}{f':α→Option γ}(H:∀a b,f a=some b→∃c,f' a=some c):∀{l:List α} {r:List β},Da f l=some r→∃s,Da f' l=some s
 | [],_,_=>⟨[],rfl⟩
 |a::l,r,h=>by
  simp only[Da,aqD,acZ]at h
  obtain⟨b,hb,c,hc,_⟩:=h
  obtain⟨y,hy⟩:=H a b hb
  obtain⟨ys,hys⟩:=aKI H hc
  exact⟨y::ys,by simp[Da,hy,hys]⟩
def Stn(F:Nat→Option Nat)(c':CB)(z:Nat × Bool × List (List AV)):Prop:=
 ∃rows',Dn c'=some (z.1,z.2.1,rows')∧(z.2.1=true→rows'=z.2.2)∧(z.2.1=false→Da (Da (Jw 8 F)) rows'=some z.2.2)
def Rnm(c:CB):Prop:=∀f,∃c',Ny f c=some c'
theorem spB{g:HF}{S:List Nat}(H:Cl g S){b:Nat}(hb:b∈S)(m:List Nat):∃c c' m' z,g b=some c∧Dn c=some z∧aiZ m c=some (c',m')∧Gd m m' S∧(∀F,On m' F→Stn F c' z)∧Rnm c':=by
 obtain⟨z,hz,hc⟩:=H b hb
 obtain⟨c,k1,k2⟩:=aqD.1 hz
 have R:∀rows,z.2.1=false→rows=z.2.2→∃l' m',Rl m rows=some (l',m')∧Gd m m' S∧∀F,On m' F→Da (Da (Jw 8 F)) l'=some rows:=fun rows e er=>by
  obtain⟨d,q,a1,a2,a3⟩:=hc e
  obtain⟨l',m',e1,g1,e2⟩:=spR (er▸a2) (fun r _ x _ q hx=>sp a1 hx) m
  exact⟨l',m',e1,⟨g1.pre,g1.nd,fun x hx=>(g1.sub x hx).imp id (a3 x)⟩,e2⟩
 have R2:∀l' rows m',(∀F,On m' F→Da (Da (Jw 8 F)) l'=some rows)→∀f,∃y,Da (Da (Ft 8 f)) l'=some y:=fun l' rows m' h f=>
  aKI (fun a b hab=>aKI (fun a b hab=>aB0 f hab) hab) (h (fun i=>m'[i]?) (fun _ _ h=>h))
 cases c with
 |live st fl w rows=>
  simp[Dn]at k2;subst k2
  cases fl with
  |true=>exact⟨_,_,m,_,k1,rfl,rfl,Gd.refl _ _,fun F _=>⟨rows,rfl,fun _=>rfl,fun e=>by cases e⟩,fun f=>⟨_,rfl⟩⟩
  |false=>
   obtain⟨l',m',e1,g1,e2⟩:=R rows rfl rfl
   refine⟨_,.live st false w l',m',_,k1,rfl,by simp[aiZ,e1],g1,fun F hF=>⟨l',rfl,fun e=>(by cases e),fun _=>e2 F hF⟩,fun f=>?_⟩
   obtain⟨y,hy⟩:=R2 l' rows m' e2 f
   exact⟨.live st false w y,by simp[Ny,hy]⟩
 |frz st fl rows=>
  simp[Dn]at k2;subst k2
  cases fl with
  |true=>exact⟨_,_,m,_,k1,rfl,rfl,Gd.refl _ _,fun F _=>⟨rows,rfl,fun _=>rfl,fun e=>by cases e⟩,fun f=>⟨_,rfl⟩⟩
  |false=>
   obtain⟨l',m',e1,g1,e2⟩:=R rows rfl rfl
   refine⟨_,.frz st false l',m',_,k1,rfl,by simp[aiZ,e1],g1,fun F hF=>⟨l',rfl,fun e=>(by cases e),fun _=>e2 F hF⟩,fun f=>?_⟩
   obtain⟨y,hy⟩:=R2 l' rows m' e2 f
   exact⟨.frz st false y,by simp[Ny,hy]⟩
 |dead=>simp[Dn]at k2
 |lp=>simp[Dn]at k2
theorem aWT{S:List Nat}:∀{m:List Nat},m.Nodup→(∀b∈m,b∈S)→m.length≤S.length:=by
 induction S with
 |nil=>intro m _ h;cases m with
  |nil=>simp
  |cons a m=>exact absurd (h a (aCF ..)) (by simp)
 |cons s S ih=>
  intro m hn h
  have h2:=ih (m:=m.erase s) (hn.erase s) (fun b hb=>by
   have hb':=List.mem_of_mem_erase hb
   rcases aAN.1 (h b hb')with rfl|h'
   ·exact absurd hb (hn.not_mem_erase)
   ·exact h')
  have h3:m.length≤(m.erase s).length+1:=by
   by_cases hs:s∈m
   ·rw[List.length_erase_of_mem hs];omega
   ·rw[List.erase_of_not_mem hs];omega
  simp;omega
theorem spC{g:HF}{S:List Nat}(H:Cl g S):∀(n i:Nat) (m:List Nat),m.Nodup→(∀b∈m,b∈S)→S.length<n+i→i≤m.length→
 ∃cs m',Rx n g i m=some (cs,m')∧m <+:m'∧m'.Nodup∧(∀b∈m',b∈S)∧i+cs.length=m'.length∧(∀c∈cs,Rnm c)∧
  ∀F,On m' F→∀j c',cs[j]?=some c'→∃b z,m'[i+j]?=some b∧(g b).bind Dn=some z∧Stn F c' z
 |0,i,m,hn,hs,hl,hi=>by have:=aWT hn hs;omega
 |n+1,i,m,hn,hs,hl,hi=>by
  unfold Rx
  cases hm:m[i]? with
  |none=>
   have:m.length≤i:=List.getElem?_eq_none_iff.1 hm
   exact⟨[],m,rfl,aR5 _,hn,hs,by simp;omega,(fun c hc=>by cases hc),fun F _ j c' hj=>by simp at hj⟩
  |some b=>
   have hlt:=(aAP.1 hm).1
   obtain⟨c,c',m1,z,k1,k2,k3,g1,k4,k5⟩:=spB H (hs b (aR6 hm)) m
   obtain⟨cs,m',e1,p1,p2,p3,p4,p5,p6⟩:=spC H n (i+1) m1 (g1.nd hn) (fun b hb=>(g1.sub b hb).elim (hs b) id) (by omega) (by have:=g1.pre.length_le;omega)
   refine⟨c'::cs,m',by simp[k1,k3,e1],g1.pre.trans p1,p2,p3,by simp;omega,fun x hx=>?_,fun F hF j x hj=>?_⟩
   ·rcases aAN.1 hx with rfl|hx
    ·exact k5
    ·exact p5 x hx
   ·cases j with
    |zero=>
     simp at hj;subst hj
     exact⟨b,z,dD (g1.pre.trans p1) (by simpa using hm),by rw[k1];exact k2,k4 F (hF.mono p1)⟩
    |succ j=>
     simp at hj
     obtain⟨b',z',a1,a2,a3⟩:=p6 F hF j x hj
     exact⟨b',z',by rw[←a1];congr 1;omega,a2,a3⟩
theorem a0K{h:Aa}{v:AV}{R:List Nat}(hs:Sp 8 v R)(hc:Cl (hf h) R)(hR:R.length<5000):
 ∃v' cs F,jR 0 v h=some (v',cs)∧a9W F (hf cs) (hf h)∧Jw 8 F v'=some v∧∀c∈cs,Rnm c:=by
 obtain⟨v',m,e1,g1,k1⟩:=hs []
 have hm:∀b∈m,b∈R:=fun b hb=>(g1.sub b hb).elim (fun h=>by cases h) id
 obtain⟨cs,m',e2,p1,p2,p3,p4,p5,p6⟩:=spC hc 5000 0 m (g1.nd aSU) hm (by omega) (aM9 _)
 refine⟨v',cs,fun i=>m'[i]?,by simp[jR,Vw,Fv.refL,e1,e2,aR1],fun i b hi z hz=>?_,k1 _ (fun _ _ h=>dD p1 h),p5⟩
 have hlt:=(aAP.1 hi).1
 obtain⟨b',z',a1,a2,rows',a3,a4,a5⟩:=p6 (fun i=>m'[i]?) (fun _ _ h=>h) i _ (aEO (by omega))
 rw[Nat.zero_add]at a1
 have hbb:b=b':=by have hi':m'[i]?=some b:=hi;rw[hi']at a1;cases a1;rfl
 subst hbb
 rw[hz]at a2;cases a2
 exact⟨rows',by show(cs[i]?).bind Dn=_;rw[aEO (by omega)];exact a3,a4,a5⟩
end
end Go.Ev
namespace Go.Ev
open Go.RowKit
theorem xA{f:Nat→Nat}{F:Nat→Option Nat}(hF:∀b,F (f b)=some b):∀{e:Nat} {x x1:AV},Ft e f x=some x1→Jw e F x1=some x
 |0,x,x1,h=>by simp[Ft]at h
 |e+1,x,x1,h=>by
  have L:∀{l l1:List AV},Da (Ft e f) l=some l1→Da (Jw e F) l1=some l:=fun {l}=>by
   induction l with
   |nil=>intro l1 h;simp[Da]at h;subst h;rfl
   |cons a l ih=>
    intro l1 h
    simp only[Da,aqD,acZ]at h
    obtain⟨b,hb,c,hc,rfl⟩:=h
    simp[Da,xA hF hb,ih hc]
  cases x with
  |agg cs=>simp only[Ft,acZ]at h;obtain⟨_,h,rfl⟩:=h;simp[Jw,L h]
  |tup cs=>simp only[Ft,acZ]at h;obtain⟨_,h,rfl⟩:=h;simp[Jw,L h]
  |iface t x=>simp only[Ft,acZ]at h;obtain⟨_,h,rfl⟩:=h;simp[Jw,xA hF h]
  |func fn a b=>
   simp only[Ft,aqD,acZ]at h
   obtain⟨_,h1,_,h2,rfl⟩:=h
   simp[Jw,L h1,L h2]
  |_=>simp only[Ft,aID.injEq]at h;subst h;simp[Jw,hF]
theorem wX{α β:Type}{f:α→Option β}{f':β→Option α}(H:∀a b,f a=some b→f' b=some a):∀{l:List α} {r:List β},Da f l=some r→Da f' r=some l
 | [],r,h=>by simp[Da]at h;subst h;rfl
 |a::l,r,h=>by
  simp only[Da,aqD,acZ]at h
  obtain⟨b,hb,c,hc,rfl⟩:=h
  simp[Da,H a b hb,wX H hc]
theorem aOF{f:Nat→Nat}:∀{cs:List CB} (_:∀c∈cs,Rnm c) (base:Nat),∃ns cs1,Qe f base cs=some ns∧(∀G,Eh G ns=G++cs1)∧Da (Ny f) cs=some cs1
 | [],_,base=>⟨[],[],rfl,fun G=>by simp[Eh],rfl⟩
 |c::cs,h,base=>by
  obtain⟨c1,e1⟩:=h c (aCF ..) f
  obtain⟨ns,cs1,e2,e3,e4⟩:=aOF (f:=f) (cs:=cs) (fun c hc=>h c (aAO _ hc)) (base+1)
  exact⟨.new base c1::ns,c1::cs1,by simp[Qe,e1,e2],fun G=>by simp[Eh,cM,e3],by simp[Da,e1,e4]⟩
theorem aWW{f:Nat→Nat}{F:Nat→Option Nat}(hF:∀b,F (f b)=some b){c c1:CB}(h:Ny f c=some c1){z:Nat × Bool × List (List AV)}(hz:Dn c=some z):Stn F c1 z:=by
 cases c with
 |live st fl w rows=>
  simp[Dn]at hz;subst hz
  cases fl with
  |true=>simp[Ny]at h;subst h;exact⟨rows,rfl,fun _=>rfl,fun e=>by cases e⟩
  |false=>
   simp only[Ny,acZ]at h
   obtain⟨r,hr,rfl⟩:=h
   exact⟨r,rfl,fun e=>(by cases e),fun _=>wX (fun a b hab=>wX (fun a b hab=>xA hF hab) hab) hr⟩
 |frz st fl rows=>
  simp[Dn]at hz;subst hz
  cases fl with
  |true=>simp[Ny]at h;subst h;exact⟨rows,rfl,fun _=>rfl,fun e=>by cases e⟩
  |false=>
   simp only[Ny,acZ]at h
   obtain⟨r,hr,rfl⟩:=h
   exact⟨r,rfl,fun e=>(by cases e),fun _=>wX (fun a b hab=>wX (fun a b hab=>xA hF hab) hab) hr⟩
 |dead=>simp[Dn]at hz
 |lp=>simp[Dn]at hz
structure Kp(lent:List Nat)(H H1:Aa):Prop where
 len:H.length≤H1.length
 rows:∀b,b<H.length→(hf H1 b).bind Dn=(hf H b).bind Dn
 same:∀b,b<H.length→b∉lent→H1[b]?=H[b]?
theorem aK0{H:Aa}:∀(l:List Nat) (G:Aa),G.length=H.length→(∀b,(hf G b).bind Dn=(hf H b).bind Dn)→
 (Eh G (Gu (hf H) l)).length=H.length∧(∀b,(hf (Eh G (Gu (hf H) l)) b).bind Dn=(hf H b).bind Dn)∧∀b,b∉l→(Eh G (Gu (hf H) l))[b]?=G[b]?
 | [],G,h1,h2=>⟨h1,h2,fun _ _=>rfl⟩
 |a::l,G,h1,h2=>by
  unfold Gu
  have other:∀b,b∉a::l→b∉l:=fun b hb h=>hb (aAO _ h)
  split
  ·rename_i st fl w rows ha
   have hlt:a<G.length:=by rw[h1];exact(aAP.1 ha).1
   obtain⟨k1,k2,k3⟩:=aK0 (H:=H) l (G.set a (.frz st fl rows)) (by simp[h1]) (fun b=>by
    by_cases hb:a=b
    ·subst hb
     show((G.set a _)[a]?).bind Dn=_
     rw[aOD hlt,ha];rfl
    ·show((G.set a _)[b]?).bind Dn=_
     rw[aER hb];exact h2 b)
   refine⟨k1,k2,fun b hb=>?_⟩
   show(Eh (G.set a _) _)[b]?=_
   rw[k3 b (other b hb),aER (fun e=>hb (by rw[←e];exact aCF ..))]
  ·obtain⟨k1,k2,k3⟩:=aK0 l G h1 h2
   exact⟨k1,k2,fun b hb=>k3 b (other b hb)⟩
theorem aSG{O:Hz}{H:Aa}{f:Nat}{args vs:List AV}{v:AV}{h':Aa}(hh:pkd O f args)(ha:Da (rdV H) args=some vs)(hp:vs.all (Di 8)=true)
 (hc:O.call (.fn f) vs []=some (.ret v,h')) (h1:∀f,∃y,Ft 8 f v=some y) (h2:∀c∈h',Rnm c):
 ∃v1 es H1 F,cl O H (some (.func (.func f) [] [])) (some args)=some (.ret v1,es)∧Eh H es=H1∧a9W F (hf H1) (hf h')∧Jw 8 F v1=some v∧Kp (args.flatMap (Dk 12 (hf H))) H H1∧∀i b,F i=some b→H.length≤i:=by
 obtain⟨v1,e1⟩:=h1 (fun i=>H.length+i)
 obtain⟨ns,cs1,e2,e3,e4⟩:=aOF (f:=fun i=>H.length+i) h2 H.length
 generalize hFF:(fun i=>if H.length≤i then some (i-H.length)else none:Nat→Option Nat)=F
 have hF:∀b,F (H.length+b)=some b:=fun b=>by rw[←hFF];simp
 have key:∃fz:List As,cl O H (some (.func (.func f) [] [])) (some args)=some (.ret v1,fz++ns)∧(fz=[]∨fz=Gu (hf H) (args.flatMap (Dk 12 (hf H)))):=by
  rw[a04 hh,aYM ha hp,hc]
  refine⟨_,by simp only[crR,aAM,Gw.v,e1,e2,aE9,Gw.map];rfl,?_⟩
  split
  ·exact .inl rfl
  ·exact .inr rfl
 obtain⟨fz,ec,hfz⟩:=key
 have hK:(Eh H fz).length=H.length∧(∀b,(hf (Eh H fz) b).bind Dn=(hf H b).bind Dn)∧∀b,b∉args.flatMap (Dk 12 (hf H))→(Eh H fz)[b]?=H[b]?:=by
  rcases hfz with rfl|rfl
  ·exact⟨rfl,fun _=>rfl,fun _ _=>rfl⟩
  ·exact aK0 _ H rfl (fun _=>rfl)
 obtain⟨k1,k2,k3⟩:=hK
 have hap:Eh H (fz++ns)=Eh H fz++cs1:=by rw[aeN,e3]
 refine⟨v1,_,_,F,ec,hap,fun i b hi z hz=>?_,xA hF e1,⟨by simp[k1],fun b hb=>?_,fun b hb hl=>?_⟩,fun i b hi=>?_⟩
 ·rw[←hFF]at hi;simp only at hi
  split at hi
  ·rename_i hle
   simp only[aID.injEq]at hi
   obtain⟨c,hcc,hcz⟩:=aqD.1 hz
   obtain⟨c1,g1,g2⟩:=nR e4 (show h'[b]?=some c from hcc)
   obtain⟨rows',r1,r2,r3⟩:=aWW hF g2 hcz
   refine⟨rows',?_,r2,r3⟩
   show((Eh H fz++cs1)[i]?).bind Dn=_
   rw[aLH (by omega),k1,hi,g1]
   exact r1
  ·cases hi
 ·rw[←k2 b]
  show((Eh H fz++cs1)[b]?).bind Dn=_
  rw[aG6 (by omega)];rfl
 ·rw[aG6 (by omega)];exact k3 b hl
 ·rw[←hFF]at hi;simp only at hi
  split at hi
  ·assumption
  ·cases hi
end Go.Ev
namespace Go.Ev
noncomputable section
open Go.RowKit
theorem fdx{C:R→Prop}{r r':R}[n:NoN C](k:C r')(e:Dw r r':=by first|exact dw 1|exact dw 3):C r:=e.dr n.no k
theorem aED{g:HF}(f:Nat→Nat):∀{d e:Nat} {v:AV} {p:AV × List Nat},d≤e→rd d g v=some p→∃y,Ft e f v=some y
 |0,e,v,p,_,h=>by simp[rd]at h
 |d+1,0,v,p,he,h=>by omega
 |d+1,e+1,v,p,he,h=>by
  have L:∀{l:List AV} {q:List AV × List Nat},cY (rd d g) l=some q→∃y,Da (Ft e f) l=some y:=fun {l}=>by
   induction l with
   |nil=>exact fun _=>⟨[],rfl⟩
   |cons a l ih=>
    intro q h
    simp only[cY,aqD,acZ]at h
    obtain⟨b,hb,c,hc,_⟩:=h
    obtain⟨y,hy⟩:=aED f (show d≤e by omega) hb
    obtain⟨ys,hys⟩:=ih hc
    exact⟨y::ys,by simp[Da,hy,hys]⟩
  cases v with
  |agg cs=>simp only[rd,acZ]at h;obtain⟨_,h,_⟩:=h;obtain⟨y,hy⟩:=L h;exact⟨.agg y,by simp[Ft,hy]⟩
  |iface t x=>simp only[rd,acZ]at h;obtain⟨_,h,_⟩:=h;obtain⟨y,hy⟩:=aED f (show d≤e by omega) h;exact⟨.iface t y,by simp[Ft,hy]⟩
  |func fn a b=>
   cases a<;>cases b<;>first|exact⟨_,rfl⟩|(simp[rd]at h)
  |tup cs=>simp[rd]at h
  |_=>exact⟨_,rfl⟩
theorem aNT{g:HF}(f:Nat→Nat){d e:Nat}(hd:d≤e):∀{l:List AV} {q:List AV × List Nat},cY (rd d g) l=some q→∃y,Da (Ft e f) l=some y
 | [],q,_=>⟨[],rfl⟩
 |a::l,q,h=>by
  simp only[cY,aqD,acZ]at h
  obtain⟨b,hb,c,hc,_⟩:=h
  obtain⟨y,hy⟩:=aED f hd hb
  obtain⟨ys,hys⟩:=aNT f hd hc
  exact⟨y::ys,by simp[Da,hy,hys]⟩
theorem aAE{g:HF}:∀{d e:Nat} {v:AV} {p:AV × List Nat},d≤e→rd d g v=some p→Of e g v=some p.1
 |0,e,v,p,_,h=>by simp[rd]at h
 |d+1,0,v,p,he,h=>by omega
 |d+1,e+1,v,p,he,h=>by
  cases v with
  |slr st b r len=>exact aEG (aRO he h)
  |agg cs=>
   simp only[rd,acZ]at h
   obtain⟨q,hq,rfl⟩:=h
   simp[Of,azR (f':=Of e g) hq (fun x _ q' hx=>aAE (show d≤e by omega) hx)]
  |iface t x=>
   simp only[rd,acZ]at h
   obtain⟨q,hq,rfl⟩:=h
   simp[Of,aAE (show d≤e by omega) hq]
  |func fn a b=>cases a<;>cases b<;>first|(simp[rd]at h;subst h;rfl)|(simp[rd]at h)
  |_=>first|(simp[rd]at h;subst h;rfl)|(simp[rd]at h)
theorem a0I{e:Nat}{f:Nat→Nat}{cs y:List AV}(h:Da (Ft e f) cs=some y):Ft (e+1) f (.tup cs)=some (.tup y):=by simp[Ft,h]
theorem aN0{e:Nat}{F:Nat→Option Nat}{v:AV}{outs:List AV}(h:Jw (e+1) F v=some (.tup outs)):∃o,v=.tup o∧Da (Jw e F) o=some outs:=by
 cases v with
 |tup cs=>simp[Jw]at h;exact⟨_,rfl,h⟩
 |func fn a b=>simp only[Jw,aqD,acZ]at h;obtain⟨_,_,_,_,h⟩:=h;cases h
 |_=>simp[Jw]at h
theorem a9C{e:Nat}{vs:List AV}{R:List Nat}(h:SpL e vs R):Sp (e+1) (.tup vs) R:=fun m=>by
 obtain⟨l',m',a1,a2,a3⟩:=h m
 exact⟨.tup l',m',by simp[Fv,a1],a2,fun F hF=>by simp[Jw,a3 F hF]⟩
def RdT(O:Hz)(f:Nat)(vs xs:List AV)(k:Nat):Prop:=
 ∃outs h' R,O.call (.fn f) vs []=some (.ret (.tup outs),h')∧cY (rd 6 (hf h')) outs=some (xs,R)∧R.length≤k∧∀c∈h',Rnm c
def RdV(O:Hz)(f:Nat)(vs:List AV)(x:AV)(k:Nat):Prop:=
 ∃v h' R,O.call (.fn f) vs []=some (.ret v,h')∧rd 6 (hf h') v=some (x,R)∧R.length≤k∧∀c∈h',Rnm c
theorem RdT.cl{O:Hz}{f:Nat}{vs xs:List AV}{k:Nat}(K:RdT O f vs xs k){H:Aa}{args:List AV}(hh:pkd O f args)(ha:Da (rdV H) args=some vs)(hp:vs.all (Di 8)=true):
 ∃outs es H1 R,cl O H (some (.func (.func f) [] [])) (some args)=some (.ret (.tup outs),es)∧Eh H es=H1∧Kp (args.flatMap (Dk 12 (hf H))) H H1∧cY (rd 6 (hf H1)) outs=some (xs,R)∧R.length≤k∧∀b∈R,H.length≤b:=by
 obtain⟨outs,h',R,hc,hr,hk,hn⟩:=K
 obtain⟨v1,es,H1,F,e1,e2,e3,e4,e5,e6⟩:=aSG hh ha hp hc (fun f=>by obtain⟨y,hy⟩:=aNT f (show 6≤7 by omega) hr;exact⟨.tup y,a0I hy⟩) hn
 obtain⟨o1,rfl,ho⟩:=aN0 e4
 obtain⟨R',k1,k2,k3⟩:=asB (f':=rd 6 (hf H1)) (Z:=fun i=>∃b,F i=some b) ho hr (fun x' x q a b=>aG0 e3 a b)
 exact⟨o1,es,H1,R',e1,e2,e5,k1,by rw[k2];exact hk,fun b hb=>by obtain⟨c,hc⟩:=k3 b hb;exact e6 b c hc⟩
theorem RdV.cl{O:Hz}{f:Nat}{vs:List AV}{x:AV}{k:Nat}(K:RdV O f vs x k){H:Aa}{args:List AV}(hh:pkd O f args)(ha:Da (rdV H) args=some vs)(hp:vs.all (Di 8)=true):
 ∃v es H1 R,cl O H (some (.func (.func f) [] [])) (some args)=some (.ret v,es)∧Eh H es=H1∧Kp (args.flatMap (Dk 12 (hf H))) H H1∧rd 6 (hf H1) v=some (x,R)∧R.length≤k∧∀b∈R,H.length≤b:=by
 obtain⟨v,h',R,hc,hr,hk,hn⟩:=K
 obtain⟨v1,es,H1,F,e1,e2,e3,e4,e5,e6⟩:=aSG hh ha hp hc (fun f=>aED f (show 6≤8 by omega) hr) hn
 obtain⟨R',k1,k2,k3⟩:=aG0 e3 e4 hr
 exact⟨v1,es,H1,R',e1,e2,e5,k1,by rw[k2];exact hk,fun b hb=>by obtain⟨c,hc⟩:=k3 b hb;exact e6 b c hc⟩
theorem af0{O:Hz}{H:Aa}{f:Nat}{args vs:List AV}{v:AV}(hh:pkd O f args)(ha:Da (rdV H) args=some vs)(hp:vs.all (Di 8)=true)(hc:O.call (.fn f) vs []=some (.ret v,[]))(h1:Di 8 v=true)(h2:hasImm 8 v=false):
 cl O H (some (.func (.func f) [] [])) (some args)=some (.ret v,[]):=by
 rw[a04 hh,aYM ha hp,hc,aJS,if_pos ⟨h1,h2⟩]
theorem a32{h:Aa}{vs xs:List AV}{R:List Nat}{Q:Gw→Aa→Prop}(h1:cY (rd 6 (hf h)) vs=some (xs,R))(hR:R.length<5000)(h2:lW vs=.tup vs)
 (q:∀outs h' R',cY (rd 6 (hf h')) outs=some (xs,R')→R'.length=R.length→(∀c∈h',Rnm c)→Q (.ret (.tup outs)) h'):Rt 0 (some vs) h Q:=by
 obtain⟨v',cs,F,e1,e2,e3,e4⟩:=a0K (v:=.tup vs) (a9C (spL (e:=7) h1 (fun x _ q hx=>sp (by omega) hx))) (clL h1 (fun x _ q hx=>aQ3 (by omega) hx)) hR
 obtain⟨o1,rfl,ho⟩:=aN0 e3
 obtain⟨R',k1,k2,_⟩:=asB (f':=rd 6 (hf cs)) (Z:=fun i=>∃b,F i=some b) ho h1 (fun x' x q a b=>aG0 e2 a b)
 exact⟨_,_,by simp[aTW,h2,e1],q _ _ _ k1 k2 e4⟩
theorem aGW{h:Aa}{v x:AV}{R:List Nat}{Q:Gw→Aa→Prop}(h1:rd 6 (hf h) v=some (x,R))(hR:R.length<5000)
 (q:∀v' h' R',rd 6 (hf h') v'=some (x,R')→R'.length=R.length→(∀c∈h',Rnm c)→Q (.ret v') h'):Rt 0 (some [v]) h Q:=by
 obtain⟨v',cs,F,e1,e2,e3,e4⟩:=a0K (sp (e:=8) (by omega) h1) (aQ3 (by omega) h1) hR
 obtain⟨R',k1,k2,_⟩:=aG0 e2 e3 h1
 exact⟨_,_,by simp[aTW,lW,e1],q _ _ _ k1 k2 e4⟩
theorem Jb{C:R→Prop}[n:NoN C]{r:R}(h:∀K:R→Prop,NoN K→(∀x,C x→K x)→K r):C r:=h C n fun _ h=>h
theorem aZB{v:AV}{H:Aa}{b:Nat}(l:List CB)(hb:b<H.length)(hv:∀a c r m,v=.slr a c r m→c≠b):(kl 0 v H++l)[b]?=H[b]?:=by
 rw[aG6 (by rw[aBZ];exact hb)]
 unfold kl
 split
 ·rename_i a c r m
  rw[aER];simpa using hv a c r m rfl
 ·rfl
theorem a3K{H:Aa}{b:Nat}{z:Nat × Bool × List (List AV)}(h:(hf H b).bind Dn=some z):b<H.length:=by
 obtain⟨c,hc,_⟩:=aqD.1 h
 exact(aAP.1 hc).1
theorem ab5{g g':HF}{d:Nat}{l:List (List AV)}{p:List (List AV) × List Nat}(h:Ek (rd d g) l=some p)(ha:Agr p.2 g g'):Ek (rd d g') l=some p:=
 qO h fun _ _ _ _ _ hq hs=>aKU hq fun b hb=>ha b (hs b hb)
theorem aIN{H:Aa}{d:Nat}{l:List (List AV)}{p:List (List AV) × List Nat}(hd:d≤9)(h:Ek (rd d (hf H)) l=some p):∀b∈p.2,b<H.length:=fun b hb=>by
 obtain⟨z,hz,_⟩:=clR h (fun r _ x _ q hx=>aQ3 hd hx) b hb
 exact a3K hz
theorem aFM{f:AV→Option (AV × List Nat)}:∀{l:List (List AV)} {p:List (List AV) × List Nat},Ek f l=some p→l.length=p.1.length
 | [],p,h=>by simp[Ek]at h;subst h;rfl
 |a::l,p,h=>by
  simp only[Ek,aqD,acZ]at h
  obtain⟨q,hq,r,hr,rfl⟩:=h
  simp[aFM hr]
theorem aRB{f:AV→Option (AV × List Nat)}:∀{l:List AV} {p:List AV × List Nat},cY f l=some p→l.length=p.1.length
 | [],p,h=>by simp[cY]at h;subst h;rfl
 |a::l,p,h=>by
  simp only[cY,aqD,acZ]at h
  obtain⟨q,hq,r,hr,rfl⟩:=h
  simp[aRB hr]
theorem pN{f:AV→Option (AV × List Nat)}{l xs:List AV}{x:AV}{R:List Nat}(h:cY f l=some (x::xs,R)):∃a l' R1 R2,l=a::l'∧f a=some (x,R1)∧cY f l'=some (xs,R2)∧R=R1++R2:=by
 cases l with
 |nil=>simp[cY]at h
 |cons a l=>
  simp only[cY,aqD,acZ]at h
  obtain⟨q,hq,r,hr,he⟩:=h
  simp only[Prod.mk.injEq,List.cons.injEq]at he
  obtain⟨⟨rfl,rfl⟩,rfl⟩:=he
  exact⟨a,l,q.2,r.2,rfl,hq,hr,rfl⟩
theorem aK2{f:AV→Option (AV × List Nat)}{l:List AV}{R:List Nat}(h:cY f l=some ([],R)):l=[]∧R=[]:=by
 cases l with
 |nil=>simp[cY]at h;exact⟨rfl,h⟩
 |cons a l=>have:=aRB h;simp at this
theorem a0D{g:HF}{d:Nat}{v:AV}{k:IntKind}{n:Int}{R:List Nat}(h:rd (d+1) g v=some (.int k n,R)):v=.int k n∧R=[]:=by
 cases v with
 |slr st b r len=>
  simp only[rd,aqD]at h
  obtain⟨z,_,h⟩:=h
  split at h
  ·cases hfl:z.2.1<;>rw[hfl]at h<;>simp at h
  ·cases h
 |func fn a b=>cases a<;>cases b<;>simp[rd]at h
 |int k' n'=>simp[rd]at h;exact⟨by simp[h],h.2⟩
 |agg cs=>simp[rd]at h
 |iface t x=>simp[rd]at h
 |_=>simp[rd]at h
theorem bO{g:HF}{d st:Nat}{fl nn:Bool}{v:AV}{rows:List (List AV)}{R:List Nat}(h:rd (d+1) g v=some (Ak st fl nn rows,R)):
 (v=.nils∧rows=[])∨∃b rows',v=.slr st b 0 rows.length∧(g b).bind Dn=some (st,fl,rows')∧rows'.length=rows.length∧(fl=true→rows'=rows)∧(fl=false→∃R',Ek (rd d g) rows'=some (rows,R')):=by
 have hs:(Ak st fl nn rows=.nils∧rows=[])∨Ak st fl nn rows=.imm st fl rows:=by
  cases rows with
  |nil=>cases nn with
   |true=>exact .inr rfl
   |false=>exact .inl ⟨rfl,rfl⟩
  |cons=>exact .inr rfl
 generalize Ak st fl nn rows=X at h hs
 cases v with
 |nils=>simp[rd]at h;obtain⟨rfl,_⟩:=h;rcases hs with⟨_,hs⟩|hs
        ·exact .inl ⟨rfl,hs⟩
        ·cases hs
 |slr st' b r len=>
  simp only[rd,aqD]at h
  obtain⟨z,hz,h⟩:=h
  split at h
  ·rename_i hq
   obtain⟨q1,rfl,q3⟩:=hq
   obtain⟨z1,z2,z3⟩:=z
   simp only at q1 q3 h
   subst q1
   cases z2 with
   |true=>
    simp at h
    obtain⟨rfl,_⟩:=h
    rcases hs with⟨hs,_⟩|hs
    ·cases hs
    ·cases hs
     exact .inr ⟨b,_,by rw[q3],aqD.2 hz,rfl,fun _=>rfl,fun e=>by cases e⟩
   |false=>
    simp only[cond_false,acZ]at h
    obtain⟨q,hq,he⟩:=h
    simp only[Prod.mk.injEq]at he
    obtain⟨rfl,_⟩:=he
    rcases hs with⟨hs,_⟩|hs
    ·cases hs
    ·cases hs
     have hl:z3.length=q.1.length:=aFM hq
     exact .inr ⟨b,z3,by rw[q3,hl],aqD.2 hz,hl,fun e=>(by cases e),fun _=>⟨q.2,hq⟩⟩
  ·cases h
 |func fn a b=>cases a<;>cases b<;>simp[rd]at h<;>(obtain⟨rfl,_⟩:=h;rcases hs with⟨hs,_⟩|hs<;>cases hs)
 |agg cs=>simp only[rd,acZ]at h;obtain⟨_,_,h⟩:=h;simp only[Prod.mk.injEq]at h;obtain⟨rfl,_⟩:=h;rcases hs with⟨hs,_⟩|hs<;>cases hs
 |iface t x=>simp only[rd,acZ]at h;obtain⟨_,_,h⟩:=h;simp only[Prod.mk.injEq]at h;obtain⟨rfl,_⟩:=h;rcases hs with⟨hs,_⟩|hs<;>cases hs
 |ptr b r o=>simp[rd]at h
 |yl b=>simp[rd]at h
 |mapr b=>simp[rd]at h
 |itr b=>simp[rd]at h
 |tup cs=>simp[rd]at h
 |imm=>simp[rd]at h
 |iptr=>simp[rd]at h
 |_=>simp[rd]at h;obtain⟨rfl,_⟩:=h;rcases hs with⟨hs,_⟩|hs<;>cases hs
theorem aEP{H:Aa}{b st:Nat}{fl:Bool}{rows:List (List AV)}(h:(hf H b).bind Dn=some (st,fl,rows))(i:Nat):Rq (H[b]?) i=rows[i]?:=by
 obtain⟨c,hc,hz⟩:=aqD.1 h
 rw[show H[b]?=some c from hc]
 cases c<;>simp[Dn]at hz<;>(obtain⟨_,_,rfl⟩:=hz;rfl)
theorem aXI{n:Nat}{rows:List (List AV)}{v:AV}{H:Aa}(ho:jV 0 n false rows v H){d:Nat}{q:List (List AV) × List Nat}(hq:Ek (rd d (hf H)) rows=some q)(hn:rows=[]→v=.nils):
 ∃R,rd (d+1) (hf H) v=some (Ak n false false q.1,R)∧R.length≤1+q.2.length:=by
 rcases ho with⟨rfl,rfl⟩|⟨b,w,rfl,hb⟩
 ·simp[Ek]at hq;subst hq;exact⟨[],by simp[rd,Ak],by simp⟩
 ·have hne:rows≠[]:=fun e=>by have:=hn e;cases this
  have hb':(hf H (b+0)).bind Dn=some (n,false,rows):=by show(H[b]?).bind Dn=_;rw[hb];rfl
  refine⟨(b+0)::q.2,?_,by simp;omega⟩
  simp only[rd,hb',aAM,if_true,and_self,cond_false,hq,aE9]
  have hl:q.1≠[]:=fun e=>by
   cases rows with
   |nil=>exact hne rfl
   |cons r rs=>
    simp only[Ek,aqD,acZ]at hq
    obtain⟨_,_,_,_,rfl⟩:=hq
    cases e
  cases hq1:q.1 with
  |nil=>exact absurd hq1 hl
  |cons r rs=>rfl
theorem aG2{g:HF}{d:Nat}(k:IntKind)(n:Int):rd (d+1) g (.int k n)=some (.int k n,[]):=rfl
theorem avO{g:HF}{d st b n:Nat}{rows:List (List AV)}(h:(g b).bind Dn=some (st,true,rows))(hn:n=rows.length):rd (d+1) g (.slr st b 0 n)=some (.imm st true rows,[b]):=by
 subst hn;simp[rd,h]
theorem a6D{g:HF}{d:Nat}{cs xs:List AV}{R:List Nat}(h:cY (rd d g) cs=some (xs,R)):rd (d+1) g (.agg cs)=some (.agg xs,R):=by simp[rd,h]
theorem aCW{f:AV→Option (AV × List Nat)}:cY f []=some ([],[]):=rfl
theorem Xe{f:AV→Option (AV × List Nat)}{a x:AV}{l xs:List AV}{R1 R2:List Nat}(h1:f a=some (x,R1))(h2:cY f l=some (xs,R2)):cY f (a::l)=some (x::xs,R1++R2):=by simp[cY,h1,h2]
theorem aRC{n:Nat}{rows:List (List AV)}{v:AV}{H:Aa}(ho:jV 0 n true rows v H):∃nn R,∀d,rd (d+1) (hf H) v=some (Ak n true nn rows,R)∧R.length≤1:=by
 rcases ho with⟨rfl,rfl⟩|⟨b,w,rfl,hb⟩
 ·exact⟨false,[],fun d=>⟨rfl,by simp⟩⟩
 ·have hb':(hf H (b+0)).bind Dn=some (n,true,rows):=by show(H[b]?).bind Dn=_;rw[hb];rfl
  refine⟨true,[b+0],fun d=>⟨?_,by simp⟩⟩
  simp only[rd,hb',aAM,if_true,and_self,cond_true]
  cases rows<;>rfl
theorem aK8{x:Option (List AV)}{vs:List AV}{h:Aa}{Q:Gw→Aa→Prop}(hx:x=some vs)(k:Rt 0 (some vs) h Q):Rt 0 x h Q:=hx▸k
theorem aDL{f:AV→Option (AV × List Nat)}:∀{l:List (List AV)} {p:List (List AV) × List Nat} {r:List AV} {q:List AV × List Nat},Ek f l=some p→cY f r=some q→Ek f (l++[r])=some (p.1++[q.1],p.2++q.2)
 | [],p,r,q,h,hr=>by simp[Ek]at h;subst h;simp[Ek,hr]
 |a::l,p,r,q,h,hr=>by
  simp only[Ek,aqD,acZ]at h
  obtain⟨q1,hq1,r1,hr1,rfl⟩:=h
  simp[Ek,hq1,aDL hr1 hr]
end
noncomputable section
open Go.RowKit
section
variable {P:Program} {O:Hz}
def slx(P:Program)(ty:TypeId)(a:Option AV)(l h:Option (Option AV)):OE:=r1 (a.bind fun a=>l.bind fun l=>h.bind fun h=>aAQ P ty a l h)
theorem aX5(t:List AV)(h:Aa)(ty:TypeId)(x:Operand)(lo hi:Option Operand):Gx O P t h (.slice ty x lo hi none)=slx P ty (Ar t x) (aCA t lo) (aCA t hi):=by
 rw[Fb _ _ _ rfl]
 simp only[exec,slx]
 cases Ar t x with
 |none=>rfl
 |some a=>
  cases aCA t lo with
  |none=>rfl
  |some l=>
   cases aCA t hi with
   |none=>rfl
   |some h=>exact Lc _
def oS(x:Option AV):Option (Option AV):=x.map some
theorem a5T(v:AV):oS (some v)=some (some v):=acR rfl rfl
theorem aV6(t:List AV):aCA t none=some none:=acR rfl rfl
theorem aUB(t:List AV)(x:Operand):aCA t (some x)=oS (Ar t x):=acR rfl rfl
theorem a7E{ty:TypeId}{n:Nat}(hs:SlT P ty n)(fl:Bool)(rows:List (List AV))(i:Nat)(hi:i≤rows.length):slx P ty (some (.imm n fl rows)) (some none) (some (some (.int .i64 i)))=some (.ret (.imm n fl (rows.take i)),[]):=by
 obtain⟨e,h1,h2⟩:=hs
 simp only[slx,aAM,aAQ,h1,h2,Uc]
 simp[hi,r1]
end
end
noncomputable section
set_option maxRecDepth 100000
section
variable {P:Program} {G:Nat→Option Obj}
end
section
variable {P:Program}
theorem aXC{ty:TypeId}{n:Nat}(hs:SlT P ty n)(fl nn:Bool){rows:List (List AV)}{i:Nat}(hi:i<rows.length):slx P ty (some (Ak n fl nn rows)) (some none) (some (some (.int .i64 i)))=some (.ret (.imm n fl (rows.take i)),[]):=by
 cases rows with
 |nil=>simp at hi
 |cons r rs=>rw[aY3];exact a7E hs fl _ i (by omega)
end
def lsE(e:AV→AV→Bool):List AV→List AV→Bool
 | [],[]=>true
 |a::l,b::r=>e a b&&lsE e l r
 |_,_=>false
def rsE(e:AV→AV→Bool):List (List AV)→List (List AV)→Bool
 | [],[]=>true
 |a::l,b::r=>lsE e a b&&rsE e l r
 |_,_=>false
def avE:Nat→AV→AV→Bool
 |0,_,_=>false
 |d+1,x,y=>
  match x,y with
  | .bool a,.bool b=>a==b
  | .int k a,.int j b=>k==j&&a==b
  | .str a,.str b=>a==b
  | .nils,.nils=>true
  | .imm n f r,.imm n' f' r'=>n==n'&&f==f'&&rsE (avE d) r r'
  | .agg a,.agg b=>lsE (avE d) a b
  |_,_=>false
theorem aKT{e:AV→AV→Bool}(h:∀a b,e a b=true→a=b):∀{l r:List AV},lsE e l r=true→l=r
 | [],[],_=>rfl
 |a::l,b::r,k=>by
  simp only[lsE,aIC]at k
  rw[h a b k.1,aKT h k.2]
 | [],_::_,k=>by cases k
 |_::_,[],k=>by cases k
theorem a0X{e:AV→AV→Bool}(h:∀a b,e a b=true→a=b):∀{l r:List (List AV)},rsE e l r=true→l=r
 | [],[],_=>rfl
 |a::l,b::r,k=>by
  simp only[rsE,aIC]at k
  rw[aKT h k.1,a0X h k.2]
 | [],_::_,k=>by cases k
 |_::_,[],k=>by cases k
theorem aPS:∀{d:Nat} {x y:AV},avE d x y=true→x=y
 |0,_,_,h=>by cases h
 |d+1,x,y,h=>by
  unfold avE at h
  split at h
  ·simp at h;rw[h]
  ·simp at h;rw[h.1,h.2]
  ·simp at h;rw[h]
  ·rfl
  ·simp only[aIC,beq_iff_eq]at h
   rw[h.1.1,h.1.2,a0X (fun a b k=>aPS k) h.2]
  ·rw[aKT (fun a b k=>aPS k) h]
  ·cases h
structure Ent where
 f:Nat
 args:List AV
 res:Gw × Aa
def bc9(tab:List Ent)(f:Nat)(a:List AV)(h:Aa):Option (Gw × Aa):=
 match h with
 | []=>(tab.find? fun e=>e.f==f&&lsE (avE 8) e.args a).map (·.res)
 |_=>none
def axP(pr:Pz)(tab:List Ent):Pz:={ pr with at_:=fun f=>if tab.any (·.f==f)=true then some (bc9 tab f)else pr f }
theorem adD{O:Hz}{pr:Pz}{tab:List Ent}(h0:∀f p,pr f=some p→∀a h r,p a h=some r→O.call (.fn f) a h=some r)(h1:∀e∈tab,O.call (.fn e.f) e.args []=some e.res):
 ∀f p,axP pr tab f=some p→∀a h r,p a h=some r→O.call (.fn f) a h=some r:=by
 intro f p hp a h r hr
 simp only[axP]at hp
 split at hp
 ·cases hp
  unfold bc9 at hr
  split at hr
  ·obtain⟨e,he,rfl⟩:=acZ.1 hr
   have h2:=List.find?_some he
   simp only[aIC,beq_iff_eq]at h2
   rw[←h2.1,←aKT (fun a b k=>aPS k) h2.2]
   exact h1 e (List.mem_of_find?_eq_some he)
  ·cases hr
 ·exact h0 f p hp a h r hr
def EVu:=PLift.up (acL @aX5 (acL @aV6 (acL @aUB @a5T)))
end
noncomputable section
section
variable {α:Type}
end
end
section
def mrg:Aa→Aa→Aa
 | [],h'=>h'
 |c₀::h,[]=>c₀::h
 |c₀::h,c::h'=>(bif c₀.quiet c then c₀ else c.mark)::mrg h h'
def aVH(h h':Aa):Prop:=h.length≤h'.length∧∀(i:Nat) (c₀ c:CB),h[i]?=some c₀→h'[i]?=some c→c₀.quiet c=true∨c₀.isLive=true
theorem af1:∀(h h' pre:Aa),aVH h h'→∃es,Iw pre.length h h'=some es∧Eh (pre++h) es=pre++mrg h h'
 | [],h',pre,_=>⟨_,rfl,by simp[aIJ,mrg]⟩
 |c₀::h,[],pre,ok=>by simp[aVH]at ok
 |c₀::h,c::h',pre,ok=>by
  have ok':aVH h h':=⟨by simpa using ok.1,fun i a b h1 h2=>ok.2 (i+1) a b (by simpa using h1) (by simpa using h2)⟩
  cases hq:c₀.quiet c with
  |true=>
   obtain⟨es,e1,e2⟩:=af1 h h' (pre++[c₀]) ok'
   refine⟨es,?_,?_⟩
   ·simp only[Iw,hq,cond_true]
    simpa using e1
   ·simpa [mrg,hq]using e2
  |false=>
   have hl:c₀.isLive=true:=by
    rcases ok.2 0 c₀ c rfl rfl with h|h
    ·rw[hq]at h;cases h
    ·exact h
   obtain⟨es,e1,e2⟩:=af1 h h' (pre++[c.mark]) ok'
   refine⟨.put pre.length c.mark::es,?_,?_⟩
   ·simp only[Iw,hq,hl,cond_false,cond_true]
    simp only[aSY,aHJ,List.length_nil]at e1
    rw[e1];rfl
   ·simp only[Eh,cM,mrg,hq,cond_false]
    have:(pre++c₀::h).set pre.length c.mark=(pre++[c.mark])++h:=by simp
    rw[this,e2];simp
theorem aD5:∀{h h':Aa},h.length≤h'.length→(mrg h h').length=h'.length
 | [],h',_=>rfl
 |c₀::h,[],hl=>by simp at hl
 |c₀::h,c::h',hl=>by simp[mrg,aD5 (h:=h) (h':=h') (by simpa using hl)]
theorem az2:∀{h h':Aa} {i:Nat} {c₀ c:CB},h[i]?=some c₀→h'[i]?=some c→c₀.quiet c=true→(mrg h h')[i]?=some c₀
 | [],h',i,c₀,c,h1,_,_=>by simp at h1
 |a::h,[],i,c₀,c,_,h2,_=>by simp at h2
 |a::h,b::h',0,c₀,c,h1,h2,hq=>by
  simp at h1 h2;subst h1 h2;simp[mrg,hq]
 |a::h,b::h',i+1,c₀,c,h1,h2,hq=>by
  simp at h1 h2;simpa [mrg]using az2 h1 h2 hq
theorem aEK:∀{h h':Aa} {i:Nat} {c₀ c:CB},h[i]?=some c₀→h'[i]?=some c→c₀.quiet c=false→(mrg h h')[i]?=some c.mark
 | [],h',i,c₀,c,h1,_,_=>by simp at h1
 |a::h,[],i,c₀,c,_,h2,_=>by simp at h2
 |a::h,b::h',0,c₀,c,h1,h2,hq=>by
  simp at h1 h2;subst h1 h2;simp[mrg,hq]
 |a::h,b::h',i+1,c₀,c,h1,h2,hq=>by
  simp at h1 h2;simpa [mrg]using aEK h1 h2 hq
theorem aK6:∀{h h':Aa} {i:Nat},h.length≤h'.length→h.length≤i→(mrg h h')[i]?=h'[i]?
 | [],h',i,_,_=>rfl
 |a::h,[],i,hl,_=>by simp at hl
 |a::h,b::h',0,_,hi=>by simp at hi
 |a::h,b::h',i+1,hl,hi=>by
  simpa [mrg]using aK6 (h:=h) (h':=h') (i:=i) (by simpa using hl) (by simpa using hi)
theorem Qh{h:Aa}{i:Nat}{c:CB}(hc:h[i]?=some c):(Hj h)[i]?=some c.clean:=by simp[Hj,hc]
theorem Ee(h:Aa):(Hj h).length=h.length:=by simp[Hj]
theorem abQ(c:CB):Dn c.clean=Dn c:=by cases c<;>rfl
theorem a3V{O:Hz}{H:Aa}{f:Nat}{args:List AV}{Q:Gw→Aa→Prop}(hd:hdR args=true)(hm:O.md f=true)(K:ShQ O f args (Hj H) Q)(ok:∀o G,Q o G→aVH H G):
 ∃o G es,cl O H (some (.func (.func f) [] [])) (some args)=some (o,es)∧Eh H es=mrg H G∧Q o G:=by
 obtain⟨o,G,hc,hq⟩:=K
 obtain⟨es,e1,e2⟩:=af1 H G [] (ok o G hq)
 refine⟨o,G,es,?_,by simpa using e2,hq⟩
 rw[aR4]
 simp only[aLI,aPA,hd,if_true,shC,hm,Bool.or_true,hc]
 rw[aKJ]
 have e1':Iw 0 H G=some es:=e1
 rw[e1'];rfl
structure aKW(X:List Nat)(H H1:Aa):Prop where
 len:H.length≤H1.length
 same:∀b,b<H.length→b∉X→H1[b]?=H[b]?
theorem aKW.app(H l:Aa):aKW [] H (H++l):=⟨by simp,fun b hb _=>aG6 hb⟩
end
noncomputable section
open Go.RowKit
theorem aPN{H:Aa}(h:∀c∈H,c.quiet c.clean=true):Bv H=true:=by simp only[Bv,aLD];exact h
theorem abB{H:Aa}(h:Bv H=true){b:Nat}{c:CB}(hb:H[b]?=some c):c.quiet c.clean=true:=by
 simp only[Bv,aLD]at h
 exact h c (aR6 hb)
theorem Dp{H l:Aa}(h:Bv H=true)(hl:Bv l=true):Bv (H++l)=true:=by
 simp only[Bv,aLD,aC6]at h hl ⊢
 exact fun c hc=>hc.elim (h c) (hl c)
theorem Dv{H:Aa}(h:Bv H=true)(b:Nat){c:CB}(hc:c.quiet c.clean=true):Bv (H.set b c)=true:=by
 simp only[Bv,aLD]at h ⊢
 exact fun x hx=>(List.mem_or_eq_of_mem_set hx).elim (h x) (fun e=>e▸hc)
theorem aZN{H0 G:Aa}{X:List Nat}(hq:Bv H0=true)(K:aKW X (Hj H0) G)(hX:∀b∈X,b<H0.length∧∀c0 c,H0[b]?=some c0→G[b]?=some c→c0.isLive=true∧c0.quiet c=false):
 aVH H0 G∧(mrg H0 G).length=G.length∧(∀b,H0.length≤b→(mrg H0 G)[b]?=G[b]?)∧(∀b,b<H0.length→b∉X→(mrg H0 G)[b]?=H0[b]?)∧(∀b∈X,∀c,G[b]?=some c→(mrg H0 G)[b]?=some c.mark):=by
 have hlen:H0.length≤G.length:=by have:=K.len;rwa[Ee]at this
 have old:∀b c0,H0[b]?=some c0→b∉X→G[b]?=some c0.clean:=fun b c0 h0 hb=>by
  rw[K.same b (by rw[Ee];exact(aAP.1 h0).1) hb,Qh h0]
 refine⟨⟨hlen,fun b c0 c h0 h1=>?_⟩,aD5 hlen,fun b hb=>aK6 hlen hb,fun b hb hn=>?_,fun b hb c hc=>?_⟩
 ·by_cases hb:b∈X
  ·exact .inr ((hX b hb).2 c0 c h0 h1).1
  ·rw[old b c0 h0 hb]at h1;cases h1
   exact .inl (abB hq h0)
 ·obtain⟨c0,h0⟩:∃c,H0[b]?=some c:=⟨_,aEO hb⟩
  rw[h0];exact az2 h0 (old b c0 h0 hn) (abB hq h0)
 ·obtain⟨h1,h2⟩:=hX b hb
  obtain⟨c0,h0⟩:∃c,H0[b]?=some c:=⟨_,aEO h1⟩
  exact aEK h0 hc (h2 c0 c h0 hc).2
end
theorem Aw{h:Aa}{b:Nat}{c:CB}(e:h[b]?=some c):b<h.length:=(aAP.1 e).1
structure LLG(st lo:Nat)(ov:AV)(h:Aa)(rows Q:List (List AV))(Ro:List Nat):Prop where
 own:jV 0 st false rows ov h
 nil:rows=[]→ov=.nils
 q:Ek (rd 5 (hf h)) rows=some (Q,Ro)
 dx:∀b∈Ro,lo≤b
 dov:∀a b r n,ov=.slr a b r n→lo≤b∧b∉Ro∧b<h.length
theorem LLG.none{st lo:Nat}{h:Aa}:LLG st lo .nils h [] [] []:=⟨.inl ⟨rfl,rfl⟩,fun _=>rfl,rfl,by simp,fun _ _ _ _ e=>by cases e⟩
theorem LLG.keep{st lo:Nat}{ov:AV}{h h':Aa}{rows Q:List (List AV)}{Ro:List Nat}(I:LLG st lo ov h rows Q Ro)(hl:h.length≤h'.length)(k:∀b,lo≤b→b<h.length→h'[b]?=h[b]?):LLG st lo ov h' rows Q Ro:=by
 refine⟨?_,I.nil,?_,I.dx,fun a b r n e=>?_⟩
 ·rcases I.own with h1|⟨b,w,h1,h2⟩
  ·exact .inl h1
  ·exact .inr ⟨b,w,h1,by rw[k b (by have:=(I.dov _ _ _ _ h1).1;simpa using this) (Aw h2)];exact h2⟩
 ·refine ab5 I.q fun j hj z hz=>?_
  show(h'[j]?).bind Dn=_
  rw[k j (I.dx j hj) (aIN (by omega) I.q j hj)];exact hz
 ·obtain⟨a1,b1,c⟩:=I.dov a b r n e
  exact⟨a1,b1,by omega⟩
theorem a3Q(b:Nat):AV.isCell (.mapr b)=true:=acR rfl rfl
theorem a6A(b:Nat):AV.flat (.mapr b)=false:=acR rfl rfl
theorem a26(b:Nat):Bd (.mapr b)=[.mapr b]:=acR rfl rfl
def Yd:=PLift.up (acL @a3Q (acL @a6A @a26))
theorem LLG.read{st lo:Nat}{ov:AV}{h:Aa}{rows Q:List (List AV)}{Ro:List Nat}(I:LLG st lo ov h rows Q Ro):∃R,rd 6 (hf h) ov=some (Ak st false false Q,R)∧(∀b∈R,lo≤b)∧R.length≤1+Ro.length:=by
 have key:∀d,Ek (rd d (hf h)) rows=some (Q,Ro)→∃R,rd (d+1) (hf h) ov=some (Ak st false false Q,R)∧(∀b∈R,lo≤b)∧R.length≤1+Ro.length:=fun d hq=>by
  rcases I.own with⟨rfl,rfl⟩|⟨b,w,rfl,hb⟩
  ·simp[Ek]at hq;obtain⟨rfl,rfl⟩:=hq;exact⟨[],by simp[rd,Ak],by simp,by simp⟩
  ·have hne:rows≠[]:=fun e=>by have:=I.nil e;cases this
   have hb':(hf h (b+0)).bind Dn=some (st,false,rows):=by show(h[b]?).bind Dn=_;rw[hb];rfl
   refine⟨(b+0)::Ro,?_,fun c hc=>?_,by simp;omega⟩
   ·simp only[rd,hb',aAM,if_true,and_self,cond_false,hq,aE9]
    have hl:Q≠[]:=fun e=>by
     cases rows with
     |nil=>exact hne rfl
     |cons r rs=>
      simp only[Ek,aqD,acZ]at hq
      obtain⟨_,_,_,_,hq⟩:=hq
      simp only[Prod.mk.injEq]at hq
      rw[e]at hq;cases hq.1
    cases Q with
    |nil=>exact absurd rfl hl
    |cons r rs=>rfl
   ·rcases aAN.1 hc with rfl|hc
    ·exact(I.dov _ _ _ _ rfl).1
    ·exact I.dx c hc
 exact key 5 I.q
noncomputable section
def Gk(kvs:List AV):CB:=.lp [] .skip .skip kvs .map
def eO{α:Type}(key v:α→AV)(L:List α):List AV:=L.flatMap fun s=>[key s,v s]
theorem aR9{α:Type}{key:α→AV}(v:α→AV):∀(L:List α) (n:Nat),(eO key v L)[2*n]?=L[n]?.map key
 | [],n=>rfl
 |a::L,0=>rfl
 |a::L,n+1=>by
  show(key a::v a::eO key v L)[2*(n+1)]?=_
  rw[show 2*(n+1)=2*n+2 by omega]
  simp only[List.getElem?_cons_succ,aR9 v L n]
theorem aEI{h:Aa}{b:Nat}{kvs:List AV}(hb:h[b]?=some (Gk kvs)):afH (hf h) b=some kvs:=by
 unfold afH
 rw[show hf h b=some (Gk kvs)from hb];rfl
structure aDT{α:Type}[DecidableEq α](P:Program)(kt:TypeId)(key:α→AV)(D:α→Prop):Prop where
 ok:∀a,D a→aK7 P kt (key a)=true
 eq:∀a b,D a→D b→aEq P 12 kt (key a) (key b)=some (decide (a=b))
 same:∀a,D a→AV.sameKey (key a) (key a)=true
section
variable {α:Type} [DecidableEq α] {P:Program} {kt:TypeId} {key:α→AV} {D:α→Prop}
theorem aDT.find(K:aDT P kt key D){s:α}(hs:D s)(v:α→AV):∀(L:List α) (i:Nat),(∀x∈L,D x)→ae8 P kt (key s) (eO key v L) i=some (if s∈L then some (i+L.idxOf s,v s)else none)
 | [],i,_=>rfl
 |a::L,i,h=>by
  have ha:=h a (by simp)
  have ih:=K.find hs v L (i+1) fun x hx=>h x (aAO _ hx)
  show ae8 _ _ _ (key a::v a::eO key v L) i=_
  simp only[ae8,K.eq s a hs ha,aAM,ih]
  by_cases e:s=a
  ·subst e;simp
  ·have e2:(a==s)=false:=by simp;exact fun h=>e h.symm
   simp only[decide_eq_true_eq,e,if_false,aAN,false_or,aS0,e2,cond_false,aID.injEq]
   split
   ·rw[show i+1+aON s L=i+(aON s L+1) by omega]
   ·rfl
theorem aR8{v:α→AV}{x:AV}{s:α}:∀{L:List α},L.Nodup→s∈L→(eO key v L).set (2*L.idxOf s+1) x=eO key (fun y=>if y=s then x else v y) L
 | [],_,h=>by cases h
 |a::L,hn,h=>by
  have hn':=aPH.1 hn
  show(key a::v a::eO key v L).set (2*(a::L).idxOf s+1) x=key a::(if a=s then x else v a)::eO key (fun y=>if y=s then x else v y) L
  have same:s∉L→(eO key (fun y=>if y=s then x else v y) L)=eO key v L:=fun hs=>by
   unfold eO
   rw[aOW,aOW]
   congr 1
   refine aQ7 fun y hy=>?_
   simp only[if_neg (show ¬y=s from fun e=>hs (e▸hy))]
  by_cases e:a=s
  ·subst e
   simp[same hn'.1]
  ·have e2:(a==s)=false:=by simpa using e
   rcases aAN.1 h with h|h
   ·exact absurd h.symm e
   ·simp only[aS0,e2,cond_false,if_neg e]
    rw[show 2*(aON s L+1)+1=(2*aON s L+1)+2 by omega]
    simp only[List.set_cons_succ,aR8 hn'.2 h]
theorem a2P{v:α→AV}{L:List α}{s:α}(hs:s∉L)(x:AV):eO key v L++[key s,x]=eO key (fun y=>if y=s then x else v y) (L++[s]):=by
 unfold eO
 rw[List.flatMap_append]
 congr 1
 ·rw[aOW,aOW]
  congr 1
  refine aQ7 fun y hy=>?_
  simp only[if_neg (show ¬y=s from fun e=>hs (e▸hy))]
 ·simp
variable {h:Aa} {b:Nat} {L:List α} {v:α→AV} {s:α} {ty vt:TypeId} {z:AV}
theorem aDT.lk_yes(K:aDT P kt key D)(hu:P.underlying ty=some (.map kt vt))(hz:Lr P vt=some z)(hb:h[b]?=some (Gk (eO key v L)))(hL:∀x∈L,D x)(hs:s∈L)(ok:Bool):
 lk P h ty (some (.mapr b)) (some (key s)) ok=some (.ret (bif ok then .tup [v s,.bool true]else v s),[]):=by
 simp only[lk,aAM,Wq,hu,K.ok s (hL s hs),if_true,aEI hb,K.find (hL s hs) v L 0 hL,if_pos hs,hz]
 cases ok<;>rfl
theorem aDT.lk_no(K:aDT P kt key D)(hu:P.underlying ty=some (.map kt vt))(hz:Lr P vt=some z)(hb:h[b]?=some (Gk (eO key v L)))(hL:∀x∈L,D x)(hd:D s)(hs:s∉L)(ok:Bool):
 lk P h ty (some (.mapr b)) (some (key s)) ok=some (.ret (bif ok then .tup [z,.bool false]else z),[]):=by
 simp only[lk,aAM,Wq,hu,K.ok s hd,if_true,aEI hb,K.find hd v L 0 hL,if_neg hs,hz]
 cases ok<;>rfl
theorem aDT.ms_old(K:aDT P kt key D)(hu:P.underlying ty=some (.map kt vt))(hb:h[b]?=some (Gk (eO key v L)))(hL:∀x∈L,D x)(hn:L.Nodup)(hs:s∈L)(x:AV):
 ms P h ty (some (.mapr b)) (some (key s)) (some x)=some (.ret (.tup []),[.put b (Gk (eO key (fun y=>if y=s then x else v y) L))]):=by
 have hi:L[L.idxOf s]?=some s:=by
  rw[aEO (List.idxOf_lt_length_of_mem hs)];simp
 simp only[ms,aAM,Rh,hu,K.ok s (hL s hs),if_true,aEI hb,K.find (hL s hs) v L 0 hL,if_pos hs,Nat.zero_add,aR9,hi,aE9,Option.getD_some,K.same s (hL s hs),aR8 hn hs]
 rfl
theorem aDT.ms_new(K:aDT P kt key D)(hu:P.underlying ty=some (.map kt vt))(hb:h[b]?=some (Gk (eO key v L)))(hL:∀x∈L,D x)(hd:D s)(hs:s∉L)(x:AV):
 ms P h ty (some (.mapr b)) (some (key s)) (some x)=some (.ret (.tup []),[.put b (Gk (eO key (fun y=>if y=s then x else v y) (L++[s])))]):=by
 rw[←a2P hs]
 simp only[ms,aAM,Rh,hu,K.ok s hd,if_true,aEI hb,K.find hd v L 0 hL,if_neg hs]
 rfl
end
end
noncomputable section
theorem aI0(c:CB):c.clean.clean=c.clean:=by cases c<;>rfl
theorem aWO(c:CB):c.clean.isLive=c.isLive:=by cases c<;>rfl
def Qs(H G:Aa):Prop:=H.length≤G.length∧∀(b:Nat) (c0 c:CB),H[b]?=some c0→G[b]?=some c→c=c0∨(c0.isLive=true∧((∃st fl rows,c=.live st fl true rows)∨c=.dead))∨∃k0 k1,c0=Gk k0∧c=Gk k1
theorem Qs.refl(H:Aa):Qs H H:=⟨aHM _,fun b c0 c h0 h1=>.inl (by rw[h0]at h1;cases h1;rfl)⟩
theorem Qs.app{H G:Aa}(k:Qs H G)(l:Aa):Qs H (G++l):=⟨by have:=k.1;simp;omega,fun b c0 c h0 h1=>by
 rw[aG6 (aRF (Aw h0) k.1)]at h1
 exact k.2 b c0 c h0 h1⟩
theorem Qs.lv{H G:Aa}(k:Qs H G){b:Nat}{c0 c:CB}(h0:H[b]?=some c0)(g:G[b]?=some c)(hl:c.isLive=true):c0.isLive=true:=by
 rcases k.2 b c0 c h0 g with rfl|⟨h,_⟩|⟨_,_,rfl,_⟩
 ·exact hl
 ·exact h
 ·rfl
theorem Qs.upd{H G:Aa}(k:Qs H G){b:Nat}{c d:CB}(g:G[b]?=some c)(hl:c.isLive=true)(hd:(∃st fl rows,d=.live st fl true rows)∨d=.dead):Qs H (G.set b d):=⟨by simpa using k.1,fun i c0 c' h0 h1=>by
 by_cases e:b=i
 ·subst e
  rw[aOD (Aw g)]at h1;cases h1
  exact .inr (.inl ⟨k.lv h0 g hl,hd⟩)
 ·rw[aER e]at h1
  exact k.2 i c0 c' h0 h1⟩
theorem Qs.put{H G:Aa}(k:Qs H G){b st0:Nat}{fl0 w0:Bool}{rows0:List (List AV)}(g:G[b]?=some (.live st0 fl0 w0 rows0))(st:Nat)(fl:Bool)(rows:List (List AV)):Qs H (G.set b (.live st fl true rows)):=k.upd g rfl (.inl ⟨_,_,_,rfl⟩)
theorem Qs.kill{H G:Aa}(k:Qs H G){b st0:Nat}{fl0 w0:Bool}{rows0:List (List AV)}(g:G[b]?=some (.live st0 fl0 w0 rows0)):Qs H (G.set b .dead):=k.upd g rfl (.inr rfl)
theorem Qs.map{H G:Aa}(k:Qs H G){b:Nat}{k0:List AV}(g:G[b]?=some (Gk k0))(k1:List AV):Qs H (G.set b (Gk k1)):=⟨by simpa using k.1,fun i c0 c' h0 h1=>by
 by_cases e:b=i
 ·subst e
  rw[aOD (Aw g)]at h1;cases h1
  rcases k.2 b c0 _ h0 g with h|⟨_,⟨_,_,_,h⟩|h⟩|⟨_,_,h,_⟩
  ·exact .inr (.inr ⟨_,_,h.symm,rfl⟩)
  ·cases h
  ·cases h
  ·exact .inr (.inr ⟨_,_,h,rfl⟩)
 ·rw[aER e]at h1
  exact k.2 i c0 c' h0 h1⟩
theorem Qs.trans{H G M:Aa}(k:Qs H G)(k':Qs G M):Qs H M:=⟨Nat.le_trans k.1 k'.1,fun b c0 c2 h0 h2=>by
 have h1:G[b]?=some (G[b]'(aRF (Aw h0) k.1)):=aEO _
 generalize G[b]'(aRF (Aw h0) k.1)=c1 at h1
 rcases k'.2 b c1 c2 h1 h2 with rfl|⟨h,h'⟩|⟨k0,k1,rfl,rfl⟩
 ·exact k.2 b c0 _ h0 h1
 ·exact .inr (.inl ⟨k.lv h0 h1 h,h'⟩)
 ·rcases k.2 b c0 _ h0 h1 with h|⟨_,⟨_,_,_,h⟩|h⟩|⟨_,_,h,_⟩
  ·exact .inr (.inr ⟨_,_,h.symm,rfl⟩)
  ·cases h
  ·cases h
  ·exact .inr (.inr ⟨_,_,h,rfl⟩)⟩
theorem aM8{c d:CB}(h:c.clean=d.clean):c.quiet c.clean=d.quiet d.clean:=by
 cases c<;>cases d<;>first|(simp[CB.clean]at h;done)|(simp only[CB.clean]at h;cases h;rfl)|rfl
theorem aJ5{h h':Aa}(e:Hj h=Hj h'){b:Nat}{c:CB}(g:h[b]?=some c):∃c',h'[b]?=some c'∧c'.clean=c.clean:=by
 have h1:(Hj h')[b]?=some c.clean:=by rw[←e];exact Qh g
 unfold Hj at h1
 rw[aLE]at h1
 obtain⟨c',h2,h3⟩:=acZ.1 h1
 exact⟨c',h2,h3⟩
theorem aGX{h h':Aa}(e:Hj h=Hj h'):h.length=h'.length:=by
 have:=congrArg List.length e
 rwa[Ee,Ee]at this
theorem aB1{h h':Aa}(e:Hj h=Hj h')(hq:Bv h=true):Bv h'=true:=by
 refine aPN fun c hc=>?_
 obtain⟨b,hb⟩:=List.getElem?_of_mem hc
 obtain⟨c',h1,h2⟩:=aJ5 e.symm hb
 rw[←aM8 h2];exact abB hq h1
theorem Ho(h:Aa):Hj (Hj h)=Hj h:=by
 unfold Hj
 rw[List.map_map]
 exact aQ7 fun c _=>aI0 c
theorem Kr{h h':Aa}(e:Hj h=Hj h'){b st:Nat}{fl:Bool}{rows:List (List AV)}(g:∃x,h[b]?=some (.live st fl x rows)):∃x,h'[b]?=some (.live st fl x rows):=by
 obtain⟨x,g⟩:=g
 obtain⟨c',h1,h2⟩:=aJ5 e g
 cases c'<;>simp[CB.clean]at h2
 obtain⟨rfl,rfl,rfl⟩:=h2
 exact⟨_,h1⟩
theorem as9{h h':Aa}(e:Hj h=Hj h'){b:Nat}{c:CB}(g:h[b]?=some c)(hc:∀d:CB,d.clean=c.clean→d=c):h'[b]?=some c:=by
 obtain⟨c',h1,h2⟩:=aJ5 e g
 rw[h1,hc c' h2]
theorem aSI{h h':Aa}(e:Hj h=Hj h'){b:Nat}{kvs:List AV}(g:h[b]?=some (Gk kvs)):h'[b]?=some (Gk kvs):=as9 e g fun d hd=>by
 cases d<;>simp_all[CB.clean,Gk]
theorem aJ2{H G:Aa}(hq:Bv H=true)(k:Qs (Hj H) G)(hg:Bv G=true):aVH H G∧Qs H (mrg H G)∧Hj (mrg H G)=Hj G∧Bv (mrg H G)=true:=by
 have hl:H.length≤G.length:=by have:=k.1;rwa[Ee]at this
 have one:∀(b:Nat) (c0 c:CB),H[b]?=some c0→G[b]?=some c→(c0.quiet c=true∨c0.isLive=true)∧∃d,(mrg H G)[b]?=some d∧d.clean=c.clean∧(d=c0∨(c0.isLive=true∧((∃st fl rows,d=.live st fl true rows)∨d=.dead))∨∃k0 k1,c0=Gk k0∧d=Gk k1):=fun b c0 c h0 h1=>by
  rcases k.2 b _ _ (Qh h0) h1 with rfl|⟨h,h'⟩|⟨k0,k1,e0,rfl⟩
  ·have:=abB hq h0
   exact⟨.inl this,c0,az2 h0 h1 this,(aI0 c0).symm,.inl rfl⟩
  ·rw[aWO]at h
   refine⟨.inr h,c,?_,rfl,.inr (.inl ⟨h,h'⟩)⟩
   have hqf:c0.quiet c=false:=by
    rcases h' with⟨_,_,_,rfl⟩|rfl<;>cases c0<;>first|rfl|(simp[CB.isLive]at h;done)|(simp[CB.quiet,CB.same];done)
   rw[aEK h0 h1 hqf]
   rcases h' with⟨_,_,_,rfl⟩|rfl<;>rfl
  ·have e1:c0=Gk k0:=by cases c0<;>simp_all[CB.clean,Gk]
   subst e1
   refine⟨.inr rfl,Gk k1,?_,rfl,.inr (.inr ⟨_,_,rfl,rfl⟩)⟩
   cases hs:(Gk k0).quiet (Gk k1)with
   |true=>
    have:k0=k1:=(aeC hs).1
    subst this
    exact az2 h0 h1 hs
   |false=>rw[aEK h0 h1 hs];rfl
 have hcl:Hj (mrg H G)=Hj G:=by
  apply List.ext_getElem?
  intro b
  by_cases hb:b<G.length
  ·have h1:G[b]?=some G[b]:=aEO hb
   rw[Qh h1]
   by_cases hb2:b<H.length
   ·have h0:H[b]?=some H[b]:=aEO hb2
    obtain⟨_,d,e1,e2,_⟩:=one b _ _ h0 h1
    rw[Qh e1,e2]
   ·rw[Qh ((aK6 hl (by omega)).trans h1)]
  ·rw[aTE (by rw[Ee,aD5 hl];omega),aTE (by rw[Ee];omega)]
 refine⟨⟨hl,fun b c0 c h0 h1=>(one b c0 c h0 h1).1⟩,⟨by rw[aD5 hl];exact hl,fun b c0 d h0 hd=>?_⟩,hcl,aB1 hcl.symm hg⟩
 have hb:=Aw h0
 have h1:G[b]?=some (G[b]'(by omega)):=aEO _
 obtain⟨_,d',e1,_,e3⟩:=one b _ _ h0 h1
 rw[e1]at hd;cases hd
 exact e3
theorem a99{O:Hz}{H:Aa}{f:Nat}{vs cap:List AV}{Q:Gw→Aa→Prop}(hq:Bv H=true)(hd:hdR (vs++cap)=true)(hm:O.md f=true)(K:ShQ O f (vs++cap) (Hj H) fun o G=>Q o G∧Qs (Hj H) G∧Bv G=true):
 ∃o G es M,cl O H (some (.func (.func f) [] cap)) (some vs)=some (o,es)∧Eh H es=M∧Q o G∧Hj M=Hj G∧Qs H M∧Bv M=true:=by
 obtain⟨o,G,hc,hQ,hw,hg⟩:=K
 obtain⟨m1,m2,m3,m4⟩:=aJ2 hq hw hg
 obtain⟨es,e1,e2⟩:=af1 H G [] m1
 refine⟨o,G,es,mrg H G,?_,by simpa using e2,hQ,m3,m2,m4⟩
 rw[aR4]
 simp only[aLI,hd,if_true,shC,hm,Bool.or_true,hc]
 rw[aKJ]
 have e1':Iw 0 H G=some es:=e1
 rw[e1'];rfl
theorem aRY{H G:Aa}{o:Gw}(hq:Bv H=true)(hw:Qs (Hj H) G)(hg:Bv G=true):∃es M,shK H (some (o,G))=some (o,es)∧Eh H es=M∧Hj M=Hj G∧Qs H M∧Bv M=true:=by
 obtain⟨m1,m2,m3,m4⟩:=aJ2 hq hw hg
 obtain⟨es,e1,e2⟩:=af1 H G [] m1
 refine⟨es,mrg H G,?_,by simpa using e2,m3,m2,m4⟩
 rw[aKJ]
 have e1':Iw 0 H G=some es:=e1
 rw[e1'];rfl
theorem LLG.cl{st lo:Nat}{ov:AV}{h h':Aa}{rows Q:List (List AV)}{Ro:List Nat}(I:LLG st lo ov h rows Q Ro)(e:Hj h=Hj h'):LLG st lo ov h' rows Q Ro:=by
 refine⟨?_,I.nil,ab5 I.q fun j hj z hz=>?_,I.dx,fun a b r n h=>?_⟩
 ·rcases I.own with h1|⟨b,w,h1,h2⟩
  ·exact .inl h1
  ·obtain⟨x,h3⟩:=Kr e ⟨w,h2⟩
   exact .inr ⟨b,x,h1,h3⟩
 ·show(h'[j]?).bind Dn=_
  cases hc:h[j]? with
  |none=>
   have hz':(h[j]?).bind Dn=some z:=hz
   rw[hc]at hz';cases hz'
  |some c=>
   obtain⟨c',k1,k2⟩:=aJ5 e hc
   have hz':(h[j]?).bind Dn=some z:=hz
   rw[hc]at hz'
   rw[k1]
   show Dn c'=_
   rw[←abQ c',k2,abQ];exact hz'
 ·obtain⟨a1,a2,a3⟩:=I.dov a b r n h
  exact⟨a1,a2,by rw[←aGX e];exact a3⟩
theorem LLG.step{st lo:Nat}{ov:AV}{h G:Aa}{rows Q:List (List AV)}{Ro:List Nat}(I:LLG st lo ov h rows Q Ro){m n:Nat}{w:Bool}{r X:List AV}{R':List Nat}(hG:G[m]?=some (.live st false w (rows++[r])))
 (kR:∀j∈Ro,∀z,(h[j]?).bind Dn=some z→(G[j]?).bind Dn=some z) (hr:cY (rd 5 (hf G)) r=some (X,R')) (hR':∀b∈R',lo≤b∧b≠m) (hm:lo≤m) (hmR:m∉Ro) (hn:n=rows.length+1):
 LLG st lo (.slr st m 0 n) G (rows++[r]) (Q++[X]) (Ro++R'):=by
 subst hn
 refine⟨.inr ⟨m,w,by simp,hG⟩,fun e=>by simp at e,aDL (ab5 I.q fun j hj z hz=>kR j hj z hz) hr,fun b hb=>?_,fun a b r n e=>?_⟩
 ·rcases aC6.1 hb with hb|hb
  ·exact I.dx b hb
  ·exact(hR' b hb).1
 ·cases e
  refine⟨hm,fun hb=>?_,Aw hG⟩
  rcases aC6.1 hb with hb|hb
  ·exact hmR hb
  ·exact(hR' _ hb).2 rfl
def Gq(H G:Aa)(b:Nat):Prop:=(Hj G)[b]?=(Hj H)[b]?
theorem Gq.refl(H:Aa)(b:Nat):Gq H H b:=Eq.refl _
theorem Gq.trans{H G M:Aa}{b:Nat}(h:Gq H G b)(h':Gq G M b):Gq H M b:=acR h' h
theorem Gq.of{H G:Aa}{b:Nat}(h:G[b]?=H[b]?):Gq H G b:=by
 unfold Gq Hj;rw[aLE,aLE,h]
theorem Gq.app{H G:Aa}{b:Nat}(h:Gq H G b)(hb:b<G.length)(l:Aa):Gq H (G++l) b:=h.trans (Gq.of (aG6 hb))
theorem Gq.eqR{H G M:Aa}{b:Nat}(h:Gq H G b)(e:Hj G=Hj M):Gq H M b:=by unfold Gq at *;rw[←e,h]
theorem Gq.eqL{H H' G:Aa}{b:Nat}(h:Gq H G b)(e:Hj H=Hj H'):Gq H' G b:=by unfold Gq at *;rw[h,e]
theorem Gq.set{H G:Aa}{b i:Nat}(h:Gq H G b)(hn:i≠b)(c:CB):Gq H (G.set i c) b:=h.trans (Gq.of (aER hn))
theorem Gq.at_{H G:Aa}{b:Nat}{c:CB}(h:Gq H G b)(g:H[b]?=some c):∃c',G[b]?=some c'∧c'.clean=c.clean:=by
 have h1:(Hj G)[b]?=some c.clean:=acR h (Qh g)
 unfold Hj at h1
 rw[aLE]at h1
 exact acZ.1 h1
theorem Gq.live{H G:Aa}{b st:Nat}{fl:Bool}{rows:List (List AV)}(h:Gq H G b)(g:∃x,H[b]?=some (.live st fl x rows)):∃x,G[b]?=some (.live st fl x rows):=by
 obtain⟨x,g⟩:=g
 obtain⟨c',h1,h2⟩:=h.at_ g
 cases c'<;>simp[CB.clean]at h2
 obtain⟨rfl,rfl,rfl⟩:=h2
 exact⟨_,h1⟩
theorem Gq.keep{H G:Aa}{b:Nat}{c:CB}(h:Gq H G b)(g:H[b]?=some c)(hc:∀d:CB,d.clean=c.clean→d=c):G[b]?=some c:=by
 obtain⟨c',h1,h2⟩:=h.at_ g
 rw[h1,hc c' h2]
theorem Gq.rows{H G:Aa}{b:Nat}{z:Nat × Bool × List (List AV)}(h:Gq H G b)(g:(H[b]?).bind Dn=some z):(G[b]?).bind Dn=some z:=by
 cases hc:H[b]? with
 |none=>rw[hc]at g;cases g
 |some c=>
  rw[hc]at g
  obtain⟨c',h1,h2⟩:=h.at_ hc
  rw[h1]
  show Dn c'=_
  rw[←abQ c',h2,abQ];exact g
theorem a18{kvs:List AV}(d:CB)(hd:d.clean=(Gk kvs).clean):d=Gk kvs:=by
 cases d<;>simp_all[CB.clean,Gk]
theorem Gq.map{H G:Aa}{b:Nat}{kvs:List AV}(h:Gq H G b)(g:H[b]?=some (Gk kvs)):G[b]?=some (Gk kvs):=h.keep g a18
theorem LLG.sm{st lo:Nat}{ov:AV}{h h':Aa}{rows Q:List (List AV)}{Ro:List Nat}(I:LLG st lo ov h rows Q Ro)(hl:h.length≤h'.length)(k:∀b,lo≤b→b<h.length→Gq h h' b):LLG st lo ov h' rows Q Ro:=
 ((I.cl (Ho h).symm).keep (h':=Hj h') (by rw[Ee,Ee];exact hl) fun b h1 h2=>k b h1 (by rwa[Ee]at h2)).cl (Ho h')
theorem LLG.put{st lo:Nat}{ov:AV}{h:Aa}{rows Q:List (List AV)}{Ro:List Nat}(I:LLG st lo ov h rows Q Ro){B:Nat}{d:CB}(g:h[B]?=some d)(hn:Dn d=Option.none)(c:CB):LLG st lo ov (h.set B c) rows Q Ro:=by
 refine⟨?_,I.nil,ab5 I.q fun j hj z hz=>?_,I.dx,fun a b r n e=>?_⟩
 ·rcases I.own with h1|⟨b,w,h1,h2⟩
  ·exact .inl h1
  ·refine .inr ⟨b,w,h1,?_⟩
   rw[aER (fun e=>by rw[←e,g]at h2;cases h2;cases hn)];exact h2
 ·show((h.set B c)[j]?).bind Dn=_
  have hz':(h[j]?).bind Dn=some z:=hz
  rw[aER (fun e=>by rw[←e,g]at hz';simp[hn]at hz')];exact hz'
 ·obtain⟨a1,a2,a3⟩:=I.dov a b r n e
  exact⟨a1,a2,by simpa using a3⟩
theorem Il{h:Aa}(hq:Bv h=true):Bv (Hj h)=true:=aB1 (Ho h).symm hq
theorem Qs.hi{H G:Aa}(k:Qs H G){b:Nat}(hb:H.length≤b)(c:CB):Qs H (G.set b c):=⟨by simpa using k.1,fun i c0 c1 h0 h1=>by
 rw[aER (by have:=Aw h0;omega)]at h1
 exact k.2 i c0 c1 h0 h1⟩
theorem Qs.back{H M:Aa}{B:Nat}{c d:CB}(k:Qs (H.set B d) M)(g:H[B]?=some c):Qs H (M.set B c):=⟨by have:=k.1;simpa using this,fun b c0 c1 h0 h1=>by
 by_cases e:B=b
 ·subst e
  rw[g]at h0;cases h0
  rw[aOD (by have:=k.1;simp at this;have:=Aw g;omega)]at h1
  cases h1;exact .inl rfl
 ·rw[aER e]at h1
  exact k.2 b c0 c1 (by rw[aER e];exact h0) h1⟩
theorem aKW.wst{H G:Aa}(k:aKW [] H G):Qs H G:=⟨k.len,fun b c0 c h0 h1=>.inl (by
 have:=k.same b (Aw h0) (by simp)
 rw[h0,h1]at this;cases this;rfl)⟩
theorem a7T{O:Hz}{H:Aa}{b:Nat}{vs:List AV}{Q:Gw→Aa→Prop}(hq:Bv H=true)(K:RnQ O (vs++[.yl b]) (Hj H) fun o G=>Q o G∧Qs (Hj H) G∧Bv G=true):
 ∃o G es M,cl O H (some (.yl b)) (some vs)=some (o,es)∧Eh H es=M∧Q o G∧Hj M=Hj G∧Qs H M∧Bv M=true:=by
 obtain⟨o,G,hc,hQ,hw,hg⟩:=K
 obtain⟨m1,m2,m3,m4⟩:=aJ2 hq hw hg
 obtain⟨es,e1,e2⟩:=af1 H G [] m1
 refine⟨o,G,es,mrg H G,?_,by simpa using e2,hQ,m3,m2,m4⟩
 rw[beG,hc,aKJ]
 have e1':Iw 0 H G=some es:=e1
 rw[e1'];rfl
end
end Go.Ev
namespace Go.Ev
namespace Bfs
def aKY:List Nat→List Nat→Prop
 |a::p,b::q=>a<b∨(a=b∧aKY p q)
 |_,_=>True
theorem aIF:∀p,aKY p p
 | []=>trivial
 |_::p=>.inr ⟨rfl,aIF p⟩
theorem aGN:∀{p q r:List Nat},p.length=q.length→q.length=r.length→aKY p q→aKY q r→aKY p r
 | [],[],[],_,_,_,_=>trivial
 | [],_::_,_,h,_,_,_=>by simp at h
 |_::_,[],_,h,_,_,_=>by simp at h
 |_::_,_::_,[],_,h,_,_=>by simp at h
 | [],[],_::_,_,h,_,_=>by simp at h
 |a::p,b::q,c::r,h1,h2,h3,h4=>by
  simp only[aHJ,aLF]at h1 h2
  rcases h3 with h3|⟨rfl,h3⟩
  ·rcases h4 with h4|⟨rfl,h4⟩
   ·exact .inl (by omega)
   ·exact .inl h3
  ·rcases h4 with h4|⟨rfl,h4⟩
   ·exact .inl h4
   ·exact .inr ⟨rfl,aGN h1 h2 h3 h4⟩
theorem aJH:∀{p q:List Nat} {a b:Nat},p.length=q.length→aKY p q→(p=q→a≤b)→aKY (p++[a]) (q++[b])
 | [],[],a,b,_,_,h=>by
   have:=h rfl
   by_cases e:a=b
   ·exact .inr ⟨e,trivial⟩
   ·exact .inl (by omega)
 | [],_::_,_,_,h,_,_=>by simp at h
 |_::_,[],_,_,h,_,_=>by simp at h
 |c::p,d::q,a,b,h,h1,h2=>by
  simp only[aHJ,aLF]at h
  rcases h1 with h1|⟨rfl,h1⟩
  ·exact .inl h1
  ·exact .inr ⟨rfl,aJH h h1 fun e=>h2 (by rw[e])⟩
def le2(p q:List Nat):Prop:=p.length<q.length∨(p.length=q.length∧aKY p q)
theorem awD(p:List Nat):le2 p p:=.inr ⟨rfl,aIF p⟩
theorem aUP{p q r:List Nat}(h1:le2 p q)(h2:le2 q r):le2 p r:=by
 rcases h1 with h1|⟨h1,l1⟩
 ·rcases h2 with h2|⟨h2,_⟩
  ·exact .inl (by omega)
  ·exact .inl (by omega)
 ·rcases h2 with h2|⟨h2,l2⟩
  ·exact .inl (by omega)
  ·exact .inr ⟨h1.trans h2,aGN h1 h2 l1 l2⟩
theorem aE1{p q:List Nat}(h:le2 p q){a b:Nat}(hab:p=q→a≤b):le2 (p++[a]) (q++[b]):=by
 rcases h with h|⟨h,l⟩
 ·exact .inl (by simp;omega)
 ·exact .inr ⟨by simp[h],aJH h l hab⟩
theorem a3G(p:List Nat):le2 [] p:=by
 cases p with
 |nil=>exact awD _
 |cons=>exact .inl (by simp)
variable {V:Type}
def run(step:V→Nat→V)(v:V)(w:List Nat):V:=w.foldl step v
theorem aMT(step:V→Nat→V)(v:V)(w:List Nat)(a:Nat):run step v (w++[a])=step (run step v w) a:=by
 unfold run;rw[List.foldl_append];rfl
structure BF(step:V→Nat→V)(n:Nat)(v0:V)(D:List (V × List Nat))(i j:Nat):Prop where
 hd:D[0]?=some (v0,[])
 nd:∀(k k':Nat) (x x':V × List Nat),D[k]?=some x→D[k']?=some x'→x.1=x'.1→k=k'
 way:∀(k:Nat) (x:V × List Nat),D[k]?=some x→run step v0 x.2=x.1∧∀a∈x.2,a<n
 par:∀(k:Nat) (x:V × List Nat),D[k]?=some x→k≠0→∃(k':Nat) (u:V) (p:List Nat) (a:Nat),k'<k∧D[k']?=some (u,p)∧x=(step u a,p++[a])∧a<n∧(k'<i∨(k'=i∧a<j))
 srt:∀(k k':Nat) (x x':V × List Nat),k<k'→D[k]?=some x→D[k']?=some x'→le2 x.2 x'.2∧x.2≠x'.2
 cls:∀(k:Nat) (u:V) (p:List Nat),D[k]?=some (u,p)→∀a,a<n→(k<i∨(k=i∧a<j))→∃(k':Nat) (x:V × List Nat),D[k']?=some x∧x.1=step u a∧le2 x.2 (p++[a])
theorem BF.start(step:V→Nat→V)(n:Nat)(v0:V):BF step n v0 [(v0,[])] 0 0:=by
 have one:∀(k:Nat) (x:V × List Nat),[(v0,([]:List Nat))][k]?=some x→k=0∧x=(v0,[]):=fun k x h=>by
  cases k with
  |zero=>simp at h;exact⟨rfl,h.symm⟩
  |succ k=>simp at h
 refine⟨rfl,fun k k' x x' h h' _=>?_,fun k x h=>?_,fun k x h hk=>absurd (one k x h).1 hk,fun k k' x x' hl h h'=>?_,fun k u p h a ha hc=>by omega⟩
 ·rw[(one k x h).1,(one k' x' h').1]
 ·rw[(one k x h).2];exact⟨rfl,by simp⟩
 ·have:=(one k x h).1
  have:=(one k' x' h').1
  omega
theorem BF.before{step:V→Nat→V}{n:Nat}{v0:V}{D:List (V × List Nat)}{i j:Nat}(B:BF step n v0 D i j){u:V}{p:List Nat}(hi:D[i]?=some (u,p)){k:Nat}{x:V × List Nat}(hx:D[k]?=some x):le2 x.2 (p++[j])∧x.2≠p++[j]:=by
 by_cases hk:k=0
 ·subst hk
  rw[B.hd]at hx
  cases hx
  exact⟨a3G _,by simp⟩
 ·obtain⟨k',u',p',a,h1,h2,rfl,ha,h3⟩:=B.par k x hx hk
  rcases h3 with h3|⟨rfl,h3⟩
  ·obtain⟨s1,s2⟩:=B.srt k' i _ _ h3 h2 hi
   simp only at s1 s2
   refine⟨aE1 s1 fun e=>absurd e s2,fun e=>?_⟩
   have:=aTP e rfl
   exact s2 this.1
  ·rw[hi]at h2
   cases h2
   refine⟨aE1 (awD _) fun _=>by omega,fun e=>?_⟩
   have:=(aTP e rfl).2
   simp at this
   omega
theorem BF.old{step:V→Nat→V}{n:Nat}{v0:V}{D:List (V × List Nat)}{i j:Nat}(B:BF step n v0 D i j){u:V}{p:List Nat}(hi:D[i]?=some (u,p)){k:Nat}{x:V × List Nat}(hx:D[k]?=some x)(he:x.1=step u j):BF step n v0 D i (j+1):=by
 refine⟨B.hd,B.nd,B.way,fun k x h hk=>?_,B.srt,fun k' u' p' h a ha hc=>?_⟩
 ·obtain⟨k',u',p',a,h1,h2,h3,h4,h5⟩:=B.par k x h hk
  exact⟨k',u',p',a,h1,h2,h3,h4,by omega⟩
 ·by_cases e:k'=i∧a=j
  ·obtain⟨rfl,rfl⟩:=e
   rw[hi]at h
   cases h
   exact⟨k,x,hx,he,(B.before hi hx).1⟩
  ·exact B.cls k' u' p' h a ha (by omega)
theorem BF.new{step:V→Nat→V}{n:Nat}{v0:V}{D:List (V × List Nat)}{i j:Nat}(B:BF step n v0 D i j){u:V}{p:List Nat}(hi:D[i]?=some (u,p))(hj:j<n)(hn:∀(k:Nat) (x:V × List Nat),D[k]?=some x→x.1≠step u j):BF step n v0 (D++[(step u j,p++[j])]) i (j+1):=by
 have hil:i<D.length:=(aAP.1 hi).1
 have get:∀(k:Nat) (x:V × List Nat),(D++[(step u j,p++[j])])[k]?=some x→D[k]?=some x∨(k=D.length∧x=(step u j,p++[j])):=fun k x h=>by
  by_cases hk:k<D.length
  ·rw[aG6 hk]at h;exact .inl h
  ·rw[aLH (by omega)]at h
   by_cases e:k=D.length
   ·subst e;simp at h;exact .inr ⟨rfl,h.symm⟩
   ·obtain⟨d,hd⟩:∃d,k-D.length=d+1:=⟨k-D.length-1,by omega⟩
    rw[hd]at h;simp at h
 have old:∀(k:Nat) (x:V × List Nat),D[k]?=some x→(D++[(step u j,p++[j])])[k]?=some x:=fun k x h=>by
  rw[aG6 (aAP.1 h).1];exact h
 have lt:∀(k:Nat) (x:V × List Nat),D[k]?=some x→k<D.length:=fun k x h=>(aAP.1 h).1
 have hw:=B.way i _ hi
 refine⟨old 0 _ B.hd,fun k k' x x' h h' e=>?_,fun k x h=>?_,fun k x h hk=>?_,fun k k' x x' hl h h'=>?_,fun k u' p' h a ha hc=>?_⟩
 ·rcases get k x h with h|⟨rfl,rfl⟩
  ·rcases get k' x' h' with h'|⟨rfl,rfl⟩
   ·exact B.nd k k' x x' h h' e
   ·exact absurd e (hn k x h)
  ·rcases get k' x' h' with h'|⟨rfl,rfl⟩
   ·exact absurd e.symm (hn k' x' h')
   ·rfl
 ·rcases get k x h with h|⟨rfl,rfl⟩
  ·exact B.way k x h
  ·refine⟨by simp only;rw[aMT,hw.1],fun a ha=>?_⟩
   rcases aC6.1 ha with ha|ha
   ·exact hw.2 a ha
   ·simp at ha;omega
 ·rcases get k x h with h|⟨rfl,rfl⟩
  ·obtain⟨k',u',p',a,h1,h2,h3,h4,h5⟩:=B.par k x h hk
   exact⟨k',u',p',a,h1,old _ _ h2,h3,h4,by omega⟩
  ·exact⟨i,u,p,j,hil,old _ _ hi,rfl,hj,.inr ⟨rfl,Nat.lt_succ_self _⟩⟩
 ·rcases get k' x' h' with h'|⟨rfl,rfl⟩
  ·rcases get k x h with h|⟨rfl,rfl⟩
   ·exact B.srt k k' x x' hl h h'
   ·have:=lt k' x' h';omega
  ·rcases get k x h with h|⟨rfl,rfl⟩
   ·exact B.before hi h
   ·omega
 ·rcases get k (u',p') h with h0|⟨rfl,e⟩
  ·by_cases e:k=i∧a=j
   ·obtain⟨rfl,rfl⟩:=e
    rw[hi]at h0
    cases h0
    exact⟨D.length,(step u a,p++[a]),by rw[aLH (aHM _),Nat.sub_self];rfl,rfl,awD _⟩
   ·obtain⟨k2,x2,h1,h2,h3⟩:=B.cls k u' p' h0 a ha (by omega)
    exact⟨k2,x2,old _ _ h1,h2,h3⟩
  ·omega
theorem BF.next{step:V→Nat→V}{n:Nat}{v0:V}{D:List (V × List Nat)}{i:Nat}(B:BF step n v0 D i n):BF step n v0 D (i+1) 0:=
 ⟨B.hd,B.nd,B.way,fun k x h hk=>by
   obtain⟨k',u',p',a,h1,h2,h3,h4,h5⟩:=B.par k x h hk
   exact⟨k',u',p',a,h1,h2,h3,h4,by omega⟩,B.srt,fun k u p h a ha hc=>B.cls k u p h a ha (by omega)⟩
theorem BF.best{step:V→Nat→V}{n:Nat}{v0:V}{D:List (V × List Nat)}(B:BF step n v0 D D.length 0):∀(m:Nat) (w:List Nat),w.length=m→(∀a∈w,a<n)→∃(k:Nat) (x:V × List Nat),D[k]?=some x∧x.1=run step v0 w∧le2 x.2 w:=by
 intro m
 induction m with
 |zero=>
  intro w hw _
  obtain rfl:=aT3.1 hw
  exact⟨0,_,B.hd,rfl,awD _⟩
 |succ m ih=>
  intro w hw ha
  have hne:w≠[]:=fun e=>by subst e;simp at hw
  have hsp:=List.dropLast_concat_getLast hne
  generalize w.getLast hne=a at hsp
  generalize w.dropLast=q at hsp
  subst hsp
  obtain⟨k,⟨u,p⟩,h1,h2,h3⟩:=ih q (by simpa using hw) fun b hb=>ha b (by simp[hb])
  simp only at h2 h3
  obtain⟨k',x,h4,h5,h6⟩:=B.cls k u p h1 a (ha a (by simp)) (.inl (aAP.1 h1).1)
  refine⟨k',x,h4,by rw[aMT,h5,h2],aUP h6 (aE1 h3 fun _=>aHM _)⟩
end Bfs
end Go.Ev
namespace Go.Ev
namespace Bfs
structure Ord(A:Type)(lt:A→A→Prop):Prop where
 irr:∀a,¬lt a a
 tr:∀a b c,lt a b→lt b c→lt a c
variable {A V:Type} {lt:A→A→Prop}
def aJ6(lt:A→A→Prop):List A→List A→Prop
 |a::p,b::q=>lt a b∨(a=b∧aJ6 lt p q)
 |_,_=>True
theorem aF1(O:Ord A lt):∀{p q r:List A},p.length=q.length→q.length=r.length→aJ6 lt p q→aJ6 lt q r→aJ6 lt p r
 | [],[],[],_,_,_,_=>trivial
 | [],_::_,_,h,_,_,_=>by simp at h
 |_::_,[],_,h,_,_,_=>by simp at h
 |_::_,_::_,[],_,h,_,_=>by simp at h
 | [],[],_::_,_,h,_,_=>by simp at h
 |a::p,b::q,c::r,h1,h2,h3,h4=>by
  simp only[aHJ,aLF]at h1 h2
  rcases h3 with h3|⟨rfl,h3⟩
  ·rcases h4 with h4|⟨rfl,h4⟩
   ·exact .inl (O.tr _ _ _ h3 h4)
   ·exact .inl h3
  ·rcases h4 with h4|⟨rfl,h4⟩
   ·exact .inl h4
   ·exact .inr ⟨rfl,aF1 O h1 h2 h3 h4⟩
theorem alT(O:Ord A lt):∀{p q:List A},p.length=q.length→aJ6 lt p q→aJ6 lt q p→p=q
 | [],[],_,_,_=>rfl
 | [],_::_,h,_,_=>by simp at h
 |_::_,[],h,_,_=>by simp at h
 |a::p,b::q,h,h1,h2=>by
  simp only[aHJ,aLF]at h
  rcases h1 with h1|⟨rfl,h1⟩
  ·rcases h2 with h2|⟨rfl,_⟩
   ·exact absurd (O.tr _ _ _ h1 h2) (O.irr _)
   ·exact absurd h1 (O.irr _)
  ·rcases h2 with h2|⟨_,h2⟩
   ·exact absurd h2 (O.irr _)
   ·rw[alT O h h1 h2]
def leA(lt:A→A→Prop)(p q:List A):Prop:=p.length<q.length∨(p.length=q.length∧aJ6 lt p q)
theorem aVE(O:Ord A lt){p q r:List A}(h1:leA lt p q)(h2:leA lt q r):leA lt p r:=by
 rcases h1 with h1|⟨h1,l1⟩
 ·rcases h2 with h2|⟨h2,_⟩
  ·exact .inl (by omega)
  ·exact .inl (by omega)
 ·rcases h2 with h2|⟨h2,l2⟩
  ·exact .inl (by omega)
  ·exact .inr ⟨h1.trans h2,aF1 O h1 h2 l1 l2⟩
theorem aLA(O:Ord A lt){p q:List A}(h1:leA lt p q)(h2:leA lt q p):p=q:=by
 rcases h1 with h1|⟨h1,l1⟩
 ·rcases h2 with h2|⟨h2,_⟩<;>omega
 ·rcases h2 with h2|⟨_,l2⟩
  ·omega
  ·exact alT O h1 l1 l2
theorem aLQ{g:Nat→A}{n:Nat}(hg:∀i j,i<j→j<n→lt (g i) (g j)):∀{p q:List Nat},(∀a∈q,a<n)→aKY p q→aJ6 lt (p.map g) (q.map g)
 | [],[],_,_=>trivial
 | [],_::_,_,_=>trivial
 |_::_,[],_,_=>trivial
 |a::p,b::q,hb,h=>by
  rcases h with h|⟨rfl,h⟩
  ·exact .inl (hg a b h (hb b (by simp)))
  ·exact .inr ⟨rfl,aLQ hg (fun c hc=>hb c (by simp[hc])) h⟩
theorem a48{g:Nat→A}{n:Nat}(hg:∀i j,i<j→j<n→lt (g i) (g j)){p q:List Nat}(hq:∀a∈q,a<n)(h:le2 p q):leA lt (p.map g) (q.map g):=by
 rcases h with h|⟨h,l⟩
 ·exact .inl (by simpa using h)
 ·exact .inr ⟨by simpa using h,aLQ hg hq l⟩
def aMI(stp:V→A→V)(v:V)(w:List A):V:=w.foldl stp v
theorem run_map(stp:V→A→V)(g:Nat→A):∀(w:List Nat) (v:V),aMI stp v (w.map g)=run (fun v i=>stp v (g i)) v w
 | [],_=>rfl
 |a::w,v=>by
  show aMI stp (stp v (g a)) (w.map g)=run _ (stp v (g a)) w
  exact run_map stp g w _
def aX9(lt:A→A→Prop)(stp:V→A→V)(g:Nat→A)(n:Nat)(a:A):Prop:=∃i,i<n∧(∀v,stp v (g i)=stp v a)∧(g i=a∨lt (g i) a)
theorem aLX{stp:V→A→V}{g:Nat→A}{n:Nat}:∀{Q:List A},(∀a∈Q,aX9 lt stp g n a)→∀v,∃w:List Nat,w.length=Q.length∧(∀i∈w,i<n)∧aMI stp v (w.map g)=aMI stp v Q∧aJ6 lt (w.map g) Q
 | [],_,v=>⟨[],rfl,by simp,rfl,trivial⟩
 |a::Q,h,v=>by
  obtain⟨i,h1,h2,h3⟩:=h a (by simp)
  obtain⟨w,w1,w2,w3,w4⟩:=aLX (Q:=Q) (fun b hb=>h b (by simp[hb])) (stp v a)
  refine⟨i::w,by simp[w1],fun j hj=>?_,?_,?_⟩
  ·rcases aAN.1 hj with rfl|hj
   ·exact h1
   ·exact w2 j hj
  ·show aMI stp (stp v (g i)) (w.map g)=aMI stp (stp v a) Q
   rw[h2,w3]
  ·rcases h3 with h3|h3
   ·exact .inr ⟨h3,w4⟩
   ·exact .inl h3
theorem BF.labels(O:Ord A lt){stp:V→A→V}{g:Nat→A}{n:Nat}(hg:∀i j,i<j→j<n→lt (g i) (g j)){v0:V}{D:List (V × List Nat)}(B:BF (fun v i=>stp v (g i)) n v0 D D.length 0){Q:List A}(hQ:∀a∈Q,aX9 lt stp g n a):∃(k:Nat) (x:V × List Nat),D[k]?=some x∧x.1=aMI stp v0 Q∧leA lt (x.2.map g) Q:=by
 obtain⟨w,w1,w2,w3,w4⟩:=aLX hQ v0
 obtain⟨k,x,h1,h2,h3⟩:=B.best w.length w rfl w2
 refine⟨k,x,h1,by rw[h2,←run_map,w3],aVE O (a48 hg w2 h3) (.inr ⟨by simpa using w1,w4⟩)⟩
theorem BF.same(O:Ord A lt){stp:V→A→V}{g g':Nat→A}{n n':Nat}(hg:∀i j,i<j→j<n→lt (g i) (g j))(hg':∀i j,i<j→j<n'→lt (g' i) (g' j)){v0:V}{D D':List (V × List Nat)}(B:BF (fun v i=>stp v (g i)) n v0 D D.length 0)(B':BF (fun v i=>stp v (g' i)) n' v0 D' D'.length 0)
 (h:∀i,i<n'→aX9 lt stp g n (g' i)) (h':∀i,i<n→aX9 lt stp g' n' (g i)) {k:Nat} {x:V × List Nat} (hx:D[k]?=some x):∃(k':Nat) (x':V × List Nat),D'[k']?=some x'∧x'.1=x.1∧x'.2.map g'=x.2.map g:=by
 have hw:=B.way k x hx
 have e1:aMI stp v0 (x.2.map g)=x.1:=by rw[run_map];exact hw.1
 obtain⟨k',x',h1,h2,h3⟩:=B'.labels O hg' (Q:=x.2.map g) fun a ha=>by
  obtain⟨i,hi,rfl⟩:=aC7.1 ha
  exact h' i (hw.2 i hi)
 have hw':=B'.way k' x' h1
 obtain⟨k2,x2,h4,h5,h6⟩:=B.labels O hg (Q:=x'.2.map g') fun a ha=>by
  obtain⟨i,hi,rfl⟩:=aC7.1 ha
  exact h i (hw'.2 i hi)
 have e2:x2.1=x.1:=by
  rw[h5,run_map,hw'.1,h2,e1]
 have ek:=B.nd k2 k x2 x h4 hx e2
 subst ek
 rw[hx]at h4
 cases h4
 exact⟨k',x',h1,by rw[h2,e1],aLA O h3 h6⟩
end Bfs
end Go.Ev
namespace Go.Ev
namespace Bfs
theorem aFJ{C:Type}(w:Int→C)(lo:Int):∀(d:Nat) (r:Int),lo≤r→r-lo=d→∃n,lo≤n∧n≤r∧w n=w r∧(n=lo∨w n≠w (n-1)):=by
 intro d
 induction d with
 |zero=>intro r h e;exact⟨r,h,Int.le_refl _,rfl,.inl (by omega)⟩
 |succ d ih=>
  intro r h e
  by_cases hc:w r=w (r-1)
  ·obtain⟨n,h1,h2,h3,h4⟩:=ih (r-1) (by omega) (by omega)
   exact⟨n,h1,by omega,by rw[h3,hc],h4⟩
  ·exact⟨r,h,Int.le_refl _,rfl,.inr hc⟩
structure Sep{C:Type}(lo hi:Int)(w:Int→C)(L:List Int):Prop where
 inc:L.Pairwise (· < ·)
 ok:∀n∈L,lo≤n∧n≤hi
 all:∀r,lo≤r→r≤hi→∃n∈L,n≤r∧w n=w r
theorem Sep.of{C:Type}{lo hi:Int}{w:Int→C}{L:List Int}(inc:L.Pairwise (· < ·))(ok:∀n∈L,lo≤n∧n≤hi)(h0:lo∈L)(hc:∀n,lo<n→n≤hi→w n≠w (n-1)→n∈L):Sep lo hi w L:=
 ⟨inc,ok,fun r h1 h2=>by
   obtain⟨n,a,b,c,d⟩:=aFJ w lo (r-lo).toNat r h1 (by omega)
   refine⟨n,?_,b,c⟩
   rcases d with d|d
   ·rw[d];exact h0
   ·by_cases e:n=lo
    ·rw[e];exact h0
    ·exact hc n (by omega) (by omega) d⟩
def Ug{A:Type}(ok:A→Bool)(w:A→Int):List A→List Int→List A
 | [],_=>[]
 |n::l,met=>if ok n=true∧w n∉met then n::Ug ok w l (met++[w n])else Ug ok w l met
theorem wF{A:Type}{ok:A→Bool}{w:A→Int}:∀{l:List A} {met:List Int} {n:A},n∈Ug ok w l met→n∈l∧ok n=true∧w n∉met
 | [],_,_,h=>by cases h
 |a::l,met,n,h=>by
  unfold Ug at h
  split at h
  ·rename_i hc
   rcases aAN.1 h with rfl|h
   ·exact⟨by simp,hc⟩
   ·obtain⟨h1,h2,h3⟩:=wF h
    exact⟨by simp[h1],h2,fun hm=>h3 (by simp[hm])⟩
  ·obtain⟨h1,h2,h3⟩:=wF h
   exact⟨by simp[h1],h2,h3⟩
theorem auH{A:Type}{ok:A→Bool}{w:A→Int}{R S:A→A→Prop}(hS:∀a b,R a b→w a≠w b→S a b):∀{l:List A} {met:List Int},l.Pairwise R→(Ug ok w l met).Pairwise S
 | [],_,_=>List.Pairwise.nil
 |a::l,met,h=>by
  obtain⟨h1,h2⟩:=aOX.1 h
  unfold Ug
  split
  ·refine aOX.2 ⟨fun b hb=>?_,auH hS h2⟩
   obtain⟨m1,_,m3⟩:=wF hb
   exact hS a b (h1 b m1) fun e=>m3 (by simp[e])
  ·exact auH hS h2
theorem aiH{A:Type}{ok:A→Bool}{w:A→Int}{R:A→A→Prop}:∀{l:List A} {met:List Int},l.Pairwise R→∀{a:A},a∈l→ok a=true→w a∈met∨∃b∈Ug ok w l met,w b=w a∧(b=a∨R b a)
 | [],_,_,_,h,_=>by cases h
 |b::l,met,hp,a,h,ha=>by
  obtain⟨h1,h2⟩:=aOX.1 hp
  unfold Ug
  split
  ·rename_i hc
   rcases aAN.1 h with rfl|h
   ·exact .inr ⟨_,by simp,rfl,.inl rfl⟩
   ·rcases aiH (met:=met++[w b]) h2 h ha with hm|⟨c,c1,c2,c3⟩
    ·rcases aC6.1 hm with hm|hm
     ·exact .inl hm
     ·simp only[List.mem_singleton]at hm
      exact .inr ⟨b,by simp,hm.symm,.inr (h1 a h)⟩
    ·exact .inr ⟨c,by simp[c1],c2,c3⟩
  ·rename_i hc
   rcases aAN.1 h with rfl|h
   ·by_cases hm:w a∈met
    ·exact .inl hm
    ·exact absurd ⟨ha,hm⟩ hc
   ·exact aiH h2 h ha
theorem aZH{lo hi:Int}{w:Int→Int}{l:List Int}{ok:Int→Bool}(hok:∀n,ok n=true↔lo≤n∧n≤hi)(hs:l.Pairwise (· ≤·))(h0:lo∈l)(hc:∀n,lo<n→n≤hi→w n≠w (n-1)→n∈l):Sep lo hi w (Ug ok w l []):=
 ⟨auH (R:=(· ≤·)) (fun a b h1 h2=>by
   have:a≠b:=fun e=>h2 (by rw[e])
   omega) hs,fun n h=>(hok n).1 (wF h).2.1,fun r h1 h2=>by
   obtain⟨n,a,b,c,d⟩:=aFJ w lo (r-lo).toNat r h1 (by omega)
   have hn:n∈l:=by
    rcases d with d|d
    ·rw[d];exact h0
    ·by_cases e:n=lo
     ·rw[e];exact h0
     ·exact hc n (by omega) (by omega) d
   rcases aiH (ok:=ok) (w:=w) (met:=[]) hs hn ((hok n).2 ⟨a,by omega⟩)with hm|⟨m,m1,m2,m3⟩
   ·cases hm
   ·refine⟨m,m1,?_,by rw[m2,c]⟩
    rcases m3 with m3|m3
    ·omega
    ·have:m≤n:=m3
     omega⟩
def ltR:List Int→List Int→Prop
 |a::p,b::q=>a<b∨(a=b∧ltR p q)
 |_,_=>False
theorem aSC:∀p,¬ltR p p
 | [],h=>h
 |a::p,h=>by
  rcases h with h|⟨_,h⟩
  ·omega
  ·exact aSC p h
theorem aQP:∀{p q r:List Int},ltR p q→ltR q r→ltR p r
 | [],_,_,h,_=>by cases h
 |_::_,[],_,h,_=>by cases h
 |_::_,_::_,[],_,h=>by cases h
 |a::p,b::q,c::r,h1,h2=>by
  rcases h1 with h1|⟨rfl,h1⟩
  ·rcases h2 with h2|⟨rfl,_⟩
   ·exact .inl (by omega)
   ·exact .inl h1
  ·rcases h2 with h2|⟨rfl,h2⟩
   ·exact .inl h2
   ·exact .inr ⟨rfl,aQP h1 h2⟩
def Zl:List (List Int)→List (List Int)
 | []=>[[]]
 |l::ls=>l.flatMap fun n=>(Zl ls).map (n::·)
theorem dQ{A B:Type}{R:A→A→Prop}{S:B→B→Prop}{f:A→List B}:∀{l:List A},l.Pairwise R→(∀a∈l,(f a).Pairwise S)→(∀a b,R a b→∀x∈f a,∀y∈f b,S x y)→(l.flatMap f).Pairwise S
 | [],_,_,_=>by simp
 |a::l,h,h1,h2=>by
  obtain⟨p1,p2⟩:=aOX.1 h
  rw[aOZ]
  refine List.pairwise_append.2 ⟨h1 a (by simp),dQ p2 (fun b hb=>h1 b (by simp[hb])) h2,fun x hx y hy=>?_⟩
  obtain⟨b,hb,hy⟩:=aLG.1 hy
  exact h2 a b (p1 b hb) x hx y hy
theorem aE5:∀{ls:List (List Int)},(∀l∈ls,l.Pairwise (· < ·))→(Zl ls).Pairwise ltR
 | [],_=>List.pairwise_singleton _ _
 |l::ls,h=>by
  unfold Zl
  refine dQ (h l (by simp)) (fun n _=>?_) fun a b hab x hx y hy=>?_
  ·exact aVS.2 ((aE5 fun m hm=>h m (by simp[hm])).imp fun h=>.inr ⟨rfl,h⟩)
  ·obtain⟨p,_,rfl⟩:=aC7.1 hx
   obtain⟨q,_,rfl⟩:=aC7.1 hy
   exact .inl hab
def Cls{C:Type}(w:Nat→Int→C):Nat→List Int→List Int→Prop
 |_,[],[]=>True
 |k,a::p,b::q=>w k a=w k b∧Cls w (k+1) p q
 |_,_,_=>False
def acS{C:Type}(lo hi:Int)(w:Nat→Int→C):Nat→List (List Int)→Prop
 |_,[]=>True
 |k,l::ls=>Sep lo hi (w k) l∧acS lo hi w (k+1) ls
theorem acS.inc{C:Type}{lo hi:Int}{w:Nat→Int→C}:∀{ls:List (List Int)} {k:Nat},acS lo hi w k ls→∀l∈ls,l.Pairwise (· < ·)
 |_::_,k,h,l,hl=>by
  rcases aAN.1 hl with rfl|hl
  ·exact h.1.inc
  ·exact acS.inc h.2 l hl
theorem acS.row{C:Type}{lo hi:Int}{w:Nat→Int→C}:∀{ls:List (List Int)} {k:Nat},acS lo hi w k ls→∀p∈Zl ls,p.length=ls.length∧∀n∈p,lo≤n∧n≤hi
 | [],_,_,p,hp=>by simp[Zl]at hp;subst hp;simp
 |l::ls,k,h,p,hp=>by
  obtain⟨n,hn,hp⟩:=aLG.1 hp
  obtain⟨q,hq,rfl⟩:=aC7.1 hp
  obtain⟨h1,h2⟩:=acS.row h.2 q hq
  refine⟨by simp[h1],fun m hm=>?_⟩
  rcases aAN.1 hm with rfl|hm
  ·exact h.1.ok _ hn
  ·exact h2 m hm
theorem acS.all{C:Type}{lo hi:Int}{w:Nat→Int→C}:∀{ls:List (List Int)} {k:Nat},acS lo hi w k ls→∀x:List Int,x.length=ls.length→(∀n∈x,lo≤n∧n≤hi)→∃y∈Zl ls,Cls w k y x∧(y=x∨ltR y x)
 | [],_,_,x,hl,_=>by
   obtain rfl:=aT3.1 hl
   exact⟨[],by simp[Zl],trivial,.inl rfl⟩
 |l::ls,k,h,[],hl,_=>by simp at hl
 |l::ls,k,h,r::x,hl,hx=>by
  simp only[aHJ,aLF]at hl
  obtain⟨y,y1,y2,y3⟩:=acS.all h.2 x hl fun n hn=>hx n (by simp[hn])
  obtain⟨r1,r2⟩:=hx r (by simp)
  obtain⟨n,n1,n2,n3⟩:=h.1.all r r1 r2
  refine⟨n::y,aLG.2 ⟨n,n1,aC7.2 ⟨y,y1,rfl⟩⟩,⟨n3,y2⟩,?_⟩
  by_cases e:n=r
  ·subst e
   rcases y3 with rfl|y3
   ·exact .inl rfl
   ·exact .inr (.inr ⟨rfl,y3⟩)
  ·exact .inr (.inl (by omega))
def Wx(rows:List (List Int))(l:List Int):List (List Int):=rows.flatMap fun r=>l.map fun n=>r++[n]
theorem aNA:∀(ls:List (List Int)) (rows:List (List Int)),ls.foldl Wx rows=rows.flatMap fun r=>(Zl ls).map (r++·)
 | [],rows=>by
   simp only[List.foldl_nil,Zl,List.map_cons,List.map_nil,aPA]
   induction rows with
   |nil=>rfl
   |cons a l ih=>rw[aOZ,←ih];rfl
 |l::ls,rows=>by
  rw[aVT,aNA ls]
  unfold Wx
  rw[show Zl (l::ls)=l.flatMap fun n=>(Zl ls).map (n::·)from rfl]
  rw[List.flatMap_assoc]
  congr 1;funext r
  rw[List.flatMap_map,List.map_flatMap]
  congr 1;funext n
  rw[List.map_map]
  congr 1;funext p
  simp
def ltS(a b:List Int × Int):Prop:=ltR a.1 b.1∨(a.1=b.1∧a.2<b.2)
theorem a33:Ord (List Int × Int) ltS:=⟨fun a h=>by
 rcases h with h|⟨_,h⟩
 ·exact aSC _ h
 ·omega,fun a b c h1 h2=>by
 rcases h1 with h1|⟨e1,h1⟩
 ·rcases h2 with h2|⟨e2,_⟩
  ·exact .inl (aQP h1 h2)
  ·exact .inl (e2▸h1)
 ·rcases h2 with h2|⟨e2,h2⟩
  ·exact .inl (e1▸h2)
  ·exact .inr ⟨e1.trans e2,by omega⟩⟩
def aH(cs:List Int)(rows:List (List Int)):List (List Int × Int):=rows.flatMap fun r=>cs.map fun c=>(r,c)
theorem aY1{cs:List Int}(hc:cs.Pairwise (· < ·)){rows:List (List Int)}(h:rows.Pairwise ltR):(aH cs rows).Pairwise ltS:=
 dQ h (fun r _=>aVS.2 (hc.imp fun h=>.inr ⟨rfl,h⟩)) fun a b hab x hx y hy=>by
  obtain⟨c,_,rfl⟩:=aC7.1 hx
  obtain⟨d,_,rfl⟩:=aC7.1 hy
  exact .inl hab
theorem aH2{cs:List Int}{rows:List (List Int)}{x:List Int × Int}:x∈aH cs rows↔x.1∈rows∧x.2∈cs:=by
 unfold aH
 constructor
 ·intro h
  obtain⟨r,hr,h⟩:=aLG.1 h
  obtain⟨c,hc,rfl⟩:=aC7.1 h
  exact⟨hr,hc⟩
 ·intro h
  exact aLG.2 ⟨x.1,h.1,aC7.2 ⟨x.2,h.2,rfl⟩⟩
theorem baR{A:Type}[Inhabited A]{R:A→A→Prop}{l:List A}(h:l.Pairwise R):∀i j,i<j→j<l.length→R (l.getD i default) (l.getD j default):=fun i j hij hj=>by
 have h1:l.getD i default=l[i]'(by omega):=by rw[aV9,aEO (by omega)];rfl
 have h2:l.getD j default=l[j]:=by rw[aV9,aEO hj];rfl
 rw[h1,h2]
 exact List.pairwise_iff_getElem.1 h i j (by omega) hj hij
end Bfs
end Go.Ev
namespace Go.Ev
namespace Bfs
section
variable {V:Type} (safe:V→Bool) (sc:V→V→Prop)
def Rn:V→Nat→Prop
 |_,0=>True
 |v,n+1=>safe v=false∧(n=0∨∃w,sc v w∧Rn w n)
end
variable {V:Type} {safe:V→Bool} {sc:V→V→Prop}
theorem Rn.pred:∀{n:Nat} {v:V},Rn safe sc v (n+1)→Rn safe sc v n
 |0,_,_=>trivial
 |n+1,v,h=>⟨h.1,by
  rcases h.2 with h2|⟨w,h2,h3⟩
  ·omega
  ·by_cases e:n=0
   ·exact .inl e
   ·exact .inr ⟨w,h2,Rn.pred h3⟩⟩
theorem Rn.le{v:V}:∀{n k:Nat},k≤n→Rn safe sc v n→Rn safe sc v k
 |0,k,hk,h=>by obtain rfl:k=0:=by omega
               exact h
 |n+1,k,hk,h=>by
  by_cases e:k=n+1
  ·subst e;exact h
  ·exact Rn.le (by omega) h.pred
theorem Rn.step{v w:V}{n:Nat}(hs:safe v=false)(h:sc v w)(hn:Rn safe sc w n):Rn safe sc v (n+1):=by
 refine⟨hs,?_⟩
 by_cases e:n=0
 ·exact .inl e
 ·exact .inr ⟨w,h,hn⟩
def Top(safe:V→Bool)(sc:V→V→Prop)(P:V→Prop)(N:Nat):Prop:=(∀v,P v→¬Rn safe sc v (N+1))∧(N=0∨∃v,P v∧Rn safe sc v N)
theorem Top.eq{P:V→Prop}{N M:Nat}(h:Top safe sc P N)(k:Top safe sc P M):N=M:=by
 have key:∀{A B:Nat},Top safe sc P A→Top safe sc P B→A≤B:=fun {A B} h k=>by
  rcases h.2 with e|⟨v,h1,h2⟩
  ·omega
  ·exact Classical.byContradiction fun hn=>k.1 v h1 (h2.le (by omega))
 exact Nat.le_antisymm (key h k) (key k h)
theorem nI{A:Type}:∀{l k:List A},l.Nodup→(∀x∈l,x∈k)→l.length≤k.length
 | [],_,_,_=>by simp
 |a::l,k,h,hs=>by
  obtain⟨h1,h2⟩:=aPH.1 h
  obtain⟨s,t,rfl⟩:=List.append_of_mem (hs a (by simp))
  have:=nI (l:=l) (k:=s++t) h2 fun x hx=>by
   have h3:=hs x (by simp[hx])
   simp only[aC6,aAN]at h3 ⊢
   rcases h3 with h3|rfl|h3
   ·exact .inl h3
   ·exact absurd hx h1
   ·exact .inr h3
  simp only[aSY,aHJ]at this ⊢
  omega
theorem Top.few{P:V→Prop}{N:Nat}(h:Top safe sc P N)(hP:∀v w,P v→sc v w→P w){D:List V}(hD:∀v,P v→v∈D):N≤D.length:=by
 have down:∀(d j:Nat),j+d=N→1≤j→∃v,P v∧Rn safe sc v j∧¬Rn safe sc v (j+1):=by
  intro d
  induction d with
  |zero=>
   intro j hj h1
   rcases h.2 with e|⟨v,h2,h3⟩
   ·omega
   ·obtain rfl:j=N:=by omega
    exact⟨v,h2,h3,h.1 v h2⟩
  |succ d ih=>
   intro j hj h1
   obtain⟨v,v1,v2,v3⟩:=ih (j+1) (by omega) (by omega)
   rcases v2.2 with e|⟨w,w1,w2⟩
   ·omega
   ·exact⟨w,hP v w v1 w1,w2,fun hw=>v3 (Rn.step v2.1 w1 hw)⟩
 have ex:∀n,n≤N→∃l:List V,l.length=n∧l.Nodup∧(∀v∈l,P v∧∃j,N-n<j∧j≤N∧Rn safe sc v j∧¬Rn safe sc v (j+1)):=by
  intro n
  induction n with
  |zero=>intro _;exact⟨[],rfl,aSU,by simp⟩
  |succ n ih=>
   intro hn
   obtain⟨l,l1,l2,l3⟩:=ih (by omega)
   obtain⟨v,v1,v2,v3⟩:=down n (N-n) (by omega) (by omega)
   refine⟨v::l,by simp[l1],aPH.2 ⟨fun hv=>?_,l2⟩,fun u hu=>?_⟩
   ·obtain⟨_,j,j1,_,j3,_⟩:=l3 v hv
    exact v3 (j3.le (by omega))
   ·rcases aAN.1 hu with rfl|hu
    ·exact⟨v1,N-n,by omega,by omega,v2,v3⟩
    ·obtain⟨u1,j,j1,j2,j3⟩:=l3 u hu
     exact⟨u1,j,by omega,j2,j3⟩
 obtain⟨l,l1,l2,l3⟩:=ex N (aHM _)
 rw[←l1]
 exact nI l2 fun v hv=>hD v (l3 v hv).1
structure IsT(safe:V→Bool)(sc:V→V→Prop)(r:Nat)(v:V)(x:Nat):Prop where
 rn:Rn safe sc v x
 le:x≤r
 top:∀n,n≤r→Rn safe sc v n→n≤x
theorem IsT.zero(v:V):IsT safe sc 0 v 0:=⟨trivial,aHM _,fun _ h _=>h⟩
theorem IsT.safe_{r:Nat}{v:V}(h:safe v=true):IsT safe sc r v 0:=⟨trivial,aM9 _,fun n _ hn=>by
 cases n with
 |zero=>exact aHM _
 |succ n=>have:=hn.1;rw[h]at this;cases this⟩
theorem IsT.next{r:Nat}{v:V}(h:safe v=false){l:List V}(hl:∀w,sc v w↔w∈l){f:V→Nat}(hf:∀w∈l,IsT safe sc r w (f w)):IsT safe sc (r+1) v (l.foldl (fun a w=>max a (1+f w)) 1):=by
 have key:∀(l':List V) (a:Nat),(∀w∈l',w∈l)→1≤a→(∃b,a=b+1∧b≤r∧(b=0∨∃w,sc v w∧Rn safe sc w b))→let z:=l'.foldl (fun a w=>max a (1+f w)) a;a≤z∧(∀w∈l',1+f w≤z)∧(∃b,z=b+1∧b≤r∧(b=0∨∃w,sc v w∧Rn safe sc w b)):=by
  intro l'
  induction l' with
  |nil=>intro a _ _ h;exact⟨aHM _,by simp,h⟩
  |cons w l' ih=>
   intro a hs ha hb
   have hw:=hf w (hs w (by simp))
   have:=ih (max a (1+f w)) (fun u hu=>hs u (by simp[hu])) (by omega) (by
    by_cases e:a≤1+f w
    ·exact⟨f w,by omega,hw.le,.inr ⟨w,(hl w).2 (hs w (by simp)),hw.rn⟩⟩
    ·obtain⟨b,b1,b2⟩:=hb
     exact⟨b,by omega,b2⟩)
   simp only[aVT]at this ⊢
   obtain⟨t1,t2,t3⟩:=this
   refine⟨by omega,fun u hu=>?_,t3⟩
   rcases aAN.1 hu with rfl|hu
   ·omega
   ·exact t2 u hu
 obtain⟨k1,k2,b,k3,k4,k5⟩:=key l 1 (fun _ h=>h) (aHM _) ⟨0,rfl,aM9 _,.inl rfl⟩
 generalize l.foldl (fun a w=>max a (1+f w)) 1=z at *
 subst k3
 refine⟨⟨h,k5⟩,by omega,fun n hn hr=>?_⟩
 cases n with
 |zero=>omega
 |succ n=>
  rcases hr.2 with e|⟨w,w1,w2⟩
  ·omega
  ·have:=(hf w ((hl w).1 w1)).top n (by omega) w2
   have:=k2 w ((hl w).1 w1)
   omega
theorem IsT.stable{P:V→Prop}(hP:∀v w,P v→sc v w→P w){r:Nat}{f:V→Nat}(h0:∀v,P v→IsT safe sc r v (f v))(h1:∀v,P v→IsT safe sc (r+1) v (f v)):∀(n:Nat) (v:V),P v→Rn safe sc v n→n≤f v:=by
 intro n
 induction n with
 |zero=>intro v _ _;exact aM9 _
 |succ n ih=>
  intro v hv hn
  rcases hn.2 with rfl|⟨w,w1,w2⟩
  ·exact(h1 v hv).top 1 (by omega) hn
  ·have hw:=ih w (hP v w hv w1) w2
   have t:=h0 w (hP v w hv w1)
   have:=(h1 v hv).top (f w+1) (by have:=t.le;omega) (Rn.step hn.1 w1 t.rn)
   omega
theorem IsT.grow{r:Nat}{v:V}{x y:Nat}(h0:IsT safe sc r v x)(h1:IsT safe sc (r+1) v y)(hne:y≠x):y=r+1:=by
 have l1:=h1.le
 have l2:=h1.top x (by have:=h0.le;omega) h0.rn
 by_cases e:y≤r
 ·have:=h0.top y e h1.rn
  omega
 ·omega
theorem a97{P:V→Prop}{f:V→Nat}{N:Nat}(h:∀v,P v→Rn safe sc v (f v)∧¬Rn safe sc v (f v+1))(h1:∀v,P v→f v≤N)(h2:N=0∨∃v,P v∧f v=N):Top safe sc P N:=by
 refine⟨fun v hv hr=>(h v hv).2 (hr.le (by have:=h1 v hv;omega)),h2.imp id fun⟨v,v1,v2⟩=>⟨v,v1,v2▸(h v v1).1⟩⟩
end Bfs
end Go.Ev
