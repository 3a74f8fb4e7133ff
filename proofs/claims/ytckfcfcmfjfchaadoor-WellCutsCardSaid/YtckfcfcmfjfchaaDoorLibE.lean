/- The evaluator and its soundness. -/
import Derived.Test.YtckfcfcmfjfchaaDoorLibD
import Derived.Sort.Grow
open And renaming intro→aaI
open Eq renaming trans→abN
open Option renaming map_eq_some_iff→abO,bind_eq_some_iff→abP,bind_some→abQ,map_some→abY,some→af8,getD_some→akA
open List renaming mem_cons_of_mem→abR,mem_cons_self→abS,mem_cons→abT,getElem?_eq_some_iff→abU,mem_of_getElem?→aeJ,nodup_cons→afE,mem_append_left→af9,mem_append_right→agB,getElem?_eq_getElem→agF,mem_append→agQ,getElem?_append_left→agS,all_eq_true→agX,nil_append→ah1,getElem?_set_ne→aiN,mem_map→ajA,getElem?_of_mem→ajK,pairwise_cons→akP,replicate→akQ,range→akR,map_cons→akS,cons_append→akT,length_cons→akZ,append_nil→ak3,getElem?_set_self→alE,foldl_cons→alH,range_zero→alJ,getElem?_nil→alK,getElem?_append_right→alM,prefix_refl→alN,mem_of_mem_erase→alY,length_erase_of_mem→amB,getElem?_eq_none_iff→amH,getD_eq_getElem?_getD→amM,contains_eq_mem→amW,getElem?_map→am7
open Nat renaming le_refl→abV,zero_le→ab7,zero_add→agG,add_zero→aj9,le_of_not_lt→alG,add_assoc→alI
open Bool renaming and_eq_true→afG,not_eq_true'→amP
set_option linter.unusedSimpArgs false
set_option linter.unusedVariables false
namespace Go.Ev
noncomputable section
open Go.RowKit
theorem sJ(b:Nat):place [] b=(0,[b]):=abN rfl rfl
theorem oI(a b:Nat)(m:List Nat):place (a::m) b=if a=b then(0,a::m)else((place m b).1+1,a::(place m b).2):=by
 unfold place
 rw[List.idxOf?_cons]
 by_cases h:a=b
 ·simp[h]
 ·simp only[h,if_false,beq_iff_eq]
  cases List.idxOf? b m<;>simp
section
variable {P:Program} {O:Do}
theorem aeA(d:Nat)(m:List Nat)(b:Bool):Bt (d+1) m (.bool b)=some (.bool b,m):=abN rfl rfl
theorem ajI(d:Nat)(m:List Nat)(k:IntKind)(n:Int):Bt (d+1) m (.int k n)=some (.int k n,m):=abN rfl rfl
theorem ahW(d:Nat)(m:List Nat)(n:Nat)(fl nn:Bool)(rows:List (List AV)):Bt (d+1) m (Dh n fl nn rows)=some (Dh n fl nn rows,m):=Ha m (Gp d n fl nn rows)
theorem ajJ(d:Nat)(m:List Nat)(b r o:Nat):Bt (d+1) m (.ptr b r o)=some (.ptr (place m b).1 r o,(place m b).2):=abN rfl rfl
theorem agZ(d:Nat)(m:List Nat)(st b r len:Nat):Bt (d+1) m (.slr st b r len)=some (.slr st (place m b).1 r len,(place m b).2):=abN rfl rfl
def rfA(x:Option (List AV × List Nat)):Option (AV × List Nat):=x.map fun(cs,m)=>(.agg cs,m)
def rfT(x:Option (List AV × List Nat)):Option (AV × List Nat):=x.map fun(cs,m)=>(.tup cs,m)
theorem aaJ(cs:List AV)(m:List Nat):rfA (some (cs,m))=some (.agg cs,m):=abN rfl rfl
theorem zR(cs:List AV)(m:List Nat):rfT (some (cs,m))=some (.tup cs,m):=abN rfl rfl
theorem aiX(d:Nat)(m:List Nat)(cs:List AV):Bt (d+1) m (.agg cs)=rfA (Bt.refL (Bt d) m cs):=abN rfl rfl
theorem akL(d:Nat)(m:List Nat)(cs:List AV):Bt (d+1) m (.tup cs)=rfT (Bt.refL (Bt d) m cs):=abN rfl rfl
def rfG(fn:Fn)(a:List AV)(x:Option (List AV × List Nat)):Option (AV × List Nat):=x.map fun(b,m)=>(.func fn a b,m)
def rfF(fn:Fn)(d:Nat)(b:List AV)(x:Option (List AV × List Nat)):Option (AV × List Nat):=x.bind fun(a,m)=>rfG fn a (Bt.refL (Bt d) m b)
theorem abD(fn:Fn)(a b:List AV)(m:List Nat):rfG fn a (some (b,m))=some (.func fn a b,m):=abN rfl rfl
theorem uX(fn:Fn)(d:Nat)(a b:List AV)(m:List Nat):rfF fn d b (some (a,m))=rfG fn a (Bt.refL (Bt d) m b):=abN rfl rfl
theorem adT(d:Nat)(m:List Nat)(fn:Fn)(a b:List AV):Bt (d+1) m (.func fn a b)=rfF fn d b (Bt.refL (Bt d) m a):=abN rfl rfl
def rfD(v:AV)(x:Option (List AV × List Nat)):Option (List AV × List Nat):=x.map fun(vs,m)=>(v::vs,m)
def rfC(f:List Nat→AV→Option (AV × List Nat))(vs:List AV)(x:Option (AV × List Nat)):Option (List AV × List Nat):=x.bind fun(v,m)=>rfD v (Bt.refL f m vs)
theorem xJ(v:AV)(vs:List AV)(m:List Nat):rfD v (some (vs,m))=some (v::vs,m):=abN rfl rfl
theorem zQ(f:List Nat→AV→Option (AV × List Nat))(vs:List AV)(v:AV)(m:List Nat):rfC f vs (some (v,m))=rfD v (Bt.refL f m vs):=abN rfl rfl
theorem aeR(f:List Nat→AV→Option (AV × List Nat))(m:List Nat):Bt.refL f m []=some ([],m):=abN rfl rfl
theorem xA(f:List Nat→AV→Option (AV × List Nat))(m:List Nat)(v:AV)(vs:List AV):Bt.refL f m (v::vs)=rfC f vs (f m v):=abN rfl rfl
def rrD(cs:List AV)(x:Option (List (List AV) × List Nat)):Option (List (List AV) × List Nat):=x.map fun(rs,m)=>(cs::rs,m)
def rrC(rs:List (List AV))(x:Option (List AV × List Nat)):Option (List (List AV) × List Nat):=x.bind fun(cs,m)=>rrD cs (Gm m rs)
theorem zH(cs:List AV)(rs:List (List AV))(m:List Nat):rrD cs (some (rs,m))=some (cs::rs,m):=abN rfl rfl
theorem yW(rs:List (List AV))(cs:List AV)(m:List Nat):rrC rs (some (cs,m))=rrD cs (Gm m rs):=abN rfl rfl
theorem ahZ(m:List Nat):Gm m []=some ([],m):=abN rfl rfl
theorem ac5(m:List Nat)(cs:List AV)(rs:List (List AV)):Gm m (cs::rs)=rrC rs (Bt.refL (Bt 8) m cs):=abN rfl rfl
def rbV(st:Nat)(w:Bool)(x:Option (List (List AV) × List Nat)):Option (CB × List Nat):=x.map fun(rows,m)=>(.live st false w rows,m)
theorem wA(st:Nat)(w:Bool)(rows:List (List AV))(m:List Nat):rbV st w (some (rows,m))=some (.live st false w rows,m):=abN rfl rfl
theorem alP(m:List Nat)(st:Nat)(w:Bool)(rows:List (List AV)):Ue m (.live st true w rows)=some (.live st true w rows,m):=abN rfl rfl
theorem amK(m:List Nat)(st:Nat)(w:Bool)(rows:List (List AV)):Ue m (.live st false w rows)=rbV st w (Gm m rows):=abN rfl rfl
def pcE(c:CB)(x:Option (List CB × List Nat)):Option (List CB × List Nat):=x.map fun(cs,m)=>(c::cs,m)
def pcR(n:Nat)(h:Aa)(i:Nat)(x:Option (CB × List Nat)):Option (List CB × List Nat):=x.bind fun(c,m)=>pcE c (Gv n (hf h) (i+1) m)
def pcB(n:Nat)(h:Aa)(i:Nat)(m:List Nat)(x:Option CB):Option (List CB × List Nat):=x.bind fun c=>pcR n h i (Ue m c)
def pcK(n:Nat)(h:Aa)(i:Nat)(m:List Nat)(x:Option Nat):Option (List CB × List Nat):=
 match x with
 |none=>some ([],m)
 |some b=>pcB n h i m (h[b]?)
theorem yZ(c:CB)(cs:List CB)(m:List Nat):pcE c (some (cs,m))=some (c::cs,m):=abN rfl rfl
theorem wJ(n:Nat)(h:Aa)(i:Nat)(c:CB)(m:List Nat):pcR n h i (some (c,m))=pcE c (Gv n (hf h) (i+1) m):=abN rfl rfl
theorem vM(n:Nat)(h:Aa)(i:Nat)(m:List Nat)(c:CB):pcB n h i m (some c)=pcR n h i (Ue m c):=abN rfl rfl
theorem yX(n:Nat)(h:Aa)(i:Nat)(m:List Nat):pcK n h i m none=some ([],m):=abN rfl rfl
theorem xX(n:Nat)(h:Aa)(i:Nat)(m:List Nat)(b:Nat):pcK n h i m (some b)=pcB n h i m (h[b]?):=abN rfl rfl
theorem amI(n:Nat)(h:Aa)(i:Nat)(m:List Nat):Gv (n+1) (hf h) i m=pcK n h i m (m[i]?):=by
 unfold Gv pcK
 cases m[i]?<;>rfl
def pkB(vs:List AV)(x:Option (List CB × List Nat)):Option (List AV × List CB × List Nat):=x.map fun(cs,m)=>(vs,cs,m)
def pkA(h:Aa)(x:Option (List AV × List Nat)):Option (List AV × List CB × List Nat):=x.bind fun(vs,m)=>pkB vs (Gv 5000 (hf h) 0 m)
theorem yQ(vs:List AV)(cs:List CB)(m:List Nat):pkB vs (some (cs,m))=some (vs,cs,m):=abN rfl rfl
theorem zE(h:Aa)(vs:List AV)(m:List Nat):pkA h (some (vs,m))=pkB vs (Gv 5000 (hf h) 0 m):=abN rfl rfl
theorem anX(h:Aa)(m:List Nat)(vs:List AV):Hq (hf h) m vs=pkA h (Bt.refL (Bt 8) m vs):=abN rfl rfl
def upK(h:Aa)(lent:List Nat)(v:Option AV)(ps ns:Option (List Ab))(o:AV→Cj):OE:=v.bind fun v=>ps.bind fun ps=>ns.bind fun ns=>
 some (o v,(if lent.isEmpty|| !(hasImm 8 v||(ps++ns).any Ab.hasImm)then []else Cf (hf h) lent)++ps++ns)
def crU(h:Aa)(base:Nat)(lent m:List Nat)(cs:List CB)(x:Option (Cj × Aa)):OE:=
 match x with
 |some (.ret v,h')=>upK h lent (Bc 8 (Dv m base) v) (Es (Dv m base) m cs (h'.take m.length)) (Gi (Dv m base) base (h'.drop m.length)) .ret
 |some (.pan v,h')=>upK h lent (Bc 8 (Dv m base) v) (Es (Dv m base) m cs (h'.take m.length)) (Gi (Dv m base) base (h'.drop m.length)) .pan
 |none=>none
def crP(O:Do)(h:Aa)(base:Nat)(f:Me)(lent:List Nat)(x:Option (List AV × List CB × List Nat)):OE:=x.bind fun(vs,cs,m)=>
 if lent.any (m.contains ·)then none else crU h base lent m cs (O.call f vs (cs.map CB.clean))
def crQ(O:Do)(h:Aa)(base:Nat)(f:Me)(lent:List Nat)(x:Option (List AV)):OE:=x.bind fun vs=>crP O h base f lent (Hq (hf h) [] vs)
theorem aQ9(h:Aa)(base:Nat)(f:Me)(args:List AV):cr (aI O (hf h) base f args)=crQ O h base f (args.flatMap (Ap 12 (hf h))) (Ao (cN h) args):=by
 unfold aI Bw crQ cN
 cases Ao (Fg 12 (hf h)) args with
 |none=>rfl
 |some vs=>
  simp only[abQ]
  unfold crP
  cases Hq (hf h) [] vs with
  |none=>rfl
  |some x=>
   obtain⟨vs',cs,m⟩:=x
   simp only[abQ]
   split
   ·rfl
   ·cases O.call f vs' (cs.map CB.clean)with
    |none=>rfl
    |some y=>
     obtain⟨out,h'⟩:=y
     simp only[abQ,Hu]
     unfold crU upK
     cases out with
     |ret v=>
      simp only[Cj.v]
      cases Bc 8 (Dv m base) v with
      |none=>rfl
      |some v=>
       cases Es (Dv m base) m cs (h'.take m.length)with
       |none=>rfl
       |some ps=>cases Gi (Dv m base) base (h'.drop m.length)<;>rfl
     |pan v=>
      simp only[Cj.v]
      cases Bc 8 (Dv m base) v with
      |none=>rfl
      |some v=>
       cases Es (Dv m base) m cs (h'.take m.length)with
       |none=>rfl
       |some ps=>cases Gi (Dv m base) base (h'.drop m.length)<;>rfl
theorem abA(h:Aa)(base:Nat)(f:Me)(lent:List Nat)(vs:List AV):crQ O h base f lent (some vs)=crP O h base f lent (Hq (hf h) [] vs):=abN rfl rfl
theorem abB(h:Aa)(base:Nat)(f:Me)(lent:List Nat)(vs:List AV)(cs:List CB)(m:List Nat):crP O h base f lent (some (vs,cs,m))=if lent.any (m.contains ·)=true then none else crU h base lent m cs (O.call f vs (cs.map CB.clean)):=abN rfl rfl
theorem afY(h:Aa)(base:Nat)(lent m:List Nat)(cs:List CB)(v:AV)(h':Aa):crU h base lent m cs (some (.ret v,h'))=upK h lent (Bc 8 (Dv m base) v) (Es (Dv m base) m cs (h'.take m.length)) (Gi (Dv m base) base (h'.drop m.length)) .ret:=abN rfl rfl
theorem aaW(h:Aa)(lent:List Nat)(v:AV)(ps ns:List Ab)(o:AV→Cj):upK h lent (some v) (some ps) (some ns) o=some (o v,(if(lent.isEmpty|| !(hasImm 8 v||(ps++ns).any Ab.hasImm))=true then []else Cf (hf h) lent)++ps++ns):=abN rfl rfl
theorem adH(st:Nat)(fl w:Bool)(rows:List (List AV)):CB.clean (.live st fl w rows)=.live st fl false rows:=abN rfl rfl
theorem ad0(d:Nat)(g:HF)(b:Bool):Ap (d+1) g (.bool b)=[]:=abN rfl rfl
theorem aj6(d:Nat)(g:HF)(k:IntKind)(n:Int):Ap (d+1) g (.int k n)=[]:=abN rfl rfl
theorem aiD(d:Nat)(g:HF)(b r o:Nat):Ap (d+1) g (.ptr b r o)=[]:=abN rfl rfl
theorem adN(d:Nat)(g:HF)(fn:Fn)(a b:List AV):Ap (d+1) g (.func fn a b)=[]:=abN rfl rfl
theorem ai8(d:Nat)(g:HF)(n:Nat)(fl nn:Bool)(rows:List (List AV)):Ap (d+1) g (Dh n fl nn rows)=[]:=Lt g (d:=1) (by omega) (Gp 0 n fl nn rows)
theorem ajP(d:Nat)(g:HF)(cs:List AV):Ap (d+1) g (.agg cs)=cs.flatMap (Ap d g):=abN rfl rfl
def lvS(b:Nat)(c:Option CB)(q:AV→List Nat)(r len:Nat):List Nat:=
 b::match c with
 |some (.live _ fl _ rows)=>if r+len≤rows.length then(if fl then []else((rows.drop r).take len).flatMap fun cs=>cs.flatMap q)else []
 |some (.frz _ fl rows)=>if r+len≤rows.length then(if fl then []else((rows.drop r).take len).flatMap fun cs=>cs.flatMap q)else []
 |_=>[]
theorem ajL(d:Nat)(h:Aa)(st b r len:Nat):Ap (d+1) (hf h) (.slr st b r len)=lvS b (h[b]?) (Ap d (hf h)) r len:=by
 have e:Ap (d+1) (hf h) (.slr st b r len)=b::(match Du (hf h) b r len with|some (_,fl,rows)=>if fl then []else rows.flatMap fun cs=>cs.flatMap (Ap d (hf h))|none=>[]):=rfl
 rw[e]
 generalize Ap d (hf h)=q
 unfold Du lvS
 have eh:hf h b=h[b]?:=rfl
 rw[eh]
 cases h[b]? with
 |none=>rfl
 |some c=>
  cases c with
  |live st fl w rows=>simp only;by_cases hq:r+len≤rows.length<;>simp[hq]
  |frz st fl rows=>simp only;by_cases hq:r+len≤rows.length<;>simp[hq]
  |_=>rfl
theorem aoS(b:Nat)(st:Nat)(w:Bool)(rows:List (List AV))(q:AV→List Nat)(r len:Nat):lvS b (some (.live st true w rows)) q r len=[b]:=by simp[lvS]
theorem amQ(m:List Nat)(base i:Nat):Dv m base i=if i<m.length then m.getD i base else base+(i-m.length):=abN rfl rfl
theorem ae1(d:Nat)(f:Nat→Nat)(b:Bool):Bc (d+1) f (.bool b)=some (.bool b):=abN rfl rfl
theorem ahN(d:Nat)(f:Nat→Nat)(k:IntKind)(n:Int):Bc (d+1) f (.int k n)=some (.int k n):=abN rfl rfl
theorem ahE(d:Nat)(f:Nat→Nat)(n:Nat)(fl nn:Bool)(rows:List (List AV)):Bc (d+1) f (Dh n fl nn rows)=some (Dh n fl nn rows):=Ig f (Gp d n fl nn rows)
theorem ai5(d:Nat)(f:Nat→Nat)(b r o:Nat):Bc (d+1) f (.ptr b r o)=some (.ptr (f b) r o):=abN rfl rfl
theorem ai2(d:Nat)(f:Nat→Nat)(st b r len:Nat):Bc (d+1) f (.slr st b r len)=some (.slr st (f b) r len):=abN rfl rfl
def rnA(x:Option (List AV)):Option AV:=x.map .agg
def rnT(x:Option (List AV)):Option AV:=x.map .tup
theorem xY(cs:List AV):rnA (some cs)=some (.agg cs):=abN rfl rfl
theorem aa5(cs:List AV):rnT (some cs)=some (.tup cs):=abN rfl rfl
theorem ahD(d:Nat)(f:Nat→Nat)(cs:List AV):Bc (d+1) f (.agg cs)=rnA (Ao (Bc d f) cs):=abN rfl rfl
theorem aiG(d:Nat)(f:Nat→Nat)(cs:List AV):Bc (d+1) f (.tup cs)=rnT (Ao (Bc d f) cs):=abN rfl rfl
def rnG(fn:Fn)(a:List AV)(x:Option (List AV)):Option AV:=x.map fun b=>.func fn a b
def rnF(fn:Fn)(b:Option (List AV))(x:Option (List AV)):Option AV:=x.bind fun a=>rnG fn a b
theorem aa6(fn:Fn)(a b:List AV):rnG fn a (some b)=some (.func fn a b):=abN rfl rfl
theorem yK(fn:Fn)(b:Option (List AV))(a:List AV):rnF fn b (some a)=rnG fn a b:=abN rfl rfl
theorem ab1(d:Nat)(f:Nat→Nat)(fn:Fn)(a b:List AV):Bc (d+1) f (.func fn a b)=rnF fn (Ao (Bc d f) b) (Ao (Bc d f) a):=abN rfl rfl
def rbW(st:Nat)(w:Bool)(x:Option (List (List AV))):Option CB:=x.map (.live st false w)
theorem xM(st:Nat)(w:Bool)(rows:List (List AV)):rbW st w (some rows)=some (.live st false w rows):=abN rfl rfl
theorem amS(f:Nat→Nat)(st:Nat)(w:Bool)(rows:List (List AV)):Ei f (.live st true w rows)=some (.live st true w rows):=abN rfl rfl
theorem anE(f:Nat→Nat)(st:Nat)(w:Bool)(rows:List (List AV)):Ei f (.live st false w rows)=rbW st w (Ao (Ao (Bc 8 f)) rows):=abN rfl rfl
def peE(b:Nat)(c:Option CB)(x:Option (List Ab)):Option (List Ab):=c.bind fun c=>x.map fun es=>.put b c::es
def peK(f:Nat→Nat)(b:Nat)(c:CB)(same bad:Bool)(x:Option (List Ab)):Option (List Ab):=bif same then x else bif bad then none else peE b (Ei f c) x
theorem al2(f:Nat→Nat)(b:Nat)(c:CB)(bad:Bool)(x:Option (List Ab)):peK f b c true bad x=x:=abN rfl rfl
theorem ajR(f:Nat→Nat):Es f [] [] []=some []:=abN rfl rfl
theorem acL(f:Nat→Nat)(b:Nat)(m:List Nat)(c₀ c:CB)(cs₀ cs:List CB):Es f (b::m) (c₀::cs₀) (c::cs)=peK f b c (c₀.same c) (c.unw|| !c₀.isLive) (Es f m cs₀ cs):=by
 conv=>lhs;unfold Es
 unfold peK
 cases c₀.same c with
 |true=>rfl
 |false=>
  cases(c.unw|| !c₀.isLive)with
  |true=>rfl
  |false=>
   simp only[cond_false,peE]
theorem adQ(a:Nat)(b c:Bool)(r:List (List AV))(st:Nat)(fl w:Bool)(rows:List (List AV)):CB.same (.live a b c r) (.live st fl w rows)= !w:=abN rfl rfl
theorem ae6(st:Nat)(fl w:Bool)(rows:List (List AV)):CB.unw (.live st fl w rows)= !w:=abN rfl rfl
theorem acU(st:Nat)(fl w:Bool)(rows:List (List AV)):CB.isLive (.live st fl w rows)=true:=abN rfl rfl
def neK(base:Nat)(c:Option CB)(x:Option (List Ab)):Option (List Ab):=c.bind fun c=>x.map fun es=>.new base c::es
theorem abL(base:Nat)(c:CB)(es:List Ab):neK base (some c) (some es)=some (.new base c::es):=abN rfl rfl
theorem ajM(f:Nat→Nat)(base:Nat):Gi f base []=some []:=abN rfl rfl
theorem aeF(f:Nat→Nat)(base:Nat)(c:CB)(cs:List CB):Gi f base (c::cs)=neK base (Ei f c) (Gi f (base+1) cs):=abN rfl rfl
theorem afT(d:Nat)(fn:Fn)(a b:List AV):hasImm (d+1) (.func fn a b)=(a.any (hasImm d)||b.any (hasImm d)):=abN rfl rfl
theorem akC(b:Nat)(c:CB):Ab.hasImm (.new b c)=c.hasImm:=abN rfl rfl
theorem am2(st:Nat)(w:Bool)(rows:List (List AV)):CB.hasImm (.live st true w rows)=false:=abN rfl rfl
theorem ao7(st:Nat)(w:Bool)(rows:List (List AV)):CB.hasImm (.live st false w rows)=rows.any fun cs=>cs.any (Ev.hasImm 8):=abN rfl rfl
theorem akE(h:Aa)(b r o:Nat):cN h (.ptr b r o)=some (.ptr b r o):=abN rfl rfl
theorem aeG(h:Aa)(cs:List AV):cN h (.agg cs)=rdA (Ao (Fg 11 (hf h)) cs):=abN rfl rfl
theorem tK(l:List AV):rdA (some l)=some (.agg l):=abN rfl rfl
theorem ac3(d:Nat)(h:Aa)(b:Bool):Fg (d+1) (hf h) (.bool b)=some (.bool b):=abN rfl rfl
theorem aj0(d:Nat)(h:Aa)(k:IntKind)(n:Int):Fg (d+1) (hf h) (.int k n)=some (.int k n):=abN rfl rfl
def mfK(f:Nat)(a b:Option (List AV)):OE:=a.bind fun a=>b.bind fun b=>some (.ret (.func (.func f) a b),[])
theorem wX(f:Nat)(a b:List AV):mfK f (some a) (some b)=some (.ret (.func (.func f) a b),[]):=abN rfl rfl
theorem al3(t:List AV)(h:Aa)(f:Nat)(a b:Array Operand):Dm O P t h (.makeFunc (.func f) a b)=mfK f (Ba t a.toList) (Ba t b.toList):=by
 rw[Cc _ _ _ rfl]
 simp only[exec,mfK]
 cases Ba t a.toList with
 |none=>rfl
 |some a=>cases Ba t b.toList<;>rfl
def msK(n:Nat)(z:AV)(base:Nat)(l c:Option AV):OE:=
 match l,c with
 |some (.int .i64 l),some (.int .i64 c)=>if 0≤l∧l≤c∧c≤2 ^ 40∧(Af z).all AV.isCell=true then some (.ret (.slr n base 0 l.toNat),[.new base (.live n ((Af z).all AV.flat) false (akQ l.toNat (Af z)))])else none
 |_,_=>none
theorem wN(n:Nat)(z:AV)(base:Nat)(l c:Int):msK n z base (some (.int .i64 l)) (some (.int .i64 c))=if 0≤l∧l≤c∧c≤2 ^ 40∧(Af z).all AV.isCell=true then some (.ret (.slr n base 0 l.toNat),[.new base (.live n ((Af z).all AV.flat) false (akQ l.toNat (Af z)))])else none:=abN rfl rfl
def msO(P:Program)(ty:TypeId)(base:Nat)(l c:Option AV):OE:=rD (l.bind fun l=>c.bind fun c=>Et P base ty l c)
theorem anL(t:List AV)(h:Aa)(ty:TypeId)(l c:Operand):Dm O P t h (.makeSlice ty l c)=msO P ty h.length (Ad t l) (Ad t c):=Cc _ _ _ rfl
theorem agO{ty e:TypeId}{n b:Nat}{z:AV}(he:Ub P ty=some e)(hn:Md P e=some n)(hb:byT P e=some b)(hz:Hi P e=some z)(ok:(decide (b≤2 ^ 7)&&decide (n≠0)&&decide ((Af z).length=n))=true)(base:Nat)(l c:Option AV):
 msO P ty base l c=msK n z base l c:=by
 simp only[afG,decide_eq_true_eq]at ok
 unfold msO msK
 cases l with
 |none=>rfl
 |some l=>
  cases c with
  |none=>cases l<;>first|rfl|(rename_i k _;cases k<;>rfl)
  |some c=>
   simp only[abQ,Et,he,hn,hb,hz]
   cases l with
   |int k l=>
    cases c with
    |int k' c=>
     cases k<;>cases k'<;>first|rfl|skip
     simp only[ok.1.1,ok.1.2,ok.2,ne_eq,not_false_eq_true,true_and]
     split<;>rfl
    |_=>cases k<;>rfl
   |_=>rfl
def srS(q:Nat)(c:Option CB)(r len:Nat):Option (Bool × List (List AV)):=
 match c with
 |some (.live st fl _ rows)=>if r+len≤rows.length∧st=q then some (fl,(rows.drop r).take len)else none
 |some (.frz st fl rows)=>if r+len≤rows.length∧st=q then some (fl,(rows.drop r).take len)else none
 |_=>none
def srK(q:Nat)(h:Aa)(x:Option AV):Option (Bool × List (List AV)):=
 match x with
 |some .nils=>some (true,[])
 |some (.imm st fl rows)=>if st=q then some (fl,rows)else none
 |some (.slr _ b r len)=>srS q (h[b]?) r len
 |_=>none
theorem vI(q st:Nat)(fl w:Bool)(rows:List (List AV))(r len:Nat):srS q (some (.live st fl w rows)) r len=if r+len≤rows.length∧st=q then some (fl,(rows.drop r).take len)else none:=abN rfl rfl
theorem zS(q:Nat)(h:Aa):srK q h (some .nils)=some (true,[]):=abN rfl rfl
theorem adW(q:Nat)(h:Aa)(st:Nat)(fl:Bool)(rows:List (List AV)):srK q h (some (.imm st fl rows))=if st=q then some (fl,rows)else none:=abN rfl rfl
theorem qY(q:Nat)(h:Aa)(st b r len:Nat):srK q h (some (.slr st b r len))=srS q (h[b]?) r len:=abN rfl rfl
def apT(n base b r len:Nat)(nfl:Bool)(new:List (List AV))(st:Nat)(fl:Bool)(rows:List (List AV)):OE:=
 if st=n∧r+len≤rows.length∧len+new.length≤2 ^ 39 then some (.ret (.slr st base 0 (len+new.length)),[.put b .dead,.new base (.live st (fl&&nfl) false ((rows.drop r).take len++new))])else none
def apS(n base b r len:Nat)(nfl:Bool)(new:List (List AV))(c:Option CB):OE:=
 match c with
 |some (.live st fl _ rows)=>if st=n∧r+len=rows.length∧len+new.length≤2 ^ 39 then some (.ret (.slr st base 0 (len+new.length)),[.put b .dead,.new base (.live st (fl&&nfl) false (rows.drop r++new))])else apT n base b r len nfl new st fl rows
 |_=>none
theorem aT(n base b r len:Nat)(nfl:Bool)(new:List (List AV))(st:Nat)(fl w:Bool)(rows:List (List AV)):apS n base b r len nfl new (some (.live st fl w rows))=if st=n∧r+len=rows.length∧len+new.length≤2 ^ 39 then some (.ret (.slr st base 0 (len+new.length)),[.put b .dead,.new base (.live st (fl&&nfl) false (rows.drop r++new))])else apT n base b r len nfl new st fl rows:=abN rfl rfl
def apK(n:Nat)(h:Aa)(s:Option AV)(x:Option (Bool × List (List AV))):OE:=
 match s,x with
 |some .nils,some (_,[])=>some (.ret .nils,[])
 |some (.slr a b r l),some (_,[])=>some (.ret (.slr a b r l),[])
 |some (.imm a b r),some (_,[])=>some (.ret (.imm a b r),[])
 |some .nils,some (nfl,r::new)=>if(r::new).length≤2 ^ 39 then some (.ret (.slr n h.length 0 (r::new).length),[.new h.length (.live n nfl false (r::new))])else none
 |some (.slr _ b r len),some (nfl,q::new)=>apS n h.length b r len nfl (q::new) (h[b]?)
 |_,_=>none
theorem aiF(n:Nat)(h:Aa)(a b r l:Nat)(nfl:Bool):apK n h (some (.slr a b r l)) (some (nfl,[]))=some (.ret (.slr a b r l),[]):=abN rfl rfl
theorem nC(n:Nat)(h:Aa)(nfl:Bool)(r:List AV)(new:List (List AV)):apK n h (some .nils) (some (nfl,r::new))=if(r::new).length≤2 ^ 39 then some (.ret (.slr n h.length 0 (r::new).length),[.new h.length (.live n nfl false (r::new))])else none:=abN rfl rfl
theorem oH(n:Nat)(h:Aa)(a b r len:Nat)(nfl:Bool)(q:List AV)(new:List (List AV)):apK n h (some (.slr a b r len)) (some (nfl,q::new))=apS n h.length b r len nfl (q::new) (h[b]?):=abN rfl rfl
def apO(P:Program)(ty:TypeId)(h:Aa)(s x:Option AV):OE:=rD (s.bind fun s=>x.bind fun x=>En P (hf h) h.length ty s x)
theorem yH(t:List AV)(h:Aa)(s x:Operand)(ty ty1 e1:TypeId)(hu:P.underlying ty1=some (.slice e1)):Dm O P t h (.call ⟨.builtin .append,#[s,x],#[ty,ty1]⟩)=apO P ty h (Ad t s) (Ad t x):=by
 rw[Cc _ _ _ rfl]
 simp only[exec,Ba,apO]
 cases Ad t s with
 |none=>rfl
 |some a=>
  cases Ad t x with
  |none=>rfl
  |some b=>
   simp only[abQ,abY]
   have e0:(#[ty,ty1]:Array TypeId)[0]?=some ty:=rfl
   have e1:(#[ty,ty1]:Array TypeId)[1]?=some ty1:=rfl
   simp only[e0,e1,abQ,hu]
theorem qO{ty e:TypeId}{n b:Nat}{z:AV}(he:Ub P ty=some e)(hn:Md P e=some n)(hb:byT P e=some b)(hz:Hi P e=some z)(ok:(decide (b≤2 ^ 7)&&decide (n≠0)&&decide ((Af z).length=n))=true)(h:Aa)(s x:AV)(hx:∀q,x≠.str q):
 apO P ty h (some s) (some x)=apK n h (some s) (srK n h (some x)):=by
 simp only[afG,decide_eq_true_eq]at ok
 have hbad:¬(n=0∨2 ^ 7<b∨(Af z).length≠n):=by
  rintro(h1|h1|h1)
  ·exact ok.1.2 h1
  ·omega
  ·exact h1 ok.2
 unfold apO
 simp only[abQ,En,he,hn,hb,hz]
 have key:∀(nfl:Bool) (new:List (List AV)) (fs:List Dl),rD (if n=0∨2 ^ 7<b∨(Af z).length≠n then none else
  match s,new with
  |s,[]=>match s with
   | .nils| .slr _ _ _ _| .imm _ _ _=>some ⟨s,[],fs⟩
   |_=>none
  | .nils,new=>if new.length≤2 ^ 39 then some ⟨.slr n h.length 0 new.length,[.new h.length (.live n nfl false new)],fs⟩else none
  | .slr _ b r len,new=>
    match hf h b with
    |some (.live st fl _ rows)=>
     if st=n∧r+len≤rows.length∧len+new.length≤2 ^ 39 then
      some ⟨.slr st h.length 0 (len+new.length),[.put b .dead,.new h.length (.live st (fl&&nfl) false ((rows.drop r).take len++new))],.blk b::fs⟩
     else none
    |_=>none
  |_,_=>none)=apK n h (some s) (some (nfl,new)):=fun nfl new fs=>by
  rw[if_neg hbad]
  cases new with
  |nil=>cases s<;>rfl
  |cons q new=>
   cases s with
   |nils=>simp only[nC];split<;>rfl
   |slr a b r len=>
    simp only[oH]
    unfold apS
    have eh:hf h b=h[b]?:=rfl
    rw[eh]
    cases h[b]? with
    |none=>rfl
    |some c=>
     cases c with
     |live st fl w rows=>
      simp only
      by_cases h1:st=n∧r+len=rows.length∧len+(q::new).length≤2 ^ 39
      ·rw[if_pos h1,if_pos ⟨h1.1,by omega,h1.2.2⟩,List.take_of_length_le (by simp;omega)]
       rfl
      ·rw[if_neg h1]
       unfold apT
       split<;>rfl
     |_=>rfl
   |_=>rfl
 cases x with
 |nils=>exact key true [] []
 |imm st fl rows=>
  simp only[Ce,adW,hn,af8.injEq]
  by_cases hq:n=st
  ·subst hq;simp only[if_true,abQ];exact key fl rows []
  ·rw[if_neg hq,if_neg (fun e=>hq e.symm)]
   cases s<;>rfl
 |slr st b' r len=>
  simp only[Ce,qY,hn,Du,srS]
  have eh:hf h b'=h[b']?:=rfl
  rw[eh]
  cases h[b']? with
  |none=>cases s<;>rfl
  |some c=>
   cases c with
   |live st fl w rows=>
    simp only
    by_cases hq:r+len≤rows.length
    ·simp only[hq,if_true,abQ,true_and,af8.injEq]
     by_cases hq2:n=st
     ·subst hq2;simp only[if_true,abQ];exact key fl _ _
     ·rw[if_neg hq2,if_neg (fun e=>hq2 e.symm)];cases s<;>rfl
    ·simp only[hq,if_false,false_and];cases s<;>rfl
   |frz st fl rows=>
    simp only
    by_cases hq:r+len≤rows.length
    ·simp only[hq,if_true,abQ,true_and,af8.injEq]
     by_cases hq2:n=st
     ·subst hq2;simp only[if_true,abQ];exact key fl _ _
     ·rw[if_neg hq2,if_neg (fun e=>hq2 e.symm)];cases s<;>rfl
    ·simp only[hq,if_false,false_and];cases s<;>rfl
   |_=>cases s<;>rfl
 |str q=>exact(hx q rfl).elim
 |_=>cases s<;>rfl
def rtK(Q:Cj→Aa→Prop)(x:Option (List AV × List CB × List Nat)):Prop:=
 match x with
 |some ([v],cs,_)=>Q (.ret v) cs
 |_=>False
theorem vB(Q:Cj→Aa→Prop)(v:AV)(cs:List CB)(m:List Nat):rtK Q (some ([v],cs,m))=Q (.ret v) cs:=abN rfl rfl
theorem agV{q:Nat}{vs:List AV}{h:Aa}{Q:Cj→Aa→Prop}:Rt q (some vs) h Q=rtK Q (Hq (hf h) (akR q) [La vs]):=by
 unfold Rt vV
 simp only[abQ,Ko]
 cases hp:Hq (hf h) (akR q) [La vs]with
 |none=>simp[rtK]
 |some x=>
  obtain⟨ws,cs,m⟩:=x
  simp only[abQ]
  match ws with
  | [v]=>
    simp only[rtK,abY]
    exact propext ⟨fun⟨o,h',e,k⟩=>by cases e;exact k,fun k=>⟨_,_,rfl,k⟩⟩
  | []=>simp[rtK]
  |_::_::_=>simp[rtK]
theorem aj7(vs:List AV)(h:Aa)(Q:Cj→Aa→Prop):Rt1 0 (some vs) h Q=rtK Q (Hq (hf h) [] [La vs]):=agV
theorem afW(q:Nat)(vs:List AV)(h:Aa)(Q:Cj→Aa→Prop):Rt (q+1) (some vs) h Q=rtK Q (Hq (hf h) (akR (q+1)) [La vs]):=agV
end
end
noncomputable section
set_option maxRecDepth 100000
def EVi:=PLift.up (aaI @sJ (aaI @oI (aaI @aeA (aaI @ajI (aaI @ahW (aaI @ajJ (aaI @agZ (aaI @aaJ (aaI @zR (aaI @aiX (aaI @akL (aaI @abD (aaI @uX (aaI @adT (aaI @xJ (aaI @zQ (aaI @aeR (aaI @xA (aaI @zH (aaI @yW (aaI @ahZ (aaI @ac5 (aaI @wA (aaI @alP (aaI @amK (aaI @yZ (aaI @wJ (aaI @vM @yX))))))))))))))))))))))))))))
def EVj:=PLift.up (aaI @xX (aaI @amI (aaI @yQ (aaI @zE (aaI @anX (aaI @aQ9 (aaI @abA (aaI @abB (aaI @afY (aaI @aaW (aaI @adH (aaI @ad0 (aaI @aj6 (aaI @aiD (aaI @adN (aaI @ai8 (aaI @ajP (aaI @ajL (aaI @aoS (aaI @amQ (aaI @ae1 (aaI @ahN (aaI @ahE (aaI @ai5 (aaI @ai2 @xY)))))))))))))))))))))))))
def EVk:=PLift.up (aaI @aa5 (aaI @ahD (aaI @aiG (aaI @aa6 (aaI @yK (aaI @ab1 (aaI @xM (aaI @amS (aaI @anE (aaI @al2 (aaI @ajR (aaI @acL (aaI @adQ (aaI @ae6 (aaI @acU (aaI @abL (aaI @ajM (aaI @aeF (aaI @afT (aaI @akC (aaI @am2 (aaI @ao7 @akE))))))))))))))))))))))
def EVl:=PLift.up (aaI @aeG (aaI @tK (aaI @ac3 (aaI @aj0 (aaI @wX (aaI @al3 (aaI @wN (aaI @anL (aaI @vI (aaI @zS (aaI @qY (aaI @aT (aaI @aiF (aaI @nC (aaI @oH (aaI @vB (aaI @aj7 (aaI @afW (aaI @List.flatMap_cons.{0,0} (aaI @List.flatMap_nil.{0,0} (aaI @List.isEmpty_nil.{0} (aaI @List.getD_cons_zero.{0} (aaI @List.range_succ (aaI @alJ (aaI @List.contains_nil.{0} @List.contains_cons.{0})))))))))))))))))))))))))
def EVm:=PLift.up (aaI @alK.{0} @alK.{0})
end
noncomputable section
theorem ajT{n:Nat}{fl nn:Bool}{rows:List (List AV)}(h:rows≠[]):Dh n fl nn rows=.imm n fl rows:=by
 cases rows with
 |nil=>exact(h rfl).elim
 |cons r rs=>rfl
theorem bU(n:Nat)(fl:Bool)(rows:List (List AV)):Dh n fl true rows=.imm n fl rows:=by cases rows<;>rfl
section
variable {P:Program} {t e:TypeId} (hu:P.underlying t=some (.slice e))
include hu
end
def ahU(v:Option AV)(ns:Option (List Ab)):Option Hk:=v.bind fun v=>ns.map fun ns=>⟨.ret v,ns,[]⟩
theorem tZ(v:AV)(ns:List Ab):ahU (some v) (some ns)=some ⟨.ret v,ns,[]⟩:=abN rfl rfl
theorem yE(base:Nat)(v:AV)(c:CB)(cs:List CB):ac0 base (some (.ret v,c::cs))=ahU (Bc 8 (fun i=>base+i) v) (Gi (fun i=>base+i) base (c::cs)):=by
 simp only[ac0,ahU,abQ,Cj.v,Cj.map]
section
variable {O:Do}
theorem am8(h:Aa)(f:Nat)(args:List AV):shC O h f args=if(Vl args||O.md f)=true then shK h (O.call (.sh f) args (Eb h))else cr (Bw O (hf h) h.length (.fn f) args):=abN rfl rfl
end
theorem ajV(b r o:Nat)(l:List AV):Vl (.ptr b r o::l)=false:=abN rfl rfl
theorem aiC(a b r n:Nat)(l:List AV):Vl (.slr a b r n::l)=false:=abN rfl rfl
theorem am0(b:Nat)(l:List AV):Vl (.yl b::l)=true:=abN rfl rfl
theorem ai0:Eb []=[]:=abN rfl rfl
theorem aeP(c:CB)(h:Aa):Eb (c::h)=c.clean::Eb h:=abN rfl rfl
theorem aiK(h h':Aa):Eb (h++h')=Eb h++Eb h':=List.map_append
theorem ah7(h:Aa)(b:Nat):(Eb h)[b]?=(h[b]?).map CB.clean:=by simp[Eb]
theorem amN(ps:List Nat)(a b:Code)(t:List AV)(st:Hl):CB.clean (.lp ps a b t st)=.lp ps a b t st:=abN rfl rfl
def An(h:Aa):Bool:=h.all fun c=>c.quiet c.clean
theorem qE:∀{h:Aa} (_:An h=true) (i:Nat) (l:Aa),Bv i h (Eb h++l)=some (Gn (i+h.length) l)
 | [],_,i,l=>by simp[Eb,Bv]
 |c::h,hq,i,l=>by
  simp only[An,List.all_cons,afG]at hq
  have ih:=qE (h:=h) hq.2 (i+1) l
  simp only[Eb,akS,akT,Bv,hq.1,cond_true]at ih ⊢
  rw[ih,akZ]
  congr 2;omega
theorem eZ:∀(cs:List CB) (i:Nat) (h:Aa),Ax h (Gn i cs)=h++cs
 | [],i,h=>by simp[Gn,Ax]
 |c::cs,i,h=>by simp[Gn,Ax,Iu,eZ cs]
theorem Us(h:Aa)(o:Cj)(h':Aa):shK h (some (o,h'))=(Bv 0 h h').map fun es=>(o,es):=abN rfl rfl
def EVo:=PLift.up (aaI @afM (aaI @acY (aaI @ae8 (aaI @aiT (aaI @ahL (aaI @anH (aaI @aeD (aaI @ajE (aaI @aiO (aaI @aiP @aiW))))))))))
def EVn:=PLift.up (aaI @tZ @yE)
def EVp:=PLift.up (aaI @am8 (aaI @ajV (aaI @aiC (aaI @am0 (aaI @ai0 (aaI @aeP (aaI @aiK (aaI @ah7 @amN))))))))
end
noncomputable section
def Aw:CB→Option (Nat × Bool × List (List AV))
 | .live st fl _ rows=>some (st,fl,rows)
 | .frz st fl rows=>some (st,fl,rows)
 |_=>none
def Tf(f:AV→Option (AV × List Nat)):List AV→Option (List AV × List Nat)
 | []=>some ([],[])
 |a::l=>(f a).bind fun p=>(Tf f l).map fun q=>(p.1::q.1,p.2++q.2)
def Bq(f:AV→Option (AV × List Nat)):List (List AV)→Option (List (List AV) × List Nat)
 | []=>some ([],[])
 |r::rs=>(Tf f r).bind fun p=>(Bq f rs).map fun q=>(p.1::q.1,p.2++q.2)
def rd:Nat→HF→AV→Option (AV × List Nat)
 |0,_,_=>none
 |d+1,g,v=>
  match v with
  | .slr st b r len=>((g b).bind Aw).bind fun z=>
     if z.1=st∧r=0∧len=z.2.2.length then
      (bif z.2.1 then some (.imm st true z.2.2,[b])else(Bq (rd d g) z.2.2).map fun q=>(.imm st false q.1,b::q.2))
     else none
  | .agg cs=>(Tf (rd d g) cs).map fun q=>(.agg q.1,q.2)
  | .iface t x=>(rd d g x).map fun q=>(.iface t q.1,q.2)
  | .func fn [] []=>some (.func fn [] [],[])
  | .func _ _ _=>none
  | .tup _=>none
  | .ptr _ _ _=>none
  | .yl _=>none
  | .mapr _=>none
  | .itr _=>none
  | .imm _ _ _=>none
  | .iptr _=>none
  |v=>some (v,[])
theorem Vg{f f':AV→Option (AV × List Nat)}:∀{l:List AV} {p:List AV × List Nat},Tf f l=some p→(∀x∈l,∀q,f x=some q→(∀b∈q.2,b∈p.2)→f' x=some q)→Tf f' l=some p
 | [],p,h,_=>h
 |a::l,p,h,hf=>by
  simp only[Tf,abP,abO]at h ⊢
  obtain⟨q,hq,r,hr,rfl⟩:=h
  exact⟨q,hf a (abS ..) q hq (fun b hb=>af9 _ hb),r,Vg hr (fun x hx q' hq' hs=>hf x (abR _ hx) q' hq' (fun b hb=>agB _ (hs b hb))),rfl⟩
theorem Ry{f f':AV→Option (AV × List Nat)}:∀{l:List (List AV)} {p:List (List AV) × List Nat},Bq f l=some p→(∀r∈l,∀x∈r,∀q,f x=some q→(∀b∈q.2,b∈p.2)→f' x=some q)→Bq f' l=some p
 | [],p,h,_=>h
 |a::l,p,h,hf=>by
  simp only[Bq,abP,abO]at h ⊢
  obtain⟨q,hq,r,hr,rfl⟩:=h
  exact⟨q,Vg hq (fun x hx q' hq' hs=>hf a (abS ..) x hx q' hq' (fun b hb=>af9 _ (hs b hb))),r,
   Ry hr (fun r' hr' x hx q' hq' hs=>hf r' (abR _ hr') x hx q' hq' (fun b hb=>agB _ (hs b hb))),rfl⟩
def Agr(R:List Nat)(g g':HF):Prop:=∀b∈R,∀z,(g b).bind Aw=some z→(g' b).bind Aw=some z
theorem bV{g g':HF}:∀{d:Nat} {v:AV} {p:AV × List Nat},rd d g v=some p→Agr p.2 g g'→rd d g' v=some p
 |0,v,p,h,_=>by simp[rd]at h
 |d+1,v,p,h,ha=>by
  cases v with
  |slr st b r len=>
   simp only[rd,abP]at h ⊢
   obtain⟨z,⟨c,hc,hz⟩,h⟩:=h
   split at h
   ·rename_i hq
    have hb:b∈p.2:=by
     cases hfl:z.2.1 with
     |true=>rw[hfl]at h;simp at h;rw[←h];simp
     |false=>rw[hfl]at h;simp only[cond_false,abO]at h;obtain⟨q,_,rfl⟩:=h;simp
    have hz':=ha b hb z (by rw[hc];exact hz)
    obtain⟨c',hc',hz''⟩:=abP.1 hz'
    refine⟨z,⟨c',hc',hz''⟩,?_⟩
    rw[if_pos hq]
    cases hfl:z.2.1 with
    |true=>rw[hfl]at h;exact h
    |false=>
     rw[hfl]at h
     simp only[cond_false,abO]at h ⊢
     obtain⟨q,hq',rfl⟩:=h
     exact⟨q,Ry hq' (fun r' _ x _ q' hx hs=>bV hx (fun b' hb'=>ha b' (abR _ (hs b' hb')))),rfl⟩
   ·cases h
  |agg cs=>
   simp only[rd,abO]at h ⊢
   obtain⟨q,hq,rfl⟩:=h
   exact⟨q,Vg hq (fun x _ q' hx hs=>bV hx (fun b hb=>ha b (hs b hb))),rfl⟩
  |iface t x=>
   simp only[rd,abO]at h ⊢
   obtain⟨q,hq,rfl⟩:=h
   exact⟨q,bV hq ha,rfl⟩
  |func fn a b=>cases a<;>cases b<;>first|exact h|(simp[rd]at h)
  |_=>first|exact h|(simp[rd]at h)
def Da:Nat→(Nat→Option Nat)→AV→Option AV
 |0,_,_=>none
 |d+1,F,v=>
  match v with
  | .ptr b r o=>(F b).map fun b=>.ptr b r o
  | .slr st b r len=>(F b).map fun b=>.slr st b r len
  | .agg cs=>(Ao (Da d F) cs).map .agg
  | .tup cs=>(Ao (Da d F) cs).map .tup
  | .iface t x=>(Da d F x).map (.iface t)
  | .func fn a b=>(Ao (Da d F) a).bind fun a=>(Ao (Da d F) b).map fun b=>.func fn a b
  | .yl b=>(F b).map .yl
  | .mapr b=>(F b).map .mapr
  | .itr b=>(F b).map .itr
  |v=>some v
def aeW(F:Nat→Option Nat)(g' g:HF):Prop:=∀i b,F i=some b→∀z,(g b).bind Aw=some z→
 ∃rows',(g' i).bind Aw=some (z.1,z.2.1,rows')∧(z.2.1=true→rows'=z.2.2)∧(z.2.1=false→Ao (Ao (Da 8 F)) rows'=some z.2.2)
theorem Nq{α β:Type}{f:α→Option β}:∀{l:List α} {r:List β},Ao f l=some r→l.length=r.length
 | [],r,h=>by simp[Ao]at h;subst h;rfl
 |a::l,r,h=>by
  simp only[Ao,abP,abO]at h
  obtain⟨b,_,bs,h2,rfl⟩:=h
  simp[Nq h2]
theorem fK{f f':AV→Option (AV × List Nat)}{F:AV→Option AV}{Z:Nat→Prop}:∀{l l':List AV} {p:List AV × List Nat},Ao F l'=some l→Tf f l=some p→
 (∀x' x q,F x'=some x→f x=some q→∃R',f' x'=some (q.1,R')∧R'.length=q.2.length∧∀i∈R',Z i)→∃R',Tf f' l'=some (p.1,R')∧R'.length=p.2.length∧∀i∈R',Z i
 |l,[],p,ho,h,_=>by
  simp[Ao]at ho;subst ho
  simp[Tf]at h;subst h
  exact⟨[],rfl,rfl,fun i h=>by cases h⟩
 |l,a'::l',p,ho,h,hf=>by
  simp only[Ao,abP,abO]at ho
  obtain⟨a,ha,l1,hl1,rfl⟩:=ho
  simp only[Tf,abP,abO]at h
  obtain⟨q,hq,r,hr,rfl⟩:=h
  obtain⟨R1,e1,e2,z1⟩:=hf a' a q ha hq
  obtain⟨R2,e3,e4,z2⟩:=fK hl1 hr hf
  exact⟨R1++R2,by simp[Tf,e1,e3],by simp[e2,e4],fun i hi=>(agQ.1 hi).elim (z1 i) (z2 i)⟩
theorem cK{f f':AV→Option (AV × List Nat)}{F:AV→Option AV}{Z:Nat→Prop}:∀{l l':List (List AV)} {p:List (List AV) × List Nat},Ao (Ao F) l'=some l→Bq f l=some p→
 (∀x' x q,F x'=some x→f x=some q→∃R',f' x'=some (q.1,R')∧R'.length=q.2.length∧∀i∈R',Z i)→∃R',Bq f' l'=some (p.1,R')∧R'.length=p.2.length∧∀i∈R',Z i
 |l,[],p,ho,h,_=>by
  simp[Ao]at ho;subst ho
  simp[Bq]at h;subst h
  exact⟨[],rfl,rfl,fun i h=>by cases h⟩
 |l,a'::l',p,ho,h,hf=>by
  simp only[Ao,abP,abO]at ho
  obtain⟨a,ha,l1,hl1,rfl⟩:=ho
  simp only[Bq,abP,abO]at h
  obtain⟨q,hq,r,hr,rfl⟩:=h
  obtain⟨R1,e1,e2,z1⟩:=fK ha hq hf
  obtain⟨R2,e3,e4,z2⟩:=cK hl1 hr hf
  exact⟨R1++R2,by simp[Bq,e1,e3],by simp[e2,e4],fun i hi=>(agQ.1 hi).elim (z1 i) (z2 i)⟩
theorem vP{F:Nat→Option Nat}{g' g:HF}(H:aeW F g' g):∀{d e:Nat} {x' x:AV} {p:AV × List Nat},Da e F x'=some x→rd d g x=some p→∃R',rd d g' x'=some (p.1,R')∧R'.length=p.2.length∧∀i∈R',∃b,F i=some b
 |0,e,x',x,p,_,h=>by simp[rd]at h
 |d+1,0,x',x,p,hx,_=>by simp[Da]at hx
 |d+1,e+1,x',x,p,hx,h=>by
  have IH:∀e x' x q,Da e F x'=some x→rd d g x=some q→∃R',rd d g' x'=some (q.1,R')∧R'.length=q.2.length∧∀i∈R',∃b,F i=some b:=fun e x' x q h1 h2=>vP H h1 h2
  cases x' with
  |slr st i r len=>
   simp only[Da,abO]at hx
   obtain⟨b,hb,rfl⟩:=hx
   simp only[rd,abP]at h
   obtain⟨z,hz,h⟩:=h
   split at h
   ·rename_i hq
    obtain⟨rows',k1,k2,k3⟩:=H i b hb z (abP.2 hz)
    simp only[rd,k1,abQ]
    cases hfl:z.2.1 with
    |true=>
     rw[hfl]at h;simp at h
     rw[if_pos ⟨hq.1,hq.2.1,by rw[k2 hfl];exact hq.2.2⟩,←h,k2 hfl]
     exact⟨[i],rfl,rfl,fun j hj=>by simp at hj;subst hj;exact⟨b,hb⟩⟩
    |false=>
     rw[hfl]at h
     simp only[cond_false,abO]at h
     obtain⟨q,hq',rfl⟩:=h
     have hl:=Nq (k3 hfl)
     rw[if_pos ⟨hq.1,hq.2.1,by rw[hl];exact hq.2.2⟩]
     obtain⟨R',e1,e2,z1⟩:=cK (f':=rd d g') (k3 hfl) hq' (fun x' x q h1 h2=>IH 8 x' x q h1 h2)
     exact⟨i::R',by simp[e1],by simp[e2],fun j hj=>(abT.1 hj).elim (fun e=>e▸⟨b,hb⟩) (z1 j)⟩
   ·cases h
  |agg cs=>
   simp only[Da,abO]at hx
   obtain⟨cs',hcs,rfl⟩:=hx
   simp only[rd,abO]at h
   obtain⟨q,hq,rfl⟩:=h
   obtain⟨R',e1,e2,z1⟩:=fK (f':=rd d g') hcs hq (fun x' x q h1 h2=>IH e x' x q h1 h2)
   exact⟨R',by simp[rd,e1],e2,z1⟩
  |iface t y=>
   simp only[Da,abO]at hx
   obtain⟨y',hy,rfl⟩:=hx
   simp only[rd,abO]at h
   obtain⟨q,hq,rfl⟩:=h
   obtain⟨R',e1,e2,z1⟩:=IH e _ _ q hy hq
   exact⟨R',by simp[rd,e1],e2,z1⟩
  |func fn a b=>
   simp only[Da,abP,abO]at hx
   obtain⟨a1,ha,b1,hb,rfl⟩:=hx
   have la:=Nq ha
   have lb:=Nq hb
   cases a1 with
   |cons=>simp[rd]at h
   |nil=>
    cases b1 with
    |cons=>simp[rd]at h
    |nil=>
     simp at la lb
     obtain rfl:=la
     obtain rfl:=lb
     simp[rd]at h;subst h
     exact⟨[],rfl,rfl,fun i h=>by cases h⟩
  |ptr b r o=>
   simp only[Da,abO]at hx
   obtain⟨b,hb,rfl⟩:=hx
   simp[rd]at h
  |tup cs=>
   simp only[Da,abO]at hx
   obtain⟨b,hb,rfl⟩:=hx
   simp[rd]at h
  |yl b=>
   simp only[Da,abO]at hx
   obtain⟨b,hb,rfl⟩:=hx
   simp[rd]at h
  |mapr b=>
   simp only[Da,abO]at hx
   obtain⟨b,hb,rfl⟩:=hx
   simp[rd]at h
  |itr b=>
   simp only[Da,abO]at hx
   obtain⟨b,hb,rfl⟩:=hx
   simp[rd]at h
  |imm=>simp[Da]at hx;subst hx;simp[rd]at h
  |iptr=>simp[Da]at hx;subst hx;simp[rd]at h
  |_=>simp[Da]at hx;subst hx;simp[rd]at h;subst h;exact⟨[],rfl,rfl,fun i h=>by cases h⟩
end
noncomputable section
open Go.RowKit
section
variable {P:Program} {O:Do} {pr:Jq}
def fnS(P:Program)(rs:List ResultVar)(x:R):Option (Cj × Aa):=
 match x with
 |some (.normal,s)|some (.ret,s)=>(Nb P s rs).map fun vs=>(.ret (La vs),s.h)
 |some (.pan v,s)=>some (.pan v,s.h)
 |_=>none
theorem ajC{f:Nat}{fn:Func}(hf:P.funcs[f]?=some fn){c:Code}(hb:fn.body=some c){args:List AV}(hl:args.length≤fn.ntmps)(h:Aa):
 evS O P f args h=fnS P fn.results.toList (Bm O P Hh c [] ⟨mk fn.ntmps (Qo args),h⟩):=by
 unfold evS
 simp only[hf,hb]
 rw[yC _ _ hl]
 cases Bm O P Hh c [] ⟨mk fn.ntmps (Qo args),h⟩with
 |none=>rfl
 |some x=>
  obtain⟨e,s⟩:=x
  cases e<;>rfl
def FnS(P:Program)(rs:List ResultVar)(Q:Cj→Aa→Prop)(x:R):Prop:=∃o h,fnS P rs x=some (o,h)∧Q o h
def RtS(vs:Option (List AV))(h:Aa)(Q:Cj→Aa→Prop):Prop:=
 match vs with
 |some vs=>Q (.ret (La vs)) h
 |none=>False
theorem nS(rs:List ResultVar)(Q:Cj→Aa→Prop)(t:List AV)(h:Aa):FnS P rs Q (some (.ret,⟨t,h⟩))=RtS (Nb P ⟨t,h⟩ rs) h Q:=by
 cases hr:Nb P ⟨t,h⟩ rs with
 |none=>simp[FnS,fnS,RtS,hr]
 |some vs=>
  have e:fnS P rs (some (.ret,⟨t,h⟩))=some (.ret (La vs),h):=by simp[fnS,hr]
  exact propext (Iff.intro (fun⟨o,h',e',q⟩=>by rw[e]at e';cases e';exact q) (fun q=>⟨_,_,e,q⟩))
theorem Lh(rs:List ResultVar)(Q:Cj→Aa→Prop)(t:List AV)(h:Aa):FnS P rs Q (some (.normal,⟨t,h⟩))=RtS (Nb P ⟨t,h⟩ rs) h Q:=by
 rw[←nS];rfl
theorem aa7(vs:List AV)(h:Aa)(Q:Cj→Aa→Prop):RtS (some vs) h Q=Q (.ret (La vs)) h:=abN rfl rfl
theorem wR{rs:List ResultVar}{Q:Cj→Aa→Prop}:¬FnS P rs Q none:=fun⟨_,_,h,_⟩=>by simp[fnS]at h
def mU(O:Do)(f:Nat)(args:List AV)(h:Aa)(Q:Cj→Aa→Prop):Prop:=∃o h',O.call (.sh f) args h=some (o,h')∧Q o h'
theorem mU.start{f:Nat}{fn:Func}{c:Code}{args:List AV}{h:Aa}{Q:Cj→Aa→Prop}(hp:pr f=none)(hf:P.funcs[f]?=some fn)(hb:fn.body=some c)(hl:Nat.ble args.length fn.ntmps=true)
 (he:FnS P fn.results.toList Q (Bm (om P pr) P 5000 c [] ⟨mk fn.ntmps (Qo args),h⟩)) (hs:pr.sh f=none:=by exact rfl):mU (om P pr) f args h Q:=by
 obtain⟨o,h',e,q⟩:=he
 exact⟨o,h',agP hp hs ((ajC hf hb (Nat.le_of_ble_eq_true hl) h).trans e),q⟩
theorem mU.eq{f:Nat}{args:List AV}{h:Aa}{o:Cj}{h':Aa}(k:mU O f args h fun o1 h1=>(o1,h1)=(o,h')):O.call (.sh f) args h=some (o,h'):=by
 obtain⟨o1,h1,e,q⟩:=k
 rw[e,q]
def ncK(x:Option AV):OE:=
 match x with
 |some (.ptr b r o)=>some (.ret (.ptr b r o),[])
 |some (.iptr cs)=>some (.ret (.iptr cs),[])
 |some (.func (.func f) a c)=>some (.ret (.func (.func f) a c),[])
 |_=>none
theorem aiI(b r o:Nat):ncK (some (.ptr b r o))=some (.ret (.ptr b r o),[]):=abN rfl rfl
theorem apG(t:List AV)(h:Aa)(x:Operand):Dm O P t h (.nilCheck x)=ncK (Ad t x):=by
 rw[Cc _ _ _ rfl]
 simp only[exec,ncK]
 cases Ad t x with
 |none=>rfl
 |some v=>
  cases v with
  |func fn a c=>cases fn<;>rfl
  |_=>rfl
end
def EVq:=PLift.up (aaI @nS (aaI @Lh (aaI @aa7 (aaI @aiI @apG))))
end
noncomputable section
open Go.RowKit
section
variable {P:Program} {O:Do}
end
def adS(k st:Nat)(fl:Bool)(rows:List (List AV))(v:AV)(g:Aa):Prop:=
 (rows=[]∧v=.nils)∨∃b w,v=.slr st (b+k) 0 rows.length∧g[b]?=some (.live st fl w rows)
def kl(k:Nat)(v:AV)(g:Aa):Aa:=
 match v with
 | .slr _ b _ _=>g.set (b-k) .dead
 |_=>g
theorem eS(k:Nat)(v:AV)(g:Aa):(kl k v g).length=g.length:=by
 unfold kl;split<;>simp
def apE(v:AV)(st:Nat)(fl:Bool)(rows:List (List AV))(base:Nat):List Ab:=
 match v with
 | .slr _ b _ _=>[.put b .dead,.new base (.live st fl false rows)]
 |_=>[.new base (.live st fl false rows)]
theorem ad9{k n:Nat}{fl:Bool}{rows:List (List AV)}{v:AV}{g:Aa}(ho:adS k n fl rows v g){pre:Aa}(hk:pre.length=k)(l:Aa)(r:List AV)(new:List (List AV))(hl:rows.length+(new.length+1)≤549755813888):
 apK n (pre++(g++l)) (some v) (some (fl,r::new))=some (.ret (.slr n (pre++(g++l)).length 0 (rows.length+(r::new).length)),apE v n fl (rows++r::new) (pre++(g++l)).length):=by
 rcases ho with⟨rfl,rfl⟩|⟨b,w,rfl,h2⟩
 ·rw[nC,if_pos (by simp at hl ⊢;omega)]
  simp[apE]
 ·have hb:=(abU.1 h2).1
  have hq:(pre++(g++l))[b+k]?=some (.live n fl w rows):=by
   rw[alM (by omega),agS (by omega)]
   rw[show b+k-pre.length=b by omega];exact h2
  rw[oH,hq,aT,if_pos ⟨rfl,by omega,by simp only[akZ];omega⟩]
  simp[apE]
theorem yY{k n:Nat}{fl:Bool}{rows:List (List AV)}{v:AV}{g:Aa}(ho:adS k n fl rows v g){pre:Aa}(hk:pre.length=k)(l:Aa)(st:Nat)(fl':Bool)(rows':List (List AV))(base:Nat):
 Ax (pre++(g++l)) (apE v st fl' rows' base)=pre++(kl k v g++(l++[.live st fl' false rows'])):=by
 rcases ho with⟨rfl,rfl⟩|⟨b,w,rfl,h2⟩
 ·simp[apE,Ax,Iu,kl]
 ·have hb:=(abU.1 h2).1
  simp only[apE,Ax,Iu,kl,Nat.add_sub_cancel]
  rw[List.set_append_right _ _ (by omega),show b+k-pre.length=b by omega,List.set_append_left _ _ hb]
  simp
def pkd(O:Do)(f:Nat)(args:List AV):Prop:=Zu args=true→(Vl args||O.md f)=false
theorem xH{O:Do}{f:Nat}{args:List AV}(h:Zu args=false):pkd O f args:=fun k=>by rw[h]at k;cases k
theorem xO{O:Do}{h:Aa}{f:Nat}{args:List AV}(hd:pkd O f args):cl O h (some (.func (.func f) [] [])) (some args)=cr (Bw O (hf h) h.length (.fn f) args):=by
 rw[jT]
 simp only[ah1,ak3]
 split
 ·rename_i hh
  unfold shC
  rw[hd hh];simp only[Bool.false_eq_true,if_false]
 ·rfl
section
variable {P:Program} (ty:TypeId)
end
theorem fW{α:Type}{f:α→Option α}:∀{l:List α},(∀x∈l,f x=some x)→Ao f l=some l
 | [],_=>rfl
 |a::l,h=>by simp only[Ao,h a (abS ..),abQ,fW (fun x hx=>h x (abR _ hx)),abY]
end
noncomputable section
open Go.RowKit
section
variable {P:Program} {O:Do} {pr:Jq}
def rnX(O:Do)(P:Program)(n:Nat)(k:List Ai)(t:List AV)(b:Nat)(h2:Aa)(x:Option CB):R:=
 match x with
 |some (.lp _ _ _ _ .ready)=>Bi (Bm O P n) k .normal ⟨t,h2.set b .dead⟩
 |some (.lp _ _ _ _ (.done .ret))=>Bi (Bm O P n) k .ret ⟨t,h2.set b .dead⟩
 |some (.lp _ _ _ _ (.done (.exit i)))=>Bi (Bm O P n) k (.exit i) ⟨t,h2.set b .dead⟩
 |_=>none
def rnE(O:Do)(P:Program)(n:Nat)(k:List Ai)(t:List AV)(b:Nat)(h1:Aa)(x:OE):R:=
 match x with
 |some (.ret _,es)=>rnX O P n k t b (Ax h1 es) ((Ax h1 es)[b]?)
 |_=>none
def rnC(O:Do)(h1:Aa)(b:Nat)(fv:Option AV):OE:=
 match fv with
 |some (.func (.func g) a c)=>cr (Dp O (hf h1) h1.length (Nn g (a++[.yl b]++c)) (a++[.yl b]++c))
 |_=>none
theorem apH(n:Nat)(k:List Ai)(t:List AV)(b:Nat)(h1:Aa)(x:Option Hk):
 (x.bind fun d=>match d.out with
   | .ret _=>
     let h2:=Ax h1 d.es
     match h2[b]? with
     |some (.lp _ _ _ _ .ready)=>Bi (Bm O P n) k .normal ⟨t,h2.set b .dead⟩
     |some (.lp _ _ _ _ (.done .ret))=>Bi (Bm O P n) k .ret ⟨t,h2.set b .dead⟩
     |some (.lp _ _ _ _ (.done (.exit i)))=>Bi (Bm O P n) k (.exit i) ⟨t,h2.set b .dead⟩
     |_=>none
   | .pan _=>none)=rnE O P n k t b h1 (cr x):=by
 cases x with
 |none=>rfl
 |some d=>
  obtain⟨o,es,fs⟩:=d
  cases o<;>rfl
theorem ai1(n:Nat)(f:Operand)(ps:Array Nat)(asg body:Code)(k:List Ai)(t:List AV)(h:Aa):
 Bm O P (n+1) (.rangeFunc f ps asg body) k ⟨t,h⟩=rnE O P n k t h.length (h++[.lp ps.toList asg body t .ready]) (rnC O (h++[.lp ps.toList asg body t .ready]) h.length (Ad t f)):=by
 simp only[Bm,rnC]
 cases Ad t f with
 |none=>rfl
 |some v=>
  simp only[abQ]
  cases v with
  |func fn a c=>
   cases fn with
   |func g=>exact apH n k t h.length _ _
   |_=>rfl
  |_=>rfl
theorem ahO(h1:Aa)(b g:Nat)(a c:List AV):rnC O h1 b (some (.func (.func g) a c))=if Zu (a++[.yl b]++c)=true then shC O h1 g (a++[.yl b]++c)else cr (Bw O (hf h1) h1.length (.fn g) (a++[.yl b]++c)):=vC h1 g _
theorem ae4(n:Nat)(k:List Ai)(t:List AV)(b:Nat)(h1:Aa)(v:AV)(es:List Ab):rnE O P n k t b h1 (some (.ret v,es))=rnX O P n k t b (Ax h1 es) ((Ax h1 es)[b]?):=abN rfl rfl
theorem sE(n:Nat)(k:List Ai)(t:List AV)(b:Nat)(h2:Aa)(ps:List Nat)(asg body:Code)(tm:List AV):rnX O P n k t b h2 (some (.lp ps asg body tm .ready))=Bi (Bm O P n) k .normal ⟨t,h2.set b .dead⟩:=abN rfl rfl
def slK(h:Aa)(b:Nat)(ok:Hl→Bool)(st:Hl)(x:Option CB):Option Aa:=
 match x with
 |some (.lp ps asg body tmps st')=>if ok st' then some (h.set b (.lp ps asg body tmps st))else none
 |_=>none
theorem amU(h:Aa)(b:Nat)(ok:Hl→Bool)(st:Hl):It h b ok st=slK h b ok st (h[b]?):=by
 unfold It slK
 cases h[b]? with
 |none=>rfl
 |some c=>cases c<;>rfl
theorem zO(h:Aa)(b:Nat)(st:Hl)(ps:List Nat)(asg body:Code)(tm:List AV):slK h b Hl.isReady st (some (.lp ps asg body tm .ready))=some (h.set b (.lp ps asg body tm st)):=abN rfl rfl
theorem afU(h:Aa)(b:Nat)(st:Hl)(ps:List Nat)(asg body:Code)(tm:List AV):slK h b Hl.isBusy st (some (.lp ps asg body tm .busy))=some (h.set b (.lp ps asg body tm st)):=abN rfl rfl
def ae7(O:Do)(P:Program)(body:Code)(t:List AV)(x:Option Aa):R:=
 match x with
 |some h1=>Bm O P 5000 body [] ⟨t,h1⟩
 |none=>none
def zT(O:Do)(P:Program)(b:Nat)(body:Code)(x:R):R:=
 match x with
 |some (.normal,s)=>ae7 O P body s.tmps (It s.h b Hl.isReady .busy)
 |_=>none
def fU(r:Bool)(x:Option Aa):Option (Cj × Aa):=x.map fun h2=>(.ret (.bool r),h2)
def uD(b:Nat)(x:R):Option (Cj × Aa):=
 match x with
 |some (.normal,s)=>fU true (It s.h b Hl.isBusy .ready)
 |some (.ret,s)=>fU false (It s.h b Hl.isBusy (.done .ret))
 |some (.exit i,s)=>fU false (It s.h b Hl.isBusy (.done (.exit i)))
 |_=>none
theorem rH(body:Code)(t:List AV)(h:Aa):ae7 O P body t (some h)=Bm O P 5000 body [] ⟨t,h⟩:=abN rfl rfl
theorem lC(b:Nat)(body:Code)(t:List AV)(h:Aa):zT O P b body (some (.normal,⟨t,h⟩))=ae7 O P body t (It h b Hl.isReady .busy):=abN rfl rfl
theorem tP(r:Bool)(h:Aa):fU r (some h)=some (.ret (.bool r),h):=abN rfl rfl
theorem abH{vs:List AV}{b:Nat}{h:Aa}{ps:List Nat}{asg body:Code}{tm:List AV}{st:Hl}(hb:h[b]?=some (.lp ps asg body tm st))(hl:ps.length=vs.length):
 Ik O P (vs++[.yl b]) h=uD b (zT O P b body (Bm O P 5000 asg [] ⟨Kv tm ps vs,h⟩)):=by
 unfold Ik
 simp only[List.reverse_append,List.reverse_cons,List.reverse_nil,ah1,akT,List.reverse_reverse,List.length_reverse,hb,hl,if_true,Hh]
 cases Bm O P 5000 asg [] ⟨Kv tm ps vs,h⟩with
 |none=>rfl
 |some x=>
  obtain⟨e,s⟩:=x
  cases e with
  |normal=>
   simp only[abQ,zT]
   cases It s.h b Hl.isReady .busy with
   |none=>rfl
   |some h1=>
    simp only[abQ,ae7]
    cases Bm O P 5000 body [] ⟨s.tmps,h1⟩with
    |none=>rfl
    |some y=>
     obtain⟨e,s⟩:=y
     cases e with
     |normal=>simp only[abQ,Jt,uD,fU];cases It s.h b Hl.isBusy .ready<;>rfl
     |ret=>simp only[abQ,Jt,uD,fU];cases It s.h b Hl.isBusy (.done .ret)<;>rfl
     |exit i=>simp only[abQ,Jt,uD,fU];cases It s.h b Hl.isBusy (.done (.exit i))<;>rfl
     |pan v=>rfl
  |_=>rfl
def RnE(b:Nat)(Q:Cj→Aa→Prop)(x:R):Prop:=∃o h',uD b x=some (o,h')∧Q o h'
def RnQ(O:Do)(args:List AV)(h:Aa)(Q:Cj→Aa→Prop):Prop:=∃o h',O.call .round args h=some (o,h')∧Q o h'
theorem RnQ.start{vs:List AV}{b:Nat}{h:Aa}{ps:List Nat}{asg body:Code}{tm:List AV}{st:Hl}{Q:Cj→Aa→Prop}(hb:h[b]?=some (.lp ps asg body tm st))(hl:ps.length=vs.length)
 (he:RnE b Q (zT (om P pr) P b body (Bm (om P pr) P 5000 asg [] ⟨Kv tm ps vs,h⟩))):RnQ (om P pr) (vs++[.yl b]) h Q:=by
 obtain⟨o,h',e,q⟩:=he
 exact⟨o,h',mA ((abH hb hl).trans e),q⟩
theorem yD{C:R→Prop}{n f b:Nat}{k:List Ai}{t:List AV}{h1 h2:Aa}{args:List AV}{Q:Cj→Aa→Prop}(hq:mU O f args h2 Q)(hk:∀o h',Q o h'→C (rnE O P n k t b h1 (shK h1 (some (o,h'))))):C (rnE O P n k t b h1 (shK h1 (O.call (.sh f) args h2))):=by
 obtain⟨o,h',e,q⟩:=hq
 rw[e];exact hk o h' q
theorem uP(b:Nat)(Q:Cj→Aa→Prop)(t:List AV)(h:Aa):RnE b Q (some (.normal,⟨t,h⟩))=∃o h',fU true (It h b Hl.isBusy .ready)=some (o,h')∧Q o h':=abN rfl rfl
theorem vQ{b:Nat}{Q:Cj→Aa→Prop}:¬RnE b Q none:=fun⟨_,_,h,_⟩=>by simp[uD]at h
theorem aeO(n:Nat)(t:Tm)(p:Nat)(ps:List Nat)(v:AV)(vs:List AV):Kv (mk n t) (p::ps) (v::vs)=Kv (mk n (up t p v)) ps vs:=by
 simp only[Kv,zX]
theorem ai7(n:Nat)(t:Tm)(vs:List AV):Kv (mk n t) [] vs=mk n t:=by cases vs<;>rfl
end
section
variable {P:Program} {O:Do}
end
def EVs:=PLift.up (aaI @ai1 (aaI @ahO (aaI @ae4 (aaI @sE (aaI @amU (aaI @zO (aaI @afU (aaI @rH (aaI @lC (aaI @tP (aaI @uP (aaI @aeO @ai7))))))))))))
end
noncomputable section
open Go.RowKit
set_option maxRecDepth 100000
def EVZ:=PLift.up (aaI EVa.down (aaI EVb.down (aaI EVc.down (aaI EVd.down (aaI EVe.down (aaI EVf.down (aaI EVg.down (aaI EVh.down (aaI EVi.down (aaI EVj.down (aaI EVk.down (aaI EVl.down (aaI EVm.down (aaI EVn.down (aaI EVo.down (aaI EVp.down EVq.down))))))))))))))))
section
variable {P:Program} {O:Do}
class NoN(C:R→Prop):Prop where
 no:¬C none
instance{q:Nat}{rs:List ResultVar}{Q:Cj→Aa→Prop}:NoN (FnE P q rs Q):=⟨vX⟩
instance{rs:List ResultVar}{Q:Cj→Aa→Prop}:NoN (FnS P rs Q):=⟨wR⟩
instance{N:Nat}{J:Tm→Aa→Prop}{Q:Ex→St→Prop}:NoN (gB N J Q):=⟨zC⟩
instance{b:Nat}{Q:Cj→Aa→Prop}:NoN (RnE b Q):=⟨vQ⟩
end
end
noncomputable section
open Go.RowKit
set_option maxRecDepth 100000
section
variable {P:Program} {O:Do}
class Spl(r:R)(b:outParam Bool)(x y:outParam R):Prop where
 sp:∀{C:R→Prop},(b=true→C x)→(b=false→C y)→C r
instance{n:Nat}{k:List Ai}{d:Option Nat}{op:Op}{cs:List CO}{b w:Bool}{t:List AV}{h:Aa}:Spl (sD O P n k d op cs (.bool b) w t h) b (sD O P n k d op cs (.bool true) w t h) (sD O P n k d op cs (.bool false) w t h):=⟨ao2⟩
instance{n:Nat}{x y:Code}{k:List Ai}{g:Bool}{s:St}:Spl (cdK O P n x y k (some (.bool g)) s) g (Bm O P n x k s) (Bm O P n y k s):=⟨anP⟩
instance{n:Nat}{k:List Ai}{d:Option Nat}{op:Op}{cs:List CO}{b w:Bool}{t:List AV}{h:Aa}:Spl (rqG O P n k d op cs (.bool b) w t h) b (rqG O P n k d op cs (.bool true) w t h) (rqG O P n k d op cs (.bool false) w t h):=⟨alR⟩
instance{n:Nat}{k:List Ai}{d:Option Nat}{op:Op}{cs:List CO}{b w:Bool}{t:List AV}{h:Aa}:Spl (rwG O P n k d op cs (.bool b) w t h) b (rwG O P n k d op cs (.bool true) w t h) (rwG O P n k d op cs (.bool false) w t h):=⟨al8⟩
instance{n:Nat}{k:List Ai}{ops:List Oper}{d:Option Nat}{op:Op}{cs:List CO}{b w:Bool}{t:List AV}{h:Aa}{log:Qm}:Spl (rlG O P n k ops d op cs (.bool b) w t h log) b (rlG O P n k ops d op cs (.bool true) w t h log) (rlG O P n k ops d op cs (.bool false) w t h log):=⟨al4⟩
theorem Br{C:R→Prop}{r x y:R}{b:Bool}(h1:b=true→C x)(h2:b=false→C y)(s:Spl r b x y:=by infer_instance):C r:=s.sp h1 h2
class Drw(i:Nat)(r:R)(c:outParam Bool)(r':outParam R):Prop where
 dr:∀{C:R→Prop},¬C none→c=true→C r'→C r
instance{b:Bool}{k:R}:Drw 0 (Ff b k) b k:=⟨fun _=>anB⟩
instance{n id:Nat}{ops:Array Oper}{k:List Ai}{t:List AV}{h:Aa}:Drw 1 (Bm O P (n+1) (.region id ops true) k ⟨t,h⟩) (Iy ops.toList&&oW ops.toList) (rw O P n k (ops.toList.map (Ey ops.toList)) t h):=⟨fun h=>amE h⟩
instance{n id:Nat}{ops:Array Oper}{k:List Ai}{t:List AV}{h:Aa}:Drw 2 (Bm O P (n+1) (.region id ops true) k ⟨t,h⟩) (Iy ops.toList&&amD ops.toList) (rq O P n k (ops.toList.map (Ey ops.toList)) t h):=⟨fun h=>amY h⟩
instance{n id:Nat}{ops:Array Oper}{k:List Ai}{t:List AV}{h:Aa}:Drw 3 (Bm O P (n+1) (.region id ops true) k ⟨t,h⟩) (Iy ops.toList) (rl O P n k ops.toList (ops.toList.map (Ey ops.toList)) t h []):=⟨fun h=>anW h⟩
structure Dw(r r':R):Prop where
 dr:∀{C:R→Prop},¬C none→C r'→C r
theorem dg{r r':R}{c:Bool}[d:Drw 0 r c r'](h:c=true:=by kernel_rfl):Dw r r':=⟨fun n k=>d.dr n h k⟩
theorem dw(i:Nat){r r':R}{c:Bool}[d:Drw i r c r'](h:c=true:=by decide+kernel):Dw r r':=⟨fun n k=>d.dr n h k⟩
theorem fd{C:R→Prop}{r r':R}[n:NoN C](k:C r')(e:Dw r r':=by first|exact dg|exact dw 1|exact dw 2|exact dw 3):C r:=e.dr n.no k
theorem fdl{C:R→Prop}{r r':R}[n:NoN C](k:C r')(e:Dw r r':=by first|exact dg|exact dw 1|exact dw 3):C r:=e.dr n.no k
end
section
variable {P:Program} {O:Do}
def Un(O:Do)(P:Program)(n:Nat)(k:List Ai)(c:Code)(C:R→Prop):R→Prop
 |some (.normal,s)=>C (lpK O P n k (O.loop c s))
 |some (e,s)=>C (Bi (Bm O P n) k e s)
 |none=>False
instance{n:Nat}{k:List Ai}{c:Code}{C:R→Prop}:NoN (Un O P n k c C):=⟨fun h=>h⟩
end
theorem aa3:IntKind.i64.wrap 1=1:=abN rfl rfl
def EE:=PLift.up (aaI EVZ.down (aaI @aa3 (aaI @Ey.eq_1 (aaI @Ad.eq_1 (aaI @Ad.eq_2 (aaI @Ad.eq_4 (aaI @Ba.eq_1 (aaI @Ba.eq_2 (aaI @eY.eq_3 (aaI @Tj.eq_1 (aaI @Tj.eq_2 (aaI @Tj.eq_4 (aaI @Tj.eq_5 (aaI @Tj.eq_6 (aaI @Ax.eq_1 (aaI @Ax.eq_2 (aaI @Iu.eq_1 (aaI @Iu.eq_2 (aaI @Iu.eq_3 (aaI @Hj.eq_1 (aaI @Bn.eq_1 (aaI @bsK.eq_1 (aaI @La.eq_1 (aaI @La.eq_2 (aaI @decide_true @decide_false)))))))))))))))))))))))))
def EF:=PLift.up (aaI EE.down EE.down)
def EG:=PLift.up (aaI EF.down EVs.down)
end
noncomputable section
open Go.RowKit
def On(m:List Nat)(F:Nat→Option Nat):Prop:=∀i b,m[i]?=some b→F i=some b
theorem On.mono{m m':List Nat}{F:Nat→Option Nat}(h:On m' F)(hp:m <+:m'):On m F:=fun _ _ hi=>h _ _ (Je hp hi)
structure Gd(m m' R:List Nat):Prop where
 pre:m <+:m'
 nd:m.Nodup→m'.Nodup
 sub:∀b∈m',b∈m∨b∈R
theorem Gd.refl(m R:List Nat):Gd m m R:=⟨alN _,id,fun _ h=>.inl h⟩
theorem Gd.trans{m m1 m2 R1 R2 R:List Nat}(h1:Gd m m1 R1)(h2:Gd m1 m2 R2)(k1:∀b∈R1,b∈R)(k2:∀b∈R2,b∈R):Gd m m2 R:=
 ⟨h1.pre.trans h2.pre,fun h=>h2.nd (h1.nd h),fun b hb=>(h2.sub b hb).elim (fun h=>(h1.sub b h).imp id (k1 b)) (fun h=>.inr (k2 b h))⟩
theorem lM(m:List Nat)(b:Nat){R:List Nat}(hb:b∈R):Gd m (place m b).2 R:=by
 refine⟨(Ge m b).2.1,(Ge m b).2.2,fun x hx=>?_⟩
 unfold place at hx
 split at hx
 ·exact .inl hx
 ·rcases agQ.1 hx with h|h
  ·exact .inl h
  ·simp at h;subst h;exact .inr hb
def Sp(e:Nat)(x:AV)(R:List Nat):Prop:=∀m,∃x' m',Bt e m x=some (x',m')∧Gd m m' R∧∀F,On m' F→Da e F x'=some x
def SpL(e:Nat)(l:List AV)(R:List Nat):Prop:=∀m,∃l' m',Bt.refL (Bt e) m l=some (l',m')∧Gd m m' R∧∀F,On m' F→Ao (Da e F) l'=some l
def SpR(l:List (List AV))(R:List Nat):Prop:=∀m,∃l' m',Gm m l=some (l',m')∧Gd m m' R∧∀F,On m' F→Ao (Ao (Da 8 F)) l'=some l
theorem spL{f:AV→Option (AV × List Nat)}{e:Nat}:∀{l:List AV} {p:List AV × List Nat},Tf f l=some p→(∀x∈l,∀q,f x=some q→Sp e x q.2)→SpL e l p.2
 | [],p,h,_=>fun m=>⟨[],m,rfl,Gd.refl _ _,fun _ _=>rfl⟩
 |a::l,p,h,hf=>fun m=>by
  simp only[Tf,abP,abO]at h
  obtain⟨q,hq,r,hr,rfl⟩:=h
  obtain⟨x',m1,e1,g1,k1⟩:=hf a (abS ..) q hq m
  obtain⟨l',m2,e2,g2,k2⟩:=spL hr (fun x hx=>hf x (abR _ hx)) m1
  refine⟨x'::l',m2,by simp[Bt.refL,e1,e2],g1.trans g2 (fun _ h=>af9 _ h) (fun _ h=>agB _ h),fun F hF=>?_⟩
  simp[Ao,k1 F (hF.mono g2.pre),k2 F hF]
theorem spR{f:AV→Option (AV × List Nat)}:∀{l:List (List AV)} {p:List (List AV) × List Nat},Bq f l=some p→(∀r∈l,∀x∈r,∀q,f x=some q→Sp 8 x q.2)→SpR l p.2
 | [],p,h,_=>fun m=>⟨[],m,rfl,Gd.refl _ _,fun _ _=>rfl⟩
 |a::l,p,h,hf=>fun m=>by
  simp only[Bq,abP,abO]at h
  obtain⟨q,hq,r,hr,rfl⟩:=h
  obtain⟨x',m1,e1,g1,k1⟩:=spL hq (hf a (abS ..)) m
  obtain⟨l',m2,e2,g2,k2⟩:=spR hr (fun x hx=>hf x (abR _ hx)) m1
  refine⟨x'::l',m2,by simp[Gm,e1,e2],g1.trans g2 (fun _ h=>af9 _ h) (fun _ h=>agB _ h),fun F hF=>?_⟩
  simp[Ao,k1 F (hF.mono g2.pre),k2 F hF]
theorem sp{g:HF}:∀{d e:Nat} {v:AV} {p:AV × List Nat},d≤e→rd d g v=some p→Sp e v p.2
 |0,e,v,p,_,h=>by simp[rd]at h
 |d+1,0,v,p,he,h=>by omega
 |d+1,e+1,v,p,he,h=>by
  have IH:∀x q,rd d g x=some q→Sp e x q.2:=fun x q hx=>sp (by omega) hx
  intro m
  cases v with
  |slr st b r len=>
   simp only[rd,abP]at h
   obtain⟨z,_,h⟩:=h
   split at h
   ·have hb:b∈p.2:=by
     cases hfl:z.2.1 with
     |true=>rw[hfl]at h;simp at h;rw[←h];simp
     |false=>rw[hfl]at h;simp only[cond_false,abO]at h;obtain⟨q,_,rfl⟩:=h;simp
    exact⟨_,_,rfl,lM m b hb,fun F hF=>by simp[Da,hF _ _ (Ge m b).1]⟩
   ·cases h
  |agg cs=>
   simp only[rd,abO]at h
   obtain⟨q,hq,rfl⟩:=h
   obtain⟨l',m1,e1,g1,k1⟩:=spL hq (fun x _=>IH x) m
   exact⟨.agg l',m1,by simp[Bt,e1],g1,fun F hF=>by simp[Da,k1 F hF]⟩
  |iface t x=>
   simp only[rd,abO]at h
   obtain⟨q,hq,rfl⟩:=h
   obtain⟨l',m1,e1,g1,k1⟩:=IH x q hq m
   exact⟨.iface t l',m1,by simp[Bt,e1],g1,fun F hF=>by simp[Da,k1 F hF]⟩
  |func fn a b=>
   cases a with
   |cons=>simp[rd]at h
   |nil=>
    cases b with
    |cons=>simp[rd]at h
    |nil=>exact⟨_,m,rfl,Gd.refl _ _,fun _ _=>rfl⟩
  |ptr b r o=>simp[rd]at h
  |tup cs=>simp[rd]at h
  |yl b=>simp[rd]at h
  |mapr b=>simp[rd]at h
  |itr b=>simp[rd]at h
  |imm=>simp[rd]at h
  |iptr=>simp[rd]at h
  |_=>exact⟨_,m,rfl,Gd.refl _ _,fun _ _=>rfl⟩
def Cl(g:HF)(S:List Nat):Prop:=∀b∈S,∃z,(g b).bind Aw=some z∧(z.2.1=false→∃d q,d≤8∧Bq (rd d g) z.2.2=some q∧∀x∈q.2,x∈S)
theorem Cl.nil(g:HF):Cl g []:=fun _ h=>by cases h
theorem Cl.app{g:HF}{S T:List Nat}(h1:Cl g S)(h2:Cl g T):Cl g (S++T):=fun b hb=>by
 rcases agQ.1 hb with h|h
 ·obtain⟨z,k1,k2⟩:=h1 b h
  exact⟨z,k1,fun e=>by obtain⟨d,q,a1,a2,a3⟩:=k2 e;exact⟨d,q,a1,a2,fun x hx=>af9 _ (a3 x hx)⟩⟩
 ·obtain⟨z,k1,k2⟩:=h2 b h
  exact⟨z,k1,fun e=>by obtain⟨d,q,a1,a2,a3⟩:=k2 e;exact⟨d,q,a1,a2,fun x hx=>agB _ (a3 x hx)⟩⟩
theorem clL{g:HF}{f:AV→Option (AV × List Nat)}:∀{l:List AV} {p:List AV × List Nat},Tf f l=some p→(∀x∈l,∀q,f x=some q→Cl g q.2)→Cl g p.2
 | [],p,h,_=>by simp[Tf]at h;subst h;exact Cl.nil g
 |a::l,p,h,hf=>by
  simp only[Tf,abP,abO]at h
  obtain⟨q,hq,r,hr,rfl⟩:=h
  exact(hf a (abS ..) q hq).app (clL hr fun x hx=>hf x (abR _ hx))
theorem clR{g:HF}{f:AV→Option (AV × List Nat)}:∀{l:List (List AV)} {p:List (List AV) × List Nat},Bq f l=some p→(∀r∈l,∀x∈r,∀q,f x=some q→Cl g q.2)→Cl g p.2
 | [],p,h,_=>by simp[Bq]at h;subst h;exact Cl.nil g
 |a::l,p,h,hf=>by
  simp only[Bq,abP,abO]at h
  obtain⟨q,hq,r,hr,rfl⟩:=h
  exact(clL hq (hf a (abS ..))).app (clR hr fun x hx=>hf x (abR _ hx))
theorem qN{g:HF}:∀{d:Nat} {v:AV} {p:AV × List Nat},d≤9→rd d g v=some p→Cl g p.2
 |0,v,p,_,h=>by simp[rd]at h
 |d+1,v,p,hd,h=>by
  have IH:∀x q,rd d g x=some q→Cl g q.2:=fun x q hx=>qN (by omega) hx
  cases v with
  |slr st b r len=>
   simp only[rd,abP]at h
   obtain⟨z,hz,h⟩:=h
   have hz':(g b).bind Aw=some z:=abP.2 hz
   split at h
   ·cases hfl:z.2.1 with
    |true=>
     rw[hfl]at h;simp at h;rw[←h]
     intro b' hb'
     simp at hb';subst hb'
     exact⟨z,hz',fun e=>by rw[hfl]at e;cases e⟩
    |false=>
     rw[hfl]at h;simp only[cond_false,abO]at h
     obtain⟨q,hq,rfl⟩:=h
     intro b' hb'
     rcases abT.1 hb' with rfl|hb'
     ·exact⟨z,hz',fun _=>⟨d,q,by omega,hq,fun x hx=>abR _ hx⟩⟩
     ·obtain⟨z',k1,k2⟩:=clR hq (fun r _ x _=>IH x) b' hb'
      exact⟨z',k1,fun e=>by obtain⟨d',q',a1,a2,a3⟩:=k2 e;exact⟨d',q',a1,a2,fun x hx=>abR _ (a3 x hx)⟩⟩
   ·cases h
  |agg cs=>
   simp only[rd,abO]at h
   obtain⟨q,hq,rfl⟩:=h
   exact clL hq fun x _=>IH x
  |iface t x=>
   simp only[rd,abO]at h
   obtain⟨q,hq,rfl⟩:=h
   exact IH x q hq
  |func fn a b=>
   cases a<;>cases b<;>first|(simp[rd]at h;subst h;exact Cl.nil g)|(simp[rd]at h)
  |_=>first|(simp[rd]at h;subst h;exact Cl.nil g)|(simp[rd]at h)
theorem Ss{F:Nat→Option Nat}(f:Nat→Nat):∀{e:Nat} {x' x:AV},Da e F x'=some x→∃y,Bc e f x'=some y
 |0,x',x,h=>by simp[Da]at h
 |e+1,x',x,h=>by
  have L:∀{l l1:List AV},Ao (Da e F) l=some l1→∃y,Ao (Bc e f) l=some y:=fun {l}=>by
   induction l with
   |nil=>exact fun _=>⟨[],rfl⟩
   |cons a l ih=>
    intro l1 h
    simp only[Ao,abP,abO]at h
    obtain⟨b,hb,c,hc,_⟩:=h
    obtain⟨y,hy⟩:=Ss f hb
    obtain⟨ys,hys⟩:=ih hc
    exact⟨y::ys,by simp[Ao,hy,hys]⟩
  cases x' with
  |agg cs=>simp only[Da,abO]at h;obtain⟨_,h,_⟩:=h;obtain⟨y,hy⟩:=L h;exact⟨.agg y,by simp[Bc,hy]⟩
  |tup cs=>simp only[Da,abO]at h;obtain⟨_,h,_⟩:=h;obtain⟨y,hy⟩:=L h;exact⟨.tup y,by simp[Bc,hy]⟩
  |iface t x=>simp only[Da,abO]at h;obtain⟨_,h,_⟩:=h;obtain⟨y,hy⟩:=Ss f h;exact⟨.iface t y,by simp[Bc,hy]⟩
  |func fn a b=>
   simp only[Da,abP,abO]at h
   obtain⟨_,h1,_,h2,_⟩:=h
   obtain⟨y,hy⟩:=L h1
   obtain⟨y2,hy2⟩:=L h2
   exact⟨.func fn y y2,by simp[Bc,hy,hy2]⟩
  |_=>exact⟨_,rfl⟩
theorem gJ{α β γ:Type}{f:α→Option β}{f':α→Option γ}(H:∀a b,f a=some b→∃c,f' a=some c):∀{l:List α} {r:List β},Ao f l=some r→∃s,Ao f' l=some s
 | [],_,_=>⟨[],rfl⟩
 |a::l,r,h=>by
  simp only[Ao,abP,abO]at h
  obtain⟨b,hb,c,hc,_⟩:=h
  obtain⟨y,hy⟩:=H a b hb
  obtain⟨ys,hys⟩:=gJ H hc
  exact⟨y::ys,by simp[Ao,hy,hys]⟩
def Stn(F:Nat→Option Nat)(c':CB)(z:Nat × Bool × List (List AV)):Prop:=
 ∃rows',Aw c'=some (z.1,z.2.1,rows')∧(z.2.1=true→rows'=z.2.2)∧(z.2.1=false→Ao (Ao (Da 8 F)) rows'=some z.2.2)
def Rnm(c:CB):Prop:=∀f,∃c',Ei f c=some c'
theorem spB{g:HF}{S:List Nat}(H:Cl g S){b:Nat}(hb:b∈S)(m:List Nat):∃c c' m' z,g b=some c∧Aw c=some z∧Ue m c=some (c',m')∧Gd m m' S∧(∀F,On m' F→Stn F c' z)∧Rnm c':=by
 obtain⟨z,hz,hc⟩:=H b hb
 obtain⟨c,k1,k2⟩:=abP.1 hz
 have R:∀rows,z.2.1=false→rows=z.2.2→∃l' m',Gm m rows=some (l',m')∧Gd m m' S∧∀F,On m' F→Ao (Ao (Da 8 F)) l'=some rows:=fun rows e er=>by
  obtain⟨d,q,a1,a2,a3⟩:=hc e
  obtain⟨l',m',e1,g1,e2⟩:=spR (er▸a2) (fun r _ x _ q hx=>sp a1 hx) m
  exact⟨l',m',e1,⟨g1.pre,g1.nd,fun x hx=>(g1.sub x hx).imp id (a3 x)⟩,e2⟩
 have R2:∀l' rows m',(∀F,On m' F→Ao (Ao (Da 8 F)) l'=some rows)→∀f,∃y,Ao (Ao (Bc 8 f)) l'=some y:=fun l' rows m' h f=>
  gJ (fun a b hab=>gJ (fun a b hab=>Ss f hab) hab) (h (fun i=>m'[i]?) (fun _ _ h=>h))
 cases c with
 |live st fl w rows=>
  simp[Aw]at k2;subst k2
  cases fl with
  |true=>exact⟨_,_,m,_,k1,rfl,rfl,Gd.refl _ _,fun F _=>⟨rows,rfl,fun _=>rfl,fun e=>by cases e⟩,fun f=>⟨_,rfl⟩⟩
  |false=>
   obtain⟨l',m',e1,g1,e2⟩:=R rows rfl rfl
   refine⟨_,.live st false w l',m',_,k1,rfl,by simp[Ue,e1],g1,fun F hF=>⟨l',rfl,fun e=>(by cases e),fun _=>e2 F hF⟩,fun f=>?_⟩
   obtain⟨y,hy⟩:=R2 l' rows m' e2 f
   exact⟨.live st false w y,by simp[Ei,hy]⟩
 |frz st fl rows=>
  simp[Aw]at k2;subst k2
  cases fl with
  |true=>exact⟨_,_,m,_,k1,rfl,rfl,Gd.refl _ _,fun F _=>⟨rows,rfl,fun _=>rfl,fun e=>by cases e⟩,fun f=>⟨_,rfl⟩⟩
  |false=>
   obtain⟨l',m',e1,g1,e2⟩:=R rows rfl rfl
   refine⟨_,.frz st false l',m',_,k1,rfl,by simp[Ue,e1],g1,fun F hF=>⟨l',rfl,fun e=>(by cases e),fun _=>e2 F hF⟩,fun f=>?_⟩
   obtain⟨y,hy⟩:=R2 l' rows m' e2 f
   exact⟨.frz st false y,by simp[Ei,hy]⟩
 |dead=>simp[Aw]at k2
 |lp=>simp[Aw]at k2
theorem Jv{S:List Nat}:∀{m:List Nat},m.Nodup→(∀b∈m,b∈S)→m.length≤S.length:=by
 induction S with
 |nil=>intro m _ h;cases m with
  |nil=>simp
  |cons a m=>exact absurd (h a (abS ..)) (by simp)
 |cons s S ih=>
  intro m hn h
  have h2:=ih (m:=m.erase s) (hn.erase s) (fun b hb=>by
   have hb':=alY hb
   rcases abT.1 (h b hb')with rfl|h'
   ·exact absurd hb (hn.not_mem_erase)
   ·exact h')
  have h3:m.length≤(m.erase s).length+1:=by
   by_cases hs:s∈m
   ·rw[amB hs];omega
   ·rw[List.erase_of_not_mem hs];omega
  simp;omega
theorem spC{g:HF}{S:List Nat}(H:Cl g S):∀(n i:Nat) (m:List Nat),m.Nodup→(∀b∈m,b∈S)→S.length<n+i→i≤m.length→
 ∃cs m',Gv n g i m=some (cs,m')∧m <+:m'∧m'.Nodup∧(∀b∈m',b∈S)∧i+cs.length=m'.length∧(∀c∈cs,Rnm c)∧
  ∀F,On m' F→∀j c',cs[j]?=some c'→∃b z,m'[i+j]?=some b∧(g b).bind Aw=some z∧Stn F c' z
 |0,i,m,hn,hs,hl,hi=>by have:=Jv hn hs;omega
 |n+1,i,m,hn,hs,hl,hi=>by
  unfold Gv
  cases hm:m[i]? with
  |none=>
   have:m.length≤i:=amH.1 hm
   exact⟨[],m,rfl,alN _,hn,hs,by simp;omega,(fun c hc=>by cases hc),fun F _ j c' hj=>by simp at hj⟩
  |some b=>
   have hlt:=(abU.1 hm).1
   obtain⟨c,c',m1,z,k1,k2,k3,g1,k4,k5⟩:=spB H (hs b (aeJ hm)) m
   obtain⟨cs,m',e1,p1,p2,p3,p4,p5,p6⟩:=spC H n (i+1) m1 (g1.nd hn) (fun b hb=>(g1.sub b hb).elim (hs b) id) (by omega) (by have:=g1.pre.length_le;omega)
   refine⟨c'::cs,m',by simp[k1,k3,e1],g1.pre.trans p1,p2,p3,by simp;omega,fun x hx=>?_,fun F hF j x hj=>?_⟩
   ·rcases abT.1 hx with rfl|hx
    ·exact k5
    ·exact p5 x hx
   ·cases j with
    |zero=>
     simp at hj;subst hj
     exact⟨b,z,Je (g1.pre.trans p1) (by simpa using hm),by rw[k1];exact k2,k4 F (hF.mono p1)⟩
    |succ j=>
     simp at hj
     obtain⟨b',z',a1,a2,a3⟩:=p6 F hF j x hj
     exact⟨b',z',by rw[←a1];congr 1;omega,a2,a3⟩
theorem ajO{h:Aa}{v:AV}{R:List Nat}(hs:Sp 8 v R)(hc:Cl (hf h) R)(hR:R.length<5000):
 ∃v' cs F,Ko 0 v h=some (v',cs)∧aeW F (hf cs) (hf h)∧Da 8 F v'=some v∧∀c∈cs,Rnm c:=by
 obtain⟨v',m,e1,g1,k1⟩:=hs []
 have hm:∀b∈m,b∈R:=fun b hb=>(g1.sub b hb).elim (fun h=>by cases h) id
 obtain⟨cs,m',e2,p1,p2,p3,p4,p5,p6⟩:=spC hc 5000 0 m (g1.nd List.nodup_nil) hm (by omega) (ab7 _)
 refine⟨v',cs,fun i=>m'[i]?,by simp[Ko,Hq,Bt.refL,e1,e2,alJ],fun i b hi z hz=>?_,k1 _ (fun _ _ h=>Je p1 h),p5⟩
 have hlt:=(abU.1 hi).1
 obtain⟨b',z',a1,a2,rows',a3,a4,a5⟩:=p6 (fun i=>m'[i]?) (fun _ _ h=>h) i _ (agF (by omega))
 rw[agG]at a1
 have hbb:b=b':=by have hi':m'[i]?=some b:=hi;rw[hi']at a1;cases a1;rfl
 subst hbb
 rw[hz]at a2;cases a2
 exact⟨rows',by show(cs[i]?).bind Aw=_;rw[agF (by omega)];exact a3,a4,a5⟩
end
end Go.Ev
namespace Go.Ev
open Go.RowKit
theorem Ol{f:Nat→Nat}{F:Nat→Option Nat}(hF:∀b,F (f b)=some b):∀{e:Nat} {x x1:AV},Bc e f x=some x1→Da e F x1=some x
 |0,x,x1,h=>by simp[Bc]at h
 |e+1,x,x1,h=>by
  have L:∀{l l1:List AV},Ao (Bc e f) l=some l1→Ao (Da e F) l1=some l:=fun {l}=>by
   induction l with
   |nil=>intro l1 h;simp[Ao]at h;subst h;rfl
   |cons a l ih=>
    intro l1 h
    simp only[Ao,abP,abO]at h
    obtain⟨b,hb,c,hc,rfl⟩:=h
    simp[Ao,Ol hF hb,ih hc]
  cases x with
  |agg cs=>simp only[Bc,abO]at h;obtain⟨_,h,rfl⟩:=h;simp[Da,L h]
  |tup cs=>simp only[Bc,abO]at h;obtain⟨_,h,rfl⟩:=h;simp[Da,L h]
  |iface t x=>simp only[Bc,abO]at h;obtain⟨_,h,rfl⟩:=h;simp[Da,Ol hF h]
  |func fn a b=>
   simp only[Bc,abP,abO]at h
   obtain⟨_,h1,_,h2,rfl⟩:=h
   simp[Da,L h1,L h2]
  |_=>simp only[Bc,af8.injEq]at h;subst h;simp[Da,hF]
theorem Oy{α β:Type}{f:α→Option β}{f':β→Option α}(H:∀a b,f a=some b→f' b=some a):∀{l:List α} {r:List β},Ao f l=some r→Ao f' r=some l
 | [],r,h=>by simp[Ao]at h;subst h;rfl
 |a::l,r,h=>by
  simp only[Ao,abP,abO]at h
  obtain⟨b,hb,c,hc,rfl⟩:=h
  simp[Ao,H a b hb,Oy H hc]
theorem jI{f:Nat→Nat}:∀{cs:List CB} (_:∀c∈cs,Rnm c) (base:Nat),∃ns cs1,Gi f base cs=some ns∧(∀G,Ax G ns=G++cs1)∧Ao (Ei f) cs=some cs1
 | [],_,base=>⟨[],[],rfl,fun G=>by simp[Ax],rfl⟩
 |c::cs,h,base=>by
  obtain⟨c1,e1⟩:=h c (abS ..) f
  obtain⟨ns,cs1,e2,e3,e4⟩:=jI (f:=f) (cs:=cs) (fun c hc=>h c (abR _ hc)) (base+1)
  exact⟨.new base c1::ns,c1::cs1,by simp[Gi,e1,e2],fun G=>by simp[Ax,Iu,e3],by simp[Ao,e1,e4]⟩
theorem aaL{f:Nat→Nat}{F:Nat→Option Nat}(hF:∀b,F (f b)=some b){c c1:CB}(h:Ei f c=some c1){z:Nat × Bool × List (List AV)}(hz:Aw c=some z):Stn F c1 z:=by
 cases c with
 |live st fl w rows=>
  simp[Aw]at hz;subst hz
  cases fl with
  |true=>simp[Ei]at h;subst h;exact⟨rows,rfl,fun _=>rfl,fun e=>by cases e⟩
  |false=>
   simp only[Ei,abO]at h
   obtain⟨r,hr,rfl⟩:=h
   exact⟨r,rfl,fun e=>(by cases e),fun _=>Oy (fun a b hab=>Oy (fun a b hab=>Ol hF hab) hab) hr⟩
 |frz st fl rows=>
  simp[Aw]at hz;subst hz
  cases fl with
  |true=>simp[Ei]at h;subst h;exact⟨rows,rfl,fun _=>rfl,fun e=>by cases e⟩
  |false=>
   simp only[Ei,abO]at h
   obtain⟨r,hr,rfl⟩:=h
   exact⟨r,rfl,fun e=>(by cases e),fun _=>Oy (fun a b hab=>Oy (fun a b hab=>Ol hF hab) hab) hr⟩
 |dead=>simp[Aw]at hz
 |lp=>simp[Aw]at hz
structure Kp(lent:List Nat)(H H1:Aa):Prop where
 len:H.length≤H1.length
 rows:∀b,b<H.length→(hf H1 b).bind Aw=(hf H b).bind Aw
 same:∀b,b<H.length→b∉lent→H1[b]?=H[b]?
theorem gA{H:Aa}:∀(l:List Nat) (G:Aa),G.length=H.length→(∀b,(hf G b).bind Aw=(hf H b).bind Aw)→
 (Ax G (Cf (hf H) l)).length=H.length∧(∀b,(hf (Ax G (Cf (hf H) l)) b).bind Aw=(hf H b).bind Aw)∧∀b,b∉l→(Ax G (Cf (hf H) l))[b]?=G[b]?
 | [],G,h1,h2=>⟨h1,h2,fun _ _=>rfl⟩
 |a::l,G,h1,h2=>by
  unfold Cf
  have other:∀b,b∉a::l→b∉l:=fun b hb h=>hb (abR _ h)
  split
  ·rename_i st fl w rows ha
   have hlt:a<G.length:=by rw[h1];exact(abU.1 ha).1
   obtain⟨k1,k2,k3⟩:=gA (H:=H) l (G.set a (.frz st fl rows)) (by simp[h1]) (fun b=>by
    by_cases hb:a=b
    ·subst hb
     show((G.set a _)[a]?).bind Aw=_
     rw[alE hlt,ha];rfl
    ·show((G.set a _)[b]?).bind Aw=_
     rw[aiN hb];exact h2 b)
   refine⟨k1,k2,fun b hb=>?_⟩
   show(Ax (G.set a _) _)[b]?=_
   rw[k3 b (other b hb),aiN (fun e=>hb (by rw[←e];exact abS ..))]
  ·obtain⟨k1,k2,k3⟩:=gA l G h1 h2
   exact⟨k1,k2,fun b hb=>k3 b (other b hb)⟩
theorem acM{O:Do}{H:Aa}{f:Nat}{args vs:List AV}{v:AV}{h':Aa}(hh:pkd O f args)(ha:Ao (cN H) args=some vs)(hp:vs.all (Aq 8)=true)
 (hc:O.call (.fn f) vs []=some (.ret v,h')) (h1:∀f,∃y,Bc 8 f v=some y) (h2:∀c∈h',Rnm c):
 ∃v1 es H1 F,cl O H (some (.func (.func f) [] [])) (some args)=some (.ret v1,es)∧Ax H es=H1∧aeW F (hf H1) (hf h')∧Da 8 F v1=some v∧Kp (args.flatMap (Ap 12 (hf H))) H H1∧∀i b,F i=some b→H.length≤i:=by
 obtain⟨v1,e1⟩:=h1 (fun i=>H.length+i)
 obtain⟨ns,cs1,e2,e3,e4⟩:=jI (f:=fun i=>H.length+i) h2 H.length
 generalize hFF:(fun i=>if H.length≤i then some (i-H.length)else none:Nat→Option Nat)=F
 have hF:∀b,F (H.length+b)=some b:=fun b=>by rw[←hFF];simp
 have key:∃fz:List Ab,cl O H (some (.func (.func f) [] [])) (some args)=some (.ret v1,fz++ns)∧(fz=[]∨fz=Cf (hf H) (args.flatMap (Ap 12 (hf H)))):=by
  rw[xO hh,vG ha hp,hc]
  refine⟨_,by simp only[crR,abQ,Cj.v,e1,e2,abY,Cj.map];rfl,?_⟩
  split
  ·exact .inl rfl
  ·exact .inr rfl
 obtain⟨fz,ec,hfz⟩:=key
 have hK:(Ax H fz).length=H.length∧(∀b,(hf (Ax H fz) b).bind Aw=(hf H b).bind Aw)∧∀b,b∉args.flatMap (Ap 12 (hf H))→(Ax H fz)[b]?=H[b]?:=by
  rcases hfz with rfl|rfl
  ·exact⟨rfl,fun _=>rfl,fun _ _=>rfl⟩
  ·exact gA _ H rfl (fun _=>rfl)
 obtain⟨k1,k2,k3⟩:=hK
 have hap:Ax H (fz++ns)=Ax H fz++cs1:=by rw[Re,e3]
 refine⟨v1,_,_,F,ec,hap,fun i b hi z hz=>?_,Ol hF e1,⟨by simp[k1],fun b hb=>?_,fun b hb hl=>?_⟩,fun i b hi=>?_⟩
 ·rw[←hFF]at hi;simp only at hi
  split at hi
  ·rename_i hle
   simp only[af8.injEq]at hi
   obtain⟨c,hcc,hcz⟩:=abP.1 hz
   obtain⟨c1,g1,g2⟩:=Ll e4 (show h'[b]?=some c from hcc)
   obtain⟨rows',r1,r2,r3⟩:=aaL hF g2 hcz
   refine⟨rows',?_,r2,r3⟩
   show((Ax H fz++cs1)[i]?).bind Aw=_
   rw[alM (by omega),k1,hi,g1]
   exact r1
  ·cases hi
 ·rw[←k2 b]
  show((Ax H fz++cs1)[b]?).bind Aw=_
  rw[agS (by omega)];rfl
 ·rw[agS (by omega)];exact k3 b hl
 ·rw[←hFF]at hi;simp only at hi
  split at hi
  ·assumption
  ·cases hi
end Go.Ev
namespace Go.Ev
noncomputable section
open Go.RowKit
theorem vS{e:Nat}{F:Nat→Option Nat}{v:AV}{outs:List AV}(h:Da (e+1) F v=some (.tup outs)):∃o,v=.tup o∧Ao (Da e F) o=some outs:=by
 cases v with
 |tup cs=>simp[Da]at h;exact⟨_,rfl,h⟩
 |func fn a b=>simp only[Da,abP,abO]at h;obtain⟨_,_,_,_,h⟩:=h;cases h
 |_=>simp[Da]at h
theorem akK{e:Nat}{vs:List AV}{R:List Nat}(h:SpL e vs R):Sp (e+1) (.tup vs) R:=fun m=>by
 obtain⟨l',m',a1,a2,a3⟩:=h m
 exact⟨.tup l',m',by simp[Bt,a1],a2,fun F hF=>by simp[Da,a3 F hF]⟩
theorem aaB{O:Do}{H:Aa}{f:Nat}{args vs:List AV}{v:AV}(hh:pkd O f args)(ha:Ao (cN H) args=some vs)(hp:vs.all (Aq 8)=true)(hc:O.call (.fn f) vs []=some (.ret v,[]))(h1:Aq 8 v=true)(h2:hasImm 8 v=false):
 cl O H (some (.func (.func f) [] [])) (some args)=some (.ret v,[]):=by
 rw[xO hh,vG ha hp,hc,eO,if_pos ⟨h1,h2⟩]
theorem Dn{C:R→Prop}[n:NoN C]{r:R}(h:∀K:R→Prop,NoN K→(∀x,C x→K x)→K r):C r:=h C n fun _ h=>h
theorem jS{v:AV}{H:Aa}{b:Nat}(l:List CB)(hb:b<H.length)(hv:∀a c r m,v=.slr a c r m→c≠b):(kl 0 v H++l)[b]?=H[b]?:=by
 rw[agS (by rw[eS];exact hb)]
 unfold kl
 split
 ·rename_i a c r m
  rw[aiN];simpa using hv a c r m rfl
 ·rfl
theorem fD{H:Aa}{b:Nat}{z:Nat × Bool × List (List AV)}(h:(hf H b).bind Aw=some z):b<H.length:=by
 obtain⟨c,hc,_⟩:=abP.1 h
 exact(abU.1 hc).1
theorem abZ{g g':HF}{d:Nat}{l:List AV}{p:List AV × List Nat}(h:Tf (rd d g) l=some p)(ha:Agr p.2 g g'):Tf (rd d g') l=some p:=
 Vg h fun _ _ _ hq hs=>bV hq fun b hb=>ha b (hs b hb)
theorem cE{g g':HF}{d:Nat}{l:List (List AV)}{p:List (List AV) × List Nat}(h:Bq (rd d g) l=some p)(ha:Agr p.2 g g'):Bq (rd d g') l=some p:=
 Ry h fun _ _ _ _ _ hq hs=>bV hq fun b hb=>ha b (hs b hb)
theorem wQ{H:Aa}{d:Nat}{l:List AV}{p:List AV × List Nat}(hd:d≤9)(h:Tf (rd d (hf H)) l=some p):∀b∈p.2,b<H.length:=fun b hb=>by
 obtain⟨z,hz,_⟩:=clL h (fun x _ q hx=>qN hd hx) b hb
 exact fD hz
theorem eC{H:Aa}{d:Nat}{l:List (List AV)}{p:List (List AV) × List Nat}(hd:d≤9)(h:Bq (rd d (hf H)) l=some p):∀b∈p.2,b<H.length:=fun b hb=>by
 obtain⟨z,hz,_⟩:=clR h (fun r _ x _ q hx=>qN hd hx) b hb
 exact fD hz
theorem aR{f:AV→Option (AV × List Nat)}:∀{l:List (List AV)} {p:List (List AV) × List Nat},Bq f l=some p→l.length=p.1.length
 | [],p,h=>by simp[Bq]at h;subst h;rfl
 |a::l,p,h=>by
  simp only[Bq,abP,abO]at h
  obtain⟨q,hq,r,hr,rfl⟩:=h
  simp[aR hr]
theorem cD{f:AV→Option (AV × List Nat)}:∀{l:List (List AV)} {p:List (List AV) × List Nat} {i:Nat} {X:List AV},Bq f l=some p→p.1[i]?=some X→∃r R,l[i]?=some r∧Tf f r=some (X,R)
 | [],p,i,X,h,hx=>by simp[Bq]at h;subst h;simp at hx
 |a::l,p,i,X,h,hx=>by
  simp only[Bq,abP,abO]at h
  obtain⟨q,hq,r,hr,rfl⟩:=h
  cases i with
  |zero=>simp at hx;subst hx;exact⟨a,q.2,rfl,hq⟩
  |succ i=>simp at hx;obtain⟨r',R',k1,k2⟩:=cD hr hx;exact⟨r',R',by simpa using k1,k2⟩
theorem qC{f:AV→Option (AV × List Nat)}:∀{l:List AV} {p:List AV × List Nat},Tf f l=some p→l.length=p.1.length
 | [],p,h=>by simp[Tf]at h;subst h;rfl
 |a::l,p,h=>by
  simp only[Tf,abP,abO]at h
  obtain⟨q,hq,r,hr,rfl⟩:=h
  simp[qC hr]
theorem jE{f:AV→Option (AV × List Nat)}{l xs:List AV}{x:AV}{R:List Nat}(h:Tf f l=some (x::xs,R)):∃a l' R1 R2,l=a::l'∧f a=some (x,R1)∧Tf f l'=some (xs,R2)∧R=R1++R2:=by
 cases l with
 |nil=>simp[Tf]at h
 |cons a l=>
  simp only[Tf,abP,abO]at h
  obtain⟨q,hq,r,hr,he⟩:=h
  simp only[Prod.mk.injEq,List.cons.injEq]at he
  obtain⟨⟨rfl,rfl⟩,rfl⟩:=he
  exact⟨a,l,q.2,r.2,rfl,hq,hr,rfl⟩
theorem qT{f:AV→Option (AV × List Nat)}{l:List AV}{R:List Nat}(h:Tf f l=some ([],R)):l=[]∧R=[]:=by
 cases l with
 |nil=>simp[Tf]at h;exact⟨rfl,h⟩
 |cons a l=>have:=qC h;simp at this
theorem zB{g:HF}{d st:Nat}{fl nn:Bool}{v:AV}{rows:List (List AV)}{R:List Nat}(h:rd (d+1) g v=some (Dh st fl nn rows,R)):v.isCell=true∧v.flat=false:=by
 have hs:Dh st fl nn rows=.nils∨∃r,Dh st fl nn rows=.imm st fl r:=by
  cases rows with
  |nil=>cases nn with
   |true=>exact .inr ⟨_,rfl⟩
   |false=>exact .inl rfl
  |cons=>exact .inr ⟨_,rfl⟩
 generalize Dh st fl nn rows=X at h hs
 cases v with
 |func fn a b=>cases a<;>cases b<;>first|exact⟨rfl,rfl⟩|(simp[rd]at h)
 |agg cs=>simp only[rd,abO]at h;obtain⟨_,_,h⟩:=h;simp only[Prod.mk.injEq]at h;obtain⟨h,_⟩:=h;subst h;rcases hs with hs|⟨_,hs⟩<;>cases hs
 |ptr b r o=>exact⟨rfl,rfl⟩
 |yl b=>exact⟨rfl,rfl⟩
 |mapr b=>exact⟨rfl,rfl⟩
 |itr b=>exact⟨rfl,rfl⟩
 |tup cs=>simp[rd]at h
 |bool b=>simp[rd]at h;obtain⟨h,_⟩:=h;subst h;rcases hs with hs|⟨_,hs⟩<;>cases hs
 |int k n=>simp[rd]at h;obtain⟨h,_⟩:=h;subst h;rcases hs with hs|⟨_,hs⟩<;>cases hs
 |str s=>simp[rd]at h;obtain⟨h,_⟩:=h;subst h;rcases hs with hs|⟨_,hs⟩<;>cases hs
 |_=>exact⟨rfl,rfl⟩
theorem Vm{g:HF}{d st:Nat}{fl nn:Bool}{v:AV}{rows:List (List AV)}{R:List Nat}(h:rd (d+1) g v=some (Dh st fl nn rows,R)):
 (v=.nils∧rows=[])∨∃b rows',v=.slr st b 0 rows.length∧(g b).bind Aw=some (st,fl,rows')∧rows'.length=rows.length∧(fl=true→rows'=rows)∧(fl=false→∃R',Bq (rd d g) rows'=some (rows,R')):=by
 have hs:(Dh st fl nn rows=.nils∧rows=[])∨Dh st fl nn rows=.imm st fl rows:=by
  cases rows with
  |nil=>cases nn with
   |true=>exact .inr rfl
   |false=>exact .inl ⟨rfl,rfl⟩
  |cons=>exact .inr rfl
 generalize Dh st fl nn rows=X at h hs
 cases v with
 |nils=>simp[rd]at h;obtain⟨rfl,_⟩:=h;rcases hs with⟨_,hs⟩|hs
        ·exact .inl ⟨rfl,hs⟩
        ·cases hs
 |slr st' b r len=>
  simp only[rd,abP]at h
  obtain⟨z,hz,h⟩:=h
  split at h
  ·rename_i hq
   obtain⟨q1,rfl,q3⟩:=hq
   obtain⟨z1,z2,z3⟩:=z
   simp only at q1 q3 h
   subst q1
   cases z2 with
   |true=>
    simp at h
    obtain⟨rfl,_⟩:=h
    rcases hs with⟨hs,_⟩|hs
    ·cases hs
    ·cases hs
     exact .inr ⟨b,_,by rw[q3],abP.2 hz,rfl,fun _=>rfl,fun e=>by cases e⟩
   |false=>
    simp only[cond_false,abO]at h
    obtain⟨q,hq,he⟩:=h
    simp only[Prod.mk.injEq]at he
    obtain⟨rfl,_⟩:=he
    rcases hs with⟨hs,_⟩|hs
    ·cases hs
    ·cases hs
     have hl:z3.length=q.1.length:=aR hq
     exact .inr ⟨b,z3,by rw[q3,hl],abP.2 hz,hl,fun e=>(by cases e),fun _=>⟨q.2,hq⟩⟩
  ·cases h
 |func fn a b=>cases a<;>cases b<;>simp[rd]at h<;>(obtain⟨rfl,_⟩:=h;rcases hs with⟨hs,_⟩|hs<;>cases hs)
 |agg cs=>simp only[rd,abO]at h;obtain⟨_,_,h⟩:=h;simp only[Prod.mk.injEq]at h;obtain⟨rfl,_⟩:=h;rcases hs with⟨hs,_⟩|hs<;>cases hs
 |iface t x=>simp only[rd,abO]at h;obtain⟨_,_,h⟩:=h;simp only[Prod.mk.injEq]at h;obtain⟨rfl,_⟩:=h;rcases hs with⟨hs,_⟩|hs<;>cases hs
 |ptr b r o=>simp[rd]at h
 |yl b=>simp[rd]at h
 |mapr b=>simp[rd]at h
 |itr b=>simp[rd]at h
 |tup cs=>simp[rd]at h
 |imm=>simp[rd]at h
 |iptr=>simp[rd]at h
 |_=>simp[rd]at h;obtain⟨rfl,_⟩:=h;rcases hs with⟨hs,_⟩|hs<;>cases hs
theorem fE{H:Aa}{b st:Nat}{fl:Bool}{rows:List (List AV)}(h:(hf H b).bind Aw=some (st,fl,rows))(i:Nat):Kr (H[b]?) i=rows[i]?:=by
 obtain⟨c,hc,hz⟩:=abP.1 h
 rw[show H[b]?=some c from hc]
 cases c<;>simp[Aw]at hz<;>(obtain⟨_,_,rfl⟩:=hz;rfl)
theorem ajG{n:Nat}{rows:List (List AV)}{v:AV}{H:Aa}(ho:adS 0 n false rows v H){d:Nat}{q:List (List AV) × List Nat}(hq:Bq (rd d (hf H)) rows=some q)(hn:rows=[]→v=.nils):
 ∃R,rd (d+1) (hf H) v=some (Dh n false false q.1,R)∧R.length≤1+q.2.length:=by
 rcases ho with⟨rfl,rfl⟩|⟨b,w,rfl,hb⟩
 ·simp[Bq]at hq;subst hq;exact⟨[],by simp[rd,Dh],by simp⟩
 ·have hne:rows≠[]:=fun e=>by have:=hn e;cases this
  have hb':(hf H (b+0)).bind Aw=some (n,false,rows):=by show(H[b]?).bind Aw=_;rw[hb];rfl
  refine⟨(b+0)::q.2,?_,by simp;omega⟩
  simp only[rd,hb',abQ,if_true,and_self,cond_false,hq,abY]
  have hl:q.1≠[]:=fun e=>by
   cases rows with
   |nil=>exact hne rfl
   |cons r rs=>
    simp only[Bq,abP,abO]at hq
    obtain⟨_,_,_,_,rfl⟩:=hq
    cases e
  cases hq1:q.1 with
  |nil=>exact absurd hq1 hl
  |cons r rs=>rfl
theorem ao6{g:HF}{d st b n:Nat}{rows:List (List AV)}(h:(g b).bind Aw=some (st,true,rows))(hn:n=rows.length):rd (d+1) g (.slr st b 0 n)=some (.imm st true rows,[b]):=by
 subst hn;simp[rd,h]
theorem oY{f:AV→Option (AV × List Nat)}:Tf f []=some ([],[]):=rfl
theorem fO{f:AV→Option (AV × List Nat)}{a x:AV}{l xs:List AV}{R1 R2:List Nat}(h1:f a=some (x,R1))(h2:Tf f l=some (xs,R2)):Tf f (a::l)=some (x::xs,R1++R2):=by simp[Tf,h1,h2]
theorem ah5{x:Option (List AV)}{vs:List AV}{h:Aa}{Q:Cj→Aa→Prop}(hx:x=some vs)(k:Rt 0 (some vs) h Q):Rt 0 x h Q:=hx▸k
theorem Ys{f:AV→Option (AV × List Nat)}:∀{l:List (List AV)} {p:List (List AV) × List Nat} {r:List AV} {q:List AV × List Nat},Bq f l=some p→Tf f r=some q→Bq f (l++[r])=some (p.1++[q.1],p.2++q.2)
 | [],p,r,q,h,hr=>by simp[Bq]at h;subst h;simp[Bq,hr]
 |a::l,p,r,q,h,hr=>by
  simp only[Bq,abP,abO]at h
  obtain⟨q1,hq1,r1,hr1,rfl⟩:=h
  simp[Bq,hq1,Ys hr1 hr]
end
noncomputable section
open Go.RowKit
section
variable {P:Program} {O:Do}
def slx(P:Program)(ty:TypeId)(a:Option AV)(l h:Option (Option AV)):OE:=r1 (a.bind fun a=>l.bind fun l=>h.bind fun h=>Xu P ty a l h)
theorem xU(t:List AV)(h:Aa)(ty:TypeId)(x:Operand)(lo hi:Option Operand):Dm O P t h (.slice ty x lo hi none)=slx P ty (Ad t x) (Xv t lo) (Xv t hi):=by
 rw[Cc _ _ _ rfl]
 simp only[exec,slx]
 cases Ad t x with
 |none=>rfl
 |some a=>
  cases Xv t lo with
  |none=>rfl
  |some l=>
   cases Xv t hi with
   |none=>rfl
   |some h=>exact Ek _
def oS(x:Option AV):Option (Option AV):=x.map some
theorem ac4(v:AV):oS (some v)=some (some v):=abN rfl rfl
theorem sA(t:List AV):Xv t none=some none:=abN rfl rfl
theorem sX(t:List AV)(x:Operand):Xv t (some x)=oS (Ad t x):=abN rfl rfl
end
end
noncomputable section
set_option maxRecDepth 100000
section
variable {P:Program} {G:Nat→Option Obj}
end
section
variable {P:Program}
end
def EVu:=PLift.up (aaI @xU (aaI @sA (aaI @sX @ac4)))
end
noncomputable section
section
variable {α:Type}
end
end
section
def Gg:Aa→Aa→Aa
 | [],h'=>h'
 |c₀::h,[]=>c₀::h
 |c₀::h,c::h'=>(bif c₀.quiet c then c₀ else c.mark)::Gg h h'
def cT(h h':Aa):Prop:=h.length≤h'.length∧∀(i:Nat) (c₀ c:CB),h[i]?=some c₀→h'[i]?=some c→c₀.quiet c=true∨c₀.isLive=true
theorem Nk:∀(h h' pre:Aa),cT h h'→∃es,Bv pre.length h h'=some es∧Ax (pre++h) es=pre++Gg h h'
 | [],h',pre,_=>⟨_,rfl,by simp[eZ,Gg]⟩
 |c₀::h,[],pre,ok=>by simp[cT]at ok
 |c₀::h,c::h',pre,ok=>by
  have ok':cT h h':=⟨by simpa using ok.1,fun i a b h1 h2=>ok.2 (i+1) a b (by simpa using h1) (by simpa using h2)⟩
  cases hq:c₀.quiet c with
  |true=>
   obtain⟨es,e1,e2⟩:=Nk h h' (pre++[c₀]) ok'
   refine⟨es,?_,?_⟩
   ·simp only[Bv,hq,cond_true]
    simpa using e1
   ·simpa [Gg,hq]using e2
  |false=>
   have hl:c₀.isLive=true:=by
    rcases ok.2 0 c₀ c rfl rfl with h|h
    ·rw[hq]at h;cases h
    ·exact h
   obtain⟨es,e1,e2⟩:=Nk h h' (pre++[c.mark]) ok'
   refine⟨.put pre.length c.mark::es,?_,?_⟩
   ·simp only[Bv,hq,hl,cond_false,cond_true]
    simp only[List.length_append,akZ,List.length_nil]at e1
    rw[e1];rfl
   ·simp only[Ax,Iu,Gg,hq,cond_false]
    have:(pre++c₀::h).set pre.length c.mark=(pre++[c.mark])++h:=by simp
    rw[this,e2];simp
theorem Ji:∀{h h':Aa},h.length≤h'.length→(Gg h h').length=h'.length
 | [],h',_=>rfl
 |c₀::h,[],hl=>by simp at hl
 |c₀::h,c::h',hl=>by simp[Gg,Ji (h:=h) (h':=h') (by simpa using hl)]
theorem Gh:∀{h h':Aa} {i:Nat} {c₀ c:CB},h[i]?=some c₀→h'[i]?=some c→c₀.quiet c=true→(Gg h h')[i]?=some c₀
 | [],h',i,c₀,c,h1,_,_=>by simp at h1
 |a::h,[],i,c₀,c,_,h2,_=>by simp at h2
 |a::h,b::h',0,c₀,c,h1,h2,hq=>by
  simp at h1 h2;subst h1 h2;simp[Gg,hq]
 |a::h,b::h',i+1,c₀,c,h1,h2,hq=>by
  simp at h1 h2;simpa [Gg]using Gh h1 h2 hq
theorem Le:∀{h h':Aa} {i:Nat} {c₀ c:CB},h[i]?=some c₀→h'[i]?=some c→c₀.quiet c=false→(Gg h h')[i]?=some c.mark
 | [],h',i,c₀,c,h1,_,_=>by simp at h1
 |a::h,[],i,c₀,c,_,h2,_=>by simp at h2
 |a::h,b::h',0,c₀,c,h1,h2,hq=>by
  simp at h1 h2;subst h1 h2;simp[Gg,hq]
 |a::h,b::h',i+1,c₀,c,h1,h2,hq=>by
  simp at h1 h2;simpa [Gg]using Le h1 h2 hq
theorem Zw:∀{h h':Aa} {i:Nat},h.length≤h'.length→h.length≤i→(Gg h h')[i]?=h'[i]?
 | [],h',i,_,_=>rfl
 |a::h,[],i,hl,_=>by simp at hl
 |a::h,b::h',0,_,hi=>by simp at hi
 |a::h,b::h',i+1,hl,hi=>by
  simpa [Gg]using Zw (h:=h) (h':=h') (i:=i) (by simpa using hl) (by simpa using hi)
theorem Bj{h:Aa}{i:Nat}{c:CB}(hc:h[i]?=some c):(Eb h)[i]?=some c.clean:=by simp[Eb,hc]
theorem As(h:Aa):(Eb h).length=h.length:=by simp[Eb]
theorem nF(c:CB):Aw c.clean=Aw c:=by cases c<;>rfl
theorem rU(c:CB):Aw c.mark=Aw c:=by cases c<;>rfl
theorem gZ{O:Do}{H:Aa}{f:Nat}{args:List AV}{Q:Cj→Aa→Prop}(hd:Zu args=true)(hm:O.md f=true)(K:mU O f args (Eb H) Q)(ok:∀o G,Q o G→cT H G):
 ∃o G es,cl O H (some (.func (.func f) [] [])) (some args)=some (o,es)∧Ax H es=Gg H G∧Q o G:=by
 obtain⟨o,G,hc,hq⟩:=K
 obtain⟨es,e1,e2⟩:=Nk H G [] (ok o G hq)
 refine⟨o,G,es,?_,by simpa using e2,hq⟩
 rw[jT]
 simp only[ah1,ak3,hd,if_true,shC,hm,Bool.or_true,hc]
 rw[Us]
 have e1':Bv 0 H G=some es:=e1
 rw[e1'];rfl
structure Qk(X:List Nat)(H H1:Aa):Prop where
 len:H.length≤H1.length
 same:∀b,b<H.length→b∉X→H1[b]?=H[b]?
theorem Qk.app(H l:Aa):Qk [] H (H++l):=⟨by simp,fun b hb _=>agS hb⟩
theorem Qk.mono{X Y:List Nat}{H H1:Aa}(h:Qk X H H1)(hs:∀b∈X,b∈Y∨H.length≤b):Qk Y H H1:=
 ⟨h.len,fun b hb hn=>h.same b hb (fun hx=>by rcases hs b hx with h|h;exact hn h;omega)⟩
end
noncomputable section
open Go.RowKit
theorem aeE{O:Do}{H:Aa}{f:Nat}{args:List AV}{o:Cj}{l:Aa}(hd:Zu args=true)(hm:O.md f=true)(hc:O.call (.sh f) args (Eb H)=some (o,Eb H++l))(hq:An H=true):
 cl O H (some (.func (.func f) [] [])) (some args)=some (o,Gn H.length l):=by
 rw[jT]
 simp only[ah1,ak3,hd,if_true,shC,hm,Bool.or_true,hc]
 rw[Us,qE hq]
 simp
theorem ab3{O:Do}{H:Aa}{f:Nat}{args:List AV}{o:Cj}(hd:Zu args=true)(hm:O.md f=true)(hc:O.call (.sh f) args (Eb H)=some (o,Eb H))(hq:An H=true):
 cl O H (some (.func (.func f) [] [])) (some args)=some (o,[]):=by
 have:=aeE (l:=[]) hd hm (by simpa using hc) hq
 simpa [Gn]using this
theorem Ut{H:Aa}(h:∀c∈H,c.quiet c.clean=true):An H=true:=by simp only[An,agX];exact h
theorem Bl{H:Aa}(h:An H=true){b:Nat}{c:CB}(hb:H[b]?=some c):c.quiet c.clean=true:=by
 simp only[An,agX]at h
 exact h c (aeJ hb)
theorem Bg{H l:Aa}(h:An H=true)(hl:An l=true):An (H++l)=true:=by
 simp only[An,agX,agQ]at h hl ⊢
 exact fun c hc=>hc.elim (h c) (hl c)
theorem Ar{H:Aa}(h:An H=true)(b:Nat){c:CB}(hc:c.quiet c.clean=true):An (H.set b c)=true:=by
 simp only[An,agX]at h ⊢
 exact fun x hx=>(List.mem_or_eq_of_mem_set hx).elim (h x) (fun e=>e▸hc)
theorem kB{c:CB}(h:c.quiet c.clean=true):c.clean.quiet c.clean.clean=true:=by cases c<;>first|rfl|exact h
theorem Fh{H:Aa}(h:An H=true):An (Eb H)=true:=by
 simp only[An,Eb,agX,ajA]at h ⊢
 rintro c ⟨c0,h0,rfl⟩
 exact kB (h c0 h0)
theorem bB{c:CB}(h:c.quiet c.clean=true):c.mark.quiet c.mark.clean=true:=by cases c<;>first|rfl|exact h
theorem Ho{H0 G:Aa}{X:List Nat}(hq:An H0=true)(K:Qk X (Eb H0) G)(hX:∀b∈X,b<H0.length∧∀c0 c,H0[b]?=some c0→G[b]?=some c→c0.isLive=true∧c0.quiet c=false):
 cT H0 G∧(Gg H0 G).length=G.length∧(∀b,H0.length≤b→(Gg H0 G)[b]?=G[b]?)∧(∀b,b<H0.length→b∉X→(Gg H0 G)[b]?=H0[b]?)∧(∀b∈X,∀c,G[b]?=some c→(Gg H0 G)[b]?=some c.mark):=by
 have hlen:H0.length≤G.length:=by have:=K.len;rwa[As]at this
 have old:∀b c0,H0[b]?=some c0→b∉X→G[b]?=some c0.clean:=fun b c0 h0 hb=>by
  rw[K.same b (by rw[As];exact(abU.1 h0).1) hb,Bj h0]
 refine⟨⟨hlen,fun b c0 c h0 h1=>?_⟩,Ji hlen,fun b hb=>Zw hlen hb,fun b hb hn=>?_,fun b hb c hc=>?_⟩
 ·by_cases hb:b∈X
  ·exact .inr ((hX b hb).2 c0 c h0 h1).1
  ·rw[old b c0 h0 hb]at h1;cases h1
   exact .inl (Bl hq h0)
 ·obtain⟨c0,h0⟩:∃c,H0[b]?=some c:=⟨_,agF hb⟩
  rw[h0];exact Gh h0 (old b c0 h0 hn) (Bl hq h0)
 ·obtain⟨h1,h2⟩:=hX b hb
  obtain⟨c0,h0⟩:∃c,H0[b]?=some c:=⟨_,agF h1⟩
  exact Le h0 hc (h2 c0 c h0 hc).2
theorem Sr{H0 G:Aa}{X:List Nat}(hq:An H0=true)(K:Qk X (Eb H0) G)(hX:∀b∈X,b<H0.length∧∀c0 c,H0[b]?=some c0→G[b]?=some c→c0.isLive=true∧c0.quiet c=false)(hg:An G=true):An (Gg H0 G)=true:=by
 obtain⟨_,k1,k2,k3,k4⟩:=Ho hq K hX
 refine Ut fun c hc=>?_
 obtain⟨b,hb⟩:=ajK hc
 by_cases h1:b<H0.length
 ·by_cases h2:b∈X
  ·obtain⟨c1,h3⟩:∃c,G[b]?=some c:=⟨_,agF (by rw[←k1];exact(abU.1 hb).1)⟩
   rw[k4 b h2 c1 h3]at hb;cases hb
   exact bB (Bl hg h3)
  ·rw[k3 b h1 h2]at hb;exact Bl hq hb
 ·rw[k2 b (by omega)]at hb;exact Bl hg hb
theorem uQ{H0 G:Aa}{X:List Nat}(hq:An H0=true)(K:Qk X (Eb H0) G)(hX:∀b∈X,b<H0.length∧∀c0 c,H0[b]?=some c0→G[b]?=some c→c0.isLive=true∧c0.quiet c=false)(b:Nat):(hf (Gg H0 G) b).bind Aw=(hf G b).bind Aw:=by
 obtain⟨_,k1,k2,k3,k4⟩:=Ho hq K hX
 show((Gg H0 G)[b]?).bind Aw=(G[b]?).bind Aw
 by_cases h1:b<H0.length
 ·by_cases h2:b∈X
  ·cases h3:G[b]? with
   |none=>rw[amH]at h3;have h4:=K.len;rw[As]at h4;omega
   |some c1=>rw[k4 b h2 c1 h3];exact rU c1
  ·rw[k3 b h1 h2,K.same b (by rw[As];exact h1) h2]
   cases h3:H0[b]? with
   |none=>simp[Eb,h3]
   |some c=>rw[Bj h3];exact(nF c).symm
 ·rw[k2 b (by omega)]
end
theorem vN{e:Nat}{F:Nat→Option Nat}{v:AV}{st b r n:Nat}(h:Da (e+1) F v=some (.slr st b r n)):∃b',v=.slr st b' r n∧F b'=some b:=by
 cases v with
 |slr st' b' r' n'=>
  simp only[Da,abO]at h
  obtain⟨c,hc,h⟩:=h
  cases h
  exact⟨b',rfl,hc⟩
 |func fn x y=>
  simp only[Da,abP,abO]at h
  obtain⟨_,_,_,_,h⟩:=h;cases h
 |_=>simp[Da]at h
theorem vH{e:Nat}{F:Nat→Option Nat}{v:AV}{k:IntKind}{n:Int}(h:Da (e+1) F v=some (.int k n)):v=.int k n:=by
 cases v with
 |int k' n'=>simp only[Da]at h;exact af8.inj h
 |func fn x y=>
  simp only[Da,abP,abO]at h
  obtain⟨_,_,_,_,h⟩:=h;cases h
 |_=>simp[Da]at h
theorem Ui{α β:Type}{f:α→Option β}{l:List α}{x:β}{xs:List β}(h:Ao f l=some (x::xs)):∃a l',l=a::l'∧f a=some x∧Ao f l'=some xs:=by
 cases l with
 |nil=>simp[Ao]at h
 |cons a l=>
  simp only[Ao,abP,abO]at h
  obtain⟨b,hb,bs,hbs,h⟩:=h
  cases h
  exact⟨a,l,rfl,hb,hbs⟩
theorem uH{α β:Type}{f:α→Option β}{l:List α}(h:Ao f l=some []):l=[]:=by
 cases l with
 |nil=>rfl
 |cons a l=>
  simp only[Ao,abP,abO]at h
  obtain⟨b,hb,bs,hbs,h⟩:=h
  cases h
structure wH(x:AV)(st n:Nat)(rows:List (List AV))(k:IntKind)(z:Int)(N:Nat)(lo:Nat)(outs:List AV)(h:Aa):Prop where
 ex:∃v b R,outs=[v,.slr st b 0 n,.int k z]∧rd 6 (hf h) v=some (x,R)∧R.length=N∧(hf h b).bind Aw=some (st,true,rows)∧lo≤b∧∀j∈R,lo≤j
theorem pZ{F:Nat→Option Nat}{G' G:Aa}(H:aeW F (hf G') (hf G)){v' v x:AV}{R:List Nat}{st b n lo:Nat}{k:IntKind}{z:Int}{rows:List (List AV)}(ho:Da 8 F v'=some (.tup [v,.slr st b 0 n,.int k z]))(h1:rd 6 (hf G) v=some (x,R))(hb:(hf G b).bind Aw=some (st,true,rows))(hlo:∀i c,F i=some c→lo≤i):
 ∃outs,v'=.tup outs∧wH x st n rows k z R.length lo outs G':=by
 obtain⟨o1,rfl,hq⟩:=vS ho
 clear ho
 obtain⟨a,l1,rfl,ha,hq1⟩:=Ui hq
 obtain⟨s,l2,rfl,hs,hq2⟩:=Ui hq1
 obtain⟨i,l3,rfl,hi,hq3⟩:=Ui hq2
 cases uH hq3
 obtain⟨b',rfl,hF⟩:=vN hs
 cases vH hi
 obtain⟨R',k1,k2,k3⟩:=vP H ha h1
 obtain⟨rows',r1,r2,_⟩:=H b' b hF _ hb
 cases r2 rfl
 exact⟨_,rfl,⟨a,b',R',rfl,k1,k2,r1,hlo _ _ hF,fun j hj=>by obtain⟨c,hc⟩:=k3 j hj;exact hlo _ _ hc⟩⟩
theorem ai4{e st b r n:Nat}:Sp (e+1) (.slr st b r n) [b]:=fun m=>⟨.slr st (place m b).1 r n,(place m b).2,rfl,lM m b (by simp),fun F hF=>by simp[Da,hF _ _ (Ge m b).1]⟩
theorem aiR{e:Nat}{k:IntKind}{n:Int}:Sp (e+1) (.int k n) []:=fun m=>⟨_,m,rfl,Gd.refl m [],fun _ _=>rfl⟩
theorem cF{e:Nat}{a:AV}{l:List AV}{R1 R2:List Nat}(h1:Sp e a R1)(h2:SpL e l R2):SpL e (a::l) (R1++R2):=fun m=>by
 obtain⟨x1,m1,a1,a2,a3⟩:=h1 m
 obtain⟨l1,m2,b1,b2,b3⟩:=h2 m1
 refine⟨x1::l1,m2,by simp[Bt.refL,a1,b1],a2.trans b2 (fun b hb=>af9 _ hb) (fun b hb=>agB _ hb),fun F hF=>?_⟩
 simp[Ao,a3 F (hF.mono b2.pre),b3 F hF]
theorem ac7{e:Nat}:SpL e [] []:=fun m=>⟨[],m,rfl,Gd.refl m [],fun _ _=>rfl⟩
theorem ah4{h:Aa}{v x:AV}{R:List Nat}{st b n:Nat}{k:IntKind}{z:Int}{rows:List (List AV)}{Q:Cj→Aa→Prop}(h1:rd 6 (hf h) v=some (x,R))(hR:R.length<4000)(hb:(hf h b).bind Aw=some (st,true,rows))
 (q:∀outs h',wH x st n rows k z R.length 0 outs h'→(∀f,∃y,Bc 8 f (.tup outs)=some y)→(∀c∈h',Rnm c)→Q (.ret (.tup outs)) h'):Rt 0 (some [v,.slr st b 0 n,.int k z]) h Q:=by
 have hS:Sp 8 (.tup [v,.slr st b 0 n,.int k z]) (R++([b]++([]++[]))):=akK (e:=7) (cF (sp (by omega) h1) (cF ai4 (cF aiR ac7)))
 have hC:Cl (hf h) (R++([b]++([]++[]))):=(qN (by omega) h1).app (fun c hc=>by
  simp at hc;subst hc
  exact⟨_,hb,fun e=>by cases e⟩)
 obtain⟨v',cs,F,e1,e2,e3,e4⟩:=ajO hS hC (by simp;omega)
 obtain⟨outs,rfl,hB⟩:=pZ (lo:=0) e2 e3 h1 hb (fun _ _ _=>ab7 _)
 exact⟨_,_,by simp[vV,La,e1],q _ _ hB (fun f=>Ss f e3) e4⟩
theorem ag7{O:Do}{H:Aa}{f:Nat}{args vs outs:List AV}{h':Aa}{x:AV}{st n N lo:Nat}{k:IntKind}{z:Int}{rows:List (List AV)}{E:OE}(hE:Ev.cl O H (some (.func (.func f) [] [])) (some args)=E)(hh:pkd O f args)(ha:Ao (cN H) args=some vs)(hp:vs.all (Aq 8)=true)
 (hc:O.call (.fn f) vs []=some (.ret (.tup outs),h')) (hB:wH x st n rows k z N lo outs h') (h1:∀f,∃y,Bc 8 f (.tup outs)=some y) (h2:∀c∈h',Rnm c):
 ∃outs1 es H1,E=some (.ret (.tup outs1),es)∧Ax H es=H1∧Kp (args.flatMap (Ap 12 (hf H))) H H1∧wH x st n rows k z N H.length outs1 H1:=by
 obtain⟨v1,es,H1,F,e1,e2,e3,e4,e5,e6⟩:=acM hh ha hp hc h1 h2
 obtain⟨v,b,R,rfl,r1,r2,r3,_,_⟩:=hB.ex
 obtain⟨o,rfl,hB2⟩:=pZ (lo:=H.length) e3 e4 r1 r3 e6
 exact⟨o,es,H1,hE.symm.trans e1,e2,e5,by rw[r2]at hB2;exact hB2⟩
end Go.Ev
namespace Go.Ev
namespace Net
abbrev Edge:=Nat × Nat × Nat
inductive Na(E:List Edge)(s:Nat):Nat→Nat→Nat→Prop
 |nil (n:Nat):Na E s n s 0
 |fwd {n a b c k:Nat} (h:Na E s n a k) (he:(a,b,c)∈E):Na E s (n+1) b (k+c)
 |bwd {n a b c k:Nat} (h:Na E s n b k) (he:(a,b,c)∈E):Na E s (n+1) a (k+c)
def oN(E:List Edge)(u v c:Nat):Prop:=(u,v,c)∈E∨(v,u,c)∈E
theorem oN.symm{E:List Edge}{u v c:Nat}(h:oN E u v c):oN E v u c:=h.elim .inr .inl
theorem Na.step{E:List Edge}{s n u v k c:Nat}(h:Na E s n u k)(hs:oN E u v c):Na E s (n+1) v (k+c):=hs.elim (fun e=>.fwd h e) (fun e=>.bwd h e)
theorem Na.cases'{E:List Edge}{s n v k:Nat}(h:Na E s n v k):(v=s∧k=0)∨∃m u j c,n=m+1∧Na E s m u j∧oN E u v c∧k=j+c:=by
 cases h with
 |nil=>exact .inl ⟨rfl,rfl⟩
 |fwd h he=>exact .inr ⟨_,_,_,_,rfl,h,.inl he,rfl⟩
 |bwd h he=>exact .inr ⟨_,_,_,_,rfl,h,.inr he,rfl⟩
theorem Na.more{E:List Edge}{s n v k:Nat}(h:Na E s n v k):∀{m:Nat},n≤m→Na E s m v k:=by
 induction h with
 |nil n=>exact fun _=>.nil _
 |fwd h he ih=>
  intro m hm
  obtain⟨m,rfl⟩:∃j,m=j+1:=⟨m-1,by omega⟩
  exact .fwd (ih (by omega)) he
 |bwd h he ih=>
  intro m hm
  obtain⟨m,rfl⟩:∃j,m=j+1:=⟨m-1,by omega⟩
  exact .bwd (ih (by omega)) he
def Yy(E:List Edge)(s v k:Nat):Prop:=∃n,Na E s n v k
theorem Yy.step{E:List Edge}{s u v k c:Nat}(h:Yy E s u k)(hs:oN E u v c):Yy E s v (k+c):=by obtain⟨n,h⟩:=h;exact⟨_,h.step hs⟩
def Qn(E:List Edge)(s v k:Nat):Prop:=Yy E s v k∧∀j,Yy E s v j→k≤j
theorem least{p:Nat→Prop}:(∃n,p n)→∃n,p n∧∀j,p j→n≤j:=fun⟨n,hn⟩=>by
 induction n using Nat.strongRecOn with
 |ind n ih=>
  by_cases h:∃j,j<n∧p j
  ·obtain⟨j,h1,h2⟩:=h;exact ih j h1 h2
  ·exact⟨n,hn,fun j hj=>alG fun hlt=>h ⟨j,hlt,hj⟩⟩
theorem Qn.ex{E:List Edge}{s v k:Nat}(h:Yy E s v k):∃j,Qn E s v j:=least ⟨k,h⟩
theorem Qn.eq{E:List Edge}{s v k j:Nat}(h1:Qn E s v k)(h2:Qn E s v j):k=j:=Nat.le_antisymm (h1.2 j h2.1) (h2.2 k h1.1)
def Ql(E:List Edge)(s n v:Nat):Prop:=∃k,Qn E s v k∧Na E s n v k
theorem Ql.more{E:List Edge}{s n m v:Nat}(h:Ql E s n v)(hm:n≤m):Ql E s m v:=by obtain⟨k,h1,h2⟩:=h;exact⟨k,h1,h2.more hm⟩
theorem Ql.prev{E:List Edge}{s n v:Nat}(h:Ql E s (n+1) v):v=s∨∃u c k,Ql E s n u∧Qn E s u k∧oN E u v c∧Qn E s v (k+c):=by
 obtain⟨k,h1,h2⟩:=h
 rcases h2.cases' with⟨h,_⟩|⟨m,u,j,c,hm,hw,hs,rfl⟩
 ·exact .inl h
 ·cases hm
  have hl:Qn E s u j:=⟨⟨_,hw⟩,fun i hi=>by have:=h1.2 _ (hi.step hs);omega⟩
  exact .inr ⟨u,c,j,⟨j,hl,hw⟩,hl,hs,h1⟩
theorem Ql.next{E:List Edge}{s n u v c k:Nat}(h:Ql E s n u)(hu:Qn E s u k)(hs:oN E u v c)(hv:Qn E s v (k+c)):Ql E s (n+1) v:=by
 obtain⟨j,h1,h2⟩:=h
 cases h1.eq hu
 exact⟨_,hv,h2.step hs⟩
theorem Qn.src{E:List Edge}{s:Nat}:Qn E s s 0:=⟨⟨0,.nil 0⟩,fun j _=>ab7 j⟩
theorem Ql.src{E:List Edge}{s:Nat}(n:Nat):Ql E s n s:=⟨0,Qn.src,.nil n⟩
theorem Ql.stable{E:List Edge}{s n:Nat}(h:∀v,Ql E s (n+1) v→Ql E s n v):∀m v,Ql E s m v→Ql E s n v
 |0,v,hv=>hv.more (ab7 n)
 |m+1,v,hv=>by
  rcases hv.prev with rfl|⟨u,c,k,h1,h2,h3,h4⟩
  ·exact Ql.src n
  ·exact h v ((Ql.stable h m u h1).next h2 h3 h4)
noncomputable def Zj(p:Nat→Prop):Nat→Nat
 |0=>0
 |N+1=>Zj p N+(@ite Nat (p N) (Classical.propDecidable _) 1 0)
theorem nZ(p:Nat→Prop):∀N,Zj p N≤N
 |0=>abV 0
 |N+1=>by
  have:=nZ p N
  unfold Zj
  split<;>omega
theorem lS{p q:Nat→Prop}(h:∀v,p v→q v):∀N,Zj p N≤Zj q N
 |0=>abV 0
 |N+1=>by
  have:=lS h N
  unfold Zj
  split
  ·rename_i h1;rw[if_pos (h _ h1)];omega
  ·split<;>omega
theorem mZ{p q:Nat→Prop}(h:∀v,p v→q v){v:Nat}(hq:q v)(hp:¬p v):∀{N:Nat},v<N→Zj p N+1≤Zj q N
 |0,hv=>by omega
 |N+1,hv=>by
  unfold Zj
  by_cases e:v=N
  ·subst e
   have:=lS h v
   rw[if_neg hp,if_pos hq];omega
  ·have:=mZ h hq hp (N:=N) (by omega)
   split
   ·rename_i h1;rw[if_pos (h _ h1)];omega
   ·split<;>omega
theorem qU{p:Nat→Prop}{v:Nat}(hp:p v):∀{N:Nat},v<N→1≤Zj p N
 |0,hv=>by omega
 |N+1,hv=>by
  unfold Zj
  by_cases e:v=N
  ·subst e;rw[if_pos hp];omega
  ·have:=qU hp (N:=N) (by omega);split<;>omega
theorem aeK{E:List Edge}{s N:Nat}(hs:s<N)(hE:∀a b c,(a,b,c)∈E→a<N∧b<N):∀m v,Ql E s m v→Ql E s (N-1) v:=by
 have lt:∀m v,Ql E s m v→v<N:=fun m=>by
  induction m with
  |zero=>
   intro v ⟨k,_,h⟩
   rcases h.cases' with⟨rfl,_⟩|⟨_,_,_,_,h,_⟩
   ·exact hs
   ·cases h
  |succ m ih=>
   intro v hv
   rcases hv.prev with rfl|⟨u,c,k,h1,h2,h3,h4⟩
   ·exact hs
   ·rcases h3 with h3|h3
    ·exact(hE _ _ _ h3).2
    ·exact(hE _ _ _ h3).1
 have grow:∀n,(∃k,k≤n∧∀v,Ql E s (k+1) v→Ql E s k v)∨n+1≤Zj (Ql E s n) N:=fun n=>by
  induction n with
  |zero=>exact .inr (qU (Ql.src 0) hs)
  |succ n ih=>
   rcases ih with⟨k,h1,h2⟩|h
   ·exact .inl ⟨k,by omega,h2⟩
   ·by_cases e:∀v,Ql E s (n+1) v→Ql E s n v
    ·exact .inl ⟨n,by omega,e⟩
    ·obtain⟨v,hv⟩:=Classical.not_forall.1 e
     have h1:Ql E s (n+1) v:=Classical.byContradiction fun h=>hv fun h'=>(h h').elim
     have h2:¬Ql E s n v:=fun h=>hv fun _=>h
     have:=mZ (p:=Ql E s n) (q:=Ql E s (n+1)) (fun v h=>h.more (Nat.le_succ n)) h1 h2 (lt _ v h1)
     exact .inr (by omega)
 intro m v hv
 rcases grow N with⟨k,h1,h2⟩|h
 ·by_cases e:k≤N-1
  ·exact(Ql.stable h2 m v hv).more e
  ·
   have hk:k=N:=by omega
   rcases grow (N-1)with⟨k',h1',h2'⟩|h'
   ·exact(Ql.stable h2' m v hv).more h1'
   ·exact Classical.byContradiction fun hn=>by
     have:=mZ (p:=Ql E s (N-1)) (q:=fun _=>True) (fun _ _=>trivial) trivial hn (lt _ v hv)
     have:=nZ (fun _=>True) N
     omega
 ·have:=nZ (Ql E s N) N;omega
theorem Qn.lvl{E:List Edge}{s N v k:Nat}(hs:s<N)(hE:∀a b c,(a,b,c)∈E→a<N∧b<N)(h:Qn E s v k):Ql E s (N-1) v:=by
 obtain⟨n,hw⟩:=h.1
 exact aeK hs hE n v ⟨k,h,hw⟩
theorem Na.le{E:List Edge}{s n v k:Nat}(hc:∀a b c,(a,b,c)∈E→c≤1)(h:Na E s n v k):k≤n:=by
 induction h with
 |nil=>omega
 |fwd h he ih=>have:=hc _ _ _ he;omega
 |bwd h he ih=>have:=hc _ _ _ he;omega
theorem Qn.le{E:List Edge}{s N v k:Nat}(hs:s<N)(hE:∀a b c,(a,b,c)∈E→a<N∧b<N)(hc:∀a b c,(a,b,c)∈E→c≤1)(h:Qn E s v k):k≤N-1:=by
 obtain⟨j,h1,h2⟩:=h.lvl hs hE
 cases h1.eq h
 exact h2.le hc
def Jr(E:List Edge)(s N far:Nat)(d:Nat→Nat):Prop:=∀v,v<N→(∀k,Qn E s v k→d v=k)∧((∀k,¬Yy E s v k)→d v=far)
theorem zA{E:List Edge}{s N far:Nat}{d:Nat→Nat}(h0:d s=0)(hr:∀v,v<N→d v=far∨Yy E s v (d v))(hc:∀u v c,oN E u v c→d v≤d u+c)(hf:∀v k,Qn E s v k→k<far):Jr E s N far d:=fun v hv=>by
 have le:∀n v k,Na E s n v k→d v≤k:=fun n v k h=>by
  induction h with
  |nil=>omega
  |fwd h he ih=>have:=hc _ _ _ (.inl he);omega
  |bwd h he ih=>have:=hc _ _ _ (.inr he);omega
 refine⟨fun k hk=>?_,fun h=>?_⟩
 ·obtain⟨n,hn⟩:=hk.1
  have h1:=le n v k hn
  rcases hr v hv with h|h
  ·have:=hf v k hk;omega
  ·have:=hk.2 _ h;omega
 ·rcases hr v hv with h1|h1
  ·exact h1
  ·exact(h _ h1).elim
def Zk(d:List Nat)(e:Edge):List Nat:=(d.set e.2.1 (min (d.getD e.2.1 0) (d.getD e.1 0+e.2.2))).set e.1 (min (d.getD e.1 0) (d.getD e.2.1 0+e.2.2))
def alW(E:List Edge)(d:List Nat):List Nat:=E.foldl Zk d
def Zn(E:List Edge):Nat→List Nat→List Nat
 |0,d=>d
 |n+1,d=>Zn E n (alW E d)
theorem cB(d:List Nat)(e:Edge):(Zk d e).length=d.length:=by simp[Zk]
theorem Wl{d:List Nat}{i v x:Nat}(hi:i<d.length):(d.set i x).getD v 0=if i=v then x else d.getD v 0:=by
 simp only[amM]
 by_cases h:i=v
 ·subst h;rw[alE hi,if_pos rfl];rfl
 ·rw[aiN h,if_neg h]
theorem fX{d:List Nat}{a b c:Nat}(ha:a<d.length)(hb:b<d.length)(hab:a≠b)(v:Nat):(Zk d (a,b,c)).getD v 0=if v=a then min (d.getD a 0) (d.getD b 0+c)else if v=b then min (d.getD b 0) (d.getD a 0+c)else d.getD v 0:=by
 unfold Zk
 rw[Wl (by simpa using ha),Wl hb]
 by_cases h1:v=a
 ·subst h1;simp
 ·rw[if_neg (fun e=>h1 e.symm),if_neg h1]
  by_cases h2:v=b
  ·subst h2;simp
  ·rw[if_neg (fun e=>h2 e.symm),if_neg h2]
structure cG(E:List Edge)(s N far:Nat)(d:List Nat):Prop where
 len:d.length=N
 src:d.getD s 0=0
 real:∀v,v<N→d.getD v 0=far∨Yy E s v (d.getD v 0)
 le:∀v,v<N→d.getD v 0≤far
theorem cG.one{E:List Edge}{s N far:Nat}{d:List Nat}(I:cG E s N far d){a b c:Nat}(he:(a,b,c)∈E)(ha:a<N)(hb:b<N)(hab:a≠b):cG E s N far (Zk d (a,b,c)):=by
 have hl:=I.len
 have at_:=fun v=>fX (d:=d) (c:=c) (by omega) (by omega) hab v
 have mn:∀u v,u<N→v<N→oN E u v c→(min (d.getD v 0) (d.getD u 0+c)=far∨Yy E s v (min (d.getD v 0) (d.getD u 0+c))):=fun u v hu hv hs=>by
  have h1:=I.le v hv
  rcases Nat.le_total (d.getD v 0) (d.getD u 0+c)with h|h
  ·rw[Nat.min_eq_left h];exact I.real v hv
  ·rw[Nat.min_eq_right h]
   rcases I.real u hu with hh|hh
   ·left;omega
   ·exact .inr (hh.step hs)
 refine⟨by rw[cB,hl],?_,fun v hv=>?_,fun v hv=>?_⟩
 ·rw[at_]
  have:=I.src
  split
  ·rename_i h;subst h;rw[this];simp
  ·split
   ·rename_i h;subst h;rw[this];simp
   ·exact this
 ·rw[at_]
  split
  ·rename_i h;subst h;exact mn b v hb hv (.inr he)
  ·split
   ·rename_i h;subst h;exact mn a v ha hv (.inl he)
   ·exact I.real v hv
 ·rw[at_]
  split
  ·rename_i h;subst h;have:=I.le v hv;omega
  ·split
   ·rename_i h;subst h;have:=I.le v hv;omega
   ·exact I.le v hv
def Zp(E:List Edge)(N:Nat):Prop:=∀a b c,(a,b,c)∈E→a<N∧b<N∧a≠b∧c≤1
theorem pX{d:List Nat}{a b c:Nat}(ha:a<d.length)(hb:b<d.length)(hab:a≠b)(v:Nat):(Zk d (a,b,c)).getD v 0≤d.getD v 0:=by
 rw[fX ha hb hab]
 split
 ·rename_i h;subst h;omega
 ·split
  ·rename_i h;subst h;omega
  ·exact abV _
theorem gC:∀{L:List Edge} {d:List Nat} {N:Nat},d.length=N→Zp L N→∀v,(L.foldl Zk d).getD v 0≤d.getD v 0
 | [],d,N,_,_,v=>abV _
 |(a,b,c)::L,d,N,hl,hE,v=>by
  have h:=hE a b c (abS ..)
  have h1:=gC (L:=L) (d:=Zk d (a,b,c)) (by rw[cB,hl]) (fun a b c hm=>hE a b c (abR _ hm)) v
  have h2:=pX (d:=d) (c:=c) (by omega) (by omega) h.2.2.1 v
  rw[alH];omega
theorem abM{E:List Edge}{s N far:Nat}:∀{L:List Edge} {d:List Nat},(∀e∈L,e∈E)→Zp E N→cG E s N far d→cG E s N far (L.foldl Zk d)
 | [],d,_,_,I=>I
 |(a,b,c)::L,d,hs,hE,I=>by
  have he:=hs _ (abS ..)
  have h:=hE a b c he
  rw[alH]
  exact abM (L:=L) (fun e hm=>hs e (abR _ hm)) hE (I.one he h.1 h.2.1 h.2.2.1)
theorem cH{N:Nat}:∀{L:List Edge} {d:List Nat},d.length=N→Zp L N→∀{u v c k:Nat},(u,v,c)∈L∨(v,u,c)∈L→d.getD u 0≤k→(L.foldl Zk d).getD v 0≤k+c
 | [],d,_,_,u,v,c,k,h,_=>by rcases h with h|h<;>cases h
 |(a,b,e)::L,d,hl,hE,u,v,c,k,h,hk=>by
  have q:=hE a b e (abS ..)
  have hE':Zp L N:=fun a b c hm=>hE a b c (abR _ hm)
  have hl':(Zk d (a,b,e)).length=N:=by rw[cB,hl]
  have key:(u=a∧v=b∧c=e)∨(u=b∧v=a∧c=e)∨((u,v,c)∈L∨(v,u,c)∈L):=by
   rcases h with h|h
   ·rcases abT.1 h with h|h
    ·cases h;exact .inl ⟨rfl,rfl,rfl⟩
    ·exact .inr (.inr (.inl h))
   ·rcases abT.1 h with h|h
    ·cases h;exact .inr (.inl ⟨rfl,rfl,rfl⟩)
    ·exact .inr (.inr (.inr h))
  rw[alH]
  have at_:=fun v=>fX (d:=d) (c:=e) (by omega) (by omega) q.2.2.1 v
  rcases key with⟨rfl,rfl,rfl⟩|⟨rfl,rfl,rfl⟩|h
  ·have h1:=gC hl' hE' v
   rw[at_ v,if_neg (fun e=>q.2.2.1 e.symm),if_pos rfl]at h1
   omega
  ·have h1:=gC hl' hE' v
   rw[at_ v,if_pos rfl]at h1
   omega
  ·have h2:=pX (d:=d) (c:=e) (by omega) (by omega) q.2.2.1 u
   exact cH hl' hE' h (by omega)
theorem gX{E:List Edge}{s N far:Nat}(hE:Zp E N):∀(n:Nat) {d:List Nat},cG E s N far d→cG E s N far (Zn E n d)
 |0,d,I=>I
 |n+1,d,I=>gX hE n (abM (fun _ h=>h) hE I)
theorem bK(E:List Edge):∀(n:Nat) (d:List Nat),Zn E (n+1) d=alW E (Zn E n d)
 |0,d=>rfl
 |n+1,d=>by rw[Zn,bK E n];rfl
theorem jG{E:List Edge}{s N far:Nat}(hE:Zp E N){d:List Nat}(I:cG E s N far d):∀(n:Nat) {v k:Nat},Ql E s n v→Qn E s v k→(Zn E n d).getD v 0≤k
 |0,v,k,⟨j,h1,h2⟩,hk=>by
  rcases h2.cases' with⟨rfl,rfl⟩|⟨_,_,_,_,h,_⟩
  ·rw[Zn,I.src];exact ab7 _
  ·cases h
 |n+1,v,k,hv,hk=>by
  rw[bK]
  have J:=gX hE n I
  rcases hv.prev with rfl|⟨u,c,j,h1,h2,h3,h4⟩
  ·have K:=gX hE (n+1) I
   rw[bK]at K
   rw[K.src];exact ab7 _
  ·cases h4.eq hk
   exact cH J.len hE h3 (jG hE I n h1 h2)
theorem nW{E:List Edge}{s N far:Nat}(hs:s<N)(hE:Zp E N)(hf:N≤far){d:List Nat}(I:cG E s N far d){n:Nat}(hn:N-1≤n):Jr E s N far (fun v=>(Zn E n d).getD v 0):=fun v hv=>by
 have J:=gX hE n I
 have hE1:∀a b c,(a,b,c)∈E→a<N∧b<N:=fun a b c h=>⟨(hE a b c h).1,(hE a b c h).2.1⟩
 have hE2:∀a b c,(a,b,c)∈E→c≤1:=fun a b c h=>(hE a b c h).2.2.2
 refine⟨fun k hk=>?_,fun h=>?_⟩
 ·have h1:=jG hE I n ((hk.lvl hs hE1).more hn) hk
  have h2:=hk.le hs hE1 hE2
  rcases J.real v hv with h|h
  ·simp only[h]at h1 ⊢;omega
  ·have:=hk.2 _ h;simp only;omega
 ·rcases J.real v hv with h1|h1
  ·exact h1
  ·exact(h _ h1).elim
end Net
end Go.Ev
namespace Go.Ev
namespace Net
structure Xa(E:List Edge)(s N far:Nat)(d q:List Nat)(X:Nat→Nat→Nat→Prop):Prop where
 i:cG E s N far d
 w:∀r∈q,r<N
 tr:∀u v c,oN E u v c→u∈q∨X u v c∨d.getD v 0≤d.getD u 0+c
def Oq(E:List Edge)(r i u v c:Nat):Prop:=u=r∧∃j,i≤j∧(E[j]?=some (r,v,c)∨E[j]?=some (v,r,c))
theorem Xa.take{E:List Edge}{s N far:Nat}{d q:List Nat}{r:Nat}(I:Xa E s N far d (r::q) (fun _ _ _=>False)):r<N∧Xa E s N far d q (Oq E r 0):=by
 refine⟨I.w r (abS ..),I.i,fun u hu=>I.w u (abR _ hu),fun u v c h=>?_⟩
 rcases I.tr u v c h with h1|h1|h1
 ·rcases abT.1 h1 with rfl|h1
  ·right;left
   refine⟨rfl,?_⟩
   rcases h with h|h
   ·obtain⟨j,hj⟩:=ajK h;exact⟨j,ab7 j,.inl hj⟩
   ·obtain⟨j,hj⟩:=ajK h;exact⟨j,ab7 j,.inr hj⟩
  ·exact .inl h1
 ·exact h1.elim
 ·exact .inr (.inr h1)
theorem Oq.next{E:List Edge}{r i u v c:Nat}(h:Oq E r i u v c):Oq E r (i+1) u v c∨(u=r∧(E[i]?=some (r,v,c)∨E[i]?=some (v,r,c))):=by
 obtain⟨h1,j,h2,h3⟩:=h
 by_cases e:i=j
 ·subst e;exact .inr ⟨h1,h3⟩
 ·exact .inl ⟨h1,j,by omega,h3⟩
theorem Xa.skip{E:List Edge}{s N far:Nat}{d q:List Nat}{r i a b c:Nat}(I:Xa E s N far d q (Oq E r i))(hi:E[i]?=some (a,b,c))(ha:r≠a)(hb:r≠b):Xa E s N far d q (Oq E r (i+1)):=by
 refine⟨I.i,I.w,fun u v c' h=>?_⟩
 rcases I.tr u v c' h with h1|h1|h1
 ·exact .inl h1
 ·rcases h1.next with h1|⟨_,h2|h2⟩
  ·exact .inr (.inl h1)
  ·rw[hi]at h2;cases h2;exact(ha rfl).elim
  ·rw[hi]at h2;cases h2;exact(hb rfl).elim
 ·exact .inr (.inr h1)
theorem Xa.same{E:List Edge}{s N far:Nat}{d q:List Nat}{r i t c:Nat}(I:Xa E s N far d q (Oq E r i))(hi:E[i]?=some (r,t,c)∨E[i]?=some (t,r,c))(hn:d.getD t 0≤d.getD r 0+c):Xa E s N far d q (Oq E r (i+1)):=by
 refine⟨I.i,I.w,fun u v c' h=>?_⟩
 rcases I.tr u v c' h with h1|h1|h1
 ·exact .inl h1
 ·rcases h1.next with h1|⟨rfl,h2⟩
  ·exact .inr (.inl h1)
  ·right;right
   rcases hi with h3|h3<;>rcases h2 with h2|h2<;>(rw[h3]at h2;cases h2;exact hn)
 ·exact .inr (.inr h1)
theorem Xa.less{E:List Edge}{s N far:Nat}{d q q':List Nat}{r i t c:Nat}(I:Xa E s N far d q (Oq E r i))(hr:r<N)(ht:t<N)(hrt:r≠t)(hi:E[i]?=some (r,t,c)∨E[i]?=some (t,r,c))(hn:d.getD r 0+c<d.getD t 0)(hq:∀x,x∈q'↔x=t∨x∈q):Xa E s N far (d.set t (d.getD r 0+c)) q' (Oq E r (i+1)):=by
 have hl:=I.i.len
 have at_:=fun v=>Wl (d:=d) (v:=v) (x:=d.getD r 0+c) (show t<d.length by omega)
 have hst:oN E r t c:=hi.elim (fun h=>.inl (aeJ h)) (fun h=>.inr (aeJ h))
 have hfar:=I.i.le t ht
 have le:∀v,(d.set t (d.getD r 0+c)).getD v 0≤d.getD v 0:=fun v=>by
  rw[at_];split
  ·rename_i h;subst h;omega
  ·exact abV _
 refine⟨⟨by simpa using hl,?_,fun v hv=>?_,fun v hv=>?_⟩,fun x hx=>?_,fun u v c' h=>?_⟩
 ·rw[at_];split
  ·rename_i h;subst h;have:=I.i.src;omega
  ·exact I.i.src
 ·rw[at_];split
  ·rename_i h;subst h
   rcases I.i.real r hr with h|h
   ·omega
   ·exact .inr (h.step hst)
  ·exact I.i.real v hv
 ·have:=le v;have:=I.i.le v hv;omega
 ·rcases(hq x).1 hx with rfl|h
  ·exact ht
  ·exact I.w x h
 ·by_cases hu:u=t
  ·exact .inl ((hq u).2 (.inl hu))
  ·have hdu:(d.set t (d.getD r 0+c)).getD u 0=d.getD u 0:=by rw[at_,if_neg (fun e=>hu e.symm)]
   rcases I.tr u v c' h with h1|h1|h1
   ·exact .inl ((hq u).2 (.inr h1))
   ·rcases h1.next with h1|⟨rfl,h2⟩
    ·exact .inr (.inl h1)
    ·right;right
     have hvt:v=t∧c'=c:=by
      rcases hi with h3|h3<;>rcases h2 with h2|h2<;>(rw[h3]at h2;cases h2;first|exact⟨rfl,rfl⟩|exact(hrt rfl).elim)
     obtain⟨rfl,rfl⟩:=hvt
     rw[hdu,at_,if_pos rfl]
     exact abV _
   ·right;right
    have:=le v
    rw[hdu];omega
theorem Oq.none{E:List Edge}{r i u v c:Nat}(hi:E.length≤i):¬Oq E r i u v c:=fun⟨_,j,h1,h2⟩=>by
 rw[List.getElem?_eq_none (by omega)]at h2
 rcases h2 with h2|h2<;>cases h2
theorem Xa.done{E:List Edge}{s N far:Nat}{d q:List Nat}{r i:Nat}(I:Xa E s N far d q (Oq E r i))(hi:E.length≤i):Xa E s N far d q (fun _ _ _=>False):=
 ⟨I.i,I.w,fun u v c h=>(I.tr u v c h).imp id fun h=>h.elim (fun h=>(Oq.none hi h).elim) .inr⟩
theorem ab5{d:List Nat}:∀{t x:Nat},t<d.length→(d.set t x).sum+d.getD t 0=d.sum+x:=by
 induction d with
 |nil=>intro t x h;simp at h
 |cons a d ih=>
  intro t x h
  cases t with
  |zero=>simp;omega
  |succ t=>
   have:=ih (t:=t) (x:=x) (by simpa using h)
   simp only[List.set_cons_succ,List.sum_cons,List.getD_cons_succ]
   omega
theorem wK{d:List Nat}{t x:Nat}(ht:t<d.length)(hx:x<d.getD t 0):(d.set t x).sum<d.sum:=by
 have:=ab5 (d:=d) (x:=x) ht
 omega
theorem Xa.right{E:List Edge}{s N far:Nat}{d:List Nat}(hs:s<N)(hE:Zp E N)(hf:N≤far)(I:Xa E s N far d [] (fun _ _ _=>False)):Jr E s N far (fun v=>d.getD v 0):=by
 refine zA I.i.src I.i.real (fun u v c h=>?_) fun v k hk=>?_
 ·rcases I.tr u v c h with h1|h1|h1
  ·cases h1
  ·exact h1.elim
  ·exact h1
 ·have:=hk.le hs (fun a b c h=>⟨(hE a b c h).1,(hE a b c h).2.1⟩) (fun a b c h=>(hE a b c h).2.2.2)
  omega
theorem Jr.num{E:List Edge}{s N far far':Nat}{d d':Nat→Nat}(h:Jr E s N far d)(h':Jr E s N far' d')(hf:N≤far)(hf':N≤far')(hs:s<N)(hE:Zp E N){v:Nat}(hv:v<N):(d v=far↔d' v=far')∧(d v≠far→d v=d' v)∧(d v≠far→d v<N):=by
 have hE1:∀a b c,(a,b,c)∈E→a<N∧b<N:=fun a b c h=>⟨(hE a b c h).1,(hE a b c h).2.1⟩
 have hE2:∀a b c,(a,b,c)∈E→c≤1:=fun a b c h=>(hE a b c h).2.2.2
 by_cases e:∃k,Yy E s v k
 ·obtain⟨k,hk⟩:=e
  obtain⟨j,hj⟩:=Qn.ex hk
  have h1:=(h v hv).1 j hj
  have h2:=(h' v hv).1 j hj
  have h3:=hj.le hs hE1 hE2
  rw[h1,h2]
  exact⟨⟨fun e=>by omega,fun e=>by omega⟩,fun _=>rfl,fun _=>by omega⟩
 ·have hn:∀k,¬Yy E s v k:=fun k hk=>e ⟨k,hk⟩
  have h1:=(h v hv).2 hn
  have h2:=(h' v hv).2 hn
  rw[h1,h2]
  exact⟨⟨fun _=>rfl,fun _=>rfl⟩,fun h=>(h rfl).elim,fun h=>(h rfl).elim⟩
end Net
end Go.Ev
namespace Go.Ev
namespace Net
def Jn(N s far:Nat):List Nat:=(akQ N far).set s 0
theorem Zx{N s far v:Nat}(hs:s<N)(hv:v<N):(Jn N s far).getD v 0=if s=v then 0 else far:=by
 unfold Jn
 rw[Wl (by simpa using hs)]
 split
 ·rfl
 ·simp[amM,hv]
theorem mK{E:List Edge}{N s far:Nat}(hs:s<N):cG E s N far (Jn N s far):=by
 refine⟨by simp[Jn],by rw[Zx hs hs,if_pos rfl],fun v hv=>?_,fun v hv=>?_⟩
 ·rw[Zx hs hv]
  split
  ·rename_i h;subst h;exact .inr ⟨0,.nil 0⟩
  ·exact .inl rfl
 ·rw[Zx hs hv];split<;>omega
theorem acW{E:List Edge}{N s far:Nat}(hs:s<N)(hE:Zp E N):Xa E s N far (Jn N s far) [s] (fun _ _ _=>False):=by
 refine⟨mK hs,fun r hr=>by simp at hr;omega,fun u v c h=>?_⟩
 have hb:u<N∧v<N:=h.elim (fun h=>⟨(hE _ _ _ h).1,(hE _ _ _ h).2.1⟩) (fun h=>⟨(hE _ _ _ h).2.1,(hE _ _ _ h).1⟩)
 by_cases e:u=s
 ·exact .inl (by simp[e])
 ·right;right
  rw[Zx hs hb.1,if_neg (fun h=>e h.symm)]
  have:=(mK (E:=E) (far:=far) hs).le v hb.2
  omega
def uZ(E:List Edge)(N len:Nat):Nat:=if 1000≤(Zn E N (Jn N 0 1000)).getD 1 0 then len+1 else(Zn E N (Jn N 0 1000)).getD 1 0
theorem nA{E:List Edge}{N:Nat}(hN:2≤N)(hN2:N≤1000)(hE:Zp E N):Jr E 0 N 1000 (fun v=>(Zn E N (Jn N 0 1000)).getD v 0):=
 nW (by omega) hE hN2 (mK (by omega)) (by omega)
theorem yL{E:List Edge}{N far len:Nat}(hN:2≤N)(hN2:N≤1000)(hf:N≤far)(hE:Zp E N){d:Nat→Nat}(h:Jr E 0 N far d):(if d 1=far then len+1 else d 1)=uZ E N len:=by
 obtain⟨h1,h2,h3⟩:=Jr.num (nA hN hN2 hE) h hN2 hf (by omega) hE (v:=1) (by omega)
 unfold uZ
 by_cases e:(Zn E N (Jn N 0 1000)).getD 1 0=1000
 ·rw[if_pos (h1.1 e),if_pos (by rw[e];exact abV _)]
 ·have:=h3 e
  rw[if_neg (fun h=>e (h1.2 h)),if_neg (by omega)]
  exact(h2 e).symm
end Net
end Go.Ev
namespace Go.Ev
namespace Net
def bW(e:Edge)(r:Nat):Option Nat:=if e.1=r then some e.2.1 else if e.2.1=r then some e.1 else none
theorem Sj{E:List Edge}{e:Edge}{r v:Nat}(he:e∈E)(h:bW e r=some v):oN E r v e.2.2:=by
 obtain⟨a,b,c⟩:=e
 unfold bW at h
 split at h
 ·rename_i h1;simp only at h h1;cases h;subst h1;exact .inl he
 ·split at h
  ·rename_i h1;simp only at h h1;cases h;subst h1;exact .inr he
  ·cases h
def Hv(f:Nat→Edge→Option (List Nat)):Nat→List Edge→Option (List Nat)
 |_,[]=>none
 |i,e::l=>match f i e with
  |some x=>some x
  |none=>Hv f (i+1) l
theorem Qs{f:Nat→Edge→Option (List Nat)}:∀{l:List Edge} {i:Nat} {x:List Nat},Hv f i l=some x→∃j e,l[j]?=some e∧f (i+j) e=some x
 | [],i,x,h=>by cases h
 |e::l,i,x,h=>by
  unfold Hv at h
  split at h
  ·rename_i y hy;cases h;exact⟨0,e,rfl,hy⟩
  ·obtain⟨j,e',h1,h2⟩:=Qs h
   exact⟨j+1,e',by simpa using h1,by rw[←h2];congr 1;omega⟩
theorem Vv{f g:Nat→Edge→Option (List Nat)}:∀{l:List Edge} {i:Nat},(∀j e,l[j]?=some e→f (i+j) e=g (i+j) e)→Hv f i l=Hv g i l
 | [],i,h=>rfl
 |e::l,i,h=>by
  have h0:=h 0 e rfl
  simp only[aj9]at h0
  have ih:=Vv (f:=f) (g:=g) (l:=l) (i:=i+1) fun j e' hj=>by
   have:=h (j+1) e' (by simpa using hj)
   rwa[show i+(j+1)=i+1+j by omega]at this
  unfold Hv
  rw[h0]
  cases g i e with
  |none=>exact ih
  |some x=>rfl
def Qi(E:List Edge):Nat→Nat→List Nat→Nat→Option (List Nat)
 |0,_,_,_=>none
 |f+1,most,rooms,at_=>if at_=1 then some []else
  Hv (fun i e=>match bW e at_ with
   |none=>none
   |some r=>if r∈rooms∨most<e.2.2 then none else(Qi E f (most-e.2.2) (r::rooms) r).map (i::·)) 0 E
def Rq(E:List Edge)(back:Nat→Nat)(most:Nat):Nat→Nat→List Nat→Nat→Option (List Nat)
 |0,_,_,_=>none
 |f+1,tight,rooms,at_=>if at_=1 then some []else
  Hv (fun i e=>match bW e at_ with
   |none=>none
   |some r=>if r∈rooms∨most<tight+e.2.2+back r then none else(Rq E back most f (tight+e.2.2) (r::rooms) r).map (i::·)) 0 E
theorem jR{E:List Edge}:∀{f most:Nat} {rooms:List Nat} {at_:Nat} {l:List Nat},Qi E f most rooms at_=some l→∃k,k≤most∧Yy E 1 at_ k
 |0,_,_,_,_,h=>by cases h
 |f+1,most,rooms,at_,l,h=>by
  unfold Qi at h
  split at h
  ·rename_i e;subst e;exact⟨0,ab7 _,0,.nil 0⟩
  ·obtain⟨j,e,h1,h2⟩:=Qs h
   split at h2
   ·cases h2
   ·rename_i r hr
    split at h2
    ·cases h2
    ·rename_i hn
     obtain⟨x,hx,_⟩:=abO.1 h2
     obtain⟨k,k1,k2⟩:=jR hx
     have hc:e.2.2≤most:=alG fun h=>hn (.inr h)
     exact⟨k+e.2.2,by omega,k2.step (Sj (aeJ h1) hr).symm⟩
theorem vA{E:List Edge}{N far:Nat}{back:Nat→Nat}(hE:Zp E N)(hb:Jr E 1 N far back)(hf:∀v k,Qn E 1 v k→k<far){most:Nat}(hm:most<far):∀(f tight:Nat) (rooms:List Nat) (at_:Nat),tight≤most→Rq E back most f tight rooms at_=Qi E f (most-tight) rooms at_
 |0,_,_,_,_=>rfl
 |f+1,tight,rooms,at_,ht=>by
  unfold Rq Qi
  split
  ·rfl
  ·refine Vv fun j e hj=>?_
   have he:=aeJ hj
   cases hr:bW e at_ with
   |none=>rfl
   |some r=>
    simp only
    have hrN:r<N:=by
     rcases Sj he hr with h|h
     ·exact(hE _ _ _ h).2.1
     ·exact(hE _ _ _ h).1
    by_cases h1:r∈rooms
    ·rw[if_pos (.inl h1),if_pos (.inl h1)]
    ·by_cases h2:most-tight<e.2.2
     ·rw[if_pos (.inr (by omega)),if_pos (.inr h2)]
     ·have e1:most-tight-e.2.2=most-(tight+e.2.2):=by omega
      by_cases h3:most<tight+e.2.2+back r
      ·rw[if_pos (.inr h3),if_neg (by rintro(h|h);exact h1 h;exact h2 h)]
       cases hw:Qi E f (most-tight-e.2.2) (r::rooms) r with
       |none=>rfl
       |some x=>
        obtain⟨k,k1,k2⟩:=jR hw
        obtain⟨j,hj⟩:=Qn.ex k2
        have h4:=(hb r hrN).1 j hj
        have h5:=hj.2 k k2
        omega
      ·rw[if_neg (by rintro(h|h);exact h1 h;exact h3 h),if_neg (by rintro(h|h);exact h1 h;exact h2 h),vA hE hb hf hm f (tight+e.2.2) (r::rooms) r (by omega),e1]
end Net
end Go.Ev
namespace Go.Ev
namespace Net
theorem Zp.ends{E:List Edge}{N:Nat}(h:Zp E N):∀a b c,(a,b,c)∈E→a<N∧b<N:=fun a b c e=>⟨(h a b c e).1,(h a b c e).2.1⟩
theorem Zp.one{E:List Edge}{N:Nat}(h:Zp E N):∀a b c,(a,b,c)∈E→c≤1:=fun a b c e=>(h a b c e).2.2.2
end Net
end Go.Ev
namespace Go.Ev
namespace Net
def Oz(E:List Edge):List Nat→Nat→List Nat→Prop
 |_,at_,[]=>at_=1
 |rooms,at_,i::l=>∃e r,E[i]?=some e∧bW e at_=some r∧r∉rooms∧Oz E (r::rooms) r l
def Ee(E:List Edge):List Nat→Nat
 | []=>0
 |i::l=>(E[i]?.map (·.2.2)).getD 0+Ee E l
theorem Rl{E:List Edge}:∀{f most:Nat} {rooms:List Nat} {at_:Nat} {l:List Nat},Qi E f most rooms at_=some l→Oz E rooms at_ l∧Ee E l≤most
 |0,_,_,_,_,h=>by cases h
 |f+1,most,rooms,at_,l,h=>by
  unfold Qi at h
  split at h
  ·rename_i e;cases h;exact⟨e,ab7 _⟩
  ·obtain⟨j,e,h1,h2⟩:=Qs h
   split at h2
   ·cases h2
   ·rename_i r hr
    split at h2
    ·cases h2
    ·rename_i hn
     obtain⟨x,hx,rfl⟩:=abO.1 h2
     obtain⟨k1,k2⟩:=Rl hx
     have hc:e.2.2≤most:=alG fun h=>hn (.inr h)
     rw[agG]
     refine⟨⟨e,r,h1,hr,fun h=>hn (.inl h),k1⟩,?_⟩
     simp only[Ee,h1,abY,akA]
     omega
theorem Yn{f:Nat→Edge→Option (List Nat)}:∀{l:List Edge} {i:Nat},Hv f i l=none→∀j e,l[j]?=some e→f (i+j) e=none
 | [],_,_,j,e,h=>by simp at h
 |a::l,i,h,j,e,hj=>by
  unfold Hv at h
  split at h
  ·cases h
  ·rename_i ha
   cases j with
   |zero=>simp at hj;subst hj;exact ha
   |succ j=>
    have:=Yn h j e (by simpa using hj)
    rwa[show i+(j+1)=i+1+j by omega]
theorem agN{E:List Edge}:∀{f most:Nat} {rooms:List Nat} {at_:Nat} {l:List Nat},Oz E rooms at_ l→Ee E l≤most→l.length<f→Qi E f most rooms at_≠none
 |0,_,_,_,_,_,_,h=>by omega
 |f+1,most,rooms,at_,l,hw,hc,hl=>fun h=>by
  unfold Qi at h
  split at h
  ·cases h
  ·rename_i hne
   cases l with
   |nil=>exact hne hw
   |cons i l=>
    obtain⟨e,r,h1,h2,h3,h4⟩:=hw
    have:=Yn h i e h1
    simp only[Ee,h1,abY,akA]at hc
    rw[agG,h2]at this
    simp only at this
    rw[if_neg (by rintro(h|h);exact h3 h;omega)]at this
    exact agN (most:=most-e.2.2) h4 (by omega) (by simpa using hl) (Option.map_eq_none_iff.1 this)
def Qg(E:List Edge):List Nat→List Nat→Prop
 | [v],[]=>v=1
 |v::u::vs,i::l=>∃e,E[i]?=some e∧bW e v=some u∧Qg E (u::vs) l
 |_,_=>False
theorem Qg.way{E:List Edge}:∀{l vs rooms:List Nat} {v:Nat},Qg E (v::vs) l→vs.Nodup→(∀x∈vs,x∉rooms)→Oz E rooms v l
 | [],[],_,_,h,_,_=>h
 | [],_::_,_,_,h,_,_=>h.elim
 |_::_,[],_,_,h,_,_=>h.elim
 |i::l,u::vs,rooms,v,⟨e,h1,h2,h3⟩,hn,hd=>⟨e,u,h1,h2,hd u (by simp),h3.way (afE.1 hn).2 fun x hx hr=>by
  rcases abT.1 hr with rfl|hr
  ·exact(afE.1 hn).1 hx
  ·exact hd x (abR _ hx) hr⟩
theorem Qg.len{E:List Edge}:∀{l vs:List Nat},Qg E vs l→vs.length=l.length+1
 | [],[_],_=>rfl
 | [],[],h=>h.elim
 | [],_::_::_,h=>h.elim
 |_::_,[],h=>h.elim
 |_::_,[_],h=>h.elim
 |i::l,v::u::vs,⟨_,_,_,h⟩=>by have:=h.len;simp at this ⊢;omega
theorem Qg.cut{E:List Edge}:∀{l vs:List Nat} {v:Nat},Qg E vs l→vs.Nodup→v∈vs→∃vs' l',Qg E (v::vs') l'∧(v::vs').Nodup∧(∀x∈v::vs',x∈vs)∧Ee E l'≤Ee E l
 | [],[],_,h,_,_=>h.elim
 | [],[u],v,h,hn,hv=>by
   simp at hv;subst hv
   exact⟨[],[],h,by simp,fun _ h=>h,abV _⟩
 | [],_::_::_,_,h,_,_=>h.elim
 |_::_,[],_,h,_,_=>h.elim
 |_::_,[_],_,h,_,_=>h.elim
 |i::l,w::u::vs,v,h,hn,hv=>by
  rcases abT.1 hv with rfl|hv
  ·exact⟨_,_,h,hn,fun _ h=>h,abV _⟩
  ·obtain⟨_,_,_,h⟩:=h
   obtain⟨vs',l',k1,k2,k3,k4⟩:=h.cut (afE.1 hn).2 hv
   exact⟨vs',l',k1,k2,fun x hx=>abR _ (k3 x hx),by simp only[Ee];omega⟩
theorem rT{E:List Edge}{N:Nat}(hE:Zp E N)(h1:1<N){n v k:Nat}(h:Na E 1 n v k):∃vs l,Qg E (v::vs) l∧(v::vs).Nodup∧(∀x∈v::vs,x<N)∧Ee E l≤k:=by
 have one:∀{u v c k:Nat} {vs l:List Nat},(u,v,c)∈E∨(v,u,c)∈E→Qg E (u::vs) l→(u::vs).Nodup→(∀x∈u::vs,x<N)→Ee E l≤k→∃vs l,Qg E (v::vs) l∧(v::vs).Nodup∧(∀x∈v::vs,x<N)∧Ee E l≤k+c:=by
  intro u v c k vs l he hp hn hN hc
  by_cases hv:v∈u::vs
  ·obtain⟨vs',l',k1,k2,k3,k4⟩:=hp.cut hn hv
   exact⟨vs',l',k1,k2,fun x hx=>hN x (k3 x hx),by omega⟩
  ·have go:∀e:Edge,e∈E→bW e v=some u→e.2.2=c→v<N→∃vs l,Qg E (v::vs) l∧(v::vs).Nodup∧(∀x∈v::vs,x<N)∧Ee E l≤k+c:=fun e he ht hec hvN=>by
    obtain⟨i,hi⟩:=ajK he
    refine⟨u::vs,i::l,⟨e,hi,ht,hp⟩,afE.2 ⟨hv,hn⟩,fun x hx=>?_,?_⟩
    ·rcases abT.1 hx with rfl|hx
     ·exact hvN
     ·exact hN x hx
    ·simp only[Ee,hi,abY,akA];omega
   rcases he with he|he
   ·have:=hE _ _ _ he
    exact go _ he (by simp[bW,this.2.2.1]) rfl this.2.1
   ·exact go _ he (by simp[bW]) rfl (hE _ _ _ he).1
 induction h with
 |nil n=>exact⟨[],[],rfl,by simp,fun x hx=>by simp at hx;omega,abV _⟩
 |fwd h he ih=>
  obtain⟨vs,l,i1,i2,i3,i4⟩:=ih
  exact one (.inl he) i1 i2 i3 i4
 |bwd h he ih=>
  obtain⟨vs,l,i1,i2,i3,i4⟩:=ih
  exact one (.inr he) i1 i2 i3 i4
theorem gY:∀(N:Nat) (l:List Nat),l.Nodup→(∀x∈l,x<N)→l.length≤N
 |0,[],_,_=>by simp
 |0,a::l,_,h=>absurd (h a (by simp)) (by omega)
 |N+1,l,hn,h=>by
  by_cases e:N∈l
  ·have h1:=gY N (l.erase N) (hn.erase N) fun x hx=>by
    have h2:=h x (alY hx)
    have h3:x≠N:=fun e2=>by subst e2;exact(hn.not_mem_erase) hx
    omega
   rw[amB e]at h1
   omega
  ·exact Nat.le_succ_of_le (gY N l hn fun x hx=>by
    have h2:=h x hx
    have h3:x≠N:=fun e2=>e (e2▸hx)
    omega)
theorem qX{E:List Edge}{s u:Nat}{k:Nat}(h:Yy E s u k):∀{n v j:Nat},Na E u n v j→Yy E s v (k+j):=by
 intro n v j w
 induction w with
 |nil=>exact h
 |fwd w he ih=>obtain h2:=ih.step (.inl he);rwa[alI]at h2
 |bwd w he ih=>obtain h2:=ih.step (.inr he);rwa[alI]at h2
theorem afL{E:List Edge}{s n v k:Nat}(w:Na E s n v k):Yy E v s k:=by
 induction w with
 |nil=>exact⟨0,.nil 0⟩
 | @fwd n a b c k w he ih=>
   obtain⟨m,w2⟩:=ih
   have:=qX ((show Yy E b b 0 from⟨0,.nil 0⟩).step (.inr he)) w2
   rwa[agG,Nat.add_comm]at this
 | @bwd n a b c k w he ih=>
   obtain⟨m,w2⟩:=ih
   have:=qX ((show Yy E a a 0 from⟨0,.nil 0⟩).step (.inl he)) w2
   rwa[agG,Nat.add_comm]at this
theorem adI{E:List Edge}{N k:Nat}(hE:Zp E N)(h1:1<N)(h:Yy E 0 1 k):∃l,Oz E [0] 0 l∧Ee E l≤k∧l.length<N:=by
 obtain⟨n,w⟩:=h
 obtain⟨m,w⟩:=afL w
 obtain⟨vs,l,k1,k2,k3,k4⟩:=rT hE h1 w
 refine⟨l,k1.way (afE.1 k2).2 fun x hx h=>?_,k4,?_⟩
 ·simp at h;subst h;exact(afE.1 k2).1 hx
 ·have:=gY N _ k2 k3
  have:=k1.len
  omega
theorem aoN{E:List Edge}{N k most:Nat}(hE:Zp E N)(h1:1<N)(h:Yy E 0 1 k)(hk:k≤most):∃l,Qi E N most [0] 0=some l:=by
 obtain⟨l,k1,k2,k3⟩:=adI hE h1 h
 have:=agN k1 (Nat.le_trans k2 hk) k3
 cases e:Qi E N most [0] 0 with
 |none=>exact absurd e this
 |some l=>exact⟨l,rfl⟩
theorem Oz.cst{E:List Edge}{s:Nat}:∀{l rooms:List Nat} {at_ k:Nat},Oz E rooms at_ l→Yy E s at_ k→Yy E s 1 (k+Ee E l)
 | [],_,_,_,h,hk=>by cases h;exact hk
 |i::l,_,_,k,⟨e,r,h1,h2,_,h4⟩,hk=>by
  have:=h4.cst (hk.step (Sj (aeJ h1) h2))
  simp only[Ee,h1,abY,akA]
  rwa[←alI]
theorem sS{E:List Edge}{s N far:Nat}{d:Nat→Nat}(hE:Zp E N)(h:Jr E s N far d){u v c:Nat}(hs:oN E u v c):d v≤d u+c:=by
 have hb:u<N∧v<N:=by
  rcases hs with h|h
  ·exact⟨(hE _ _ _ h).1,(hE _ _ _ h).2.1⟩
  ·exact⟨(hE _ _ _ h).2.1,(hE _ _ _ h).1⟩
 obtain⟨u1,u2⟩:=h u hb.1
 obtain⟨v1,v2⟩:=h v hb.2
 by_cases hu:∃k,Yy E s u k
 ·obtain⟨k,hk⟩:=hu
  obtain⟨j,hj⟩:=Qn.ex hk
  have e1:=u1 j hj
  have hc:=hj.1.step hs
  obtain⟨m,hm⟩:=Qn.ex hc
  have e2:=v1 m hm
  have:=hm.2 _ hc
  omega
 ·have hv:∀k,¬Yy E s v k:=fun k hk=>hu ⟨_,hk.step hs.symm⟩
  have e1:=u2 fun k hk=>hu ⟨k,hk⟩
  have e2:=v2 hv
  omega
theorem Oz.len{E:List Edge}{N:Nat}(hE:Zp E N):∀{l rooms:List Nat} {at_:Nat},Oz E rooms at_ l→rooms.Nodup→(∀x∈rooms,x<N)→rooms.length+l.length≤N
 | [],rooms,_,_,hn,hx=>by simpa using gY N rooms hn hx
 |i::l,rooms,at_,⟨e,r,g1,g2,g3,g4⟩,hn,hx=>by
  have hr:r<N:=by
   rcases Sj (aeJ g1) g2 with h|h
   ·exact(hE _ _ _ h).2.1
   ·exact(hE _ _ _ h).1
  have:=g4.len hE (afE.2 ⟨g3,hn⟩) (fun x h=>by
   rcases abT.1 h with rfl|h
   ·exact hr
   ·exact hx x h)
  simp at this ⊢;omega
theorem eK{E:List Edge}{N:Nat}(hE:Zp E N){d:Nat→Nat}(hd:∀u v c,oN E u v c→d v≤d u+c){k:Nat}(h1:k+1≤d 1):∀{l rooms:List Nat} {at_:Nat},Oz E rooms at_ l→d at_≤k→∃i e,i∈l∧E[i]?=some e∧e.2.2=1∧min (d e.1) (d e.2.1)=k∧max (d e.1) (d e.2.1)=k+1
 | [],_,_,h,hk=>by cases h;omega
 |i::l,_,at_,⟨e,r,g1,g2,_,g4⟩,hk=>by
  by_cases hr:d r≤k
  ·obtain⟨j,e',j1,j2⟩:=eK hE hd h1 g4 hr
   exact⟨j,e',abR _ j1,j2⟩
  ·have hm:=aeJ g1
   have:=hd _ _ _ (Sj hm g2)
   have hc:=(hE e.1 e.2.1 e.2.2 hm).2.2.2
   refine⟨i,e,by simp,g1,by omega,?_⟩
   unfold bW at g2
   split at g2
   ·rename_i q;cases g2;subst q;omega
   ·split at g2
    ·rename_i q;cases g2;subst q;omega
    ·cases g2
end Net
end Go.Ev
namespace Go.Ev
namespace Net
def Xi(E:List Edge):List Nat→Nat→List Int→Bool
 |_,at_,[]=>at_==1
 |rooms,at_,i::l=>decide (0≤i)&&(match E[i.toNat]? with
  |none=>false
  |some e=>match bW e at_ with
   |none=>false
   |some r=> !rooms.contains r&&Xi E (r::rooms) r l)
theorem Ri{E:List Edge}:∀{l:List Int} {rooms:List Nat} {at_:Nat},Xi E rooms at_ l=true↔∃l',l=l'.map Int.ofNat∧Oz E rooms at_ l'
 | [],rooms,at_=>by
   simp only[Xi,beq_iff_eq]
   exact⟨fun h=>⟨[],rfl,h⟩,fun⟨l',h1,h2⟩=>by
    cases l' with
    |nil=>exact h2
    |cons _ _=>simp at h1⟩
 |i::l,rooms,at_=>by
  simp only[Xi,afG,decide_eq_true_eq]
  constructor
  ·rintro⟨h0,h⟩
   split at h
   ·cases h
   ·rename_i e he
    split at h
    ·cases h
    ·rename_i r hr
     simp only[afG,amP,amW,decide_eq_false_iff_not]at h
     obtain⟨l',h1,h2⟩:=Ri.1 h.2
     refine⟨i.toNat::l',?_,e,r,he,hr,h.1,h2⟩
     rw[akS,←h1]
     congr 1
     show i=(i.toNat:Int)
     omega
  ·rintro⟨l',h1,h2⟩
   cases l' with
   |nil=>simp at h1
   |cons j l'=>
    rw[akS]at h1
    obtain⟨rfl,rfl⟩:=List.cons.inj h1
    obtain⟨e,r,g1,g2,g3,g4⟩:=h2
    refine⟨by simp,?_⟩
    rw[show(Int.ofNat j).toNat=j from rfl,g1]
    simp only[g2,afG,amP,amW,decide_eq_false_iff_not]
    exact⟨g3,Ri.2 ⟨l',rfl,g4⟩⟩
theorem Pj(E:List Edge):∀(a b:List Nat),Ee E (a++b)=Ee E a+Ee E b
 | [],b=>by simp[Ee]
 |i::a,b=>by rw[akT,Ee,Ee,Pj E a b];omega
theorem vK{E:List Edge}{f c:Nat}{l:List Nat}(hl:Qi E f c [0] 0=some l)(hL:Qn E 0 1 c):Ee E l=c:=by
 obtain⟨h1,h2⟩:=Rl hl
 have:=hL.2 _ (by have:=h1.cst (s:=0) ⟨0,.nil 0⟩;rwa[agG]at this)
 omega
theorem Oz.lt{E:List Edge}:∀{l rooms:List Nat} {at_:Nat},Oz E rooms at_ l→∀i∈l,i<E.length
 | [],_,_,_,i,hi=>by cases hi
 |j::l,_,_,⟨e,r,g1,_,_,g4⟩,i,hi=>by
  rcases abT.1 hi with rfl|hi
  ·exact(abU.1 g1).1
  ·exact g4.lt i hi
end Net
end Go.Ev
namespace Go.Ev
noncomputable section
open Go.RowKit
def nI(x:Int):List Int→List Int
 | []=>[x]
 |y::l=>if x≤y then x::y::l else y::nI x l
def aV:List Int→List Int
 | []=>[]
 |x::l=>nI x (aV l)
theorem Xs(x:Int):∀l:List Int,(nI x l).Perm (x::l)
 | []=>List.Perm.refl _
 |y::l=>by
  unfold nI
  split
  ·exact List.Perm.refl _
  ·exact((Xs x l).cons y).trans (List.Perm.swap x y l)
theorem Uw:∀l:List Int,(aV l).Perm l
 | []=>List.Perm.refl _
 |x::l=>(Xs x _).trans ((Uw l).cons x)
theorem Yb(x:Int):∀{l:List Int},l.Pairwise (· ≤·)→(nI x l).Pairwise (· ≤·)
 | [],_=>by simp[nI]
 |y::l,h=>by
  rw[akP]at h
  unfold nI
  split
  ·rename_i hxy
   refine akP.2 ⟨fun z hz=>?_,akP.2 h⟩
   rcases abT.1 hz with rfl|hz
   ·exact hxy
   ·exact Int.le_trans hxy (h.1 z hz)
  ·rename_i hxy
   refine akP.2 ⟨fun z hz=>?_,Yb x h.2⟩
   rcases abT.1 ((Xs x l).mem_iff.1 hz)with rfl|hz
   ·omega
   ·exact h.1 z hz
theorem We:∀l:List Int,(aV l).Pairwise (· ≤·)
 | []=>List.Pairwise.nil
 |x::l=>Yb x (We l)
theorem wU(l:List Int):(l.mergeSort fun x y=>decide (x≤y))=aV l:=by
 have h1:=List.pairwise_mergeSort (le:=fun x y:Int=>decide (x≤y)) (by simp;omega) (by simp;omega) l
 refine List.Perm.eq_of_pairwise (le:=(· ≤·)) (fun a b _ _ h1 h2=>Int.le_antisymm h1 h2) ?_ (We l) ((List.mergeSort_perm l _).trans (Uw l).symm)
 simpa using h1
theorem rG(l:List Int):(aV l).length=l.length:=(Uw l).length_eq
def aX:List (List AV)→Option (List Int)
 | []=>some []
 | [.int .i64 n]::l=>(aX l).map (n::·)
 |_=>none
theorem dO:∀{rows:List (List AV)} {l:List Int},aX rows=some l→rows=l.map fun n=>[.int .i64 n]
 | [],l,h=>by simp[aX]at h;subst h;rfl
 |r::rows,l,h=>by
  unfold aX at h
  split at h
  ·rename_i e;cases e
  ·rename_i n l' e
   cases e
   obtain⟨l2,h2,rfl⟩:=abO.1 h
   rw[dO h2];rfl
  ·cases h
def qM:List AV→Aa→Option (Cj × Aa)
 | [.slr 1 b 0 len],h=>match h[b]? with
   |some (.live 1 true _ rows)=>if rows.length=len∧1≤len∧len≤549755813888 then(aX rows).map fun zs=>(.ret (.tup []),h.set b (.live 1 true true ((aV zs).map fun n=>[.int .i64 n])))else none
   |_=>none
 |_,_=>none
section
variable {P:Program} {G:Nat→Option Obj}
theorem dG{w:World}{cb:Nat}{c:Array Value}{e:TypeId}{fz:Nat × Nat}(hk:w.heap[cb]?=some (.cells c e fz))(f:Array Value→Array Value):Go.Sort.mapBlock w cb f=setB w cb (.cells (f c) e fz):=by
 unfold Go.Sort.mapBlock setB
 congr 1
 apply Array.ext_getElem?
 intro k
 simp only[Array.getElem?_modify,Array.getElem?_setIfInBounds]
 by_cases h:cb=k
 ·subst h
  have hl:=(Array.getElem?_eq_some_iff.1 hk).1
  rw[if_pos rfl,if_pos rfl,if_pos hl,hk];rfl
 ·rw[if_neg h,if_neg h]
theorem lV(w:World)(n:Nat):Below w.heap.size w (Go.Sort.ahead w n) where
 os:=rfl
 tape:=rfl
 output:=rfl
 size:=abV _
 block:=fun _ _=>rfl
theorem adY{f:Nat}(hen:∀args w,(callFunc f args).run P w=.ok (.enter f args) w)
 (hc:∀(blk off cap:Nat) (zs:List Int) (w:World),Go.Sort.Holds (Value.int .i64) w blk off zs.toArray→blk<w.heap.size→zs.length<4611686018427387904→
   Calls P f #[.slice (some ⟨blk,off,none⟩) zs.length cap] w fun e w'=>e=.returned (.tuple #[])∧∃n os,w'=Go.Sort.grow (Go.Sort.putRow (Value.int .i64) (Go.Sort.ahead w n) blk off (zs.mergeSort fun x y=>decide (x≤y)).toArray) os):Xx P G f qM:=by
 intro args h out h' hp
 refine⟨hen,fun w S ρ cargs hI H dom all hargs=>?_⟩
 unfold qM at hp
 split at hp
 ·rename_i b len
  split at hp
  ·rename_i wr rows hg
   split at hp
   ·rename_i hl
    obtain⟨hl1,hl2,hl3⟩:=hl
    obtain⟨zs,hz,hp⟩:=abO.1 hp
    simp only[Prod.mk.injEq]at hp
    obtain⟨rfl,rfl⟩:=hp
    have hrows:=dO hz
    have hzl:zs.length=len:=by rw[←hl1,hrows];simp
    obtain⟨v,vs',e,hv,hn⟩:=hargs.cons_inv
    have:=hn.nil_inv
    subst this
    have ec:cargs=#[v]:=by apply Array.toList_inj.1;rw[e]
    subst ec
    have hbl:b<h.length:=(abU.1 hg).1
    cases hv with
    |slrD hρ _=>have:=H.dead b hρ;rw[show hf h b=some _ from hg]at this;cases this
    | @slr _ _ _ _ cb co _ sz cap a hρ hle ha=>
      obtain⟨c,e',fz,fl',rows',k1,k2,k3,k4⟩:=H.at_ b cb co 1 sz hρ
      rcases k4 with⟨⟨wr',k4⟩,hS,hfz⟩|⟨k4,_⟩
      ·rw[show hf h b=some _ from hg]at k4
       cases k4
       rcases ha with ha|⟨rfl,hcap⟩
       ·omega
       have hco:co+len≤c.size:=by have:=k3.len;rw[hl1]at this;omega
       have hold:Go.Sort.Holds (Value.int .i64) w cb (co+0*1) zs.toArray:=fun j hj=>by
        have hj':j<zs.length:=by simpa using hj
        have hr:rows[j]?=some [AV.int .i64 zs[j]]:=by rw[hrows,am7,agF hj'];rfl
        obtain⟨v,h1,h2⟩:=k3.cell j _ 0 _ hr rfl
        cases h2
        have hlt:co+j<c.size:=by omega
        refine⟨?_,dR k1 (hfz _ (by rw[←k2];omega))⟩
        rw[Wi k1]
        simp only[Nat.zero_mul,aj9]
        have h1':c[co+j]?=some (Value.int .i64 zs[j]):=by simpa using h1
        rw[h1']
        simp[getElem!_pos,hj']
       rw[←hzl]
       refine(hc cb (co+0*1) cap zs w hold (H.lt hρ) (by omega)).mono fun e w' hw=>?_
       obtain⟨rfl,n,os,rfl⟩:=hw
       rw[wU]
       have hB1:=lV w n
       have H1:=H.below hB1
       have k1':(Go.Sort.ahead w n).heap[cb]?=some (.cells c e' fz):=k1
       have hsl:=rG zs
       generalize aV zs=ys at *
       have hput:Go.Sort.putRow (Value.int .i64) (Go.Sort.ahead w n) cb (co+0*1) ys.toArray=setB (Go.Sort.ahead w n) cb (.cells (Go.Sort.putCells (Value.int .i64) (co+0*1) ys.toArray c) e' fz):=dG k1' _
       rw[hput]
       have hcs:(Go.Sort.putCells (Value.int .i64) (co+0*1) ys.toArray c).size=c.size:=by simp[Go.Sort.putCells]
       have hblk:Dc (Go.Sort.ahead w n) S ρ (Go.Sort.putCells (Value.int .i64) (co+0*1) ys.toArray c) co 1 true (ys.map fun n=>[.int .i64 n]):=by
        refine⟨by rw[hcs];simp;omega,fun r hr=>?_,fun _ r hr x hx=>?_,fun i r j x hr hx=>?_,fun r hr x hx=>?_⟩
        ·obtain⟨n,_,rfl⟩:=ajA.1 hr;rfl
        ·obtain⟨n,_,rfl⟩:=ajA.1 hr;simp at hx;subst hx;rfl
        ·rw[am7]at hr
         obtain⟨m,hm,rfl⟩:=abO.1 hr
         have hi:i<ys.length:=(abU.1 hm).1
         have hx':j=0∧x=.int .i64 m:=by
          cases j with
          |zero=>simp at hx;exact⟨rfl,hx.symm⟩
          |succ j=>simp at hx
         obtain⟨rfl,rfl⟩:=hx'
         refine⟨.int .i64 m,?_,.int _ _⟩
         simp only[Go.Sort.putCells,Array.getElem?_mapIdx,Nat.mul_one,aj9,Nat.zero_mul,aj9]
         rw[Array.getElem?_eq_getElem (by omega),abY,if_pos ⟨by omega,by simp;omega⟩,show co+i-co=i by omega]
         have:ys[i]?=some m:=hm
         have h2:=abU.1 hm
         simp[getElem!_pos,h2.1,h2.2]
        ·obtain⟨n,_,rfl⟩:=ajA.1 hr;simp at hx;subst hx;rfl
       have H2:=H1.setLive (wr:=true) hρ hS (e:=e') (fz:=fz) (by rw[hcs];exact k2) hfz ⟨_,_,_,k1'⟩ hblk
       have hs2:=Dk.setB (w:=Go.Sort.ahead w n) hρ hS ⟨_,_,_,k1'⟩ (.cells (Go.Sort.putCells (Value.int .i64) (co+0*1) ys.toArray c) e' fz)
       generalize hw2:setB (Go.Sort.ahead w n) cb (.cells (Go.Sort.putCells (Value.int .i64) (co+0*1) ys.toArray c) e' fz)=w2 at *
       have hB3:=aE (w:=w2) (abV _) os
       have H3:=H2.below hB3
       refine⟨.tuple #[],S,ρ,⟨⟨_,rfl⟩,rfl⟩,.tup rfl (fun i x v hx _=>by simp at hx),by rw[mY hbl];exact H3,((Dk.below H hB1).trans hs2).trans (Dk.below H2 hB3),fun b' hb'=>dom b' (by simpa using hb'),fun b' hb'=>all b' (by simpa using hb'),by simp,fun i x x' hx hx' hsm=>?_⟩
       by_cases e:i=b
       ·subst e
        rw[hg]at hx;cases hx
        rw[alE hbl]at hx';cases hx'
        simp[CB.same]at hsm
       ·refine⟨rfl,fun cb' co' st' sz' hb'=>?_⟩
        have hne:cb'≠cb:=fun q=>e (H.inj _ _ _ _ _ _ _ _ _ hb' (q▸hρ))
        have hl':cb'<w.heap.size:=H.lt hb'
        have hw2s:w2.heap.size=w.heap.size:=by rw[←hw2];simp[setB,Go.Sort.ahead]
        rw[hB3.block cb' (by rw[hw2s];exact hl'),←hw2,Am hne]
        rfl
      ·rw[show hf h b=some _ from hg]at k4;cases k4
   ·cases hp
  ·cases hp
 ·cases hp
end
def fC(fI fJ fS:Nat)(md:Nat→Bool):Jq:={ at_:=fun f=>if f=fI then some pH else if f=fJ then some iL else none,md:=md,sh:=fun f=>if f=fS then some qM else none }
theorem sO{P:Program}{G:Nat→Option Obj}{fI fJ fS:Nat}{md:Nat→Bool}(hI:Xx P G fI pH)(hJ:Xx P G fJ iL)(hS:Xx P G fS qM):fM P G (fC fI fJ fS md):=by
 refine⟨fun f p hp=>?_,fun f p hp=>?_⟩
 ·simp only[fC]at hp
  split at hp
  ·rename_i e;subst e;cases hp;exact hI
  ·split at hp
   ·rename_i e;subst e;cases hp;exact hJ
   ·cases hp
 ·simp only[fC]at hp
  split at hp
  ·rename_i e;subst e;cases hp;exact hS
  ·cases hp
end
end Go.Ev
