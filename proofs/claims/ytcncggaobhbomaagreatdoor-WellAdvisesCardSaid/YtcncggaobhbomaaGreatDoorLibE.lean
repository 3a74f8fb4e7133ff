/- The evaluator and its soundness. -/
import Derived.Test.YtcncggaobhbomaaGreatDoorLibD
open And renaming intro→aaB
open Eq renaming trans→aaM
open Option renaming map_eq_some_iff→abV,bind_eq_some_iff→abZ,bind_some→ab9,some→afO,map_some→afU
open List renaming mem_cons_of_mem→acH,mem_cons_self→aeN,mem_append→ae5,mem_cons→afC,mem_append_left→ag0,mem_append_right→ag1,getElem?_eq_some_iff→ag2,all_eq_true→ag5,nil_append→ai9,getElem?_eq_getElem→akD,append_nil→amE,getElem?_append_left→amX,length_cons→amZ,mem_of_getElem?→apI,getElem?_set_ne→apJ,foldl_cons→apL,cons_append→apM,replicate→apP,range→as6,flatMap_cons→aw3,getElem?_append_right→axH,mem_map→axI,getElem?_of_mem→axJ,length_append→axK,getElem?_map→axL,length_nil→axM,set_cons_succ→axP,range_zero→axR,any_eq_true→ax2,prefix_refl→ayV,getElem?_eq_none_iff→aJY,getElem?_set_self→aLB,getD_eq_getElem?_getD→aNZ
open Nat renaming le_refl→aeQ,zero_le→aiJ,zero_add→apN
open Bool renaming or_true→apH,and_eq_true→aqK,false_eq_true→axQ,or_eq_true→axS,not_eq_true'→ax3,not_eq_eq_eq_not→ayP
set_option linter.unusedSimpArgs false
set_option linter.unusedVariables false
namespace Go.Ev
open Go.RowKit
section
variable {P:Program} {pr pr2:aW}
theorem ajH(hmd:pr2.md=pr.md)(hsh:∀f,pr2.sh f=pr.sh f)(h0:∀f,pr2 f=none→pr f=none)(h1:∀f p,pr2 f=some p→∀a h r,p a h=some r→(om P pr).call (.fn f) a h=some r):∀n,Cov (eG P pr2 n) (fun _=>om P pr)
 |0=>⟨fun h=>by simp[eG]at h,fun h=>by simp[eG]at h,fun _=>hmd.symm⟩
 |n+1=>by
  have ih:=ajH hmd hsh h0 h1 n
  have hs:=yU (P:=P) (pr:=pr2) ih
  rw[atG]
  refine⟨fun {f a h r} hc=>?_,fun {c s r} hl=>?_,fun _=>hmd.symm⟩
  ·have:=(hs.call hc).const
   refine .of fun _=>?_
   cases f with
   |round=>exact ad0 this
   |fn f=>
    simp only[stepO]at this
    cases hp:pr2 f with
    |some p=>rw[hp]at this;exact h1 f p hp a h r this
    |none=>rw[hp]at this;exact aRT (h0 f hp) this
   |sh f=>
    simp only[stepO]at this
    cases hs:pr2.sh f with
    |some p=>rw[hs]at this;exact aYC ((hsh f).symm.trans hs) this
    |none=>
     rw[hs]at this
     simp only at this
     cases hp:pr2 f with
     |some p=>rw[hp]at this;simp at this
     |none=>rw[hp]at this;exact aUU (h0 f hp) ((hsh f).symm.trans hs) this
  ·have:=(hs.loop hl).const
   refine .of fun _=>?_
   simp only[stepO,iW]at this
   cases hm:Sm (om P pr) P Yd c [] s with
   |none=>rw[hm]at this;simp at this
   |some x=>
    obtain⟨e,s'⟩:=x
    rw[hm]at this
    cases e with
    |normal=>exact nX hm this
    |exit i=>simp only[afO.injEq]at this;subst this;exact Zf hm (by simp)
    |ret=>simp only[afO.injEq]at this;subst this;exact Zf hm (by simp)
    |pan v=>simp only[afO.injEq]at this;subst this;exact Zf hm (by simp)
theorem aeO(hmd:pr2.md=pr.md)(h0:∀f,pr2 f=none→pr f=none)(h1:∀f p,pr2 f=some p→∀a h r,p a h=some r→(om P pr).call (.fn f) a h=some r){n:Nat}{f:dC}{a:List AV}{h:Qa}{r:Tz × Qa}(hc:(eG P pr2 n).call f a h=some r)(hsh:∀f,pr2.sh f=pr.sh f:=by exact fun _=>rfl):(om P pr).call f a h=some r:=
 ((ajH hmd hsh h0 h1 n).call hc).const
end
end Go.Ev
namespace Go.Ev
noncomputable section
set_option maxRecDepth 100000
def EVa:=PLift.up (aaB @arG (aaB @ayG (aaB @a0O (aaB @awL (aaB @an1 (aaB @auK (aaB @avA (aaB @aH6 (aaB @List.map_cons.{0,0} (aaB @List.map_nil.{0,0} (aaB @afU.{0,0} (aaB @Option.map_none.{0,0} (aaB @List.getElem?_cons_zero.{0} (aaB @List.getElem?_cons_succ.{0} (aaB @ab9.{0,0} (aaB @a5Q (aaB @blE (aaB @bk3 (aaB @axX (aaB @aVT (aaB @aYA (aaB @a64 (aaB @bdL (aaB @bdK (aaB @apV (aaB @bi0 (aaB @bmA (aaB @axV (aaB @aXY (aaB @a3R (aaB @aQL (aaB @akO (aaB @aJ4 (aaB @aNV (aaB @Nat.add_assoc (aaB @List.append_assoc.{0} @axK.{0}))))))))))))))))))))))))))))))))))))
def EVb:=PLift.up (aaB @List.length_replicate.{0} (aaB @List.length_map.{0,0} (aaB @Int.natCast_nonneg (aaB @Int.toNat_natCast (aaB @axL.{0,0} (aaB @ayU (aaB @al7 (aaB @ayE (aaB @a0Q (aaB @bj1 (aaB @aIE (aaB @aqN (aaB @au1 (aaB @a73 (aaB @bgC (aaB @biF (aaB @baK (aaB @azO (aaB @ahI (aaB @atD (aaB @oY (aaB @aCH (aaB @avI (aaB @aQR (aaB @bgE (aaB @bkK (aaB @bkS (aaB @blU (aaB @bkO (aaB @bgP (aaB @bmD (aaB @biM (aaB @bkW (aaB @bmJ @biH))))))))))))))))))))))))))))))))))
def EVc:=PLift.up (aaB @aLA (aaB @aq0 (aaB @atL (aaB @aEQ (aaB @aQ3 (aaB @cT (aaB @aqP (aaB @asI (aaB @adY (aaB @aQH (aaB @aWL (aaB @arN (aaB @bkN (aaB @aqF (aaB @au9 (aaB @auP (aaB @amJ (aaB @uX (aaB @xQ (aaB @aqL (aaB @aa9 (aaB @yE (aaB @ap7 (aaB @amV (aaB @ao6 (aaB @auW (aaB @auN (aaB @aBU (aaB @aIX (aaB @a01 (aaB @aEY (aaB @a4B @aHX))))))))))))))))))))))))))))))))
def EVd:=PLift.up (aaB @a6Y (aaB @a42 (aaB @aDZ (aaB @avO (aaB @a35 (aaB @aNE (aaB @bbH (aaB @aQJ (aaB @a5S (aaB @a4Z (aaB @ba5 (aaB @baT (aaB @a3Z (aaB @ax8 (aaB @List.all_cons.{0} (aaB @List.all_nil.{0} (aaB @ai9.{0} (aaB @amE.{0} (aaB @apM.{0} (aaB @amZ.{0} (aaB @axM.{0} (aaB @List.take_succ_cons.{0} (aaB @List.take_zero.{0} (aaB @List.drop_succ_cons.{0} (aaB @List.drop_zero.{0} (aaB @List.take_nil.{0} (aaB @List.set_cons_zero.{0} (aaB @axP.{0} (aaB @aK8 @baP)))))))))))))))))))))))))))))
def EVe:=PLift.up (aaB @ax9 (aaB @aO0 (aaB @baJ (aaB @baI (aaB @bcM (aaB @aCS (aaB @ba1 (aaB @ayJ (aaB @ayN (aaB @a5H (aaB @bcN (aaB @aYL (aaB @Bool.and_self (aaB @Bool.and_true (aaB @Bool.true_and (aaB @Bool.false_and (aaB @Bool.and_false (aaB @apH (aaB @Bool.or_false (aaB @Bool.true_or (aaB @Bool.not_true (aaB @Bool.not_false (aaB @apN (aaB @Nat.add_zero (aaB @axQ (aaB @true_and (aaB @and_true (aaB @and_self (aaB @aeQ (aaB @bcR (aaB @aFF (aaB @asP @aqV))))))))))))))))))))))))))))))))
def EVf:=PLift.up (aaB @bkX (aaB @bmR (aaB @axW (aaB @baR (aaB @beC (aaB @akM (aaB @ad8 (aaB @atQ (aaB @bcP (aaB @aj7 (aaB @ayA (aaB @anW (aaB @aOA (aaB @bdB (aaB @bf6 (aaB @biN (aaB @arO (aaB @atM (aaB @ag3 (aaB @a1X (aaB @arD (aaB @apX (aaB @bc9 (aaB @biB (aaB @aVO (aaB @a5U (aaB @aqC (aaB @bkZ (aaB @bk0 (aaB @aEN (aaB @bbV (aaB @aZF (aaB @bb5 (aaB @bb4 (aaB @a23 @bkY)))))))))))))))))))))))))))))))))))
def EVg:=PLift.up (aaB @aNO (aaB @ar8 (aaB @zS (aaB @wZ (aaB @aG2 (aaB @a5O (aaB @ayW (aaB @a5G (aaB @aHY (aaB @uD (aaB @asL (aaB @anO (aaB @aC5 (aaB @a6B (aaB @a8F (aaB @bcI (aaB @ba2 (aaB @List.any_cons.{0} (aaB @List.any_nil.{0} (aaB @bcJ (aaB @as2 (aaB @aeT (aaB @abT (aaB @amN (aaB @ah8 (aaB @List.replicate_succ.{0} (aaB @List.replicate_zero.{0} (aaB @or_self (aaB @ne_eq.{1} @not_true_eq_false)))))))))))))))))))))))))))))
def EVh:=PLift.up (aaB @awC (aaB @as5 (aaB @atN (aaB @al4 (aaB @anN (aaB @bi4 (aaB @arF @ay8)))))))
section
variable {P:Program} {O:Ue}
theorem vB{C:R→Prop}{b:Bool}{k:R}(hb:b=true)(h:True→C k):C (Vj b k):=aT2 hb (h trivial)
end
end
noncomputable section
open Go.RowKit
theorem anX(b:Nat):place [] b=(0,[b]):=aaM rfl rfl
theorem ai2(a b:Nat)(m:List Nat):place (a::m) b=if a=b then(0,a::m)else((place m b).1+1,a::(place m b).2):=by
 unfold place
 rw[List.idxOf?_cons]
 by_cases h:a=b
 ·simp[h]
 ·simp only[h,if_false,beq_iff_eq]
  cases List.idxOf? b m<;>simp
section
variable {P:Program} {O:Ue}
theorem aBV(d:Nat)(m:List Nat)(b:Bool):Rk (d+1) m (.bool b)=some (.bool b,m):=aaM rfl rfl
theorem bcB(d:Nat)(m:List Nat)(k:IntKind)(n:Int):Rk (d+1) m (.int k n)=some (.int k n,m):=aaM rfl rfl
theorem aPI(d:Nat)(m:List Nat):Rk (d+1) m .nils=some (.nils,m):=aaM rfl rfl
theorem a8P(d:Nat)(m:List Nat)(n:Nat)(fl:Bool)(rows:List (List AV)):Rk (d+1) m (.imm n fl rows)=some (.imm n fl rows,m):=aaM rfl rfl
theorem a1W(d:Nat)(m:List Nat)(n:Nat)(fl nn:Bool)(rows:List (List AV)):Rk (d+1) m (Rh n fl nn rows)=some (Rh n fl nn rows,m):=Yc m (cT d n fl nn rows)
theorem bbP(d:Nat)(m:List Nat)(b r o:Nat):Rk (d+1) m (.ptr b r o)=some (.ptr (place m b).1 r o,(place m b).2):=aaM rfl rfl
theorem aXB(d:Nat)(m:List Nat)(st b r len:Nat):Rk (d+1) m (.slr st b r len)=some (.slr st (place m b).1 r len,(place m b).2):=aaM rfl rfl
def rfA(x:Option (List AV × List Nat)):Option (AV × List Nat):=x.map fun(cs,m)=>(.agg cs,m)
def rfT(x:Option (List AV × List Nat)):Option (AV × List Nat):=x.map fun(cs,m)=>(.tup cs,m)
theorem aw7(cs:List AV)(m:List Nat):rfA (some (cs,m))=some (.agg cs,m):=aaM rfl rfl
theorem au5(cs:List AV)(m:List Nat):rfT (some (cs,m))=some (.tup cs,m):=aaM rfl rfl
theorem aX6(d:Nat)(m:List Nat)(cs:List AV):Rk (d+1) m (.agg cs)=rfA (Rk.refL (Rk d) m cs):=aaM rfl rfl
theorem a9U(d:Nat)(m:List Nat)(cs:List AV):Rk (d+1) m (.tup cs)=rfT (Rk.refL (Rk d) m cs):=aaM rfl rfl
def rfG(fn:Fn)(a:List AV)(x:Option (List AV × List Nat)):Option (AV × List Nat):=x.map fun(b,m)=>(.func fn a b,m)
def rfF(fn:Fn)(d:Nat)(b:List AV)(x:Option (List AV × List Nat)):Option (AV × List Nat):=x.bind fun(a,m)=>rfG fn a (Rk.refL (Rk d) m b)
theorem aw5(fn:Fn)(a b:List AV)(m:List Nat):rfG fn a (some (b,m))=some (.func fn a b,m):=aaM rfl rfl
theorem asG(fn:Fn)(d:Nat)(a b:List AV)(m:List Nat):rfF fn d b (some (a,m))=rfG fn a (Rk.refL (Rk d) m b):=aaM rfl rfl
theorem aD5(d:Nat)(m:List Nat)(fn:Fn)(a b:List AV):Rk (d+1) m (.func fn a b)=rfF fn d b (Rk.refL (Rk d) m a):=aaM rfl rfl
def rfD(v:AV)(x:Option (List AV × List Nat)):Option (List AV × List Nat):=x.map fun(vs,m)=>(v::vs,m)
def rfC(f:List Nat→AV→Option (AV × List Nat))(vs:List AV)(x:Option (AV × List Nat)):Option (List AV × List Nat):=x.bind fun(v,m)=>rfD v (Rk.refL f m vs)
theorem aqG(v:AV)(vs:List AV)(m:List Nat):rfD v (some (vs,m))=some (v::vs,m):=aaM rfl rfl
theorem atO(f:List Nat→AV→Option (AV × List Nat))(vs:List AV)(v:AV)(m:List Nat):rfC f vs (some (v,m))=rfD v (Rk.refL f m vs):=aaM rfl rfl
theorem ax0(f:List Nat→AV→Option (AV × List Nat))(m:List Nat):Rk.refL f m []=some ([],m):=aaM rfl rfl
theorem avL(f:List Nat→AV→Option (AV × List Nat))(m:List Nat)(v:AV)(vs:List AV):Rk.refL f m (v::vs)=rfC f vs (f m v):=aaM rfl rfl
def rrD(cs:List AV)(x:Option (List (List AV) × List Nat)):Option (List (List AV) × List Nat):=x.map fun(rs,m)=>(cs::rs,m)
def rrC(rs:List (List AV))(x:Option (List AV × List Nat)):Option (List (List AV) × List Nat):=x.bind fun(cs,m)=>rrD cs (Xc m rs)
theorem aqB(cs:List AV)(rs:List (List AV))(m:List Nat):rrD cs (some (rs,m))=some (cs::rs,m):=aaM rfl rfl
theorem aqO(rs:List (List AV))(cs:List AV)(m:List Nat):rrC rs (some (cs,m))=rrD cs (Xc m rs):=aaM rfl rfl
theorem baU(m:List Nat):Xc m []=some ([],m):=aaM rfl rfl
theorem aQK(m:List Nat)(cs:List AV)(rs:List (List AV)):Xc m (cs::rs)=rrC rs (Rk.refL (Rk 8) m cs):=aaM rfl rfl
def rbV(st:Nat)(w:Bool)(x:Option (List (List AV) × List Nat)):Option (CB × List Nat):=x.map fun(rows,m)=>(.live st false w rows,m)
theorem apY(st:Nat)(w:Bool)(rows:List (List AV))(m:List Nat):rbV st w (some (rows,m))=some (.live st false w rows,m):=aaM rfl rfl
theorem bmL(m:List Nat)(st:Nat)(w:Bool)(rows:List (List AV)):gY m (.live st true w rows)=some (.live st true w rows,m):=aaM rfl rfl
theorem bkM(m:List Nat)(st:Nat)(w:Bool)(rows:List (List AV)):gY m (.live st false w rows)=rbV st w (Xc m rows):=aaM rfl rfl
def pcE(c:CB)(x:Option (List CB × List Nat)):Option (List CB × List Nat):=x.map fun(cs,m)=>(c::cs,m)
def pcR(n:Nat)(h:Qa)(i:Nat)(x:Option (CB × List Nat)):Option (List CB × List Nat):=x.bind fun(c,m)=>pcE c (Xq n (hf h) (i+1) m)
def pcB(n:Nat)(h:Qa)(i:Nat)(m:List Nat)(x:Option CB):Option (List CB × List Nat):=x.bind fun c=>pcR n h i (gY m c)
def pcK(n:Nat)(h:Qa)(i:Nat)(m:List Nat)(x:Option Nat):Option (List CB × List Nat):=
 match x with
 |none=>some ([],m)
 |some b=>pcB n h i m (h[b]?)
theorem auT(c:CB)(cs:List CB)(m:List Nat):pcE c (some (cs,m))=some (c::cs,m):=aaM rfl rfl
theorem as7(n:Nat)(h:Qa)(i:Nat)(c:CB)(m:List Nat):pcR n h i (some (c,m))=pcE c (Xq n (hf h) (i+1) m):=aaM rfl rfl
theorem ap2(n:Nat)(h:Qa)(i:Nat)(m:List Nat)(c:CB):pcB n h i m (some c)=pcR n h i (gY m c):=aaM rfl rfl
theorem aq2(n:Nat)(h:Qa)(i:Nat)(m:List Nat):pcK n h i m none=some ([],m):=aaM rfl rfl
theorem auU(n:Nat)(h:Qa)(i:Nat)(m:List Nat)(b:Nat):pcK n h i m (some b)=pcB n h i m (h[b]?):=aaM rfl rfl
theorem blV(n:Nat)(h:Qa)(i:Nat)(m:List Nat):Xq (n+1) (hf h) i m=pcK n h i m (m[i]?):=by
 unfold Xq pcK
 cases m[i]?<;>rfl
def pkB(vs:List AV)(x:Option (List CB × List Nat)):Option (List AV × List CB × List Nat):=x.map fun(cs,m)=>(vs,cs,m)
def pkA(h:Qa)(x:Option (List AV × List Nat)):Option (List AV × List CB × List Nat):=x.bind fun(vs,m)=>pkB vs (Xq 5000 (hf h) 0 m)
theorem arC(vs:List AV)(cs:List CB)(m:List Nat):pkB vs (some (cs,m))=some (vs,cs,m):=aaM rfl rfl
theorem avC(h:Qa)(vs:List AV)(m:List Nat):pkA h (some (vs,m))=pkB vs (Xq 5000 (hf h) 0 m):=aaM rfl rfl
theorem bgQ(h:Qa)(m:List Nat)(vs:List AV):Xy (hf h) m vs=pkA h (Rk.refL (Rk 8) m vs):=aaM rfl rfl
def upK(h:Qa)(lent:List Nat)(v:Option AV)(ps ns:Option (List Qd))(o:AV→Tz):OE:=v.bind fun v=>ps.bind fun ps=>ns.bind fun ns=>
 some (o v,(if lent.isEmpty|| !(hasImm 8 v||(ps++ns).any Qd.hasImm)then []else Tn (hf h) lent)++ps++ns)
def crU(h:Qa)(base:Nat)(lent m:List Nat)(cs:List CB)(x:Option (Tz × Qa)):OE:=
 match x with
 |some (.ret v,h')=>upK h lent (Rq 8 (Ut m base) v) (Vu (Ut m base) m cs (h'.take m.length)) (Xa (Ut m base) base (h'.drop m.length)) .ret
 |some (.pan v,h')=>upK h lent (Rq 8 (Ut m base) v) (Vu (Ut m base) m cs (h'.take m.length)) (Xa (Ut m base) base (h'.drop m.length)) .pan
 |none=>none
def crP(O:Ue)(h:Qa)(base:Nat)(f:dC)(lent:List Nat)(x:Option (List AV × List CB × List Nat)):OE:=x.bind fun(vs,cs,m)=>
 if lent.any (m.contains ·)then none else crU h base lent m cs (O.call f vs (cs.map CB.clean))
def crQ(O:Ue)(h:Qa)(base:Nat)(f:dC)(lent:List Nat)(x:Option (List AV)):OE:=x.bind fun vs=>crP O h base f lent (Xy (hf h) [] vs)
theorem bn4(h:Qa)(base:Nat)(f:dC)(args:List AV):cr (wU O (hf h) base f args)=crQ O h base f (args.flatMap (Qp 12 (hf h))) (Qo (qG h) args):=by
 unfold wU Sv crQ qG
 cases Qo (Vk 12 (hf h)) args with
 |none=>rfl
 |some vs=>
  simp only[ab9]
  unfold crP
  cases Xy (hf h) [] vs with
  |none=>rfl
  |some x=>
   obtain⟨vs',cs,m⟩:=x
   simp only[ab9]
   split
   ·rfl
   ·cases O.call f vs' (cs.map CB.clean)with
    |none=>rfl
    |some y=>
     obtain⟨out,h'⟩:=y
     simp only[ab9,Ys]
     unfold crU upK
     cases out with
     |ret v=>
      simp only[Tz.v]
      cases Rq 8 (Ut m base) v with
      |none=>rfl
      |some v=>
       cases Vu (Ut m base) m cs (h'.take m.length)with
       |none=>rfl
       |some ps=>cases Xa (Ut m base) base (h'.drop m.length)<;>rfl
     |pan v=>
      simp only[Tz.v]
      cases Rq 8 (Ut m base) v with
      |none=>rfl
      |some v=>
       cases Vu (Ut m base) m cs (h'.take m.length)with
       |none=>rfl
       |some ps=>cases Xa (Ut m base) base (h'.drop m.length)<;>rfl
theorem av8(h:Qa)(base:Nat)(f:dC)(lent:List Nat)(vs:List AV):crQ O h base f lent (some vs)=crP O h base f lent (Xy (hf h) [] vs):=aaM rfl rfl
theorem aqI(h:Qa)(base:Nat)(f:dC)(lent:List Nat)(vs:List AV)(cs:List CB)(m:List Nat):crP O h base f lent (some (vs,cs,m))=if lent.any (m.contains ·)=true then none else crU h base lent m cs (O.call f vs (cs.map CB.clean)):=aaM rfl rfl
theorem ayM(h:Qa)(base:Nat)(lent m:List Nat)(cs:List CB)(v:AV)(h':Qa):crU h base lent m cs (some (.ret v,h'))=upK h lent (Rq 8 (Ut m base) v) (Vu (Ut m base) m cs (h'.take m.length)) (Xa (Ut m base) base (h'.drop m.length)) .ret:=aaM rfl rfl
theorem asR(h:Qa)(lent:List Nat)(v:AV)(ps ns:List Qd)(o:AV→Tz):upK h lent (some v) (some ps) (some ns) o=some (o v,(if(lent.isEmpty|| !(hasImm 8 v||(ps++ns).any Qd.hasImm))=true then []else Tn (hf h) lent)++ps++ns):=aaM rfl rfl
theorem ayO(st:Nat)(fl w:Bool)(rows:List (List AV)):CB.clean (.live st fl w rows)=.live st fl false rows:=aaM rfl rfl
theorem aDG(d:Nat)(g:HF)(b:Bool):Qp (d+1) g (.bool b)=[]:=aaM rfl rfl
theorem aYG(d:Nat)(g:HF)(k:IntKind)(n:Int):Qp (d+1) g (.int k n)=[]:=aaM rfl rfl
theorem aC8(d:Nat)(g:HF):Qp (d+1) g .nils=[]:=aaM rfl rfl
theorem a5P(d:Nat)(g:HF)(n:Nat)(fl:Bool)(rows:List (List AV)):Qp (d+1) g (.imm n fl rows)=[]:=aaM rfl rfl
theorem aWJ(d:Nat)(g:HF)(b r o:Nat):Qp (d+1) g (.ptr b r o)=[]:=aaM rfl rfl
theorem aC6(d:Nat)(g:HF)(fn:Fn)(a b:List AV):Qp (d+1) g (.func fn a b)=[]:=aaM rfl rfl
theorem aYI(d:Nat)(g:HF)(n:Nat)(fl nn:Bool)(rows:List (List AV)):Qp (d+1) g (Rh n fl nn rows)=[]:=cX g (d:=1) (by omega) (cT 0 n fl nn rows)
theorem a7D(d:Nat)(g:HF)(cs:List AV):Qp (d+1) g (.agg cs)=cs.flatMap (Qp d g):=aaM rfl rfl
def lvS(b:Nat)(c:Option CB)(q:AV→List Nat)(r len:Nat):List Nat:=
 b::match c with
 |some (.live _ fl _ rows)=>if r+len≤rows.length then(if fl then []else((rows.drop r).take len).flatMap fun cs=>cs.flatMap q)else []
 |some (.frz _ fl rows)=>if r+len≤rows.length then(if fl then []else((rows.drop r).take len).flatMap fun cs=>cs.flatMap q)else []
 |_=>[]
theorem wS(d:Nat)(h:Qa)(st b r len:Nat):Qp (d+1) (hf h) (.slr st b r len)=lvS b (h[b]?) (Qp d (hf h)) r len:=by
 have e:Qp (d+1) (hf h) (.slr st b r len)=b::(match Ul (hf h) b r len with|some (_,fl,rows)=>if fl then []else rows.flatMap fun cs=>cs.flatMap (Qp d (hf h))|none=>[]):=rfl
 rw[e]
 generalize Qp d (hf h)=q
 unfold Ul lvS
 have eh:hf h b=h[b]?:=rfl
 rw[eh]
 cases h[b]? with
 |none=>rfl
 |some c=>
  cases c with
  |live st fl w rows=>simp only;by_cases hq:r+len≤rows.length<;>simp[hq]
  |frz st fl rows=>simp only;by_cases hq:r+len≤rows.length<;>simp[hq]
  |_=>rfl
theorem blO(b:Nat)(st:Nat)(w:Bool)(rows:List (List AV))(q:AV→List Nat)(r len:Nat):lvS b (some (.live st true w rows)) q r len=[b]:=by simp[lvS]
theorem bi1(m:List Nat)(base i:Nat):Ut m base i=if i<m.length then m.getD i base else base+(i-m.length):=aaM rfl rfl
theorem aA6(d:Nat)(f:Nat→Nat)(b:Bool):Rq (d+1) f (.bool b)=some (.bool b):=aaM rfl rfl
theorem aYD(d:Nat)(f:Nat→Nat)(k:IntKind)(n:Int):Rq (d+1) f (.int k n)=some (.int k n):=aaM rfl rfl
theorem bcO(d:Nat)(f:Nat→Nat)(n:Nat)(fl nn:Bool)(rows:List (List AV)):Rq (d+1) f (Rh n fl nn rows)=some (Rh n fl nn rows):=Zh f (cT d n fl nn rows)
theorem a8J(d:Nat)(f:Nat→Nat)(b r o:Nat):Rq (d+1) f (.ptr b r o)=some (.ptr (f b) r o):=aaM rfl rfl
theorem bdQ(d:Nat)(f:Nat→Nat)(st b r len:Nat):Rq (d+1) f (.slr st b r len)=some (.slr st (f b) r len):=aaM rfl rfl
def rnA(x:Option (List AV)):Option AV:=x.map .agg
def rnT(x:Option (List AV)):Option AV:=x.map .tup
theorem auM(cs:List AV):rnA (some cs)=some (.agg cs):=aaM rfl rfl
theorem asX(cs:List AV):rnT (some cs)=some (.tup cs):=aaM rfl rfl
theorem aYK(d:Nat)(f:Nat→Nat)(cs:List AV):Rq (d+1) f (.agg cs)=rnA (Qo (Rq d f) cs):=aaM rfl rfl
theorem a43(d:Nat)(f:Nat→Nat)(cs:List AV):Rq (d+1) f (.tup cs)=rnT (Qo (Rq d f) cs):=aaM rfl rfl
def rnG(fn:Fn)(a:List AV)(x:Option (List AV)):Option AV:=x.map fun b=>.func fn a b
def rnF(fn:Fn)(b:Option (List AV))(x:Option (List AV)):Option AV:=x.bind fun a=>rnG fn a b
theorem ar6(fn:Fn)(a b:List AV):rnG fn a (some b)=some (.func fn a b):=aaM rfl rfl
theorem atZ(fn:Fn)(b:Option (List AV))(a:List AV):rnF fn b (some a)=rnG fn a b:=aaM rfl rfl
theorem azB(d:Nat)(f:Nat→Nat)(fn:Fn)(a b:List AV):Rq (d+1) f (.func fn a b)=rnF fn (Qo (Rq d f) b) (Qo (Rq d f) a):=aaM rfl rfl
def rbW(st:Nat)(w:Bool)(x:Option (List (List AV))):Option CB:=x.map (.live st false w)
theorem as8(st:Nat)(w:Bool)(rows:List (List AV)):rbW st w (some rows)=some (.live st false w rows):=aaM rfl rfl
theorem bjB(f:Nat→Nat)(st:Nat)(w:Bool)(rows:List (List AV)):Vm f (.live st true w rows)=some (.live st true w rows):=aaM rfl rfl
theorem bl2(f:Nat→Nat)(st:Nat)(w:Bool)(rows:List (List AV)):Vm f (.live st false w rows)=rbW st w (Qo (Qo (Rq 8 f)) rows):=aaM rfl rfl
def peE(b:Nat)(c:Option CB)(x:Option (List Qd)):Option (List Qd):=c.bind fun c=>x.map fun es=>.put b c::es
def peK(f:Nat→Nat)(b:Nat)(c:CB)(same bad:Bool)(x:Option (List Qd)):Option (List Qd):=bif same then x else bif bad then none else peE b (Vm f c) x
theorem bmP(f:Nat→Nat)(b:Nat)(c:CB)(bad:Bool)(x:Option (List Qd)):peK f b c true bad x=x:=aaM rfl rfl
theorem a1S(f:Nat→Nat):Vu f [] [] []=some []:=aaM rfl rfl
theorem aOY(f:Nat→Nat)(b:Nat)(m:List Nat)(c₀ c:CB)(cs₀ cs:List CB):Vu f (b::m) (c₀::cs₀) (c::cs)=peK f b c (c₀.same c) (c.unw|| !c₀.isLive) (Vu f m cs₀ cs):=by
 conv=>lhs;unfold Vu
 unfold peK
 cases c₀.same c with
 |true=>rfl
 |false=>
  cases(c.unw|| !c₀.isLive)with
  |true=>rfl
  |false=>
   simp only[cond_false,peE]
theorem ax4(a:Nat)(b c:Bool)(r:List (List AV))(st:Nat)(fl w:Bool)(rows:List (List AV)):CB.same (.live a b c r) (.live st fl w rows)= !w:=aaM rfl rfl
theorem aHT(st:Nat)(fl w:Bool)(rows:List (List AV)):CB.unw (.live st fl w rows)= !w:=aaM rfl rfl
theorem aKE(st:Nat)(fl w:Bool)(rows:List (List AV)):CB.isLive (.live st fl w rows)=true:=aaM rfl rfl
def neK(base:Nat)(c:Option CB)(x:Option (List Qd)):Option (List Qd):=c.bind fun c=>x.map fun es=>.new base c::es
theorem asY(base:Nat)(c:CB)(es:List Qd):neK base (some c) (some es)=some (.new base c::es):=aaM rfl rfl
theorem a8H(f:Nat→Nat)(base:Nat):Xa f base []=some []:=aaM rfl rfl
theorem aJ1(f:Nat→Nat)(base:Nat)(c:CB)(cs:List CB):Xa f base (c::cs)=neK base (Vm f c) (Xa f (base+1) cs):=aaM rfl rfl
theorem aCG(d:Nat)(fn:Fn)(a b:List AV):hasImm (d+1) (.func fn a b)=(a.any (hasImm d)||b.any (hasImm d)):=aaM rfl rfl
theorem aYE(b:Nat)(c:CB):Qd.hasImm (.new b c)=c.hasImm:=aaM rfl rfl
theorem bh9(st:Nat)(w:Bool)(rows:List (List AV)):CB.hasImm (.live st true w rows)=false:=aaM rfl rfl
theorem bk8(st:Nat)(w:Bool)(rows:List (List AV)):CB.hasImm (.live st false w rows)=rows.any fun cs=>cs.any (Ev.hasImm 8):=aaM rfl rfl
theorem aYF(h:Qa)(b r o:Nat):qG h (.ptr b r o)=some (.ptr b r o):=aaM rfl rfl
theorem aKO(h:Qa)(cs:List AV):qG h (.agg cs)=rdA (Qo (Vk 11 (hf h)) cs):=aaM rfl rfl
theorem alZ(l:List AV):rdA (some l)=some (.agg l):=aaM rfl rfl
theorem aNF(d:Nat)(h:Qa)(b:Bool):Vk (d+1) (hf h) (.bool b)=some (.bool b):=aaM rfl rfl
theorem a79(d:Nat)(h:Qa)(k:IntKind)(n:Int):Vk (d+1) (hf h) (.int k n)=some (.int k n):=aaM rfl rfl
theorem a6D(d:Nat)(h:Qa)(n:Nat)(fl:Bool)(rows:List (List AV)):Vk (d+1) (hf h) (.imm n fl rows)=some (.imm n fl rows):=aaM rfl rfl
theorem aZC(d:Nat)(h:Qa)(n:Nat)(fl nn:Bool)(rows:List (List AV)):Vk (d+1) (hf h) (Rh n fl nn rows)=some (Rh n fl nn rows):=cH _ (d:=1) (by omega) (cT 0 n fl nn rows)
theorem a0N(d:Nat)(h:Qa)(n b r len:Nat):Vk (d+1) (hf h) (.slr n b r len)=mY (Uh d (hf h)) (h[b]?) r len:=by
 have e:Vk (d+1) (hf h) (.slr n b r len)=(Ul (hf h) b r len).bind fun x=>if x.2.1=true then some (.imm x.1 true x.2.2)else(Qo (Qo (Uh d (hf h))) x.2.2).map (.imm x.1 false):=rfl
 rw[e]
 generalize Uh d (hf h)=q
 unfold Ul mY
 have eh:hf h b=h[b]?:=rfl
 rw[eh]
 cases h[b]? with
 |none=>rfl
 |some c=>
  cases c with
  |live st fl w rows=>
   simp only[rdR]
   by_cases hq:r+len≤rows.length
   ·cases fl<;>simp[hq]
   ·simp[hq]
  |frz st fl rows=>
   simp only[rdR]
   by_cases hq:r+len≤rows.length
   ·cases fl<;>simp[hq]
   ·simp[hq]
  |_=>rfl
def mfK(f:Nat)(a b:Option (List AV)):OE:=a.bind fun a=>b.bind fun b=>some (.ret (.func (.func f) a b),[])
theorem axE(f:Nat)(a b:List AV):mfK f (some a) (some b)=some (.ret (.func (.func f) a b),[]):=aaM rfl rfl
theorem bk4(t:List AV)(h:Qa)(f:Nat)(a b:Array Operand):Td O P t h (.makeFunc (.func f) a b)=mfK f (Rl t a.toList) (Rl t b.toList):=by
 rw[Sj _ _ _ rfl]
 simp only[exec,mfK]
 cases Rl t a.toList with
 |none=>rfl
 |some a=>cases Rl t b.toList<;>rfl
def msK(n:Nat)(z:AV)(base:Nat)(l c:Option AV):OE:=
 match l,c with
 |some (.int .i64 l),some (.int .i64 c)=>if 0≤l∧l≤c∧c≤2 ^ 40∧(Qg z).all AV.isCell=true then some (.ret (.slr n base 0 l.toNat),[.new base (.live n ((Qg z).all AV.flat) false (apP l.toNat (Qg z)))])else none
 |_,_=>none
theorem awN(n:Nat)(z:AV)(base:Nat)(l c:Int):msK n z base (some (.int .i64 l)) (some (.int .i64 c))=if 0≤l∧l≤c∧c≤2 ^ 40∧(Qg z).all AV.isCell=true then some (.ret (.slr n base 0 l.toNat),[.new base (.live n ((Qg z).all AV.flat) false (apP l.toNat (Qg z)))])else none:=aaM rfl rfl
def msO(P:Program)(ty:TypeId)(base:Nat)(l c:Option AV):OE:=rD (l.bind fun l=>c.bind fun c=>Wh P base ty l c)
theorem biA(t:List AV)(h:Qa)(ty:TypeId)(l c:Operand):Td O P t h (.makeSlice ty l c)=msO P ty h.length (Qe t l) (Qe t c):=Sj _ _ _ rfl
theorem biL{ty e:TypeId}{n b:Nat}{z:AV}(he:lN P ty=some e)(hn:aL P e=some n)(hb:byT P e=some b)(hz:Vi P e=some z)(ok:(decide (b≤2 ^ 7)&&decide (n≠0)&&decide ((Qg z).length=n))=true)(base:Nat)(l c:Option AV):
 msO P ty base l c=msK n z base l c:=by
 simp only[aqK,decide_eq_true_eq]at ok
 unfold msO msK
 cases l with
 |none=>rfl
 |some l=>
  cases c with
  |none=>cases l<;>first|rfl|(rename_i k _;cases k<;>rfl)
  |some c=>
   simp only[ab9,Wh,he,hn,hb,hz]
   cases l with
   |int k l=>
    cases c with
    |int k' c=>
     cases k<;>cases k'<;>first|rfl|skip
     simp only[ok.1.1,ok.1.2,ok.2,ne_eq,not_false_eq_true,true_and]
     split<;>rfl
    |_=>cases k<;>rfl
   |_=>rfl
def srS(q:Nat)(c:Option CB)(r len:Nat):Option (Bool × List (List AV)):=
 match c with
 |some (.live st fl _ rows)=>if r+len≤rows.length∧st=q then some (fl,(rows.drop r).take len)else none
 |some (.frz st fl rows)=>if r+len≤rows.length∧st=q then some (fl,(rows.drop r).take len)else none
 |_=>none
def srK(q:Nat)(h:Qa)(x:Option AV):Option (Bool × List (List AV)):=
 match x with
 |some .nils=>some (true,[])
 |some (.imm st fl rows)=>if st=q then some (fl,rows)else none
 |some (.slr _ b r len)=>srS q (h[b]?) r len
 |_=>none
theorem asD(q st:Nat)(fl w:Bool)(rows:List (List AV))(r len:Nat):srS q (some (.live st fl w rows)) r len=if r+len≤rows.length∧st=q then some (fl,(rows.drop r).take len)else none:=aaM rfl rfl
theorem arX(q:Nat)(h:Qa):srK q h (some .nils)=some (true,[]):=aaM rfl rfl
theorem ak7(q:Nat)(h:Qa)(st:Nat)(fl:Bool)(rows:List (List AV)):srK q h (some (.imm st fl rows))=if st=q then some (fl,rows)else none:=aaM rfl rfl
theorem aj1(q:Nat)(h:Qa)(st b r len:Nat):srK q h (some (.slr st b r len))=srS q (h[b]?) r len:=aaM rfl rfl
def apT(n base b r len:Nat)(nfl:Bool)(new:List (List AV))(st:Nat)(fl:Bool)(rows:List (List AV)):OE:=
 if st=n∧r+len≤rows.length∧len+new.length≤2 ^ 39 then some (.ret (.slr st base 0 (len+new.length)),[.put b .dead,.new base (.live st (fl&&nfl) false ((rows.drop r).take len++new))])else none
def apS(n base b r len:Nat)(nfl:Bool)(new:List (List AV))(c:Option CB):OE:=
 match c with
 |some (.live st fl _ rows)=>if st=n∧r+len=rows.length∧len+new.length≤2 ^ 39 then some (.ret (.slr st base 0 (len+new.length)),[.put b .dead,.new base (.live st (fl&&nfl) false (rows.drop r++new))])else apT n base b r len nfl new st fl rows
 |_=>none
theorem acX(n base b r len:Nat)(nfl:Bool)(new:List (List AV))(st:Nat)(fl w:Bool)(rows:List (List AV)):apS n base b r len nfl new (some (.live st fl w rows))=if st=n∧r+len=rows.length∧len+new.length≤2 ^ 39 then some (.ret (.slr st base 0 (len+new.length)),[.put b .dead,.new base (.live st (fl&&nfl) false (rows.drop r++new))])else apT n base b r len nfl new st fl rows:=aaM rfl rfl
def apK(n:Nat)(h:Qa)(s:Option AV)(x:Option (Bool × List (List AV))):OE:=
 match s,x with
 |some .nils,some (_,[])=>some (.ret .nils,[])
 |some (.slr a b r l),some (_,[])=>some (.ret (.slr a b r l),[])
 |some (.imm a b r),some (_,[])=>some (.ret (.imm a b r),[])
 |some .nils,some (nfl,r::new)=>if(r::new).length≤2 ^ 39 then some (.ret (.slr n h.length 0 (r::new).length),[.new h.length (.live n nfl false (r::new))])else none
 |some (.slr _ b r len),some (nfl,q::new)=>apS n h.length b r len nfl (q::new) (h[b]?)
 |_,_=>none
theorem aYJ(n:Nat)(h:Qa)(a b r l:Nat)(nfl:Bool):apK n h (some (.slr a b r l)) (some (nfl,[]))=some (.ret (.slr a b r l),[]):=aaM rfl rfl
theorem abL(n:Nat)(h:Qa)(nfl:Bool)(r:List AV)(new:List (List AV)):apK n h (some .nils) (some (nfl,r::new))=if(r::new).length≤2 ^ 39 then some (.ret (.slr n h.length 0 (r::new).length),[.new h.length (.live n nfl false (r::new))])else none:=aaM rfl rfl
theorem ahZ(n:Nat)(h:Qa)(a b r len:Nat)(nfl:Bool)(q:List AV)(new:List (List AV)):apK n h (some (.slr a b r len)) (some (nfl,q::new))=apS n h.length b r len nfl (q::new) (h[b]?):=aaM rfl rfl
def apO(P:Program)(ty:TypeId)(h:Qa)(s x:Option AV):OE:=rD (s.bind fun s=>x.bind fun x=>Vw P (hf h) h.length ty s x)
theorem xE(t:List AV)(h:Qa)(s x:Operand)(ty ty1 e1:TypeId)(hu:P.underlying ty1=some (.slice e1)):Td O P t h (.call ⟨.builtin .append,#[s,x],#[ty,ty1]⟩)=apO P ty h (Qe t s) (Qe t x):=by
 rw[Sj _ _ _ rfl]
 simp only[exec,Rl,apO]
 cases Qe t s with
 |none=>rfl
 |some a=>
  cases Qe t x with
  |none=>rfl
  |some b=>
   simp only[ab9,afU]
   have e0:(#[ty,ty1]:Array TypeId)[0]?=some ty:=rfl
   have e1:(#[ty,ty1]:Array TypeId)[1]?=some ty1:=rfl
   simp only[e0,e1,ab9,hu]
theorem sJ{ty e:TypeId}{n b:Nat}{z:AV}(he:lN P ty=some e)(hn:aL P e=some n)(hb:byT P e=some b)(hz:Vi P e=some z)(ok:(decide (b≤2 ^ 8)&&decide (n≠0)&&decide ((Qg z).length=n))=true)(h:Qa)(s x:AV)(hx:∀q,x≠.str q):
 apO P ty h (some s) (some x)=apK n h (some s) (srK n h (some x)):=by
 simp only[aqK,decide_eq_true_eq]at ok
 have hbad:¬(n=0∨2 ^ 8<b∨(Qg z).length≠n):=by
  rintro(h1|h1|h1)
  ·exact ok.1.2 h1
  ·omega
  ·exact h1 ok.2
 unfold apO
 simp only[ab9,Vw,he,hn,hb,hz]
 have key:∀(nfl:Bool) (new:List (List AV)) (fs:List Rf),rD (if n=0∨2 ^ 8<b∨(Qg z).length≠n then none else
  match s,new with
  |s,[]=>match s with
   | .nils| .slr _ _ _ _| .imm _ _ _=>some ⟨s,[],fs⟩
   |_=>none
  | .nils,new=>if new.length≤2 ^ 39 then some ⟨.slr n h.length 0 new.length,[.new h.length (.live n nfl false new)],fs⟩else none
  | .slr _ b r len,new=>
    match hf h b with
    |some (.live st fl _ rows)=>
     if st=n∧r+len≤rows.length∧len+new.length≤2 ^ 39 then
      some ⟨.slr st h.length 0 (len+new.length),[.put b .dead,.new h.length (.live st (fl&&nfl) false ((rows.drop r).take len++new))],.blk b::fs⟩
     else none
    |_=>none
  |_,_=>none)=apK n h (some s) (some (nfl,new)):=fun nfl new fs=>by
  rw[if_neg hbad]
  cases new with
  |nil=>cases s<;>rfl
  |cons q new=>
   cases s with
   |nils=>simp only[abL];split<;>rfl
   |slr a b r len=>
    simp only[ahZ]
    unfold apS
    have eh:hf h b=h[b]?:=rfl
    rw[eh]
    cases h[b]? with
    |none=>rfl
    |some c=>
     cases c with
     |live st fl w rows=>
      simp only
      by_cases h1:st=n∧r+len=rows.length∧len+(q::new).length≤2 ^ 39
      ·rw[if_pos h1,if_pos ⟨h1.1,by omega,h1.2.2⟩,List.take_of_length_le (by simp;omega)]
       rfl
      ·rw[if_neg h1]
       unfold apT
       split<;>rfl
     |_=>rfl
   |_=>rfl
 cases x with
 |nils=>exact key true [] []
 |imm st fl rows=>
  simp only[Ti,ak7,hn,afO.injEq]
  by_cases hq:n=st
  ·subst hq;simp only[if_true,ab9];exact key fl rows []
  ·rw[if_neg hq,if_neg (fun e=>hq e.symm)]
   cases s<;>rfl
 |slr st b' r len=>
  simp only[Ti,aj1,hn,Ul,srS]
  have eh:hf h b'=h[b']?:=rfl
  rw[eh]
  cases h[b']? with
  |none=>cases s<;>rfl
  |some c=>
   cases c with
   |live st fl w rows=>
    simp only
    by_cases hq:r+len≤rows.length
    ·simp only[hq,if_true,ab9,true_and,afO.injEq]
     by_cases hq2:n=st
     ·subst hq2;simp only[if_true,ab9];exact key fl _ _
     ·rw[if_neg hq2,if_neg (fun e=>hq2 e.symm)];cases s<;>rfl
    ·simp only[hq,if_false,false_and];cases s<;>rfl
   |frz st fl rows=>
    simp only
    by_cases hq:r+len≤rows.length
    ·simp only[hq,if_true,ab9,true_and,afO.injEq]
     by_cases hq2:n=st
     ·subst hq2;simp only[if_true,ab9];exact key fl _ _
     ·rw[if_neg hq2,if_neg (fun e=>hq2 e.symm)];cases s<;>rfl
    ·simp only[hq,if_false,false_and];cases s<;>rfl
   |_=>cases s<;>rfl
 |str q=>exact(hx q rfl).elim
 |_=>cases s<;>rfl
def rtK(Q:Tz→Qa→Prop)(x:Option (List AV × List CB × List Nat)):Prop:=
 match x with
 |some ([v],cs,_)=>Q (.ret v) cs
 |_=>False
theorem aqD(Q:Tz→Qa→Prop)(v:AV)(cs:List CB)(m:List Nat):rtK Q (some ([v],cs,m))=Q (.ret v) cs:=aaM rfl rfl
theorem aU3{q:Nat}{vs:List AV}{h:Qa}{Q:Tz→Qa→Prop}:Rt q (some vs) h Q=rtK Q (Xy (hf h) (as6 q) [bP vs]):=by
 unfold Rt arK
 simp only[ab9,bJ]
 cases hp:Xy (hf h) (as6 q) [bP vs]with
 |none=>simp[rtK]
 |some x=>
  obtain⟨ws,cs,m⟩:=x
  simp only[ab9]
  match ws with
  | [v]=>
    simp only[rtK,afU]
    exact propext ⟨fun⟨o,h',e,k⟩=>by cases e;exact k,fun k=>⟨_,_,rfl,k⟩⟩
  | []=>simp[rtK]
  |_::_::_=>simp[rtK]
theorem a49(vs:List AV)(h:Qa)(Q:Tz→Qa→Prop):Rt1 0 (some vs) h Q=rtK Q (Xy (hf h) [] [bP vs]):=aU3
theorem aQ4(q:Nat)(vs:List AV)(h:Qa)(Q:Tz→Qa→Prop):Rt (q+1) (some vs) h Q=rtK Q (Xy (hf h) (as6 (q+1)) [bP vs]):=aU3
end
end
noncomputable section
set_option maxRecDepth 100000
def EVi:=PLift.up (aaB @anX (aaB @ai2 (aaB @aBV (aaB @bcB (aaB @aPI (aaB @a8P (aaB @a1W (aaB @bbP (aaB @aXB (aaB @aw7 (aaB @au5 (aaB @aX6 (aaB @a9U (aaB @aw5 (aaB @asG (aaB @aD5 (aaB @aqG (aaB @atO (aaB @ax0 (aaB @avL (aaB @aqB (aaB @aqO (aaB @baU (aaB @aQK (aaB @apY (aaB @bmL (aaB @bkM (aaB @auT (aaB @as7 (aaB @ap2 @aq2))))))))))))))))))))))))))))))
def EVj:=PLift.up (aaB @auU (aaB @blV (aaB @arC (aaB @avC (aaB @bgQ (aaB @bn4 (aaB @av8 (aaB @aqI (aaB @ayM (aaB @asR (aaB @ayO (aaB @aDG (aaB @aYG (aaB @aC8 (aaB @a5P (aaB @aWJ (aaB @aC6 (aaB @aYI (aaB @a7D (aaB @wS (aaB @blO (aaB @bi1 (aaB @aA6 (aaB @aYD (aaB @bcO (aaB @a8J (aaB @bdQ @auM)))))))))))))))))))))))))))
def EVk:=PLift.up (aaB @asX (aaB @aYK (aaB @a43 (aaB @ar6 (aaB @atZ (aaB @azB (aaB @as8 (aaB @bjB (aaB @bl2 (aaB @bmP (aaB @a1S (aaB @aOY (aaB @ax4 (aaB @aHT (aaB @aKE (aaB @asY (aaB @a8H (aaB @aJ1 (aaB @aCG (aaB @aYE (aaB @bh9 (aaB @bk8 @aYF))))))))))))))))))))))
def EVl:=PLift.up (aaB @aKO (aaB @alZ (aaB @aNF (aaB @a79 (aaB @a6D (aaB @aZC (aaB @a0N (aaB @axE (aaB @bk4 (aaB @awN (aaB @biA (aaB @asD (aaB @arX (aaB @ak7 (aaB @aj1 (aaB @acX (aaB @aYJ (aaB @abL (aaB @ahZ (aaB @aqD (aaB @a49 (aaB @aQ4 (aaB @aw3.{0,0} (aaB @List.flatMap_nil.{0,0} (aaB @List.isEmpty_nil.{0} (aaB @List.getD_cons_zero.{0} (aaB @List.range_succ (aaB @axR (aaB @List.contains_nil.{0} @List.contains_cons.{0})))))))))))))))))))))))))))))
def EVm:=PLift.up (aaB @List.getElem?_nil.{0} (aaB @aoB (aaB @abS (aaB @anY @aiW))))
end
noncomputable section
theorem Yj{n:Nat}{fl nn:Bool}{rows:List (List AV)}(h:rows≠[]):Rh n fl nn rows=.imm n fl rows:=by
 cases rows with
 |nil=>exact(h rfl).elim
 |cons r rs=>rfl
theorem fE(n:Nat)(fl:Bool)(rows:List (List AV)):Rh n fl true rows=.imm n fl rows:=by cases rows<;>rfl
section
variable {P:Program} {t e:TypeId} (hu:P.underlying t=some (.slice e))
include hu
end
def a5J(v:Option AV)(ns:Option (List Qd)):Option Yh:=v.bind fun v=>ns.map fun ns=>⟨.ret v,ns,[]⟩
theorem amB(v:AV)(ns:List Qd):a5J (some v) (some ns)=some ⟨.ret v,ns,[]⟩:=aaM rfl rfl
theorem ar9(base:Nat)(v:AV)(c:CB)(cs:List CB):ac0 base (some (.ret v,c::cs))=a5J (Rq 8 (fun i=>base+i) v) (Xa (fun i=>base+i) base (c::cs)):=by
 simp only[ac0,a5J,ab9,Tz.v,Tz.map]
section
variable {O:Ue}
theorem bj9(h:Qa)(f:Nat)(args:List AV):shC O h f args=if(lX args||O.md f)=true then shK h (O.call (.sh f) args (Xe h))else cr (Sv O (hf h) h.length (.fn f) args):=aaM rfl rfl
end
theorem bcF(b r o:Nat)(l:List AV):lX (.ptr b r o::l)=false:=aaM rfl rfl
theorem a3B(a b r n:Nat)(l:List AV):lX (.slr a b r n::l)=false:=aaM rfl rfl
theorem biR(b:Nat)(l:List AV):lX (.yl b::l)=true:=aaM rfl rfl
theorem beB:Xe []=[]:=aaM rfl rfl
theorem aA7(c:CB)(h:Qa):Xe (c::h)=c.clean::Xe h:=aaM rfl rfl
theorem a5N(h h':Qa):Xe (h++h')=Xe h++Xe h':=List.map_append
theorem a8D(h:Qa)(b:Nat):(Xe h)[b]?=(h[b]?).map CB.clean:=by simp[Xe]
theorem bcH(h:Qa):(Xe h).length=h.length:=by simp[Xe]
theorem blL(ps:List Nat)(a b:Code)(t:List AV)(st:Yl):CB.clean (.lp ps a b t st)=.lp ps a b t st:=aaM rfl rfl
def Qy(h:Qa):Bool:=h.all fun c=>c.quiet c.clean
theorem ajQ:∀{h:Qa} (_:Qy h=true) (i:Nat) (l:Qa),Si i h (Xe h++l)=some (Ww (i+h.length) l)
 | [],_,i,l=>by simp[Xe,Si]
 |c::h,hq,i,l=>by
  simp only[Qy,List.all_cons,aqK]at hq
  have ih:=ajQ (h:=h) hq.2 (i+1) l
  simp only[Xe,List.map_cons,apM,Si,hq.1,cond_true]at ih ⊢
  rw[ih,amZ]
  congr 2;omega
theorem zH:∀(cs:List CB) (i:Nat) (h:Qa),Rj h (Ww i cs)=h++cs
 | [],i,h=>by simp[Ww,Rj]
 |c::cs,i,h=>by simp[Ww,Rj,aA,zH cs]
theorem vK(h:Qa)(o:Tz)(h':Qa):shK h (some (o,h'))=(Si 0 h h').map fun es=>(o,es):=aaM rfl rfl
def EVo:=PLift.up (aaB @ax1 (aaB @ayS (aaB @aNU (aaB @a6X (aaB @a8I (aaB @biD (aaB @ay9 (aaB @bcZ (aaB @ax6 (aaB @a0U (aaB @a57 @bb7)))))))))))
def EVn:=PLift.up (aaB @amY (aaB @amL (aaB @amB @ar9)))
def EVp:=PLift.up (aaB @bj9 (aaB @bcF (aaB @a3B (aaB @biR (aaB @beB (aaB @aA7 (aaB @a5N (aaB @a8D (aaB @bcH @blL)))))))))
end
noncomputable section
def Qw:CB→Option (Nat × Bool × List (List AV))
 | .live st fl _ rows=>some (st,fl,rows)
 | .frz st fl rows=>some (st,fl,rows)
 |_=>none
def dS(f:AV→Option (AV × List Nat)):List AV→Option (List AV × List Nat)
 | []=>some ([],[])
 |a::l=>(f a).bind fun p=>(dS f l).map fun q=>(p.1::q.1,p.2++q.2)
def Ri(f:AV→Option (AV × List Nat)):List (List AV)→Option (List (List AV) × List Nat)
 | []=>some ([],[])
 |r::rs=>(dS f r).bind fun p=>(Ri f rs).map fun q=>(p.1::q.1,p.2++q.2)
def rd:Nat→HF→AV→Option (AV × List Nat)
 |0,_,_=>none
 |d+1,g,v=>
  match v with
  | .slr st b r len=>((g b).bind Qw).bind fun z=>
     if z.1=st∧r=0∧len=z.2.2.length then
      (bif z.2.1 then some (.imm st true z.2.2,[b])else(Ri (rd d g) z.2.2).map fun q=>(.imm st false q.1,b::q.2))
     else none
  | .agg cs=>(dS (rd d g) cs).map fun q=>(.agg q.1,q.2)
  | .iface t x=>(rd d g x).map fun q=>(.iface t q.1,q.2)
  | .func fn [] []=>some (.func fn [] [],[])
  | .func _ _ _=>none
  | .tup _=>none
  | .ptr _ _ _=>none
  | .yl _=>none
  | .mapr _=>none
  | .itr _=>none
  | .imm _ _ _=>none
  | .iptr _=>none
  |v=>some (v,[])
theorem jA{f f':AV→Option (AV × List Nat)}:∀{l:List AV} {p:List AV × List Nat},dS f l=some p→(∀x∈l,∀q,f x=some q→(∀b∈q.2,b∈p.2)→f' x=some q)→dS f' l=some p
 | [],p,h,_=>h
 |a::l,p,h,hf=>by
  simp only[dS,abZ,abV]at h ⊢
  obtain⟨q,hq,r,hr,rfl⟩:=h
  exact⟨q,hf a (aeN ..) q hq (fun b hb=>ag0 _ hb),r,jA hr (fun x hx q' hq' hs=>hf x (acH _ hx) q' hq' (fun b hb=>ag1 _ (hs b hb))),rfl⟩
theorem dJ{f f':AV→Option (AV × List Nat)}:∀{l:List (List AV)} {p:List (List AV) × List Nat},Ri f l=some p→(∀r∈l,∀x∈r,∀q,f x=some q→(∀b∈q.2,b∈p.2)→f' x=some q)→Ri f' l=some p
 | [],p,h,_=>h
 |a::l,p,h,hf=>by
  simp only[Ri,abZ,abV]at h ⊢
  obtain⟨q,hq,r,hr,rfl⟩:=h
  exact⟨q,jA hq (fun x hx q' hq' hs=>hf a (aeN ..) x hx q' hq' (fun b hb=>ag0 _ (hs b hb))),r,
   dJ hr (fun r' hr' x hx q' hq' hs=>hf r' (acH _ hr') x hx q' hq' (fun b hb=>ag1 _ (hs b hb))),rfl⟩
def Agr(R:List Nat)(g g':HF):Prop:=∀b∈R,∀z,(g b).bind Qw=some z→(g' b).bind Qw=some z
theorem wM{g g':HF}:∀{d:Nat} {v:AV} {p:AV × List Nat},rd d g v=some p→Agr p.2 g g'→rd d g' v=some p
 |0,v,p,h,_=>by simp[rd]at h
 |d+1,v,p,h,ha=>by
  cases v with
  |slr st b r len=>
   simp only[rd,abZ]at h ⊢
   obtain⟨z,⟨c,hc,hz⟩,h⟩:=h
   split at h
   ·rename_i hq
    have hb:b∈p.2:=by
     cases hfl:z.2.1 with
     |true=>rw[hfl]at h;simp at h;rw[←h];simp
     |false=>rw[hfl]at h;simp only[cond_false,abV]at h;obtain⟨q,_,rfl⟩:=h;simp
    have hz':=ha b hb z (by rw[hc];exact hz)
    obtain⟨c',hc',hz''⟩:=abZ.1 hz'
    refine⟨z,⟨c',hc',hz''⟩,?_⟩
    rw[if_pos hq]
    cases hfl:z.2.1 with
    |true=>rw[hfl]at h;exact h
    |false=>
     rw[hfl]at h
     simp only[cond_false,abV]at h ⊢
     obtain⟨q,hq',rfl⟩:=h
     exact⟨q,dJ hq' (fun r' _ x _ q' hx hs=>wM hx (fun b' hb'=>ha b' (acH _ (hs b' hb')))),rfl⟩
   ·cases h
  |agg cs=>
   simp only[rd,abV]at h ⊢
   obtain⟨q,hq,rfl⟩:=h
   exact⟨q,jA hq (fun x _ q' hx hs=>wM hx (fun b hb=>ha b (hs b hb))),rfl⟩
  |iface t x=>
   simp only[rd,abV]at h ⊢
   obtain⟨q,hq,rfl⟩:=h
   exact⟨q,wM hq ha,rfl⟩
  |func fn a b=>cases a<;>cases b<;>first|exact h|(simp[rd]at h)
  |_=>first|exact h|(simp[rd]at h)
theorem akH{g:HF}:∀{d e:Nat} {v:AV} {p:AV × List Nat},d≤e→rd d g v=some p→rd e g v=some p
 |0,e,v,p,_,h=>by simp[rd]at h
 |d+1,0,v,p,he,h=>by omega
 |d+1,e+1,v,p,he,h=>by
  have IH:∀x q,rd d g x=some q→rd e g x=some q:=fun x q hx=>akH (by omega) hx
  cases v with
  |slr st b r len=>
   simp only[rd,abZ]at h ⊢
   obtain⟨z,hz,h⟩:=h
   refine⟨z,hz,?_⟩
   split at h
   ·rename_i hq
    rw[if_pos hq]
    cases hfl:z.2.1 with
    |true=>rw[hfl]at h;exact h
    |false=>
     rw[hfl]at h
     simp only[cond_false,abV]at h ⊢
     obtain⟨q,hq',rfl⟩:=h
     exact⟨q,dJ hq' (fun r' _ x _ q' hx _=>IH x q' hx),rfl⟩
   ·cases h
  |agg cs=>
   simp only[rd,abV]at h ⊢
   obtain⟨q,hq,rfl⟩:=h
   exact⟨q,jA hq (fun x _ q' hx _=>IH x q' hx),rfl⟩
  |iface t x=>
   simp only[rd,abV]at h ⊢
   obtain⟨q,hq,rfl⟩:=h
   exact⟨q,IH _ _ hq,rfl⟩
  |func fn a b=>cases a<;>cases b<;>first|exact h|(simp[rd]at h)
  |_=>first|exact h|(simp[rd]at h)
theorem oK{f:AV→Option (AV × List Nat)}{f':AV→Option AV}:∀{l:List AV} {p:List AV × List Nat},dS f l=some p→(∀x∈l,∀q,f x=some q→f' x=some q.1)→Qo f' l=some p.1
 | [],p,h,_=>by simp[dS]at h;subst h;rfl
 |a::l,p,h,hf=>by
  simp only[dS,abZ,abV]at h
  obtain⟨q,hq,r,hr,rfl⟩:=h
  simp only[Qo,hf a (aeN ..) q hq,ab9,oK hr (fun x hx=>hf x (acH _ hx)),afU]
theorem rU{f:AV→Option (AV × List Nat)}{f':AV→Option AV}:∀{l:List (List AV)} {p:List (List AV) × List Nat},Ri f l=some p→(∀r∈l,∀x∈r,∀q,f x=some q→f' x=some q.1)→Qo (Qo f') l=some p.1
 | [],p,h,_=>by simp[Ri]at h;subst h;rfl
 |a::l,p,h,hf=>by
  simp only[Ri,abZ,abV]at h
  obtain⟨q,hq,r,hr,rfl⟩:=h
  simp only[Qo,oK hq (fun x hx=>hf a (aeN ..) x hx),ab9,rU hr (fun r' hr'=>hf r' (acH _ hr')),afU]
theorem pO{g:HF}{b:Nat}{z:Nat × Bool × List (List AV)}(h:(g b).bind Qw=some z):Ul g b 0 z.2.2.length=some z:=by
 obtain⟨c,hc,hz⟩:=abZ.1 h
 unfold Ul
 rw[hc]
 cases c with
 |live st fl w rows=>simp[Qw]at hz;subst hz;simp
 |frz st fl rows=>simp[Qw]at hz;subst hz;simp
 |dead=>simp[Qw]at hz
 |lp=>simp[Qw]at hz
theorem sZ{g:HF}:∀{d:Nat} {v:AV} {p:AV × List Nat},rd d g v=some p→Uh d g v=some p.1
 |0,v,p,h=>by simp[rd]at h
 |d+1,v,p,h=>by
  cases v with
  |slr st b r len=>
   simp only[rd,abZ]at h
   obtain⟨z,hz,h⟩:=h
   split at h
   ·rename_i hq
    obtain⟨rfl,rfl,rfl⟩:=hq
    simp only[Uh,pO (abZ.2 hz),ab9]
    cases hfl:z.2.1 with
    |true=>rw[hfl]at h;simp at h;rw[←h];rfl
    |false=>
     rw[hfl]at h
     simp only[cond_false,abV]at h
     obtain⟨q,hq',rfl⟩:=h
     simp[rU hq' (fun r' _ x _ q' hx=>sZ hx)]
   ·cases h
  |agg cs=>
   simp only[rd,abV]at h
   obtain⟨q,hq,rfl⟩:=h
   simp[Uh,oK hq (fun x _ q' hx=>sZ hx)]
  |iface t x=>
   simp only[rd,abV]at h
   obtain⟨q,hq,rfl⟩:=h
   simp[Uh,sZ hq]
  |func fn a b=>cases a<;>cases b<;>first|(simp[rd]at h;subst h;rfl)|(simp[rd]at h)
  |_=>first|(simp[rd]at h;subst h;rfl)|(simp[rd]at h)
def Vp:Nat→(Nat→Option Nat)→AV→Option AV
 |0,_,_=>none
 |d+1,F,v=>
  match v with
  | .ptr b r o=>(F b).map fun b=>.ptr b r o
  | .slr st b r len=>(F b).map fun b=>.slr st b r len
  | .agg cs=>(Qo (Vp d F) cs).map .agg
  | .tup cs=>(Qo (Vp d F) cs).map .tup
  | .iface t x=>(Vp d F x).map (.iface t)
  | .func fn a b=>(Qo (Vp d F) a).bind fun a=>(Qo (Vp d F) b).map fun b=>.func fn a b
  | .yl b=>(F b).map .yl
  | .mapr b=>(F b).map .mapr
  | .itr b=>(F b).map .itr
  |v=>some v
def a4K(F:Nat→Option Nat)(g' g:HF):Prop:=∀i b,F i=some b→∀z,(g b).bind Qw=some z→
 ∃rows',(g' i).bind Qw=some (z.1,z.2.1,rows')∧(z.2.1=true→rows'=z.2.2)∧(z.2.1=false→Qo (Qo (Vp 8 F)) rows'=some z.2.2)
theorem dO{α β:Type}{f:α→Option β}:∀{l:List α} {r:List β},Qo f l=some r→l.length=r.length
 | [],r,h=>by simp[Qo]at h;subst h;rfl
 |a::l,r,h=>by
  simp only[Qo,abZ,abV]at h
  obtain⟨b,_,bs,h2,rfl⟩:=h
  simp[dO h2]
theorem abE{f f':AV→Option (AV × List Nat)}{F:AV→Option AV}{Z:Nat→Prop}:∀{l l':List AV} {p:List AV × List Nat},Qo F l'=some l→dS f l=some p→
 (∀x' x q,F x'=some x→f x=some q→∃R',f' x'=some (q.1,R')∧R'.length=q.2.length∧∀i∈R',Z i)→∃R',dS f' l'=some (p.1,R')∧R'.length=p.2.length∧∀i∈R',Z i
 |l,[],p,ho,h,_=>by
  simp[Qo]at ho;subst ho
  simp[dS]at h;subst h
  exact⟨[],rfl,rfl,fun i h=>by cases h⟩
 |l,a'::l',p,ho,h,hf=>by
  simp only[Qo,abZ,abV]at ho
  obtain⟨a,ha,l1,hl1,rfl⟩:=ho
  simp only[dS,abZ,abV]at h
  obtain⟨q,hq,r,hr,rfl⟩:=h
  obtain⟨R1,e1,e2,z1⟩:=hf a' a q ha hq
  obtain⟨R2,e3,e4,z2⟩:=abE hl1 hr hf
  exact⟨R1++R2,by simp[dS,e1,e3],by simp[e2,e4],fun i hi=>(ae5.1 hi).elim (z1 i) (z2 i)⟩
theorem vX{f f':AV→Option (AV × List Nat)}{F:AV→Option AV}{Z:Nat→Prop}:∀{l l':List (List AV)} {p:List (List AV) × List Nat},Qo (Qo F) l'=some l→Ri f l=some p→
 (∀x' x q,F x'=some x→f x=some q→∃R',f' x'=some (q.1,R')∧R'.length=q.2.length∧∀i∈R',Z i)→∃R',Ri f' l'=some (p.1,R')∧R'.length=p.2.length∧∀i∈R',Z i
 |l,[],p,ho,h,_=>by
  simp[Qo]at ho;subst ho
  simp[Ri]at h;subst h
  exact⟨[],rfl,rfl,fun i h=>by cases h⟩
 |l,a'::l',p,ho,h,hf=>by
  simp only[Qo,abZ,abV]at ho
  obtain⟨a,ha,l1,hl1,rfl⟩:=ho
  simp only[Ri,abZ,abV]at h
  obtain⟨q,hq,r,hr,rfl⟩:=h
  obtain⟨R1,e1,e2,z1⟩:=abE ha hq hf
  obtain⟨R2,e3,e4,z2⟩:=vX hl1 hr hf
  exact⟨R1++R2,by simp[Ri,e1,e3],by simp[e2,e4],fun i hi=>(ae5.1 hi).elim (z1 i) (z2 i)⟩
theorem aiP{F:Nat→Option Nat}{g' g:HF}(H:a4K F g' g):∀{d e:Nat} {x' x:AV} {p:AV × List Nat},Vp e F x'=some x→rd d g x=some p→∃R',rd d g' x'=some (p.1,R')∧R'.length=p.2.length∧∀i∈R',∃b,F i=some b
 |0,e,x',x,p,_,h=>by simp[rd]at h
 |d+1,0,x',x,p,hx,_=>by simp[Vp]at hx
 |d+1,e+1,x',x,p,hx,h=>by
  have IH:∀e x' x q,Vp e F x'=some x→rd d g x=some q→∃R',rd d g' x'=some (q.1,R')∧R'.length=q.2.length∧∀i∈R',∃b,F i=some b:=fun e x' x q h1 h2=>aiP H h1 h2
  cases x' with
  |slr st i r len=>
   simp only[Vp,abV]at hx
   obtain⟨b,hb,rfl⟩:=hx
   simp only[rd,abZ]at h
   obtain⟨z,hz,h⟩:=h
   split at h
   ·rename_i hq
    obtain⟨rows',k1,k2,k3⟩:=H i b hb z (abZ.2 hz)
    simp only[rd,k1,ab9]
    cases hfl:z.2.1 with
    |true=>
     rw[hfl]at h;simp at h
     rw[if_pos ⟨hq.1,hq.2.1,by rw[k2 hfl];exact hq.2.2⟩,←h,k2 hfl]
     exact⟨[i],rfl,rfl,fun j hj=>by simp at hj;subst hj;exact⟨b,hb⟩⟩
    |false=>
     rw[hfl]at h
     simp only[cond_false,abV]at h
     obtain⟨q,hq',rfl⟩:=h
     have hl:=dO (k3 hfl)
     rw[if_pos ⟨hq.1,hq.2.1,by rw[hl];exact hq.2.2⟩]
     obtain⟨R',e1,e2,z1⟩:=vX (f':=rd d g') (k3 hfl) hq' (fun x' x q h1 h2=>IH 8 x' x q h1 h2)
     exact⟨i::R',by simp[e1],by simp[e2],fun j hj=>(afC.1 hj).elim (fun e=>e▸⟨b,hb⟩) (z1 j)⟩
   ·cases h
  |agg cs=>
   simp only[Vp,abV]at hx
   obtain⟨cs',hcs,rfl⟩:=hx
   simp only[rd,abV]at h
   obtain⟨q,hq,rfl⟩:=h
   obtain⟨R',e1,e2,z1⟩:=abE (f':=rd d g') hcs hq (fun x' x q h1 h2=>IH e x' x q h1 h2)
   exact⟨R',by simp[rd,e1],e2,z1⟩
  |iface t y=>
   simp only[Vp,abV]at hx
   obtain⟨y',hy,rfl⟩:=hx
   simp only[rd,abV]at h
   obtain⟨q,hq,rfl⟩:=h
   obtain⟨R',e1,e2,z1⟩:=IH e _ _ q hy hq
   exact⟨R',by simp[rd,e1],e2,z1⟩
  |func fn a b=>
   simp only[Vp,abZ,abV]at hx
   obtain⟨a1,ha,b1,hb,rfl⟩:=hx
   have la:=dO ha
   have lb:=dO hb
   cases a1 with
   |cons=>simp[rd]at h
   |nil=>
    cases b1 with
    |cons=>simp[rd]at h
    |nil=>
     simp at la lb
     obtain rfl:=la
     obtain rfl:=lb
     simp[rd]at h;subst h
     exact⟨[],rfl,rfl,fun i h=>by cases h⟩
  |ptr b r o=>
   simp only[Vp,abV]at hx
   obtain⟨b,hb,rfl⟩:=hx
   simp[rd]at h
  |tup cs=>
   simp only[Vp,abV]at hx
   obtain⟨b,hb,rfl⟩:=hx
   simp[rd]at h
  |yl b=>
   simp only[Vp,abV]at hx
   obtain⟨b,hb,rfl⟩:=hx
   simp[rd]at h
  |mapr b=>
   simp only[Vp,abV]at hx
   obtain⟨b,hb,rfl⟩:=hx
   simp[rd]at h
  |itr b=>
   simp only[Vp,abV]at hx
   obtain⟨b,hb,rfl⟩:=hx
   simp[rd]at h
  |imm=>simp[Vp]at hx;subst hx;simp[rd]at h
  |iptr=>simp[Vp]at hx;subst hx;simp[rd]at h
  |_=>simp[Vp]at hx;subst hx;simp[rd]at h;subst h;exact⟨[],rfl,rfl,fun i h=>by cases h⟩
end
noncomputable section
open Go.RowKit
section
variable {P:Program} {O:Ue} {pr:aW}
def fnS(P:Program)(rs:List ResultVar)(x:R):Option (Tz × Qa):=
 match x with
 |some (.normal,s)|some (.ret,s)=>(dF P s rs).map fun vs=>(.ret (bP vs),s.h)
 |some (.pan v,s)=>some (.pan v,s.h)
 |_=>none
theorem aYB{f:Nat}{fn:Func}(hf:P.funcs[f]?=some fn){c:Code}(hb:fn.body=some c){args:List AV}(hl:args.length≤fn.ntmps)(h:Qa):
 evS O P f args h=fnS P fn.results.toList (Sm O P Yd c [] ⟨mk fn.ntmps (bF args),h⟩):=by
 unfold evS
 simp only[hf,hb]
 rw[arW _ _ hl]
 cases Sm O P Yd c [] ⟨mk fn.ntmps (bF args),h⟩with
 |none=>rfl
 |some x=>
  obtain⟨e,s⟩:=x
  cases e<;>rfl
def FnS(P:Program)(rs:List ResultVar)(Q:Tz→Qa→Prop)(x:R):Prop:=∃o h,fnS P rs x=some (o,h)∧Q o h
def RtS(vs:Option (List AV))(h:Qa)(Q:Tz→Qa→Prop):Prop:=
 match vs with
 |some vs=>Q (.ret (bP vs)) h
 |none=>False
theorem ai7(rs:List ResultVar)(Q:Tz→Qa→Prop)(t:List AV)(h:Qa):FnS P rs Q (some (.ret,⟨t,h⟩))=RtS (dF P ⟨t,h⟩ rs) h Q:=by
 cases hr:dF P ⟨t,h⟩ rs with
 |none=>simp[FnS,fnS,RtS,hr]
 |some vs=>
  have e:fnS P rs (some (.ret,⟨t,h⟩))=some (.ret (bP vs),h):=by simp[fnS,hr]
  exact propext (Iff.intro (fun⟨o,h',e',q⟩=>by rw[e]at e';cases e';exact q) (fun q=>⟨_,_,e,q⟩))
theorem cD(rs:List ResultVar)(Q:Tz→Qa→Prop)(t:List AV)(h:Qa):FnS P rs Q (some (.normal,⟨t,h⟩))=RtS (dF P ⟨t,h⟩ rs) h Q:=by
 rw[←ai7];rfl
theorem auB(vs:List AV)(h:Qa)(Q:Tz→Qa→Prop):RtS (some vs) h Q=Q (.ret (bP vs)) h:=aaM rfl rfl
theorem asV{rs:List ResultVar}{Q:Tz→Qa→Prop}:¬FnS P rs Q none:=fun⟨_,_,h,_⟩=>by simp[fnS]at h
def ShQ(O:Ue)(f:Nat)(args:List AV)(h:Qa)(Q:Tz→Qa→Prop):Prop:=∃o h',O.call (.sh f) args h=some (o,h')∧Q o h'
theorem ShQ.start{f:Nat}{fn:Func}{c:Code}{args:List AV}{h:Qa}{Q:Tz→Qa→Prop}(hp:pr f=none)(hf:P.funcs[f]?=some fn)(hb:fn.body=some c)(hl:Nat.ble args.length fn.ntmps=true)
 (he:FnS P fn.results.toList Q (Sm (om P pr) P 5000 c [] ⟨mk fn.ntmps (bF args),h⟩)) (hs:pr.sh f=none:=by exact rfl):ShQ (om P pr) f args h Q:=by
 obtain⟨o,h',e,q⟩:=he
 exact⟨o,h',aUU hp hs ((aYB hf hb (Nat.le_of_ble_eq_true hl) h).trans e),q⟩
theorem ShQ.eq{f:Nat}{args:List AV}{h:Qa}{o:Tz}{h':Qa}(k:ShQ O f args h fun o1 h1=>(o1,h1)=(o,h')):O.call (.sh f) args h=some (o,h'):=by
 obtain⟨o1,h1,e,q⟩:=k
 rw[e,q]
def ncK(x:Option AV):OE:=
 match x with
 |some (.ptr b r o)=>some (.ret (.ptr b r o),[])
 |some (.iptr cs)=>some (.ret (.iptr cs),[])
 |some (.func (.func f) a c)=>some (.ret (.func (.func f) a c),[])
 |_=>none
theorem a9H(b r o:Nat):ncK (some (.ptr b r o))=some (.ret (.ptr b r o),[]):=aaM rfl rfl
theorem bmQ(t:List AV)(h:Qa)(x:Operand):Td O P t h (.nilCheck x)=ncK (Qe t x):=by
 rw[Sj _ _ _ rfl]
 simp only[exec,ncK]
 cases Qe t x with
 |none=>rfl
 |some v=>
  cases v with
  |func fn a c=>cases fn<;>rfl
  |_=>rfl
end
def EVq:=PLift.up (aaB @ai7 (aaB @cD (aaB @auB (aaB @a9H @bmQ))))
end
noncomputable section
open Go.RowKit
section
variable {P:Program} {O:Ue}
end
def aL7(k st:Nat)(fl:Bool)(rows:List (List AV))(v:AV)(g:Qa):Prop:=
 (rows=[]∧v=.nils)∨∃b w,v=.slr st (b+k) 0 rows.length∧g[b]?=some (.live st fl w rows)
def kl(k:Nat)(v:AV)(g:Qa):Qa:=
 match v with
 | .slr _ b _ _=>g.set (b-k) .dead
 |_=>g
theorem kS(k:Nat)(v:AV)(g:Qa):(kl k v g).length=g.length:=by
 unfold kl;split<;>simp
def apE(v:AV)(st:Nat)(fl:Bool)(rows:List (List AV))(base:Nat):List Qd:=
 match v with
 | .slr _ b _ _=>[.put b .dead,.new base (.live st fl false rows)]
 |_=>[.new base (.live st fl false rows)]
theorem akJ{k n:Nat}{fl:Bool}{rows:List (List AV)}{v:AV}{g:Qa}(ho:aL7 k n fl rows v g){pre:Qa}(hk:pre.length=k)(l:Qa)(r:List AV)(new:List (List AV))(hl:rows.length+(new.length+1)≤549755813888):
 apK n (pre++(g++l)) (some v) (some (fl,r::new))=some (.ret (.slr n (pre++(g++l)).length 0 (rows.length+(r::new).length)),apE v n fl (rows++r::new) (pre++(g++l)).length):=by
 rcases ho with⟨rfl,rfl⟩|⟨b,w,rfl,h2⟩
 ·rw[abL,if_pos (by simp at hl ⊢;omega)]
  simp[apE]
 ·have hb:=(ag2.1 h2).1
  have hq:(pre++(g++l))[b+k]?=some (.live n fl w rows):=by
   rw[axH (by omega),amX (by omega)]
   rw[show b+k-pre.length=b by omega];exact h2
  rw[ahZ,hq,acX,if_pos ⟨rfl,by omega,by simp only[amZ];omega⟩]
  simp[apE]
theorem ae6{k n:Nat}{fl:Bool}{rows:List (List AV)}{v:AV}{g:Qa}(ho:aL7 k n fl rows v g){pre:Qa}(hk:pre.length=k)(l:Qa)(st:Nat)(fl':Bool)(rows':List (List AV))(base:Nat):
 Rj (pre++(g++l)) (apE v st fl' rows' base)=pre++(kl k v g++(l++[.live st fl' false rows'])):=by
 rcases ho with⟨rfl,rfl⟩|⟨b,w,rfl,h2⟩
 ·simp[apE,Rj,aA,kl]
 ·have hb:=(ag2.1 h2).1
  simp only[apE,Rj,aA,kl,Nat.add_sub_cancel]
  rw[List.set_append_right _ _ (by omega),show b+k-pre.length=b by omega,List.set_append_left _ _ hb]
  simp
def pkd(O:Ue)(f:Nat)(args:List AV):Prop:=rY args=true→(lX args||O.md f)=false
theorem bcL{O:Ue}{f:Nat}{args:List AV}(h:rY args=false):pkd O f args:=fun k=>by rw[h]at k;cases k
theorem a8E{O:Ue}{h:Qa}{f:Nat}{args:List AV}(hd:pkd O f args):cl O h (some (.func (.func f) [] [])) (some args)=cr (Sv O (hf h) h.length (.fn f) args):=by
 rw[adY]
 simp only[ai9,amE]
 split
 ·rename_i hh
  unfold shC
  rw[hd hh];simp only[axQ,if_false]
 ·rfl
section
variable {P:Program} (ty:TypeId)
end
theorem ab3{α:Type}{f:α→Option α}:∀{l:List α},(∀x∈l,f x=some x)→Qo f l=some l
 | [],_=>rfl
 |a::l,h=>by simp only[Qo,h a (aeN ..),ab9,ab3 (fun x hx=>h x (acH _ hx)),afU]
theorem auY{n:Nat}{h:Qa}{nfl:Bool}{rows:List (List AV)}(hr:rows≠[])(hl:rows.length≤549755813888):apK n h (some .nils) (some (nfl,rows))=some (.ret (.slr n h.length 0 rows.length),[.new h.length (.live n nfl false rows)]):=by
 cases rows with
 |nil=>exact(hr rfl).elim
 |cons r new=>rw[abL,if_pos (by simpa using hl)]
end
noncomputable section
open Go.RowKit
section
variable {P:Program} {O:Ue} {pr:aW}
def rnX(O:Ue)(P:Program)(n:Nat)(k:List Qk)(t:List AV)(b:Nat)(h2:Qa)(x:Option CB):R:=
 match x with
 |some (.lp _ _ _ _ .ready)=>Ry (Sm O P n) k .normal ⟨t,h2.set b .dead⟩
 |some (.lp _ _ _ _ (.done .ret))=>Ry (Sm O P n) k .ret ⟨t,h2.set b .dead⟩
 |some (.lp _ _ _ _ (.done (.exit i)))=>Ry (Sm O P n) k (.exit i) ⟨t,h2.set b .dead⟩
 |_=>none
def rnE(O:Ue)(P:Program)(n:Nat)(k:List Qk)(t:List AV)(b:Nat)(h1:Qa)(x:OE):R:=
 match x with
 |some (.ret _,es)=>rnX O P n k t b (Rj h1 es) ((Rj h1 es)[b]?)
 |_=>none
def rnC(O:Ue)(h1:Qa)(b:Nat)(fv:Option AV):OE:=
 match fv with
 |some (.func (.func g) a c)=>cr (Um O (hf h1) h1.length (dT g (a++[.yl b]++c)) (a++[.yl b]++c))
 |_=>none
theorem bkT(n:Nat)(k:List Qk)(t:List AV)(b:Nat)(h1:Qa)(x:Option Yh):
 (x.bind fun d=>match d.out with
   | .ret _=>
     let h2:=Rj h1 d.es
     match h2[b]? with
     |some (.lp _ _ _ _ .ready)=>Ry (Sm O P n) k .normal ⟨t,h2.set b .dead⟩
     |some (.lp _ _ _ _ (.done .ret))=>Ry (Sm O P n) k .ret ⟨t,h2.set b .dead⟩
     |some (.lp _ _ _ _ (.done (.exit i)))=>Ry (Sm O P n) k (.exit i) ⟨t,h2.set b .dead⟩
     |_=>none
   | .pan _=>none)=rnE O P n k t b h1 (cr x):=by
 cases x with
 |none=>rfl
 |some d=>
  obtain⟨o,es,fs⟩:=d
  cases o<;>rfl
theorem beD(n:Nat)(f:Operand)(ps:Array Nat)(asg body:Code)(k:List Qk)(t:List AV)(h:Qa):
 Sm O P (n+1) (.rangeFunc f ps asg body) k ⟨t,h⟩=rnE O P n k t h.length (h++[.lp ps.toList asg body t .ready]) (rnC O (h++[.lp ps.toList asg body t .ready]) h.length (Qe t f)):=by
 simp only[Sm,rnC]
 cases Qe t f with
 |none=>rfl
 |some v=>
  simp only[ab9]
  cases v with
  |func fn a c=>
   cases fn with
   |func g=>exact bkT n k t h.length _ _
   |_=>rfl
  |_=>rfl
theorem aYH(h1:Qa)(b g:Nat)(a c:List AV):rnC O h1 b (some (.func (.func g) a c))=if rY (a++[.yl b]++c)=true then shC O h1 g (a++[.yl b]++c)else cr (Sv O (hf h1) h1.length (.fn g) (a++[.yl b]++c)):=asZ h1 g _
theorem aHP(n:Nat)(k:List Qk)(t:List AV)(b:Nat)(h1:Qa)(v:AV)(es:List Qd):rnE O P n k t b h1 (some (.ret v,es))=rnX O P n k t b (Rj h1 es) ((Rj h1 es)[b]?):=aaM rfl rfl
theorem an2(n:Nat)(k:List Qk)(t:List AV)(b:Nat)(h2:Qa)(ps:List Nat)(asg body:Code)(tm:List AV):rnX O P n k t b h2 (some (.lp ps asg body tm .ready))=Ry (Sm O P n) k .normal ⟨t,h2.set b .dead⟩:=aaM rfl rfl
def slK(h:Qa)(b:Nat)(ok:Yl→Bool)(st:Yl)(x:Option CB):Option Qa:=
 match x with
 |some (.lp ps asg body tmps st')=>if ok st' then some (h.set b (.lp ps asg body tmps st))else none
 |_=>none
theorem biK(h:Qa)(b:Nat)(ok:Yl→Bool)(st:Yl):bD h b ok st=slK h b ok st (h[b]?):=by
 unfold bD slK
 cases h[b]? with
 |none=>rfl
 |some c=>cases c<;>rfl
theorem atI(h:Qa)(b:Nat)(st:Yl)(ps:List Nat)(asg body:Code)(tm:List AV):slK h b Yl.isReady st (some (.lp ps asg body tm .ready))=some (h.set b (.lp ps asg body tm st)):=aaM rfl rfl
theorem aJN(h:Qa)(b:Nat)(st:Yl)(ps:List Nat)(asg body:Code)(tm:List AV):slK h b Yl.isBusy st (some (.lp ps asg body tm .busy))=some (h.set b (.lp ps asg body tm st)):=aaM rfl rfl
def aRB(O:Ue)(P:Program)(body:Code)(t:List AV)(x:Option Qa):R:=
 match x with
 |some h1=>Sm O P 5000 body [] ⟨t,h1⟩
 |none=>none
def asH(O:Ue)(P:Program)(b:Nat)(body:Code)(x:R):R:=
 match x with
 |some (.normal,s)=>aRB O P body s.tmps (bD s.h b Yl.isReady .busy)
 |_=>none
def afL(r:Bool)(x:Option Qa):Option (Tz × Qa):=x.map fun h2=>(.ret (.bool r),h2)
def apC(b:Nat)(x:R):Option (Tz × Qa):=
 match x with
 |some (.normal,s)=>afL true (bD s.h b Yl.isBusy .ready)
 |some (.ret,s)=>afL false (bD s.h b Yl.isBusy (.done .ret))
 |some (.exit i,s)=>afL false (bD s.h b Yl.isBusy (.done (.exit i)))
 |_=>none
theorem aoK(body:Code)(t:List AV)(h:Qa):aRB O P body t (some h)=Sm O P 5000 body [] ⟨t,h⟩:=aaM rfl rfl
theorem adC(b:Nat)(body:Code)(t:List AV)(h:Qa):asH O P b body (some (.normal,⟨t,h⟩))=aRB O P body t (bD h b Yl.isReady .busy):=aaM rfl rfl
theorem ao5(r:Bool)(h:Qa):afL r (some h)=some (.ret (.bool r),h):=aaM rfl rfl
theorem asE{vs:List AV}{b:Nat}{h:Qa}{ps:List Nat}{asg body:Code}{tm:List AV}{st:Yl}(hb:h[b]?=some (.lp ps asg body tm st))(hl:ps.length=vs.length):
 Zs O P (vs++[.yl b]) h=apC b (asH O P b body (Sm O P 5000 asg [] ⟨bO tm ps vs,h⟩)):=by
 unfold Zs
 simp only[List.reverse_append,List.reverse_cons,List.reverse_nil,ai9,apM,List.reverse_reverse,List.length_reverse,hb,hl,if_true,Yd]
 cases Sm O P 5000 asg [] ⟨bO tm ps vs,h⟩with
 |none=>rfl
 |some x=>
  obtain⟨e,s⟩:=x
  cases e with
  |normal=>
   simp only[ab9,asH]
   cases bD s.h b Yl.isReady .busy with
   |none=>rfl
   |some h1=>
    simp only[ab9,aRB]
    cases Sm O P 5000 body [] ⟨s.tmps,h1⟩with
    |none=>rfl
    |some y=>
     obtain⟨e,s⟩:=y
     cases e with
     |normal=>simp only[ab9,aT,apC,afL];cases bD s.h b Yl.isBusy .ready<;>rfl
     |ret=>simp only[ab9,aT,apC,afL];cases bD s.h b Yl.isBusy (.done .ret)<;>rfl
     |exit i=>simp only[ab9,aT,apC,afL];cases bD s.h b Yl.isBusy (.done (.exit i))<;>rfl
     |pan v=>rfl
  |_=>rfl
def RnE(b:Nat)(Q:Tz→Qa→Prop)(x:R):Prop:=∃o h',apC b x=some (o,h')∧Q o h'
def RnQ(O:Ue)(args:List AV)(h:Qa)(Q:Tz→Qa→Prop):Prop:=∃o h',O.call .round args h=some (o,h')∧Q o h'
theorem RnQ.start{vs:List AV}{b:Nat}{h:Qa}{ps:List Nat}{asg body:Code}{tm:List AV}{st:Yl}{Q:Tz→Qa→Prop}(hb:h[b]?=some (.lp ps asg body tm st))(hl:ps.length=vs.length)
 (he:RnE b Q (asH (om P pr) P b body (Sm (om P pr) P 5000 asg [] ⟨bO tm ps vs,h⟩))):RnQ (om P pr) (vs++[.yl b]) h Q:=by
 obtain⟨o,h',e,q⟩:=he
 exact⟨o,h',ad0 ((asE hb hl).trans e),q⟩
theorem a8L{C:R→Prop}{n f b:Nat}{k:List Qk}{t:List AV}{h1 h2:Qa}{args:List AV}{Q:Tz→Qa→Prop}(hq:ShQ O f args h2 Q)(hk:∀o h',Q o h'→C (rnE O P n k t b h1 (shK h1 (some (o,h'))))):C (rnE O P n k t b h1 (shK h1 (O.call (.sh f) args h2))):=by
 obtain⟨o,h',e,q⟩:=hq
 rw[e];exact hk o h' q
theorem aoE(b:Nat)(Q:Tz→Qa→Prop)(t:List AV)(h:Qa):RnE b Q (some (.normal,⟨t,h⟩))=∃o h',afL true (bD h b Yl.isBusy .ready)=some (o,h')∧Q o h':=aaM rfl rfl
theorem aLK(h:Qa)(f:Nat)(args:List AV):aiK O h f args=if(lX args||O.md f)=true then some [.all]else ftR h args:=aaM rfl rfl
theorem auI{b:Nat}{Q:Tz→Qa→Prop}:¬RnE b Q none:=fun⟨_,_,h,_⟩=>by simp[apC]at h
theorem aLF(n:Nat)(t:Tm)(p:Nat)(ps:List Nat)(v:AV)(vs:List AV):bO (mk n t) (p::ps) (v::vs)=bO (mk n (up t p v)) ps vs:=by
 simp only[bO,asQ]
theorem a7L(n:Nat)(t:Tm)(vs:List AV):bO (mk n t) [] vs=mk n t:=by cases vs<;>rfl
end
def eN(f:Nat→Nat):Rf→Rf
 | .cells b o n=>.cells (f b) o n
 | .blk b=>.blk (f b)
 | .all=>.all
def lgF(f:Nat→Nat)(log:dA):List (List Rf × List Rf):=log.map fun x=>(x.1.map fun e=>eN f e.foot,x.2.map (eN f))
def abI(x y:List Rf × List Rf):Bool:=x.1.any (fun f=>(y.1++y.2).any f.meets)||y.1.any (fun f=>x.2.any f.meets)
def zU(ops:List Oper)(lg:List (List Rf × List Rf)):Bool:=
 (rQ ops).all fun(i,j)=>match lg[i]?,lg[j]? with
   |some x,some y=> !abI x y
   |_,_=>false
def wF(n q:Nat)(b:Nat):Nat:=if b<q then b else b-n+1000
theorem dL{n q b:Nat}(h:b<q):wF n q b=b:=by simp[wF,h]
theorem vE(f:Nat→Nat)(x y:Rf)(h:x.meets y=true):(eN f x).meets (eN f y)=true:=by
 cases x<;>cases y<;>simp_all[Rf.meets,eN]
theorem aw0(f:Nat→Nat)(x y:List Qd × List Rf)(h:aB x y=true):abI (x.1.map fun e=>eN f e.foot,x.2.map (eN f)) (y.1.map fun e=>eN f e.foot,y.2.map (eN f))=true:=by
 simp only[aB,abI,axS,ax2,ae5,axI]at h ⊢
 rcases h with⟨a,⟨e,he,rfl⟩,b,hb,hm⟩|⟨a,⟨e,he,rfl⟩,b,hb,hm⟩
 ·refine .inl ⟨_,⟨e,he,rfl⟩,eN f b,?_,vE f _ _ hm⟩
  rcases hb with⟨e',he',rfl⟩|hb
  ·exact .inl ⟨e',he',rfl⟩
  ·exact .inr ⟨b,hb,rfl⟩
 ·exact .inr ⟨_,⟨e,he,rfl⟩,eN f b,⟨b,hb,rfl⟩,vE f _ _ hm⟩
theorem tG(f:Nat→Nat){ops:List Oper}{log:dA}(h:zU ops (lgF f log)=true):Tq ops log=true:=by
 simp only[zU,Tq,ag5]at h ⊢
 rintro⟨i,j⟩ hij
 have:=h (i,j) hij
 simp only[lgF,axL]at this ⊢
 cases hi:log[i]? with
 |none=>simp[hi]at this
 |some x=>
  cases hj:log[j]? with
  |none=>simp[hi,hj]at this
  |some y=>
   simp only[hi,hj,afU,ax3,ayP]at this ⊢
   cases hc:aB x y with
   |false=>rfl
   |true=>rw[aw0 f x y hc]at this;cases this
theorem uS(n q:Nat){C:R→Prop}{ops:List Oper}{log:dA}{k:R}(hb:zU ops (lgF (wF n q) log)=true)(h:True→C k):C (Vj (Tq ops log) k):=vB (tG _ hb) h
theorem iU(f:Nat→Nat):lgF f []=[]:=aaM rfl rfl
theorem dZ(f:Nat→Nat)(x:List Qd)(y:List Rf)(l:dA):lgF f ((x,y)::l)=(x.map (fun e=>eN f e.foot),y.map (eN f))::lgF f l:=aaM rfl rfl
theorem aV(f:Nat→Nat)(b o n:Nat):eN f (.cells b o n)=.cells (f b) o n:=aaM rfl rfl
theorem iP(f:Nat→Nat)(b:Nat):eN f (.blk b)=.blk (f b):=aaM rfl rfl
theorem jF(b:Nat)(c:CB):Qd.foot (.new b c)=.blk b:=aaM rfl rfl
theorem jR(b:Nat)(c:CB):Qd.foot (.put b c)=.blk b:=aaM rfl rfl
theorem aO(b r o:Nat)(vs:List AV):Qd.foot (.cells b r o vs)=.cells b o vs.length:=aaM rfl rfl
section
variable {P:Program} {O:Ue}
end
def EVs:=PLift.up (aaB @beD (aaB @aYH (aaB @aHP (aaB @an2 (aaB @biK (aaB @atI (aaB @aJN (aaB @aoK (aaB @adC (aaB @ao5 (aaB @aoE (aaB @aLF (aaB @aLK @a7L)))))))))))))
end
noncomputable section
open Go.RowKit
set_option maxRecDepth 100000
def EVZ:=PLift.up (aaB EVa.down (aaB EVb.down (aaB EVc.down (aaB EVd.down (aaB EVe.down (aaB EVf.down (aaB EVg.down (aaB EVh.down (aaB EVi.down (aaB EVj.down (aaB EVk.down (aaB EVl.down (aaB EVm.down (aaB EVn.down (aaB EVo.down (aaB EVp.down EVq.down))))))))))))))))
section
variable {P:Program} {O:Ue}
class NoN(C:R→Prop):Prop where
 no:¬C none
instance{q:Nat}{rs:List ResultVar}{Q:Tz→Qa→Prop}:NoN (FnE P q rs Q):=⟨avE⟩
instance{rs:List ResultVar}{Q:Tz→Qa→Prop}:NoN (FnS P rs Q):=⟨asV⟩
instance{N:Nat}{J:Tm→Qa→Prop}{Q:Ex→St→Prop}:NoN (Rnd N J Q):=⟨aq1⟩
instance{b:Nat}{Q:Tz→Qa→Prop}:NoN (RnE b Q):=⟨auI⟩
end
end
noncomputable section
open Go.RowKit
set_option maxRecDepth 100000
section
variable {P:Program} {O:Ue}
class Spl(r:R)(b:outParam Bool)(x y:outParam R):Prop where
 sp:∀{C:R→Prop},(b=true→C x)→(b=false→C y)→C r
instance{n:Nat}{k:List Qk}{d:Option Nat}{op:Op}{cs:List CO}{b w:Bool}{t:List AV}{h:Qa}:Spl (rcG O P n k d op cs (.bool b) w t h) b (rcG O P n k d op cs (.bool true) w t h) (rcG O P n k d op cs (.bool false) w t h):=⟨bmO⟩
instance{n:Nat}{x y:Code}{k:List Qk}{g:Bool}{s:St}:Spl (cdK O P n x y k (some (.bool g)) s) g (Sm O P n x k s) (Sm O P n y k s):=⟨blX⟩
instance{n:Nat}{k:List Qk}{d:Option Nat}{op:Op}{cs:List CO}{b w:Bool}{t:List AV}{h:Qa}:Spl (rqG O P n k d op cs (.bool b) w t h) b (rqG O P n k d op cs (.bool true) w t h) (rqG O P n k d op cs (.bool false) w t h):=⟨biO⟩
instance{n:Nat}{k:List Qk}{d:Option Nat}{op:Op}{cs:List CO}{b w:Bool}{t:List AV}{h:Qa}:Spl (rwG O P n k d op cs (.bool b) w t h) b (rwG O P n k d op cs (.bool true) w t h) (rwG O P n k d op cs (.bool false) w t h):=⟨biG⟩
instance{n:Nat}{k:List Qk}{ops:List Oper}{d:Option Nat}{op:Op}{cs:List CO}{b w:Bool}{t:List AV}{h:Qa}{log:dA}:Spl (rlG O P n k ops d op cs (.bool b) w t h log) b (rlG O P n k ops d op cs (.bool true) w t h log) (rlG O P n k ops d op cs (.bool false) w t h log):=⟨bl5⟩
theorem Qm{C:R→Prop}{r x y:R}{b:Bool}(h1:b=true→C x)(h2:b=false→C y)(s:Spl r b x y:=by infer_instance):C r:=s.sp h1 h2
class Drw(i:Nat)(r:R)(c:outParam Bool)(r':outParam R):Prop where
 dr:∀{C:R→Prop},¬C none→c=true→C r'→C r
instance{b:Bool}{k:R}:Drw 0 (Vj b k) b k:=⟨fun _=>aT2⟩
instance{n id:Nat}{ops:Array Oper}{k:List Qk}{t:List AV}{h:Qa}:Drw 1 (Sm O P (n+1) (.region id ops true) k ⟨t,h⟩) (aH ops.toList&&ajE ops.toList) (rw O P n k (ops.toList.map (Wi ops.toList)) t h):=⟨fun h=>blP h⟩
instance{n id:Nat}{ops:Array Oper}{k:List Qk}{t:List AV}{h:Qa}:Drw 2 (Sm O P (n+1) (.region id ops true) k ⟨t,h⟩) (aH ops.toList&&bgG ops.toList) (rq O P n k (ops.toList.map (Wi ops.toList)) t h):=⟨fun h=>bgA h⟩
instance{n id:Nat}{ops:Array Oper}{k:List Qk}{t:List AV}{h:Qa}:Drw 3 (Sm O P (n+1) (.region id ops true) k ⟨t,h⟩) (aH ops.toList) (rl O P n k ops.toList (ops.toList.map (Wi ops.toList)) t h []):=⟨fun h=>bh8 h⟩
structure Dw(r r':R):Prop where
 dr:∀{C:R→Prop},¬C none→C r'→C r
theorem dg{r r':R}{c:Bool}[d:Drw 0 r c r'](h:c=true:=by kernel_rfl):Dw r r':=⟨fun n k=>d.dr n h k⟩
theorem dw(i:Nat){r r':R}{c:Bool}[d:Drw i r c r'](h:c=true:=by decide+kernel):Dw r r':=⟨fun n k=>d.dr n h k⟩
theorem fd{C:R→Prop}{r r':R}[n:NoN C](k:C r')(e:Dw r r':=by first|exact dg|exact dw 1|exact dw 2|exact dw 3):C r:=e.dr n.no k
theorem fdl{C:R→Prop}{r r':R}[n:NoN C](k:C r')(e:Dw r r':=by first|exact dg|exact dw 1|exact dw 3):C r:=e.dr n.no k
theorem fdq{C:R→Prop}{r r':R}[n:NoN C](k:C r')(e:Dw r r':=by first|exact dw 1|exact dw 2|exact dw 3):C r:=e.dr n.no k
end
section
variable {P:Program} {O:Ue}
def Un(O:Ue)(P:Program)(n:Nat)(k:List Qk)(c:Code)(C:R→Prop):R→Prop
 |some (.normal,s)=>C (lpK O P n k (O.loop c s))
 |some (e,s)=>C (Ry (Sm O P n) k e s)
 |none=>False
instance{n:Nat}{k:List Qk}{c:Code}{C:R→Prop}:NoN (Un O P n k c C):=⟨fun h=>h⟩
end
theorem au3:IntKind.i64.wrap 1=1:=aaM rfl rfl
def EE:=PLift.up (aaB EVZ.down (aaB @au3 (aaB @Wi.eq_1 (aaB @Qe.eq_1 (aaB @Qe.eq_2 (aaB @Qe.eq_4 (aaB @Rl.eq_1 (aaB @Rl.eq_2 (aaB @zW.eq_3 (aaB @jJ.eq_1 (aaB @jJ.eq_2 (aaB @jJ.eq_4 (aaB @jJ.eq_5 (aaB @jJ.eq_6 (aaB @jJ.eq_8 (aaB @Rj.eq_1 (aaB @Rj.eq_2 (aaB @aA.eq_1 (aaB @aA.eq_2 (aaB @aA.eq_3 (aaB @Yf.eq_1 (aaB @Sr.eq_1 (aaB @bsK.eq_1 (aaB @bP.eq_1 (aaB @bP.eq_2 (aaB @decide_true @decide_false))))))))))))))))))))))))))
def EF:=PLift.up (aaB EE.down EE.down)
def EG:=PLift.up (aaB EF.down EVs.down)
end
noncomputable section
open Go.RowKit
def On(m:List Nat)(F:Nat→Option Nat):Prop:=∀i b,m[i]?=some b→F i=some b
theorem On.mono{m m':List Nat}{F:Nat→Option Nat}(h:On m' F)(hp:m <+:m'):On m F:=fun _ _ hi=>h _ _ (aI hp hi)
structure Gd(m m' R:List Nat):Prop where
 pre:m <+:m'
 nd:m.Nodup→m'.Nodup
 sub:∀b∈m',b∈m∨b∈R
theorem Gd.refl(m R:List Nat):Gd m m R:=⟨ayV _,id,fun _ h=>.inl h⟩
theorem Gd.trans{m m1 m2 R1 R2 R:List Nat}(h1:Gd m m1 R1)(h2:Gd m1 m2 R2)(k1:∀b∈R1,b∈R)(k2:∀b∈R2,b∈R):Gd m m2 R:=
 ⟨h1.pre.trans h2.pre,fun h=>h2.nd (h1.nd h),fun b hb=>(h2.sub b hb).elim (fun h=>(h1.sub b h).imp id (k1 b)) (fun h=>.inr (k2 b h))⟩
theorem asK(m:List Nat)(b:Nat){R:List Nat}(hb:b∈R):Gd m (place m b).2 R:=by
 refine⟨(Xm m b).2.1,(Xm m b).2.2,fun x hx=>?_⟩
 unfold place at hx
 split at hx
 ·exact .inl hx
 ·rcases ae5.1 hx with h|h
  ·exact .inl h
  ·simp at h;subst h;exact .inr hb
def Sp(e:Nat)(x:AV)(R:List Nat):Prop:=∀m,∃x' m',Rk e m x=some (x',m')∧Gd m m' R∧∀F,On m' F→Vp e F x'=some x
def SpL(e:Nat)(l:List AV)(R:List Nat):Prop:=∀m,∃l' m',Rk.refL (Rk e) m l=some (l',m')∧Gd m m' R∧∀F,On m' F→Qo (Vp e F) l'=some l
def SpR(l:List (List AV))(R:List Nat):Prop:=∀m,∃l' m',Xc m l=some (l',m')∧Gd m m' R∧∀F,On m' F→Qo (Qo (Vp 8 F)) l'=some l
theorem spL{f:AV→Option (AV × List Nat)}{e:Nat}:∀{l:List AV} {p:List AV × List Nat},dS f l=some p→(∀x∈l,∀q,f x=some q→Sp e x q.2)→SpL e l p.2
 | [],p,h,_=>fun m=>⟨[],m,rfl,Gd.refl _ _,fun _ _=>rfl⟩
 |a::l,p,h,hf=>fun m=>by
  simp only[dS,abZ,abV]at h
  obtain⟨q,hq,r,hr,rfl⟩:=h
  obtain⟨x',m1,e1,g1,k1⟩:=hf a (aeN ..) q hq m
  obtain⟨l',m2,e2,g2,k2⟩:=spL hr (fun x hx=>hf x (acH _ hx)) m1
  refine⟨x'::l',m2,by simp[Rk.refL,e1,e2],g1.trans g2 (fun _ h=>ag0 _ h) (fun _ h=>ag1 _ h),fun F hF=>?_⟩
  simp[Qo,k1 F (hF.mono g2.pre),k2 F hF]
theorem spR{f:AV→Option (AV × List Nat)}:∀{l:List (List AV)} {p:List (List AV) × List Nat},Ri f l=some p→(∀r∈l,∀x∈r,∀q,f x=some q→Sp 8 x q.2)→SpR l p.2
 | [],p,h,_=>fun m=>⟨[],m,rfl,Gd.refl _ _,fun _ _=>rfl⟩
 |a::l,p,h,hf=>fun m=>by
  simp only[Ri,abZ,abV]at h
  obtain⟨q,hq,r,hr,rfl⟩:=h
  obtain⟨x',m1,e1,g1,k1⟩:=spL hq (hf a (aeN ..)) m
  obtain⟨l',m2,e2,g2,k2⟩:=spR hr (fun x hx=>hf x (acH _ hx)) m1
  refine⟨x'::l',m2,by simp[Xc,e1,e2],g1.trans g2 (fun _ h=>ag0 _ h) (fun _ h=>ag1 _ h),fun F hF=>?_⟩
  simp[Qo,k1 F (hF.mono g2.pre),k2 F hF]
theorem sp{g:HF}:∀{d e:Nat} {v:AV} {p:AV × List Nat},d≤e→rd d g v=some p→Sp e v p.2
 |0,e,v,p,_,h=>by simp[rd]at h
 |d+1,0,v,p,he,h=>by omega
 |d+1,e+1,v,p,he,h=>by
  have IH:∀x q,rd d g x=some q→Sp e x q.2:=fun x q hx=>sp (by omega) hx
  intro m
  cases v with
  |slr st b r len=>
   simp only[rd,abZ]at h
   obtain⟨z,_,h⟩:=h
   split at h
   ·have hb:b∈p.2:=by
     cases hfl:z.2.1 with
     |true=>rw[hfl]at h;simp at h;rw[←h];simp
     |false=>rw[hfl]at h;simp only[cond_false,abV]at h;obtain⟨q,_,rfl⟩:=h;simp
    exact⟨_,_,rfl,asK m b hb,fun F hF=>by simp[Vp,hF _ _ (Xm m b).1]⟩
   ·cases h
  |agg cs=>
   simp only[rd,abV]at h
   obtain⟨q,hq,rfl⟩:=h
   obtain⟨l',m1,e1,g1,k1⟩:=spL hq (fun x _=>IH x) m
   exact⟨.agg l',m1,by simp[Rk,e1],g1,fun F hF=>by simp[Vp,k1 F hF]⟩
  |iface t x=>
   simp only[rd,abV]at h
   obtain⟨q,hq,rfl⟩:=h
   obtain⟨l',m1,e1,g1,k1⟩:=IH x q hq m
   exact⟨.iface t l',m1,by simp[Rk,e1],g1,fun F hF=>by simp[Vp,k1 F hF]⟩
  |func fn a b=>
   cases a with
   |cons=>simp[rd]at h
   |nil=>
    cases b with
    |cons=>simp[rd]at h
    |nil=>exact⟨_,m,rfl,Gd.refl _ _,fun _ _=>rfl⟩
  |ptr b r o=>simp[rd]at h
  |tup cs=>simp[rd]at h
  |yl b=>simp[rd]at h
  |mapr b=>simp[rd]at h
  |itr b=>simp[rd]at h
  |imm=>simp[rd]at h
  |iptr=>simp[rd]at h
  |_=>exact⟨_,m,rfl,Gd.refl _ _,fun _ _=>rfl⟩
def Cl(g:HF)(S:List Nat):Prop:=∀b∈S,∃z,(g b).bind Qw=some z∧(z.2.1=false→∃d q,d≤8∧Ri (rd d g) z.2.2=some q∧∀x∈q.2,x∈S)
theorem Cl.nil(g:HF):Cl g []:=fun _ h=>by cases h
theorem Cl.app{g:HF}{S T:List Nat}(h1:Cl g S)(h2:Cl g T):Cl g (S++T):=fun b hb=>by
 rcases ae5.1 hb with h|h
 ·obtain⟨z,k1,k2⟩:=h1 b h
  exact⟨z,k1,fun e=>by obtain⟨d,q,a1,a2,a3⟩:=k2 e;exact⟨d,q,a1,a2,fun x hx=>ag0 _ (a3 x hx)⟩⟩
 ·obtain⟨z,k1,k2⟩:=h2 b h
  exact⟨z,k1,fun e=>by obtain⟨d,q,a1,a2,a3⟩:=k2 e;exact⟨d,q,a1,a2,fun x hx=>ag1 _ (a3 x hx)⟩⟩
theorem clL{g:HF}{f:AV→Option (AV × List Nat)}:∀{l:List AV} {p:List AV × List Nat},dS f l=some p→(∀x∈l,∀q,f x=some q→Cl g q.2)→Cl g p.2
 | [],p,h,_=>by simp[dS]at h;subst h;exact Cl.nil g
 |a::l,p,h,hf=>by
  simp only[dS,abZ,abV]at h
  obtain⟨q,hq,r,hr,rfl⟩:=h
  exact(hf a (aeN ..) q hq).app (clL hr fun x hx=>hf x (acH _ hx))
theorem clR{g:HF}{f:AV→Option (AV × List Nat)}:∀{l:List (List AV)} {p:List (List AV) × List Nat},Ri f l=some p→(∀r∈l,∀x∈r,∀q,f x=some q→Cl g q.2)→Cl g p.2
 | [],p,h,_=>by simp[Ri]at h;subst h;exact Cl.nil g
 |a::l,p,h,hf=>by
  simp only[Ri,abZ,abV]at h
  obtain⟨q,hq,r,hr,rfl⟩:=h
  exact(clL hq (hf a (aeN ..))).app (clR hr fun x hx=>hf x (acH _ hx))
theorem akI{g:HF}:∀{d:Nat} {v:AV} {p:AV × List Nat},d≤9→rd d g v=some p→Cl g p.2
 |0,v,p,_,h=>by simp[rd]at h
 |d+1,v,p,hd,h=>by
  have IH:∀x q,rd d g x=some q→Cl g q.2:=fun x q hx=>akI (by omega) hx
  cases v with
  |slr st b r len=>
   simp only[rd,abZ]at h
   obtain⟨z,hz,h⟩:=h
   have hz':(g b).bind Qw=some z:=abZ.2 hz
   split at h
   ·cases hfl:z.2.1 with
    |true=>
     rw[hfl]at h;simp at h;rw[←h]
     intro b' hb'
     simp at hb';subst hb'
     exact⟨z,hz',fun e=>by rw[hfl]at e;cases e⟩
    |false=>
     rw[hfl]at h;simp only[cond_false,abV]at h
     obtain⟨q,hq,rfl⟩:=h
     intro b' hb'
     rcases afC.1 hb' with rfl|hb'
     ·exact⟨z,hz',fun _=>⟨d,q,by omega,hq,fun x hx=>acH _ hx⟩⟩
     ·obtain⟨z',k1,k2⟩:=clR hq (fun r _ x _=>IH x) b' hb'
      exact⟨z',k1,fun e=>by obtain⟨d',q',a1,a2,a3⟩:=k2 e;exact⟨d',q',a1,a2,fun x hx=>acH _ (a3 x hx)⟩⟩
   ·cases h
  |agg cs=>
   simp only[rd,abV]at h
   obtain⟨q,hq,rfl⟩:=h
   exact clL hq fun x _=>IH x
  |iface t x=>
   simp only[rd,abV]at h
   obtain⟨q,hq,rfl⟩:=h
   exact IH x q hq
  |func fn a b=>
   cases a<;>cases b<;>first|(simp[rd]at h;subst h;exact Cl.nil g)|(simp[rd]at h)
  |_=>first|(simp[rd]at h;subst h;exact Cl.nil g)|(simp[rd]at h)
theorem pZ{F:Nat→Option Nat}(f:Nat→Nat):∀{e:Nat} {x' x:AV},Vp e F x'=some x→∃y,Rq e f x'=some y
 |0,x',x,h=>by simp[Vp]at h
 |e+1,x',x,h=>by
  have L:∀{l l1:List AV},Qo (Vp e F) l=some l1→∃y,Qo (Rq e f) l=some y:=fun {l}=>by
   induction l with
   |nil=>exact fun _=>⟨[],rfl⟩
   |cons a l ih=>
    intro l1 h
    simp only[Qo,abZ,abV]at h
    obtain⟨b,hb,c,hc,_⟩:=h
    obtain⟨y,hy⟩:=pZ f hb
    obtain⟨ys,hys⟩:=ih hc
    exact⟨y::ys,by simp[Qo,hy,hys]⟩
  cases x' with
  |agg cs=>simp only[Vp,abV]at h;obtain⟨_,h,_⟩:=h;obtain⟨y,hy⟩:=L h;exact⟨.agg y,by simp[Rq,hy]⟩
  |tup cs=>simp only[Vp,abV]at h;obtain⟨_,h,_⟩:=h;obtain⟨y,hy⟩:=L h;exact⟨.tup y,by simp[Rq,hy]⟩
  |iface t x=>simp only[Vp,abV]at h;obtain⟨_,h,_⟩:=h;obtain⟨y,hy⟩:=pZ f h;exact⟨.iface t y,by simp[Rq,hy]⟩
  |func fn a b=>
   simp only[Vp,abZ,abV]at h
   obtain⟨_,h1,_,h2,_⟩:=h
   obtain⟨y,hy⟩:=L h1
   obtain⟨y2,hy2⟩:=L h2
   exact⟨.func fn y y2,by simp[Rq,hy,hy2]⟩
  |_=>exact⟨_,rfl⟩
theorem acD{α β γ:Type}{f:α→Option β}{f':α→Option γ}(H:∀a b,f a=some b→∃c,f' a=some c):∀{l:List α} {r:List β},Qo f l=some r→∃s,Qo f' l=some s
 | [],_,_=>⟨[],rfl⟩
 |a::l,r,h=>by
  simp only[Qo,abZ,abV]at h
  obtain⟨b,hb,c,hc,_⟩:=h
  obtain⟨y,hy⟩:=H a b hb
  obtain⟨ys,hys⟩:=acD H hc
  exact⟨y::ys,by simp[Qo,hy,hys]⟩
def Stn(F:Nat→Option Nat)(c':CB)(z:Nat × Bool × List (List AV)):Prop:=
 ∃rows',Qw c'=some (z.1,z.2.1,rows')∧(z.2.1=true→rows'=z.2.2)∧(z.2.1=false→Qo (Qo (Vp 8 F)) rows'=some z.2.2)
def Rnm(c:CB):Prop:=∀f,∃c',Vm f c=some c'
theorem spB{g:HF}{S:List Nat}(H:Cl g S){b:Nat}(hb:b∈S)(m:List Nat):∃c c' m' z,g b=some c∧Qw c=some z∧gY m c=some (c',m')∧Gd m m' S∧(∀F,On m' F→Stn F c' z)∧Rnm c':=by
 obtain⟨z,hz,hc⟩:=H b hb
 obtain⟨c,k1,k2⟩:=abZ.1 hz
 have R:∀rows,z.2.1=false→rows=z.2.2→∃l' m',Xc m rows=some (l',m')∧Gd m m' S∧∀F,On m' F→Qo (Qo (Vp 8 F)) l'=some rows:=fun rows e er=>by
  obtain⟨d,q,a1,a2,a3⟩:=hc e
  obtain⟨l',m',e1,g1,e2⟩:=spR (er▸a2) (fun r _ x _ q hx=>sp a1 hx) m
  exact⟨l',m',e1,⟨g1.pre,g1.nd,fun x hx=>(g1.sub x hx).imp id (a3 x)⟩,e2⟩
 have R2:∀l' rows m',(∀F,On m' F→Qo (Qo (Vp 8 F)) l'=some rows)→∀f,∃y,Qo (Qo (Rq 8 f)) l'=some y:=fun l' rows m' h f=>
  acD (fun a b hab=>acD (fun a b hab=>pZ f hab) hab) (h (fun i=>m'[i]?) (fun _ _ h=>h))
 cases c with
 |live st fl w rows=>
  simp[Qw]at k2;subst k2
  cases fl with
  |true=>exact⟨_,_,m,_,k1,rfl,rfl,Gd.refl _ _,fun F _=>⟨rows,rfl,fun _=>rfl,fun e=>by cases e⟩,fun f=>⟨_,rfl⟩⟩
  |false=>
   obtain⟨l',m',e1,g1,e2⟩:=R rows rfl rfl
   refine⟨_,.live st false w l',m',_,k1,rfl,by simp[gY,e1],g1,fun F hF=>⟨l',rfl,fun e=>(by cases e),fun _=>e2 F hF⟩,fun f=>?_⟩
   obtain⟨y,hy⟩:=R2 l' rows m' e2 f
   exact⟨.live st false w y,by simp[Vm,hy]⟩
 |frz st fl rows=>
  simp[Qw]at k2;subst k2
  cases fl with
  |true=>exact⟨_,_,m,_,k1,rfl,rfl,Gd.refl _ _,fun F _=>⟨rows,rfl,fun _=>rfl,fun e=>by cases e⟩,fun f=>⟨_,rfl⟩⟩
  |false=>
   obtain⟨l',m',e1,g1,e2⟩:=R rows rfl rfl
   refine⟨_,.frz st false l',m',_,k1,rfl,by simp[gY,e1],g1,fun F hF=>⟨l',rfl,fun e=>(by cases e),fun _=>e2 F hF⟩,fun f=>?_⟩
   obtain⟨y,hy⟩:=R2 l' rows m' e2 f
   exact⟨.frz st false y,by simp[Vm,hy]⟩
 |dead=>simp[Qw]at k2
 |lp=>simp[Qw]at k2
theorem apW{S:List Nat}:∀{m:List Nat},m.Nodup→(∀b∈m,b∈S)→m.length≤S.length:=by
 induction S with
 |nil=>intro m _ h;cases m with
  |nil=>simp
  |cons a m=>exact absurd (h a (aeN ..)) (by simp)
 |cons s S ih=>
  intro m hn h
  have h2:=ih (m:=m.erase s) (hn.erase s) (fun b hb=>by
   have hb':=List.mem_of_mem_erase hb
   rcases afC.1 (h b hb')with rfl|h'
   ·exact absurd hb (hn.not_mem_erase)
   ·exact h')
  have h3:m.length≤(m.erase s).length+1:=by
   by_cases hs:s∈m
   ·rw[List.length_erase_of_mem hs];omega
   ·rw[List.erase_of_not_mem hs];omega
  simp;omega
theorem spC{g:HF}{S:List Nat}(H:Cl g S):∀(n i:Nat) (m:List Nat),m.Nodup→(∀b∈m,b∈S)→S.length<n+i→i≤m.length→
 ∃cs m',Xq n g i m=some (cs,m')∧m <+:m'∧m'.Nodup∧(∀b∈m',b∈S)∧i+cs.length=m'.length∧(∀c∈cs,Rnm c)∧
  ∀F,On m' F→∀j c',cs[j]?=some c'→∃b z,m'[i+j]?=some b∧(g b).bind Qw=some z∧Stn F c' z
 |0,i,m,hn,hs,hl,hi=>by have:=apW hn hs;omega
 |n+1,i,m,hn,hs,hl,hi=>by
  unfold Xq
  cases hm:m[i]? with
  |none=>
   have:m.length≤i:=aJY.1 hm
   exact⟨[],m,rfl,ayV _,hn,hs,by simp;omega,(fun c hc=>by cases hc),fun F _ j c' hj=>by simp at hj⟩
  |some b=>
   have hlt:=(ag2.1 hm).1
   obtain⟨c,c',m1,z,k1,k2,k3,g1,k4,k5⟩:=spB H (hs b (apI hm)) m
   obtain⟨cs,m',e1,p1,p2,p3,p4,p5,p6⟩:=spC H n (i+1) m1 (g1.nd hn) (fun b hb=>(g1.sub b hb).elim (hs b) id) (by omega) (by have:=g1.pre.length_le;omega)
   refine⟨c'::cs,m',by simp[k1,k3,e1],g1.pre.trans p1,p2,p3,by simp;omega,fun x hx=>?_,fun F hF j x hj=>?_⟩
   ·rcases afC.1 hx with rfl|hx
    ·exact k5
    ·exact p5 x hx
   ·cases j with
    |zero=>
     simp at hj;subst hj
     exact⟨b,z,aI (g1.pre.trans p1) (by simpa using hm),by rw[k1];exact k2,k4 F (hF.mono p1)⟩
    |succ j=>
     simp at hj
     obtain⟨b',z',a1,a2,a3⟩:=p6 F hF j x hj
     exact⟨b',z',by rw[←a1];congr 1;omega,a2,a3⟩
theorem a3T{h:Qa}{v:AV}{R:List Nat}(hs:Sp 8 v R)(hc:Cl (hf h) R)(hR:R.length<5000):
 ∃v' cs F,bJ 0 v h=some (v',cs)∧a4K F (hf cs) (hf h)∧Vp 8 F v'=some v∧∀c∈cs,Rnm c:=by
 obtain⟨v',m,e1,g1,k1⟩:=hs []
 have hm:∀b∈m,b∈R:=fun b hb=>(g1.sub b hb).elim (fun h=>by cases h) id
 obtain⟨cs,m',e2,p1,p2,p3,p4,p5,p6⟩:=spC hc 5000 0 m (g1.nd List.nodup_nil) hm (by omega) (aiJ _)
 refine⟨v',cs,fun i=>m'[i]?,by simp[bJ,Xy,Rk.refL,e1,e2,axR],fun i b hi z hz=>?_,k1 _ (fun _ _ h=>aI p1 h),p5⟩
 have hlt:=(ag2.1 hi).1
 obtain⟨b',z',a1,a2,rows',a3,a4,a5⟩:=p6 (fun i=>m'[i]?) (fun _ _ h=>h) i _ (akD (by omega))
 rw[apN]at a1
 have hbb:b=b':=by have hi':m'[i]?=some b:=hi;rw[hi']at a1;cases a1;rfl
 subst hbb
 rw[hz]at a2;cases a2
 exact⟨rows',by show(cs[i]?).bind Qw=_;rw[akD (by omega)];exact a3,a4,a5⟩
end
end Go.Ev
namespace Go.Ev
open Go.RowKit
theorem fA{f:Nat→Nat}{F:Nat→Option Nat}(hF:∀b,F (f b)=some b):∀{e:Nat} {x x1:AV},Rq e f x=some x1→Vp e F x1=some x
 |0,x,x1,h=>by simp[Rq]at h
 |e+1,x,x1,h=>by
  have L:∀{l l1:List AV},Qo (Rq e f) l=some l1→Qo (Vp e F) l1=some l:=fun {l}=>by
   induction l with
   |nil=>intro l1 h;simp[Qo]at h;subst h;rfl
   |cons a l ih=>
    intro l1 h
    simp only[Qo,abZ,abV]at h
    obtain⟨b,hb,c,hc,rfl⟩:=h
    simp[Qo,fA hF hb,ih hc]
  cases x with
  |agg cs=>simp only[Rq,abV]at h;obtain⟨_,h,rfl⟩:=h;simp[Vp,L h]
  |tup cs=>simp only[Rq,abV]at h;obtain⟨_,h,rfl⟩:=h;simp[Vp,L h]
  |iface t x=>simp only[Rq,abV]at h;obtain⟨_,h,rfl⟩:=h;simp[Vp,fA hF h]
  |func fn a b=>
   simp only[Rq,abZ,abV]at h
   obtain⟨_,h1,_,h2,rfl⟩:=h
   simp[Vp,L h1,L h2]
  |_=>simp only[Rq,afO.injEq]at h;subst h;simp[Vp,hF]
theorem eO{α β:Type}{f:α→Option β}{f':β→Option α}(H:∀a b,f a=some b→f' b=some a):∀{l:List α} {r:List β},Qo f l=some r→Qo f' r=some l
 | [],r,h=>by simp[Qo]at h;subst h;rfl
 |a::l,r,h=>by
  simp only[Qo,abZ,abV]at h
  obtain⟨b,hb,c,hc,rfl⟩:=h
  simp[Qo,H a b hb,eO H hc]
theorem ad1{f:Nat→Nat}:∀{cs:List CB} (_:∀c∈cs,Rnm c) (base:Nat),∃ns cs1,Xa f base cs=some ns∧(∀G,Rj G ns=G++cs1)∧Qo (Vm f) cs=some cs1
 | [],_,base=>⟨[],[],rfl,fun G=>by simp[Rj],rfl⟩
 |c::cs,h,base=>by
  obtain⟨c1,e1⟩:=h c (aeN ..) f
  obtain⟨ns,cs1,e2,e3,e4⟩:=ad1 (f:=f) (cs:=cs) (fun c hc=>h c (acH _ hc)) (base+1)
  exact⟨.new base c1::ns,c1::cs1,by simp[Xa,e1,e2],fun G=>by simp[Rj,aA,e3],by simp[Qo,e1,e4]⟩
theorem as1{f:Nat→Nat}{F:Nat→Option Nat}(hF:∀b,F (f b)=some b){c c1:CB}(h:Vm f c=some c1){z:Nat × Bool × List (List AV)}(hz:Qw c=some z):Stn F c1 z:=by
 cases c with
 |live st fl w rows=>
  simp[Qw]at hz;subst hz
  cases fl with
  |true=>simp[Vm]at h;subst h;exact⟨rows,rfl,fun _=>rfl,fun e=>by cases e⟩
  |false=>
   simp only[Vm,abV]at h
   obtain⟨r,hr,rfl⟩:=h
   exact⟨r,rfl,fun e=>(by cases e),fun _=>eO (fun a b hab=>eO (fun a b hab=>fA hF hab) hab) hr⟩
 |frz st fl rows=>
  simp[Qw]at hz;subst hz
  cases fl with
  |true=>simp[Vm]at h;subst h;exact⟨rows,rfl,fun _=>rfl,fun e=>by cases e⟩
  |false=>
   simp only[Vm,abV]at h
   obtain⟨r,hr,rfl⟩:=h
   exact⟨r,rfl,fun e=>(by cases e),fun _=>eO (fun a b hab=>eO (fun a b hab=>fA hF hab) hab) hr⟩
 |dead=>simp[Qw]at hz
 |lp=>simp[Qw]at hz
structure Kp(lent:List Nat)(H H1:Qa):Prop where
 len:H.length≤H1.length
 rows:∀b,b<H.length→(hf H1 b).bind Qw=(hf H b).bind Qw
 same:∀b,b<H.length→b∉lent→H1[b]?=H[b]?
theorem abO{H:Qa}:∀(l:List Nat) (G:Qa),G.length=H.length→(∀b,(hf G b).bind Qw=(hf H b).bind Qw)→
 (Rj G (Tn (hf H) l)).length=H.length∧(∀b,(hf (Rj G (Tn (hf H) l)) b).bind Qw=(hf H b).bind Qw)∧∀b,b∉l→(Rj G (Tn (hf H) l))[b]?=G[b]?
 | [],G,h1,h2=>⟨h1,h2,fun _ _=>rfl⟩
 |a::l,G,h1,h2=>by
  unfold Tn
  have other:∀b,b∉a::l→b∉l:=fun b hb h=>hb (acH _ h)
  split
  ·rename_i st fl w rows ha
   have hlt:a<G.length:=by rw[h1];exact(ag2.1 ha).1
   obtain⟨k1,k2,k3⟩:=abO (H:=H) l (G.set a (.frz st fl rows)) (by simp[h1]) (fun b=>by
    by_cases hb:a=b
    ·subst hb
     show((G.set a _)[a]?).bind Qw=_
     rw[aLB hlt,ha];rfl
    ·show((G.set a _)[b]?).bind Qw=_
     rw[apJ hb];exact h2 b)
   refine⟨k1,k2,fun b hb=>?_⟩
   show(Rj (G.set a _) _)[b]?=_
   rw[k3 b (other b hb),apJ (fun e=>hb (by rw[←e];exact aeN ..))]
  ·obtain⟨k1,k2,k3⟩:=abO l G h1 h2
   exact⟨k1,k2,fun b hb=>k3 b (other b hb)⟩
theorem aJW{O:Ue}{H:Qa}{f:Nat}{args vs:List AV}{v:AV}{h':Qa}(hh:pkd O f args)(ha:Qo (qG H) args=some vs)(hp:vs.all (Qv 8)=true)
 (hc:O.call (.fn f) vs []=some (.ret v,h')) (h1:∀f,∃y,Rq 8 f v=some y) (h2:∀c∈h',Rnm c):
 ∃v1 es H1 F,cl O H (some (.func (.func f) [] [])) (some args)=some (.ret v1,es)∧Rj H es=H1∧a4K F (hf H1) (hf h')∧Vp 8 F v1=some v∧Kp (args.flatMap (Qp 12 (hf H))) H H1∧∀i b,F i=some b→H.length≤i:=by
 obtain⟨v1,e1⟩:=h1 (fun i=>H.length+i)
 obtain⟨ns,cs1,e2,e3,e4⟩:=ad1 (f:=fun i=>H.length+i) h2 H.length
 generalize hFF:(fun i=>if H.length≤i then some (i-H.length)else none:Nat→Option Nat)=F
 have hF:∀b,F (H.length+b)=some b:=fun b=>by rw[←hFF];simp
 have key:∃fz:List Qd,cl O H (some (.func (.func f) [] [])) (some args)=some (.ret v1,fz++ns)∧(fz=[]∨fz=Tn (hf H) (args.flatMap (Qp 12 (hf H)))):=by
  rw[a8E hh,aRR ha hp,hc]
  refine⟨_,by simp only[crR,ab9,Tz.v,e1,e2,afU,Tz.map];rfl,?_⟩
  split
  ·exact .inl rfl
  ·exact .inr rfl
 obtain⟨fz,ec,hfz⟩:=key
 have hK:(Rj H fz).length=H.length∧(∀b,(hf (Rj H fz) b).bind Qw=(hf H b).bind Qw)∧∀b,b∉args.flatMap (Qp 12 (hf H))→(Rj H fz)[b]?=H[b]?:=by
  rcases hfz with rfl|rfl
  ·exact⟨rfl,fun _=>rfl,fun _ _=>rfl⟩
  ·exact abO _ H rfl (fun _=>rfl)
 obtain⟨k1,k2,k3⟩:=hK
 have hap:Rj H (fz++ns)=Rj H fz++cs1:=by rw[jT,e3]
 refine⟨v1,_,_,F,ec,hap,fun i b hi z hz=>?_,fA hF e1,⟨by simp[k1],fun b hb=>?_,fun b hb hl=>?_⟩,fun i b hi=>?_⟩
 ·rw[←hFF]at hi;simp only at hi
  split at hi
  ·rename_i hle
   simp only[afO.injEq]at hi
   obtain⟨c,hcc,hcz⟩:=abZ.1 hz
   obtain⟨c1,g1,g2⟩:=cF e4 (show h'[b]?=some c from hcc)
   obtain⟨rows',r1,r2,r3⟩:=as1 hF g2 hcz
   refine⟨rows',?_,r2,r3⟩
   show((Rj H fz++cs1)[i]?).bind Qw=_
   rw[axH (by omega),k1,hi,g1]
   exact r1
  ·cases hi
 ·rw[←k2 b]
  show((Rj H fz++cs1)[b]?).bind Qw=_
  rw[amX (by omega)];rfl
 ·rw[amX (by omega)];exact k3 b hl
 ·rw[←hFF]at hi;simp only at hi
  split at hi
  ·assumption
  ·cases hi
end Go.Ev
namespace Go.Ev
noncomputable section
open Go.RowKit
theorem fdx{C:R→Prop}{r r':R}[n:NoN C](k:C r')(e:Dw r r':=by first|exact dw 1|exact dw 3):C r:=e.dr n.no k
theorem acF{g:HF}(f:Nat→Nat):∀{d e:Nat} {v:AV} {p:AV × List Nat},d≤e→rd d g v=some p→∃y,Rq e f v=some y
 |0,e,v,p,_,h=>by simp[rd]at h
 |d+1,0,v,p,he,h=>by omega
 |d+1,e+1,v,p,he,h=>by
  have L:∀{l:List AV} {q:List AV × List Nat},dS (rd d g) l=some q→∃y,Qo (Rq e f) l=some y:=fun {l}=>by
   induction l with
   |nil=>exact fun _=>⟨[],rfl⟩
   |cons a l ih=>
    intro q h
    simp only[dS,abZ,abV]at h
    obtain⟨b,hb,c,hc,_⟩:=h
    obtain⟨y,hy⟩:=acF f (show d≤e by omega) hb
    obtain⟨ys,hys⟩:=ih hc
    exact⟨y::ys,by simp[Qo,hy,hys]⟩
  cases v with
  |agg cs=>simp only[rd,abV]at h;obtain⟨_,h,_⟩:=h;obtain⟨y,hy⟩:=L h;exact⟨.agg y,by simp[Rq,hy]⟩
  |iface t x=>simp only[rd,abV]at h;obtain⟨_,h,_⟩:=h;obtain⟨y,hy⟩:=acF f (show d≤e by omega) h;exact⟨.iface t y,by simp[Rq,hy]⟩
  |func fn a b=>
   cases a<;>cases b<;>first|exact⟨_,rfl⟩|(simp[rd]at h)
  |tup cs=>simp[rd]at h
  |_=>exact⟨_,rfl⟩
theorem kT{g:HF}:∀{d e:Nat} {v:AV} {p:AV × List Nat},d≤e→rd d g v=some p→Vk e g v=some p.1
 |0,e,v,p,_,h=>by simp[rd]at h
 |d+1,0,v,p,he,h=>by omega
 |d+1,e+1,v,p,he,h=>by
  cases v with
  |slr st b r len=>exact sZ (akH he h)
  |agg cs=>
   simp only[rd,abV]at h
   obtain⟨q,hq,rfl⟩:=h
   simp[Vk,oK (f':=Vk e g) hq (fun x _ q' hx=>kT (show d≤e by omega) hx)]
  |iface t x=>
   simp only[rd,abV]at h
   obtain⟨q,hq,rfl⟩:=h
   simp[Vk,kT (show d≤e by omega) hq]
  |func fn a b=>cases a<;>cases b<;>first|(simp[rd]at h;subst h;rfl)|(simp[rd]at h)
  |_=>first|(simp[rd]at h;subst h;rfl)|(simp[rd]at h)
theorem aqZ{f:AV→Option (AV × List Nat)}{f':AV→List Nat}:∀{l:List AV} {p:List AV × List Nat},dS f l=some p→(∀x∈l,∀q,f x=some q→∀b∈f' x,b∈q.2)→∀b∈l.flatMap f',b∈p.2
 | [],p,h,_=>fun b hb=>by simp at hb
 |a::l,p,h,hf=>fun b hb=>by
  simp only[dS,abZ,abV]at h
  obtain⟨q,hq,r,hr,rfl⟩:=h
  rw[aw3]at hb
  rcases ae5.1 hb with hb|hb
  ·exact ag0 _ (hf a (aeN ..) q hq b hb)
  ·exact ag1 _ (aqZ hr (fun x hx=>hf x (acH _ hx)) b hb)
theorem aU1{f:AV→Option (AV × List Nat)}{f':AV→List Nat}:∀{l:List (List AV)} {p:List (List AV) × List Nat},Ri f l=some p→(∀r∈l,∀x∈r,∀q,f x=some q→∀b∈f' x,b∈q.2)→∀b∈l.flatMap (fun cs=>cs.flatMap f'),b∈p.2
 | [],p,h,_=>fun b hb=>by simp at hb
 |a::l,p,h,hf=>fun b hb=>by
  simp only[Ri,abZ,abV]at h
  obtain⟨q,hq,r,hr,rfl⟩:=h
  rw[aw3]at hb
  rcases ae5.1 hb with hb|hb
  ·exact ag0 _ (aqZ hq (hf a (aeN ..)) b hb)
  ·exact ag1 _ (aU1 hr (fun x hx=>hf x (acH _ hx)) b hb)
theorem nJ{g:HF}:∀{e d:Nat} {v:AV} {p:AV × List Nat},rd d g v=some p→∀b∈Qp e g v,b∈p.2
 |0,d,v,p,_,b,hb=>by simp[Qp]at hb
 |e+1,0,v,p,h,b,hb=>by simp[rd]at h
 |e+1,d+1,v,p,h,b,hb=>by
  cases v with
  |slr st c r len=>
   simp only[rd,abZ]at h
   obtain⟨z,hz,h⟩:=h
   split at h
   ·rename_i hq
    obtain⟨rfl,rfl,rfl⟩:=hq
    simp only[Qp,pO (abZ.2 hz)]at hb
    cases hfl:z.2.1 with
    |true=>rw[hfl]at h hb;simp at h hb;rw[←h];simp[hb]
    |false=>
     rw[hfl]at h hb
     simp only[cond_false,abV]at h
     obtain⟨q,hq',rfl⟩:=h
     rcases afC.1 hb with rfl|hb
     ·exact aeN ..
     ·exact acH _ (aU1 hq' (fun r _ x _ q' hx b hb=>nJ hx b hb) b (by simpa using hb))
   ·cases h
  |agg cs=>
   simp only[rd,abV]at h
   obtain⟨q,hq,rfl⟩:=h
   exact aqZ hq (fun x _ q' hx b hb=>nJ hx b hb) b hb
  |iface t x=>
   simp only[rd,abV]at h
   obtain⟨q,hq,rfl⟩:=h
   exact nJ hq b hb
  |_=>simp[Qp]at hb
def RdV(O:Ue)(f:Nat)(vs:List AV)(x:AV)(k:Nat):Prop:=
 ∃v h' R,O.call (.fn f) vs []=some (.ret v,h')∧rd 6 (hf h') v=some (x,R)∧R.length≤k∧∀c∈h',Rnm c
theorem RdV.cl{O:Ue}{f:Nat}{vs:List AV}{x:AV}{k:Nat}(K:RdV O f vs x k){H:Qa}{args:List AV}(hh:pkd O f args)(ha:Qo (qG H) args=some vs)(hp:vs.all (Qv 8)=true):
 ∃v es H1 R,cl O H (some (.func (.func f) [] [])) (some args)=some (.ret v,es)∧Rj H es=H1∧Kp (args.flatMap (Qp 12 (hf H))) H H1∧rd 6 (hf H1) v=some (x,R)∧R.length≤k∧∀b∈R,H.length≤b:=by
 obtain⟨v,h',R,hc,hr,hk,hn⟩:=K
 obtain⟨v1,es,H1,F,e1,e2,e3,e4,e5,e6⟩:=aJW hh ha hp hc (fun f=>acF f (show 6≤8 by omega) hr) hn
 obtain⟨R',k1,k2,k3⟩:=aiP e3 e4 hr
 exact⟨v1,es,H1,R',e1,e2,e5,k1,by rw[k2];exact hk,fun b hb=>by obtain⟨c,hc⟩:=k3 b hb;exact e6 b c hc⟩
theorem atS{h:Qa}{v x:AV}{R:List Nat}{Q:Tz→Qa→Prop}(h1:rd 6 (hf h) v=some (x,R))(hR:R.length<5000)
 (q:∀v' h' R',rd 6 (hf h') v'=some (x,R')→R'.length=R.length→(∀c∈h',Rnm c)→Q (.ret v') h'):Rt 0 (some [v]) h Q:=by
 obtain⟨v',cs,F,e1,e2,e3,e4⟩:=a3T (sp (e:=8) (by omega) h1) (akI (by omega) h1) hR
 obtain⟨R',k1,k2,_⟩:=aiP e2 e3 h1
 exact⟨_,_,by simp[arK,bP,e1],q _ _ _ k1 k2 e4⟩
theorem Uk{C:R→Prop}[n:NoN C]{r:R}(h:∀K:R→Prop,NoN K→(∀x,C x→K x)→K r):C r:=h C n fun _ h=>h
theorem fD{v:AV}{H:Qa}{b:Nat}(l:List CB)(hb:b<H.length)(hv:∀a c r m,v=.slr a c r m→c≠b):(kl 0 v H++l)[b]?=H[b]?:=by
 rw[amX (by rw[kS];exact hb)]
 unfold kl
 split
 ·rename_i a c r m
  rw[apJ];simpa using hv a c r m rfl
 ·rfl
theorem kF{H:Qa}{b:Nat}{z:Nat × Bool × List (List AV)}(h:(hf H b).bind Qw=some z):b<H.length:=by
 obtain⟨c,hc,_⟩:=abZ.1 h
 exact(ag2.1 hc).1
theorem gG{g g':HF}{d:Nat}{l:List AV}{p:List AV × List Nat}(h:dS (rd d g) l=some p)(ha:Agr p.2 g g'):dS (rd d g') l=some p:=
 jA h fun _ _ _ hq hs=>wM hq fun b hb=>ha b (hs b hb)
theorem tZ{g g':HF}{d:Nat}{l:List (List AV)}{p:List (List AV) × List Nat}(h:Ri (rd d g) l=some p)(ha:Agr p.2 g g'):Ri (rd d g') l=some p:=
 dJ h fun _ _ _ _ _ hq hs=>wM hq fun b hb=>ha b (hs b hb)
theorem vJ{H:Qa}{d:Nat}{l:List AV}{p:List AV × List Nat}(hd:d≤9)(h:dS (rd d (hf H)) l=some p):∀b∈p.2,b<H.length:=fun b hb=>by
 obtain⟨z,hz,_⟩:=clL h (fun x _ q hx=>akI hd hx) b hb
 exact kF hz
theorem zF{H:Qa}{d:Nat}{l:List (List AV)}{p:List (List AV) × List Nat}(hd:d≤9)(h:Ri (rd d (hf H)) l=some p):∀b∈p.2,b<H.length:=fun b hb=>by
 obtain⟨z,hz,_⟩:=clR h (fun r _ x _ q hx=>akI hd hx) b hb
 exact kF hz
theorem wR{f:AV→Option (AV × List Nat)}:∀{l:List (List AV)} {p:List (List AV) × List Nat},Ri f l=some p→l.length=p.1.length
 | [],p,h=>by simp[Ri]at h;subst h;rfl
 |a::l,p,h=>by
  simp only[Ri,abZ,abV]at h
  obtain⟨q,hq,r,hr,rfl⟩:=h
  simp[wR hr]
theorem mS{f:AV→Option (AV × List Nat)}:∀{l:List (List AV)} {p:List (List AV) × List Nat} {i:Nat} {X:List AV},Ri f l=some p→p.1[i]?=some X→∃r R,l[i]?=some r∧dS f r=some (X,R)
 | [],p,i,X,h,hx=>by simp[Ri]at h;subst h;simp at hx
 |a::l,p,i,X,h,hx=>by
  simp only[Ri,abZ,abV]at h
  obtain⟨q,hq,r,hr,rfl⟩:=h
  cases i with
  |zero=>simp at hx;subst hx;exact⟨a,q.2,rfl,hq⟩
  |succ i=>simp at hx;obtain⟨r',R',k1,k2⟩:=mS hr hx;exact⟨r',R',by simpa using k1,k2⟩
theorem ajA{f:AV→Option (AV × List Nat)}:∀{l:List AV} {p:List AV × List Nat},dS f l=some p→l.length=p.1.length
 | [],p,h=>by simp[dS]at h;subst h;rfl
 |a::l,p,h=>by
  simp only[dS,abZ,abV]at h
  obtain⟨q,hq,r,hr,rfl⟩:=h
  simp[ajA hr]
theorem Xl{f:AV→Option (AV × List Nat)}{l xs:List AV}{x:AV}{R:List Nat}(h:dS f l=some (x::xs,R)):∃a l' R1 R2,l=a::l'∧f a=some (x,R1)∧dS f l'=some (xs,R2)∧R=R1++R2:=by
 cases l with
 |nil=>simp[dS]at h
 |cons a l=>
  simp only[dS,abZ,abV]at h
  obtain⟨q,hq,r,hr,he⟩:=h
  simp only[Prod.mk.injEq,List.cons.injEq]at he
  obtain⟨⟨rfl,rfl⟩,rfl⟩:=he
  exact⟨a,l,q.2,r.2,rfl,hq,hr,rfl⟩
theorem dH{f:AV→Option (AV × List Nat)}{l:List AV}{R:List Nat}(h:dS f l=some ([],R)):l=[]∧R=[]:=by
 cases l with
 |nil=>simp[dS]at h;exact⟨rfl,h⟩
 |cons a l=>have:=ajA h;simp at this
theorem aiL{g:HF}{d:Nat}{v:AV}{k:IntKind}{n:Int}{R:List Nat}(h:rd (d+1) g v=some (.int k n,R)):v=.int k n∧R=[]:=by
 cases v with
 |slr st b r len=>
  simp only[rd,abZ]at h
  obtain⟨z,_,h⟩:=h
  split at h
  ·cases hfl:z.2.1<;>rw[hfl]at h<;>simp at h
  ·cases h
 |func fn a b=>cases a<;>cases b<;>simp[rd]at h
 |int k' n'=>simp[rd]at h;exact⟨by simp[h],h.2⟩
 |agg cs=>simp[rd]at h
 |iface t x=>simp[rd]at h
 |_=>simp[rd]at h
theorem axD{g:HF}{d st:Nat}{fl nn:Bool}{v:AV}{rows:List (List AV)}{R:List Nat}(h:rd (d+1) g v=some (Rh st fl nn rows,R)):v.isCell=true∧v.flat=false:=by
 have hs:Rh st fl nn rows=.nils∨∃r,Rh st fl nn rows=.imm st fl r:=by
  cases rows with
  |nil=>cases nn with
   |true=>exact .inr ⟨_,rfl⟩
   |false=>exact .inl rfl
  |cons=>exact .inr ⟨_,rfl⟩
 generalize Rh st fl nn rows=X at h hs
 cases v with
 |func fn a b=>cases a<;>cases b<;>first|exact⟨rfl,rfl⟩|(simp[rd]at h)
 |agg cs=>simp only[rd,abV]at h;obtain⟨_,_,h⟩:=h;simp only[Prod.mk.injEq]at h;obtain⟨h,_⟩:=h;subst h;rcases hs with hs|⟨_,hs⟩<;>cases hs
 |ptr b r o=>exact⟨rfl,rfl⟩
 |yl b=>exact⟨rfl,rfl⟩
 |mapr b=>exact⟨rfl,rfl⟩
 |itr b=>exact⟨rfl,rfl⟩
 |tup cs=>simp[rd]at h
 |bool b=>simp[rd]at h;obtain⟨h,_⟩:=h;subst h;rcases hs with hs|⟨_,hs⟩<;>cases hs
 |int k n=>simp[rd]at h;obtain⟨h,_⟩:=h;subst h;rcases hs with hs|⟨_,hs⟩<;>cases hs
 |str s=>simp[rd]at h;obtain⟨h,_⟩:=h;subst h;rcases hs with hs|⟨_,hs⟩<;>cases hs
 |_=>exact⟨rfl,rfl⟩
theorem cJ{g:HF}{d st:Nat}{fl nn:Bool}{v:AV}{rows:List (List AV)}{R:List Nat}(h:rd (d+1) g v=some (Rh st fl nn rows,R)):
 (v=.nils∧rows=[])∨∃b rows',v=.slr st b 0 rows.length∧(g b).bind Qw=some (st,fl,rows')∧rows'.length=rows.length∧(fl=true→rows'=rows)∧(fl=false→∃R',Ri (rd d g) rows'=some (rows,R')):=by
 have hs:(Rh st fl nn rows=.nils∧rows=[])∨Rh st fl nn rows=.imm st fl rows:=by
  cases rows with
  |nil=>cases nn with
   |true=>exact .inr rfl
   |false=>exact .inl ⟨rfl,rfl⟩
  |cons=>exact .inr rfl
 generalize Rh st fl nn rows=X at h hs
 cases v with
 |nils=>simp[rd]at h;obtain⟨rfl,_⟩:=h;rcases hs with⟨_,hs⟩|hs
        ·exact .inl ⟨rfl,hs⟩
        ·cases hs
 |slr st' b r len=>
  simp only[rd,abZ]at h
  obtain⟨z,hz,h⟩:=h
  split at h
  ·rename_i hq
   obtain⟨q1,rfl,q3⟩:=hq
   obtain⟨z1,z2,z3⟩:=z
   simp only at q1 q3 h
   subst q1
   cases z2 with
   |true=>
    simp at h
    obtain⟨rfl,_⟩:=h
    rcases hs with⟨hs,_⟩|hs
    ·cases hs
    ·cases hs
     exact .inr ⟨b,_,by rw[q3],abZ.2 hz,rfl,fun _=>rfl,fun e=>by cases e⟩
   |false=>
    simp only[cond_false,abV]at h
    obtain⟨q,hq,he⟩:=h
    simp only[Prod.mk.injEq]at he
    obtain⟨rfl,_⟩:=he
    rcases hs with⟨hs,_⟩|hs
    ·cases hs
    ·cases hs
     have hl:z3.length=q.1.length:=wR hq
     exact .inr ⟨b,z3,by rw[q3,hl],abZ.2 hz,hl,fun e=>(by cases e),fun _=>⟨q.2,hq⟩⟩
  ·cases h
 |func fn a b=>cases a<;>cases b<;>simp[rd]at h<;>(obtain⟨rfl,_⟩:=h;rcases hs with⟨hs,_⟩|hs<;>cases hs)
 |agg cs=>simp only[rd,abV]at h;obtain⟨_,_,h⟩:=h;simp only[Prod.mk.injEq]at h;obtain⟨rfl,_⟩:=h;rcases hs with⟨hs,_⟩|hs<;>cases hs
 |iface t x=>simp only[rd,abV]at h;obtain⟨_,_,h⟩:=h;simp only[Prod.mk.injEq]at h;obtain⟨rfl,_⟩:=h;rcases hs with⟨hs,_⟩|hs<;>cases hs
 |ptr b r o=>simp[rd]at h
 |yl b=>simp[rd]at h
 |mapr b=>simp[rd]at h
 |itr b=>simp[rd]at h
 |tup cs=>simp[rd]at h
 |imm=>simp[rd]at h
 |iptr=>simp[rd]at h
 |_=>simp[rd]at h;obtain⟨rfl,_⟩:=h;rcases hs with⟨hs,_⟩|hs<;>cases hs
theorem tK{H:Qa}{b st:Nat}{fl:Bool}{rows:List (List AV)}(h:(hf H b).bind Qw=some (st,fl,rows))(i:Nat):Yz (H[b]?) i=rows[i]?:=by
 obtain⟨c,hc,hz⟩:=abZ.1 h
 rw[show H[b]?=some c from hc]
 cases c<;>simp[Qw]at hz<;>(obtain⟨_,_,rfl⟩:=hz;rfl)
theorem oL{g:HF}{d:Nat}(k:IntKind)(n:Int):rd (d+1) g (.int k n)=some (.int k n,[]):=rfl
theorem akC{g:HF}{d st b n:Nat}{rows:List (List AV)}(h:(g b).bind Qw=some (st,true,rows))(hn:n=rows.length):rd (d+1) g (.slr st b 0 n)=some (.imm st true rows,[b]):=by
 subst hn;simp[rd,h]
theorem dG{f:AV→Option (AV × List Nat)}:dS f []=some ([],[]):=rfl
theorem Vo{f:AV→Option (AV × List Nat)}{a x:AV}{l xs:List AV}{R1 R2:List Nat}(h1:f a=some (x,R1))(h2:dS f l=some (xs,R2)):dS f (a::l)=some (x::xs,R1++R2):=by simp[dS,h1,h2]
theorem baE{x:Option (List AV)}{vs:List AV}{h:Qa}{Q:Tz→Qa→Prop}(hx:x=some vs)(k:Rt 0 (some vs) h Q):Rt 0 x h Q:=hx▸k
theorem RdV.of{O:Ue}{f:Nat}{vs:List AV}{x:AV}{k:Nat}(h:ClQ O f vs [] fun o h'=>∃v R,o=.ret v∧rd 6 (hf h') v=some (x,R)∧R.length≤k∧∀c∈h',Rnm c):RdV O f vs x k:=by
 obtain⟨o,h',e,v,R,rfl,k1,k2,k3⟩:=h
 exact⟨v,h',R,e,k1,k2,k3⟩
theorem rM{f:AV→Option (AV × List Nat)}:∀{l:List (List AV)} {p:List (List AV) × List Nat} {r:List AV} {q:List AV × List Nat},Ri f l=some p→dS f r=some q→Ri f (l++[r])=some (p.1++[q.1],p.2++q.2)
 | [],p,r,q,h,hr=>by simp[Ri]at h;subst h;simp[Ri,hr]
 |a::l,p,r,q,h,hr=>by
  simp only[Ri,abZ,abV]at h
  obtain⟨q1,hq1,r1,hr1,rfl⟩:=h
  simp[Ri,hq1,rM hr1 hr]
end
noncomputable section
open Go.RowKit
section
variable {P:Program} {O:Ue}
def slx(P:Program)(ty:TypeId)(a:Option AV)(l h:Option (Option AV)):OE:=r1 (a.bind fun a=>l.bind fun l=>h.bind fun h=>vL P ty a l h)
theorem apQ(t:List AV)(h:Qa)(ty:TypeId)(x:Operand)(lo hi:Option Operand):Td O P t h (.slice ty x lo hi none)=slx P ty (Qe t x) (qE t lo) (qE t hi):=by
 rw[Sj _ _ _ rfl]
 simp only[exec,slx]
 cases Qe t x with
 |none=>rfl
 |some a=>
  cases qE t lo with
  |none=>rfl
  |some l=>
   cases qE t hi with
   |none=>rfl
   |some h=>exact Vs _
def oS(x:Option AV):Option (Option AV):=x.map some
theorem aIP(v:AV):oS (some v)=some (some v):=aaM rfl rfl
theorem aoG(t:List AV):qE t none=some none:=aaM rfl rfl
theorem anG(t:List AV)(x:Operand):qE t (some x)=oS (Qe t x):=aaM rfl rfl
end
end
noncomputable section
set_option maxRecDepth 100000
section
variable {P:Program} {G:Nat→Option Obj}
end
section
variable {P:Program}
end
def EVu:=PLift.up (aaB @aP8 (aaB @zR (aaB @nI (aaB @apQ (aaB @aoG (aaB @anG @aIP))))))
end
noncomputable section
section
variable {α:Type}
end
end
section
def bH:Qa→Qa→Qa
 | [],h'=>h'
 |c₀::h,[]=>c₀::h
 |c₀::h,c::h'=>(bif c₀.quiet c then c₀ else c.mark)::bH h h'
def aeA(h h':Qa):Prop:=h.length≤h'.length∧∀(i:Nat) (c₀ c:CB),h[i]?=some c₀→h'[i]?=some c→c₀.quiet c=true∨c₀.isLive=true
theorem kL:∀(h h' pre:Qa),aeA h h'→∃es,Si pre.length h h'=some es∧Rj (pre++h) es=pre++bH h h'
 | [],h',pre,_=>⟨_,rfl,by simp[zH,bH]⟩
 |c₀::h,[],pre,ok=>by simp[aeA]at ok
 |c₀::h,c::h',pre,ok=>by
  have ok':aeA h h':=⟨by simpa using ok.1,fun i a b h1 h2=>ok.2 (i+1) a b (by simpa using h1) (by simpa using h2)⟩
  cases hq:c₀.quiet c with
  |true=>
   obtain⟨es,e1,e2⟩:=kL h h' (pre++[c₀]) ok'
   refine⟨es,?_,?_⟩
   ·simp only[Si,hq,cond_true]
    simpa using e1
   ·simpa [bH,hq]using e2
  |false=>
   have hl:c₀.isLive=true:=by
    rcases ok.2 0 c₀ c rfl rfl with h|h
    ·rw[hq]at h;cases h
    ·exact h
   obtain⟨es,e1,e2⟩:=kL h h' (pre++[c.mark]) ok'
   refine⟨.put pre.length c.mark::es,?_,?_⟩
   ·simp only[Si,hq,hl,cond_false,cond_true]
    simp only[axK,amZ,axM]at e1
    rw[e1];rfl
   ·simp only[Rj,aA,bH,hq,cond_false]
    have:(pre++c₀::h).set pre.length c.mark=(pre++[c.mark])++h:=by simp
    rw[this,e2];simp
theorem fH:∀{h h':Qa},h.length≤h'.length→(bH h h').length=h'.length
 | [],h',_=>rfl
 |c₀::h,[],hl=>by simp at hl
 |c₀::h,c::h',hl=>by simp[bH,fH (h:=h) (h':=h') (by simpa using hl)]
theorem aP:∀{h h':Qa} {i:Nat} {c₀ c:CB},h[i]?=some c₀→h'[i]?=some c→c₀.quiet c=true→(bH h h')[i]?=some c₀
 | [],h',i,c₀,c,h1,_,_=>by simp at h1
 |a::h,[],i,c₀,c,_,h2,_=>by simp at h2
 |a::h,b::h',0,c₀,c,h1,h2,hq=>by
  simp at h1 h2;subst h1 h2;simp[bH,hq]
 |a::h,b::h',i+1,c₀,c,h1,h2,hq=>by
  simp at h1 h2;simpa [bH]using aP h1 h2 hq
theorem kV:∀{h h':Qa} {i:Nat} {c₀ c:CB},h[i]?=some c₀→h'[i]?=some c→c₀.quiet c=false→(bH h h')[i]?=some c.mark
 | [],h',i,c₀,c,h1,_,_=>by simp at h1
 |a::h,[],i,c₀,c,_,h2,_=>by simp at h2
 |a::h,b::h',0,c₀,c,h1,h2,hq=>by
  simp at h1 h2;subst h1 h2;simp[bH,hq]
 |a::h,b::h',i+1,c₀,c,h1,h2,hq=>by
  simp at h1 h2;simpa [bH]using kV h1 h2 hq
theorem oG:∀{h h':Qa} {i:Nat},h.length≤h'.length→h.length≤i→(bH h h')[i]?=h'[i]?
 | [],h',i,_,_=>rfl
 |a::h,[],i,hl,_=>by simp at hl
 |a::h,b::h',0,_,hi=>by simp at hi
 |a::h,b::h',i+1,hl,hi=>by
  simpa [bH]using oG (h:=h) (h':=h') (i:=i) (by simpa using hl) (by simpa using hi)
theorem Ux{h:Qa}{i:Nat}{c:CB}(hc:h[i]?=some c):(Xe h)[i]?=some c.clean:=by simp[Xe,hc]
theorem Su(h:Qa):(Xe h).length=h.length:=by simp[Xe]
theorem ahK(c:CB):Qw c.clean=Qw c:=by cases c<;>rfl
theorem aoH(c:CB):Qw c.mark=Qw c:=by cases c<;>rfl
theorem abR{O:Ue}{H:Qa}{f:Nat}{args:List AV}{Q:Tz→Qa→Prop}(hd:rY args=true)(hm:O.md f=true)(K:ShQ O f args (Xe H) Q)(ok:∀o G,Q o G→aeA H G):
 ∃o G es,cl O H (some (.func (.func f) [] [])) (some args)=some (o,es)∧Rj H es=bH H G∧Q o G:=by
 obtain⟨o,G,hc,hq⟩:=K
 obtain⟨es,e1,e2⟩:=kL H G [] (ok o G hq)
 refine⟨o,G,es,?_,by simpa using e2,hq⟩
 rw[adY]
 simp only[ai9,amE,hd,if_true,shC,hm,apH,hc]
 rw[vK]
 have e1':Si 0 H G=some es:=e1
 rw[e1'];rfl
structure Yg(X:List Nat)(H H1:Qa):Prop where
 len:H.length≤H1.length
 same:∀b,b<H.length→b∉X→H1[b]?=H[b]?
theorem Yg.app(H l:Qa):Yg [] H (H++l):=⟨by simp,fun b hb _=>amX hb⟩
theorem Yg.trans{X Y:List Nat}{H H1 H2:Qa}(h1:Yg X H H1)(h2:Yg Y H1 H2):Yg (X++Y) H H2:=
 ⟨Nat.le_trans h1.len h2.len,fun b hb hn=>by
   rw[h2.same b (Nat.lt_of_lt_of_le hb h1.len) (fun h=>hn (ag1 _ h)),h1.same b hb (fun h=>hn (ag0 _ h))]⟩
end
noncomputable section
open Go.RowKit
def aaU(f:Nat→Nat):dA→List (List Rf × List Rf)→Prop
 | [],[]=>True
 |(es,fs)::l,(w,r)::l'=>(∀e∈es,Rf.all∈w∨eN f e.foot∈w)∧(∀x∈fs,Rf.all∈r∨eN f x∈r)∧aaU f l l'
 |_,_=>False
theorem aaU.get{f:Nat→Nat}:∀{l:dA} {l':List (List Rf × List Rf)} {i:Nat} {y:List Rf × List Rf},aaU f l l'→l'[i]?=some y→∃x,l[i]?=some x∧(∀e∈x.1,Rf.all∈y.1∨eN f e.foot∈y.1)∧(∀a∈x.2,Rf.all∈y.2∨eN f a∈y.2)
 | [],[],i,y,_,h=>by simp at h
 |(es,fs)::l,(w,r)::l',0,y,h,hy=>by simp at hy;subst hy;exact⟨_,rfl,h.1,h.2.1⟩
 |(es,fs)::l,(w,r)::l',i+1,y,h,hy=>by
  obtain⟨x,h1,h2⟩:=aaU.get h.2.2 (i:=i) (by simpa using hy)
  exact⟨x,by simpa using h1,h2⟩
theorem anQ(x:Rf):x.meets .all=true:=by cases x<;>rfl
theorem amT(x:Rf):Rf.meets .all x=true:=by cases x<;>rfl
theorem arH(f:Nat→Nat){ops:List Oper}{log:dA}(lg:List (List Rf × List Rf))(hc:aaU f log lg)(hd:zU ops lg=true):Tq ops log=true:=by
 simp only[zU,Tq,ag5]at hd ⊢
 rintro⟨i,j⟩ hij
 have:=hd (i,j) hij
 simp only at this ⊢
 cases hi:lg[i]? with
 |none=>simp[hi]at this
 |some x=>
  cases hj:lg[j]? with
  |none=>simp[hi,hj]at this
  |some y=>
   obtain⟨x',a1,a2,a3⟩:=hc.get hi
   obtain⟨y',b1,b2,b3⟩:=hc.get hj
   simp only[hi,hj,a1,b1,ax3,ayP]at this ⊢
   cases hk:aB x' y' with
   |false=>rfl
   |true=>
    rw[←this];symm
    have mt:∀{p q:Rf} {P Q:List Rf},p.meets q=true→(Rf.all∈P∨eN f p∈P)→(Rf.all∈Q∨eN f q∈Q)→∃p'∈P,∃q'∈Q,p'.meets q'=true:=fun {p q P Q} hm hp hq=>by
     rcases hp with hp|hp<;>rcases hq with hq|hq
     ·exact⟨_,hp,_,hq,rfl⟩
     ·exact⟨_,hp,_,hq,amT _⟩
     ·exact⟨_,hp,_,hq,anQ _⟩
     ·exact⟨_,hp,_,hq,vE f _ _ hm⟩
    simp only[aB,abI,axS,ax2,ae5,axI]at hk ⊢
    rcases hk with⟨_,⟨e,he,rfl⟩,b,hb,hm⟩|⟨_,⟨e,he,rfl⟩,b,hb,hm⟩
    ·left
     rcases hb with⟨e',he',rfl⟩|hb
     ·obtain⟨p,hp,q,hq,hpq⟩:=mt hm (a2 e he) (b2 e' he')
      exact⟨p,hp,q,.inl hq,hpq⟩
     ·obtain⟨p,hp,q,hq,hpq⟩:=mt hm (a2 e he) (b3 b hb)
      exact⟨p,hp,q,.inr hq,hpq⟩
    ·right
     obtain⟨p,hp,q,hq,hpq⟩:=mt hm (b2 e he) (a3 b hb)
     exact⟨p,hp,q,hq,hpq⟩
theorem aa4(f:Nat→Nat)(lg:List (List Rf × List Rf)){C:R→Prop}{ops:List Oper}{log:dA}{k:R}(hb:zU ops lg=true)(hc:aaU f log lg)(h:True→C k):C (Vj (Tq ops log) k):=vB (arH f lg hc hb) h
theorem nE(f:Nat→Nat):aaU f [] []=True:=rfl
theorem kD(f:Nat→Nat)(es:List Qd)(fs:List Rf)(l:dA)(w r:List Rf)(l':List (List Rf × List Rf)):aaU f ((es,fs)::l) ((w,r)::l')=((∀e∈es,Rf.all∈w∨eN f e.foot∈w)∧(∀x∈fs,Rf.all∈r∨eN f x∈r)∧aaU f l l'):=rfl
theorem aCR{O:Ue}{H:Qa}{f:Nat}{args:List AV}{o:Tz}{l:Qa}(hd:rY args=true)(hm:O.md f=true)(hc:O.call (.sh f) args (Xe H)=some (o,Xe H++l))(hq:Qy H=true):
 cl O H (some (.func (.func f) [] [])) (some args)=some (o,Ww H.length l):=by
 rw[adY]
 simp only[ai9,amE,hd,if_true,shC,hm,apH,hc]
 rw[vK,ajQ hq]
 simp
theorem aK0{O:Ue}{H:Qa}{f:Nat}{args:List AV}{o:Tz}(hd:rY args=true)(hm:O.md f=true)(hc:O.call (.sh f) args (Xe H)=some (o,Xe H))(hq:Qy H=true):
 cl O H (some (.func (.func f) [] [])) (some args)=some (o,[]):=by
 have:=aCR (l:=[]) hd hm (by simpa using hc) hq
 simpa [Ww]using this
theorem mD{H:Qa}(h:∀c∈H,c.quiet c.clean=true):Qy H=true:=by simp only[Qy,ag5];exact h
theorem Wc{H:Qa}(h:Qy H=true){b:Nat}{c:CB}(hb:H[b]?=some c):c.quiet c.clean=true:=by
 simp only[Qy,ag5]at h
 exact h c (apI hb)
theorem Uu{H l:Qa}(h:Qy H=true)(hl:Qy l=true):Qy (H++l)=true:=by
 simp only[Qy,ag5,ae5]at h hl ⊢
 exact fun c hc=>hc.elim (h c) (hl c)
theorem Uw{H:Qa}(h:Qy H=true)(b:Nat){c:CB}(hc:c.quiet c.clean=true):Qy (H.set b c)=true:=by
 simp only[Qy,ag5]at h ⊢
 exact fun x hx=>(List.mem_or_eq_of_mem_set hx).elim (h x) (fun e=>e▸hc)
theorem afN{c:CB}(h:c.quiet c.clean=true):c.clean.quiet c.clean.clean=true:=by cases c<;>first|rfl|exact h
theorem eY{H:Qa}(h:Qy H=true):Qy (Xe H)=true:=by
 simp only[Qy,Xe,ag5,axI]at h ⊢
 rintro c ⟨c0,h0,rfl⟩
 exact afN (h c0 h0)
theorem uI{c:CB}(h:c.quiet c.clean=true):c.mark.quiet c.mark.clean=true:=by cases c<;>first|rfl|exact h
theorem Yo{H0 G:Qa}{X:List Nat}(hq:Qy H0=true)(K:Yg X (Xe H0) G)(hX:∀b∈X,b<H0.length∧∀c0 c,H0[b]?=some c0→G[b]?=some c→c0.isLive=true∧c0.quiet c=false):
 aeA H0 G∧(bH H0 G).length=G.length∧(∀b,H0.length≤b→(bH H0 G)[b]?=G[b]?)∧(∀b,b<H0.length→b∉X→(bH H0 G)[b]?=H0[b]?)∧(∀b∈X,∀c,G[b]?=some c→(bH H0 G)[b]?=some c.mark):=by
 have hlen:H0.length≤G.length:=by have:=K.len;rwa[Su]at this
 have old:∀b c0,H0[b]?=some c0→b∉X→G[b]?=some c0.clean:=fun b c0 h0 hb=>by
  rw[K.same b (by rw[Su];exact(ag2.1 h0).1) hb,Ux h0]
 refine⟨⟨hlen,fun b c0 c h0 h1=>?_⟩,fH hlen,fun b hb=>oG hlen hb,fun b hb hn=>?_,fun b hb c hc=>?_⟩
 ·by_cases hb:b∈X
  ·exact .inr ((hX b hb).2 c0 c h0 h1).1
  ·rw[old b c0 h0 hb]at h1;cases h1
   exact .inl (Wc hq h0)
 ·obtain⟨c0,h0⟩:∃c,H0[b]?=some c:=⟨_,akD hb⟩
  rw[h0];exact aP h0 (old b c0 h0 hn) (Wc hq h0)
 ·obtain⟨h1,h2⟩:=hX b hb
  obtain⟨c0,h0⟩:∃c,H0[b]?=some c:=⟨_,akD h1⟩
  exact kV h0 hc (h2 c0 c h0 hc).2
theorem kH{H0 G:Qa}{X:List Nat}(hq:Qy H0=true)(K:Yg X (Xe H0) G)(hX:∀b∈X,b<H0.length∧∀c0 c,H0[b]?=some c0→G[b]?=some c→c0.isLive=true∧c0.quiet c=false)(hg:Qy G=true):Qy (bH H0 G)=true:=by
 obtain⟨_,k1,k2,k3,k4⟩:=Yo hq K hX
 refine mD fun c hc=>?_
 obtain⟨b,hb⟩:=axJ hc
 by_cases h1:b<H0.length
 ·by_cases h2:b∈X
  ·obtain⟨c1,h3⟩:∃c,G[b]?=some c:=⟨_,akD (by rw[←k1];exact(ag2.1 hb).1)⟩
   rw[k4 b h2 c1 h3]at hb;cases hb
   exact uI (Wc hg h3)
  ·rw[k3 b h1 h2]at hb;exact Wc hq hb
 ·rw[k2 b (by omega)]at hb;exact Wc hg hb
theorem anK{H0 G:Qa}{X:List Nat}(hq:Qy H0=true)(K:Yg X (Xe H0) G)(hX:∀b∈X,b<H0.length∧∀c0 c,H0[b]?=some c0→G[b]?=some c→c0.isLive=true∧c0.quiet c=false)(b:Nat):(hf (bH H0 G) b).bind Qw=(hf G b).bind Qw:=by
 obtain⟨_,k1,k2,k3,k4⟩:=Yo hq K hX
 show((bH H0 G)[b]?).bind Qw=(G[b]?).bind Qw
 by_cases h1:b<H0.length
 ·by_cases h2:b∈X
  ·cases h3:G[b]? with
   |none=>rw[aJY]at h3;have h4:=K.len;rw[Su]at h4;omega
   |some c1=>rw[k4 b h2 c1 h3];exact aoH c1
  ·rw[k3 b h1 h2,K.same b (by rw[Su];exact h1) h2]
   cases h3:H0[b]? with
   |none=>simp[Xe,h3]
   |some c=>rw[Ux h3];exact(ahK c).symm
 ·rw[k2 b (by omega)]
end
theorem Rw{h:Qa}{b:Nat}{c:CB}(e:h[b]?=some c):b<h.length:=(ag2.1 e).1
structure zY(st lo:Nat)(ov:AV)(h:Qa)(rows Q:List (List AV))(Ro:List Nat):Prop where
 own:aL7 0 st false rows ov h
 nil:rows=[]→ov=.nils
 q:Ri (rd 5 (hf h)) rows=some (Q,Ro)
 dx:∀b∈Ro,lo≤b
 dov:∀a b r n,ov=.slr a b r n→lo≤b∧b∉Ro∧b<h.length
theorem zY.none{st lo:Nat}{h:Qa}:zY st lo .nils h [] [] []:=⟨.inl ⟨rfl,rfl⟩,fun _=>rfl,rfl,by simp,fun _ _ _ _ e=>by cases e⟩
theorem zY.keep{st lo:Nat}{ov:AV}{h h':Qa}{rows Q:List (List AV)}{Ro:List Nat}(I:zY st lo ov h rows Q Ro)(hl:h.length≤h'.length)(k:∀b,lo≤b→b<h.length→h'[b]?=h[b]?):zY st lo ov h' rows Q Ro:=by
 refine⟨?_,I.nil,?_,I.dx,fun a b r n e=>?_⟩
 ·rcases I.own with h1|⟨b,w,h1,h2⟩
  ·exact .inl h1
  ·exact .inr ⟨b,w,h1,by rw[k b (by have:=(I.dov _ _ _ _ h1).1;simpa using this) (Rw h2)];exact h2⟩
 ·refine tZ I.q fun j hj z hz=>?_
  show(h'[j]?).bind Qw=_
  rw[k j (I.dx j hj) (zF (by omega) I.q j hj)];exact hz
 ·obtain⟨a1,b1,c⟩:=I.dov a b r n e
  exact⟨a1,b1,by omega⟩
theorem zY.snoc{st lo:Nat}{ov:AV}{h h':Qa}{rows Q:List (List AV)}{Ro:List Nat}(I:zY st lo ov h rows Q Ro)(hl:h.length≤h'.length)(k:∀b,lo≤b→b<h.length→h'[b]?=h[b]?){r X:List AV}{R':List Nat}(hr:dS (rd 5 (hf h')) r=some (X,R'))(hR:∀b∈R',h.length≤b)(hlo:lo≤h.length)(a:CB){m n:Nat}(hm:m=h'.length+1)(hn:n=rows.length+1):
 zY st lo (.slr st m 0 n) (kl 0 ov h'++[a,.live st false false (rows++[r])]) (rows++[r]) (Q++[X]) (Ro++R'):=by
 subst hm hn
 have I':=I.keep hl k
 have lR:=zF (by omega) I.q
 have lR':=vJ (by omega) hr
 have get:∀j,j<h'.length→(∀a m r n,ov=.slr a m r n→m≠j)→(kl 0 ov h'++[a,.live st false false (rows++[r])])[j]?=h'[j]?:=fun j hj ho=>fD _ hj ho
 have hlen:(kl 0 ov h').length=h'.length:=kS ..
 have hnew:(kl 0 ov h'++[a,.live st false false (rows++[r])])[h'.length+1]?=some (.live st false false (rows++[r])):=by
  rw[axH (by omega),hlen,show h'.length+1-h'.length=1 by omega];rfl
 have q1:Ri (rd 5 (hf (kl 0 ov h'++[a,.live st false false (rows++[r])]))) rows=some (Q,Ro):=tZ I'.q fun j hj z hz=>by
  show((kl 0 ov h'++_)[j]?).bind Qw=_
  rw[get j (by have:=lR j hj;omega) fun a m r n e e2=>(I.dov a m r n e).2.1 (e2▸hj)];exact hz
 have q2:dS (rd 5 (hf (kl 0 ov h'++[a,.live st false false (rows++[r])]))) r=some (X,R'):=gG hr fun j hj z hz=>by
  show((kl 0 ov h'++_)[j]?).bind Qw=_
  rw[get j (lR' j hj) fun a m r n e e2=>by have:=(I.dov a m r n e).2.2;have:=hR j hj;omega];exact hz
 refine⟨.inr ⟨h'.length+1,false,by simp,hnew⟩,fun e=>by simp at e,?_,fun b hb=>?_,fun a b r n e=>?_⟩
 ·simpa using rM q1 q2
 ·rcases ae5.1 hb with hb|hb
  ·exact I.dx b hb
  ·have:=hR b hb;omega
 ·cases e
  refine⟨by omega,fun hb=>?_,by simp[hlen]⟩
  rcases ae5.1 hb with hb|hb
  ·have:=lR _ hb;omega
  ·have:=lR' _ hb;omega
theorem aAR(d b:Nat):Qv (d+1) (.mapr b)=false:=aaM rfl rfl
theorem aHS(b:Nat):AV.isCell (.mapr b)=true:=aaM rfl rfl
theorem azV(b:Nat):AV.flat (.mapr b)=false:=aaM rfl rfl
theorem aDD(b:Nat):Qg (.mapr b)=[.mapr b]:=aaM rfl rfl
theorem aEX(d:Nat)(m:List Nat)(b:Nat):Rk (d+1) m (.mapr b)=some (.mapr (place m b).1,(place m b).2):=aaM rfl rfl
theorem aKF(d:Nat)(g:HF)(b:Nat):Qp (d+1) g (.mapr b)=[]:=aaM rfl rfl
theorem azC(h:Qa)(b:Nat):qG h (.mapr b)=some (.mapr b):=aaM rfl rfl
def bV:=PLift.up (aaB @aAR (aaB @aHS (aaB @azV (aaB @aDD (aaB @aEX (aaB @aKF @azC))))))
theorem uO(c:CB):c.quiet c.clean=true∨(c.clean.mark=c∧c.isLive=true):=by
 cases c with
 |lp a b d e st=>exact .inr ⟨rfl,rfl⟩
 |_=>exact .inl rfl
theorem xF:∀(cs:List CB) (i:Nat),∀e∈Ww i cs,∃b,e.foot=.blk b∧i≤b
 | [],i,e,h=>by cases h
 |c::cs,i,e,h=>by
  rcases afC.1 h with rfl|h
  ·exact⟨i,rfl,aeQ _⟩
  ·obtain⟨b,h1,h2⟩:=xF cs (i+1) e h
   exact⟨b,h1,by omega⟩
theorem aeH:∀{h h':Qa} {i:Nat} {es:List Qd},Si i h h'=some es→∀e∈es,∃b,e.foot=.blk b∧(i+h.length≤b∨∃j c₀ c,b=i+j∧h[j]?=some c₀∧h'[j]?=some c∧c₀.quiet c=false)
 | [],h',i,es,hs,e,he=>by
   simp only[Si,afO.injEq]at hs;subst hs
   obtain⟨b,h1,h2⟩:=xF h' i e he
   exact⟨b,h1,.inl (by simpa using h2)⟩
 |c₀::h,[],i,es,hs,e,he=>by simp[Si]at hs
 |c₀::h,c::h',i,es,hs,e,he=>by
  have up:∀{es':List Qd},Si (i+1) h h'=some es'→e∈es'→∃b,e.foot=.blk b∧(i+(c₀::h).length≤b∨∃j c₀' c',b=i+j∧(c₀::h)[j]?=some c₀'∧(c::h')[j]?=some c'∧c₀'.quiet c'=false):=fun {es'} h1 h2=>by
   obtain⟨b,k1,k2⟩:=aeH h1 e h2
   refine⟨b,k1,?_⟩
   rcases k2 with k2|⟨j,x,y,k3,k4,k5,k6⟩
   ·exact .inl (by simp;omega)
   ·exact .inr ⟨j+1,x,y,by omega,by simpa using k4,by simpa using k5,k6⟩
  unfold Si at hs
  cases hq:c₀.quiet c with
  |true=>rw[hq]at hs;exact up hs he
  |false=>
   rw[hq]at hs
   simp only[cond_false]at hs
   cases hl:c₀.isLive with
   |false=>rw[hl]at hs;simp at hs
   |true=>
    rw[hl]at hs
    simp only[cond_true,abV]at hs
    obtain⟨es',h1,rfl⟩:=hs
    rcases afC.1 he with rfl|he
    ·exact⟨i,rfl,.inr ⟨0,c₀,c,by simp,rfl,rfl,hq⟩⟩
    ·exact up h1 he
theorem awY{O:Ue}{H:Qa}{f:Nat}{args:List AV}{Q:Tz→Qa→Prop}(hd:rY args=true)(hm:O.md f=true)(K:ShQ O f args (Xe H) Q)(ok:∀o G,Q o G→aeA H G):
 ∃o G es,cl O H (some (.func (.func f) [] [])) (some args)=some (o,es)∧Rj H es=bH H G∧Si 0 H G=some es∧Q o G:=by
 obtain⟨o,G,hc,hq⟩:=K
 obtain⟨es,e1,e2⟩:=kL H G [] (ok o G hq)
 have e1':Si 0 H G=some es:=e1
 refine⟨o,G,es,?_,by simpa using e2,e1',hq⟩
 rw[adY]
 simp only[ai9,amE,hd,if_true,shC,hm,apH,hc]
 rw[vK,e1'];rfl
theorem auL{O:Ue}{H:Qa}{f:Nat}{args:List AV}{Q:Tz→Qa→Prop}(hd:rY args=true)(hm:O.md f=true)(K:ShQ O f args (Xe H) fun o G=>Q o G∧Yg [] (Xe H) G):
 ∃o G es M,cl O H (some (.func (.func f) [] [])) (some args)=some (o,es)∧Rj H es=M∧Q o G∧M.length=G.length∧H.length≤M.length∧(∀b,b<H.length→M[b]?=H[b]?)∧(∀b,H.length≤b→M[b]?=G[b]?)∧∀e∈es,∃b,e.foot=.blk b∧(H.length≤b∨∃c,H[b]?=some c∧c.quiet c.clean=false):=by
 obtain⟨o,G,es,e1,e2,e3,hq,hk⟩:=awY hd hm K fun o G ⟨_,hk⟩=>⟨by have:=hk.len;rwa[Su]at this,fun i c₀ c h1 h2=>by
  have h3:=hk.same i (by rw[Su];exact Rw h1) (by simp)
  rw[Ux h1,h2]at h3;cases h3
  rcases uO c₀ with h|h
  ·exact .inl h
  ·exact .inr h.2⟩
 have hl:H.length≤G.length:=by have:=hk.len;rwa[Su]at this
 refine⟨o,G,es,bH H G,e1,e2,hq,fH hl,by rw[fH hl];exact hl,fun b hb=>?_,fun b hb=>oG hl hb,fun e he=>?_⟩
 ·have h1:H[b]?=some H[b]:=akD hb
  have h2:=hk.same b (by rw[Su];exact hb) (by simp)
  rw[Ux h1]at h2
  rcases uO H[b]with h|h
  ·rw[aP h1 h2 h,h1]
  ·cases hqq:(H[b]).quiet (H[b]).clean with
   |true=>rw[aP h1 h2 hqq,h1]
   |false=>rw[kV h1 h2 hqq,h.1,h1]
 ·obtain⟨b,k1,k2⟩:=aeH e3 e he
  refine⟨b,k1,?_⟩
  rcases k2 with k2|⟨j,c₀,c,k3,k4,k5,k6⟩
  ·exact .inl (by omega)
  ·have h2:=hk.same j (by rw[Su];exact Rw k4) (by simp)
   rw[Ux k4,k5]at h2
   cases h2
   exact .inr ⟨c₀,by rw[k3,apN];exact k4,k6⟩
theorem zY.read{st lo:Nat}{ov:AV}{h:Qa}{rows Q:List (List AV)}{Ro:List Nat}(I:zY st lo ov h rows Q Ro):∃R,rd 6 (hf h) ov=some (Rh st false false Q,R)∧(∀b∈R,lo≤b)∧R.length≤1+Ro.length:=by
 have key:∀d,Ri (rd d (hf h)) rows=some (Q,Ro)→∃R,rd (d+1) (hf h) ov=some (Rh st false false Q,R)∧(∀b∈R,lo≤b)∧R.length≤1+Ro.length:=fun d hq=>by
  rcases I.own with⟨rfl,rfl⟩|⟨b,w,rfl,hb⟩
  ·simp[Ri]at hq;obtain⟨rfl,rfl⟩:=hq;exact⟨[],by simp[rd,Rh],by simp,by simp⟩
  ·have hne:rows≠[]:=fun e=>by have:=I.nil e;cases this
   have hb':(hf h (b+0)).bind Qw=some (st,false,rows):=by show(h[b]?).bind Qw=_;rw[hb];rfl
   refine⟨(b+0)::Ro,?_,fun c hc=>?_,by simp;omega⟩
   ·simp only[rd,hb',ab9,if_true,and_self,cond_false,hq,afU]
    have hl:Q≠[]:=fun e=>by
     cases rows with
     |nil=>exact hne rfl
     |cons r rs=>
      simp only[Ri,abZ,abV]at hq
      obtain⟨_,_,_,_,hq⟩:=hq
      simp only[Prod.mk.injEq]at hq
      rw[e]at hq;cases hq.1
    cases Q with
    |nil=>exact absurd rfl hl
    |cons r rs=>rfl
   ·rcases afC.1 hc with rfl|hc
    ·exact(I.dov _ _ _ _ rfl).1
    ·exact I.dx c hc
 exact key 5 I.q
theorem tW{f:AV→Option (AV × List Nat)}:∀{l:List (List AV)} {p:List (List AV) × List Nat} {i:Nat} {r:List AV} {q:List AV × List Nat},Ri f l=some p→l[i]?=some r→dS f r=some q→∀b∈q.2,b∈p.2
 | [],p,i,r,q,_,h,_=>by simp at h
 |a::l,p,i,r,q,hp,hi,hq=>by
  simp only[Ri,abZ,abV]at hp
  obtain⟨x,hx,y,hy,rfl⟩:=hp
  cases i with
  |zero=>
   simp at hi;subst hi
   rw[hx]at hq;cases hq
   exact fun b hb=>ag0 _ hb
  |succ i=>
   exact fun b hb=>ag1 _ (tW hy (by simpa using hi) hq b hb)
theorem mK{g:HF}{d st b r n:Nat}{x:AV}{R:List Nat}{rows:List (List AV)}(h:rd (d+1) g (.slr st b r n)=some (x,R))(hb:(g b).bind Qw=some (st,false,rows)):∃q,Ri (rd d g) rows=some q∧R=b::q.2∧x=.imm st false q.1:=by
 simp only[rd,hb,ab9,cond_false]at h
 split at h
 ·obtain⟨q,hq,h⟩:=abV.1 h
  simp only[Prod.mk.injEq]at h
  exact⟨q,hq,h.2.symm,h.1.symm⟩
 ·cases h
end Go.Ev
namespace Go.Ev
namespace Net
abbrev Edge:=Nat × Nat × Nat
inductive bI(E:List Edge)(s:Nat):Nat→Nat→Nat→Prop
 |nil (n:Nat):bI E s n s 0
 |fwd {n a b c k:Nat} (h:bI E s n a k) (he:(a,b,c)∈E):bI E s (n+1) b (k+c)
 |bwd {n a b c k:Nat} (h:bI E s n b k) (he:(a,b,c)∈E):bI E s (n+1) a (k+c)
def Stp(E:List Edge)(u v c:Nat):Prop:=(u,v,c)∈E∨(v,u,c)∈E
theorem bI.step{E:List Edge}{s n u v k c:Nat}(h:bI E s n u k)(hs:Stp E u v c):bI E s (n+1) v (k+c):=hs.elim (fun e=>.fwd h e) (fun e=>.bwd h e)
theorem bI.cases'{E:List Edge}{s n v k:Nat}(h:bI E s n v k):(v=s∧k=0)∨∃m u j c,n=m+1∧bI E s m u j∧Stp E u v c∧k=j+c:=by
 cases h with
 |nil=>exact .inl ⟨rfl,rfl⟩
 |fwd h he=>exact .inr ⟨_,_,_,_,rfl,h,.inl he,rfl⟩
 |bwd h he=>exact .inr ⟨_,_,_,_,rfl,h,.inr he,rfl⟩
theorem bI.more{E:List Edge}{s n v k:Nat}(h:bI E s n v k):∀{m:Nat},n≤m→bI E s m v k:=by
 induction h with
 |nil n=>exact fun _=>.nil _
 |fwd h he ih=>
  intro m hm
  obtain⟨m,rfl⟩:∃j,m=j+1:=⟨m-1,by omega⟩
  exact .fwd (ih (by omega)) he
 |bwd h he ih=>
  intro m hm
  obtain⟨m,rfl⟩:∃j,m=j+1:=⟨m-1,by omega⟩
  exact .bwd (ih (by omega)) he
def Cst(E:List Edge)(s v k:Nat):Prop:=∃n,bI E s n v k
theorem Cst.step{E:List Edge}{s u v k c:Nat}(h:Cst E s u k)(hs:Stp E u v c):Cst E s v (k+c):=by obtain⟨n,h⟩:=h;exact⟨_,h.step hs⟩
def sN(E:List Edge)(s v k:Nat):Prop:=Cst E s v k∧∀j,Cst E s v j→k≤j
theorem least{p:Nat→Prop}:(∃n,p n)→∃n,p n∧∀j,p j→n≤j:=fun⟨n,hn⟩=>by
 induction n using Nat.strongRecOn with
 |ind n ih=>
  by_cases h:∃j,j<n∧p j
  ·obtain⟨j,h1,h2⟩:=h;exact ih j h1 h2
  ·exact⟨n,hn,fun j hj=>Nat.le_of_not_lt fun hlt=>h ⟨j,hlt,hj⟩⟩
theorem sN.ex{E:List Edge}{s v k:Nat}(h:Cst E s v k):∃j,sN E s v j:=least ⟨k,h⟩
theorem sN.eq{E:List Edge}{s v k j:Nat}(h1:sN E s v k)(h2:sN E s v j):k=j:=Nat.le_antisymm (h1.2 j h2.1) (h2.2 k h1.1)
def iE(E:List Edge)(s n v:Nat):Prop:=∃k,sN E s v k∧bI E s n v k
theorem iE.more{E:List Edge}{s n m v:Nat}(h:iE E s n v)(hm:n≤m):iE E s m v:=by obtain⟨k,h1,h2⟩:=h;exact⟨k,h1,h2.more hm⟩
theorem iE.prev{E:List Edge}{s n v:Nat}(h:iE E s (n+1) v):v=s∨∃u c k,iE E s n u∧sN E s u k∧Stp E u v c∧sN E s v (k+c):=by
 obtain⟨k,h1,h2⟩:=h
 rcases h2.cases' with⟨h,_⟩|⟨m,u,j,c,hm,hw,hs,rfl⟩
 ·exact .inl h
 ·cases hm
  have hl:sN E s u j:=⟨⟨_,hw⟩,fun i hi=>by have:=h1.2 _ (hi.step hs);omega⟩
  exact .inr ⟨u,c,j,⟨j,hl,hw⟩,hl,hs,h1⟩
theorem iE.next{E:List Edge}{s n u v c k:Nat}(h:iE E s n u)(hu:sN E s u k)(hs:Stp E u v c)(hv:sN E s v (k+c)):iE E s (n+1) v:=by
 obtain⟨j,h1,h2⟩:=h
 cases h1.eq hu
 exact⟨_,hv,h2.step hs⟩
theorem sN.src{E:List Edge}{s:Nat}:sN E s s 0:=⟨⟨0,.nil 0⟩,fun j _=>aiJ j⟩
theorem iE.src{E:List Edge}{s:Nat}(n:Nat):iE E s n s:=⟨0,sN.src,.nil n⟩
theorem iE.stable{E:List Edge}{s n:Nat}(h:∀v,iE E s (n+1) v→iE E s n v):∀m v,iE E s m v→iE E s n v
 |0,v,hv=>hv.more (aiJ n)
 |m+1,v,hv=>by
  rcases hv.prev with rfl|⟨u,c,k,h1,h2,h3,h4⟩
  ·exact iE.src n
  ·exact h v ((iE.stable h m u h1).next h2 h3 h4)
noncomputable def sS(p:Nat→Prop):Nat→Nat
 |0=>0
 |N+1=>sS p N+(@ite Nat (p N) (Classical.propDecidable _) 1 0)
theorem ai8(p:Nat→Prop):∀N,sS p N≤N
 |0=>aeQ 0
 |N+1=>by
  have:=ai8 p N
  unfold sS
  split<;>omega
theorem aeW{p q:Nat→Prop}(h:∀v,p v→q v):∀N,sS p N≤sS q N
 |0=>aeQ 0
 |N+1=>by
  have:=aeW h N
  unfold sS
  split
  ·rename_i h1;rw[if_pos (h _ h1)];omega
  ·split<;>omega
theorem ah5{p q:Nat→Prop}(h:∀v,p v→q v){v:Nat}(hq:q v)(hp:¬p v):∀{N:Nat},v<N→sS p N+1≤sS q N
 |0,hv=>by omega
 |N+1,hv=>by
  unfold sS
  by_cases e:v=N
  ·subst e
   have:=aeW h v
   rw[if_neg hp,if_pos hq];omega
  ·have:=ah5 h hq hp (N:=N) (by omega)
   split
   ·rename_i h1;rw[if_pos (h _ h1)];omega
   ·split<;>omega
theorem ajG{p:Nat→Prop}{v:Nat}(hp:p v):∀{N:Nat},v<N→1≤sS p N
 |0,hv=>by omega
 |N+1,hv=>by
  unfold sS
  by_cases e:v=N
  ·subst e;rw[if_pos hp];omega
  ·have:=ajG hp (N:=N) (by omega);split<;>omega
theorem aFD{E:List Edge}{s N:Nat}(hs:s<N)(hE:∀a b c,(a,b,c)∈E→a<N∧b<N):∀m v,iE E s m v→iE E s (N-1) v:=by
 have lt:∀m v,iE E s m v→v<N:=fun m=>by
  induction m with
  |zero=>
   intro v ⟨k,_,h⟩
   rcases h.cases' with⟨rfl,_⟩|⟨_,_,_,_,h,_⟩
   ·exact hs
   ·cases h
  |succ m ih=>
   intro v hv
   rcases hv.prev with rfl|⟨u,c,k,h1,h2,h3,h4⟩
   ·exact hs
   ·rcases h3 with h3|h3
    ·exact(hE _ _ _ h3).2
    ·exact(hE _ _ _ h3).1
 have grow:∀n,(∃k,k≤n∧∀v,iE E s (k+1) v→iE E s k v)∨n+1≤sS (iE E s n) N:=fun n=>by
  induction n with
  |zero=>exact .inr (ajG (iE.src 0) hs)
  |succ n ih=>
   rcases ih with⟨k,h1,h2⟩|h
   ·exact .inl ⟨k,by omega,h2⟩
   ·by_cases e:∀v,iE E s (n+1) v→iE E s n v
    ·exact .inl ⟨n,by omega,e⟩
    ·obtain⟨v,hv⟩:=Classical.not_forall.1 e
     have h1:iE E s (n+1) v:=Classical.byContradiction fun h=>hv fun h'=>(h h').elim
     have h2:¬iE E s n v:=fun h=>hv fun _=>h
     have:=ah5 (p:=iE E s n) (q:=iE E s (n+1)) (fun v h=>h.more (Nat.le_succ n)) h1 h2 (lt _ v h1)
     exact .inr (by omega)
 intro m v hv
 rcases grow N with⟨k,h1,h2⟩|h
 ·by_cases e:k≤N-1
  ·exact(iE.stable h2 m v hv).more e
  ·
   have hk:k=N:=by omega
   rcases grow (N-1)with⟨k',h1',h2'⟩|h'
   ·exact(iE.stable h2' m v hv).more h1'
   ·exact Classical.byContradiction fun hn=>by
     have:=ah5 (p:=iE E s (N-1)) (q:=fun _=>True) (fun _ _=>trivial) trivial hn (lt _ v hv)
     have:=ai8 (fun _=>True) N
     omega
 ·have:=ai8 (iE E s N) N;omega
theorem sN.lvl{E:List Edge}{s N v k:Nat}(hs:s<N)(hE:∀a b c,(a,b,c)∈E→a<N∧b<N)(h:sN E s v k):iE E s (N-1) v:=by
 obtain⟨n,hw⟩:=h.1
 exact aFD hs hE n v ⟨k,h,hw⟩
theorem bI.le{E:List Edge}{s n v k:Nat}(hc:∀a b c,(a,b,c)∈E→c≤1)(h:bI E s n v k):k≤n:=by
 induction h with
 |nil=>omega
 |fwd h he ih=>have:=hc _ _ _ he;omega
 |bwd h he ih=>have:=hc _ _ _ he;omega
theorem sN.le{E:List Edge}{s N v k:Nat}(hs:s<N)(hE:∀a b c,(a,b,c)∈E→a<N∧b<N)(hc:∀a b c,(a,b,c)∈E→c≤1)(h:sN E s v k):k≤N-1:=by
 obtain⟨j,h1,h2⟩:=h.lvl hs hE
 cases h1.eq h
 exact h2.le hc
def jY(E:List Edge)(s N far:Nat)(d:Nat→Nat):Prop:=∀v,v<N→(∀k,sN E s v k→d v=k)∧((∀k,¬Cst E s v k)→d v=far)
theorem ap1{E:List Edge}{s N far:Nat}{d:Nat→Nat}(h0:d s=0)(hr:∀v,v<N→d v=far∨Cst E s v (d v))(hc:∀u v c,Stp E u v c→d v≤d u+c)(hf:∀v k,sN E s v k→k<far):jY E s N far d:=fun v hv=>by
 have le:∀n v k,bI E s n v k→d v≤k:=fun n v k h=>by
  induction h with
  |nil=>omega
  |fwd h he ih=>have:=hc _ _ _ (.inl he);omega
  |bwd h he ih=>have:=hc _ _ _ (.inr he);omega
 refine⟨fun k hk=>?_,fun h=>?_⟩
 ·obtain⟨n,hn⟩:=hk.1
  have h1:=le n v k hn
  rcases hr v hv with h|h
  ·have:=hf v k hk;omega
  ·have:=hk.2 _ h;omega
 ·rcases hr v hv with h1|h1
  ·exact h1
  ·exact(h _ h1).elim
def fM(d:List Nat)(e:Edge):List Nat:=(d.set e.2.1 (min (d.getD e.2.1 0) (d.getD e.1 0+e.2.2))).set e.1 (min (d.getD e.1 0) (d.getD e.2.1 0+e.2.2))
def aN0(E:List Edge)(d:List Nat):List Nat:=E.foldl fM d
def dD(E:List Edge):Nat→List Nat→List Nat
 |0,d=>d
 |n+1,d=>dD E n (aN0 E d)
theorem oW(d:List Nat)(e:Edge):(fM d e).length=d.length:=by simp[fM]
theorem af5:∀(E:List Edge) (d:List Nat),(E.foldl fM d).length=d.length
 | [],d=>rfl
 |e::E,d=>by rw[apL,af5 E,oW]
theorem arQ(E:List Edge)(d:List Nat):(aN0 E d).length=d.length:=af5 E d
theorem tU(E:List Edge):∀n d,(dD E n d).length=d.length
 |0,d=>rfl
 |n+1,d=>by rw[dD,tU E n,arQ]
theorem oU{d:List Nat}{i v x:Nat}(hi:i<d.length):(d.set i x).getD v 0=if i=v then x else d.getD v 0:=by
 simp only[aNZ]
 by_cases h:i=v
 ·subst h;rw[aLB hi,if_pos rfl];rfl
 ·rw[apJ h,if_neg h]
theorem ab6{d:List Nat}{a b c:Nat}(ha:a<d.length)(hb:b<d.length)(hab:a≠b)(v:Nat):(fM d (a,b,c)).getD v 0=if v=a then min (d.getD a 0) (d.getD b 0+c)else if v=b then min (d.getD b 0) (d.getD a 0+c)else d.getD v 0:=by
 unfold fM
 rw[oU (by simpa using ha),oU hb]
 by_cases h1:v=a
 ·subst h1;simp
 ·rw[if_neg (fun e=>h1 e.symm),if_neg h1]
  by_cases h2:v=b
  ·subst h2;simp
  ·rw[if_neg (fun e=>h2 e.symm),if_neg h2]
structure wH(E:List Edge)(s N far:Nat)(d:List Nat):Prop where
 len:d.length=N
 src:d.getD s 0=0
 real:∀v,v<N→d.getD v 0=far∨Cst E s v (d.getD v 0)
 le:∀v,v<N→d.getD v 0≤far
theorem wH.one{E:List Edge}{s N far:Nat}{d:List Nat}(I:wH E s N far d){a b c:Nat}(he:(a,b,c)∈E)(ha:a<N)(hb:b<N)(hab:a≠b):wH E s N far (fM d (a,b,c)):=by
 have hl:=I.len
 have at_:=fun v=>ab6 (d:=d) (c:=c) (by omega) (by omega) hab v
 have mn:∀u v,u<N→v<N→Stp E u v c→(min (d.getD v 0) (d.getD u 0+c)=far∨Cst E s v (min (d.getD v 0) (d.getD u 0+c))):=fun u v hu hv hs=>by
  have h1:=I.le v hv
  rcases Nat.le_total (d.getD v 0) (d.getD u 0+c)with h|h
  ·rw[Nat.min_eq_left h];exact I.real v hv
  ·rw[Nat.min_eq_right h]
   rcases I.real u hu with hh|hh
   ·left;omega
   ·exact .inr (hh.step hs)
 refine⟨by rw[oW,hl],?_,fun v hv=>?_,fun v hv=>?_⟩
 ·rw[at_]
  have:=I.src
  split
  ·rename_i h;subst h;rw[this];simp
  ·split
   ·rename_i h;subst h;rw[this];simp
   ·exact this
 ·rw[at_]
  split
  ·rename_i h;subst h;exact mn b v hb hv (.inr he)
  ·split
   ·rename_i h;subst h;exact mn a v ha hv (.inl he)
   ·exact I.real v hv
 ·rw[at_]
  split
  ·rename_i h;subst h;have:=I.le v hv;omega
  ·split
   ·rename_i h;subst h;have:=I.le v hv;omega
   ·exact I.le v hv
def xP(E:List Edge)(N:Nat):Prop:=∀a b c,(a,b,c)∈E→a<N∧b<N∧a≠b∧c≤1
theorem ak9{d:List Nat}{a b c:Nat}(ha:a<d.length)(hb:b<d.length)(hab:a≠b)(v:Nat):(fM d (a,b,c)).getD v 0≤d.getD v 0:=by
 rw[ab6 ha hb hab]
 split
 ·rename_i h;subst h;omega
 ·split
  ·rename_i h;subst h;omega
  ·exact aeQ _
theorem abP:∀{L:List Edge} {d:List Nat} {N:Nat},d.length=N→xP L N→∀v,(L.foldl fM d).getD v 0≤d.getD v 0
 | [],d,N,_,_,v=>aeQ _
 |(a,b,c)::L,d,N,hl,hE,v=>by
  have h:=hE a b c (aeN ..)
  have h1:=abP (L:=L) (d:=fM d (a,b,c)) (by rw[oW,hl]) (fun a b c hm=>hE a b c (acH _ hm)) v
  have h2:=ak9 (d:=d) (c:=c) (by omega) (by omega) h.2.2.1 v
  rw[apL];omega
theorem aiV{E:List Edge}{s N far:Nat}:∀{L:List Edge} {d:List Nat},(∀e∈L,e∈E)→xP E N→wH E s N far d→wH E s N far (L.foldl fM d)
 | [],d,_,_,I=>I
 |(a,b,c)::L,d,hs,hE,I=>by
  have he:=hs _ (aeN ..)
  have h:=hE a b c he
  rw[apL]
  exact aiV (L:=L) (fun e hm=>hs e (acH _ hm)) hE (I.one he h.1 h.2.1 h.2.2.1)
theorem xH{N:Nat}:∀{L:List Edge} {d:List Nat},d.length=N→xP L N→∀{u v c k:Nat},(u,v,c)∈L∨(v,u,c)∈L→d.getD u 0≤k→(L.foldl fM d).getD v 0≤k+c
 | [],d,_,_,u,v,c,k,h,_=>by rcases h with h|h<;>cases h
 |(a,b,e)::L,d,hl,hE,u,v,c,k,h,hk=>by
  have q:=hE a b e (aeN ..)
  have hE':xP L N:=fun a b c hm=>hE a b c (acH _ hm)
  have hl':(fM d (a,b,e)).length=N:=by rw[oW,hl]
  have key:(u=a∧v=b∧c=e)∨(u=b∧v=a∧c=e)∨((u,v,c)∈L∨(v,u,c)∈L):=by
   rcases h with h|h
   ·rcases afC.1 h with h|h
    ·cases h;exact .inl ⟨rfl,rfl,rfl⟩
    ·exact .inr (.inr (.inl h))
   ·rcases afC.1 h with h|h
    ·cases h;exact .inr (.inl ⟨rfl,rfl,rfl⟩)
    ·exact .inr (.inr (.inr h))
  rw[apL]
  have at_:=fun v=>ab6 (d:=d) (c:=e) (by omega) (by omega) q.2.2.1 v
  rcases key with⟨rfl,rfl,rfl⟩|⟨rfl,rfl,rfl⟩|h
  ·have h1:=abP hl' hE' v
   rw[at_ v,if_neg (fun e=>q.2.2.1 e.symm),if_pos rfl]at h1
   omega
  ·have h1:=abP hl' hE' v
   rw[at_ v,if_pos rfl]at h1
   omega
  ·have h2:=ak9 (d:=d) (c:=e) (by omega) (by omega) q.2.2.1 u
   exact xH hl' hE' h (by omega)
theorem uK{E:List Edge}{s N far:Nat}(hE:xP E N):∀(n:Nat) {d:List Nat},wH E s N far d→wH E s N far (dD E n d)
 |0,d,I=>I
 |n+1,d,I=>uK hE n (aiV (fun _ h=>h) hE I)
theorem nM(E:List Edge):∀(n:Nat) (d:List Nat),dD E (n+1) d=aN0 E (dD E n d)
 |0,d=>rfl
 |n+1,d=>by rw[dD,nM E n];rfl
theorem aeD{E:List Edge}{s N far:Nat}(hE:xP E N){d:List Nat}(I:wH E s N far d):∀(n:Nat) {v k:Nat},iE E s n v→sN E s v k→(dD E n d).getD v 0≤k
 |0,v,k,⟨j,h1,h2⟩,hk=>by
  rcases h2.cases' with⟨rfl,rfl⟩|⟨_,_,_,_,h,_⟩
  ·rw[dD,I.src];exact aiJ _
  ·cases h
 |n+1,v,k,hv,hk=>by
  rw[nM]
  have J:=uK hE n I
  rcases hv.prev with rfl|⟨u,c,j,h1,h2,h3,h4⟩
  ·have K:=uK hE (n+1) I
   rw[nM]at K
   rw[K.src];exact aiJ _
  ·cases h4.eq hk
   exact xH J.len hE h3 (aeD hE I n h1 h2)
theorem aiN{E:List Edge}{s N far:Nat}(hs:s<N)(hE:xP E N)(hf:N≤far){d:List Nat}(I:wH E s N far d){n:Nat}(hn:N-1≤n):jY E s N far (fun v=>(dD E n d).getD v 0):=fun v hv=>by
 have J:=uK hE n I
 have hE1:∀a b c,(a,b,c)∈E→a<N∧b<N:=fun a b c h=>⟨(hE a b c h).1,(hE a b c h).2.1⟩
 have hE2:∀a b c,(a,b,c)∈E→c≤1:=fun a b c h=>(hE a b c h).2.2.2
 refine⟨fun k hk=>?_,fun h=>?_⟩
 ·have h1:=aeD hE I n ((hk.lvl hs hE1).more hn) hk
  have h2:=hk.le hs hE1 hE2
  rcases J.real v hv with h|h
  ·simp only[h]at h1 ⊢;omega
  ·have:=hk.2 _ h;simp only;omega
 ·rcases J.real v hv with h1|h1
  ·exact h1
  ·exact(h _ h1).elim
end Net
end Go.Ev
namespace Go.Ev
namespace Net
structure pP(E:List Edge)(s N far:Nat)(d q:List Nat)(X:Nat→Nat→Nat→Prop):Prop where
 i:wH E s N far d
 w:∀r∈q,r<N
 tr:∀u v c,Stp E u v c→u∈q∨X u v c∨d.getD v 0≤d.getD u 0+c
def eX(E:List Edge)(r i u v c:Nat):Prop:=u=r∧∃j,i≤j∧(E[j]?=some (r,v,c)∨E[j]?=some (v,r,c))
theorem pP.take{E:List Edge}{s N far:Nat}{d q:List Nat}{r:Nat}(I:pP E s N far d (r::q) (fun _ _ _=>False)):r<N∧pP E s N far d q (eX E r 0):=by
 refine⟨I.w r (aeN ..),I.i,fun u hu=>I.w u (acH _ hu),fun u v c h=>?_⟩
 rcases I.tr u v c h with h1|h1|h1
 ·rcases afC.1 h1 with rfl|h1
  ·right;left
   refine⟨rfl,?_⟩
   rcases h with h|h
   ·obtain⟨j,hj⟩:=axJ h;exact⟨j,aiJ j,.inl hj⟩
   ·obtain⟨j,hj⟩:=axJ h;exact⟨j,aiJ j,.inr hj⟩
  ·exact .inl h1
 ·exact h1.elim
 ·exact .inr (.inr h1)
theorem eX.next{E:List Edge}{r i u v c:Nat}(h:eX E r i u v c):eX E r (i+1) u v c∨(u=r∧(E[i]?=some (r,v,c)∨E[i]?=some (v,r,c))):=by
 obtain⟨h1,j,h2,h3⟩:=h
 by_cases e:i=j
 ·subst e;exact .inr ⟨h1,h3⟩
 ·exact .inl ⟨h1,j,by omega,h3⟩
theorem pP.skip{E:List Edge}{s N far:Nat}{d q:List Nat}{r i a b c:Nat}(I:pP E s N far d q (eX E r i))(hi:E[i]?=some (a,b,c))(ha:r≠a)(hb:r≠b):pP E s N far d q (eX E r (i+1)):=by
 refine⟨I.i,I.w,fun u v c' h=>?_⟩
 rcases I.tr u v c' h with h1|h1|h1
 ·exact .inl h1
 ·rcases h1.next with h1|⟨_,h2|h2⟩
  ·exact .inr (.inl h1)
  ·rw[hi]at h2;cases h2;exact(ha rfl).elim
  ·rw[hi]at h2;cases h2;exact(hb rfl).elim
 ·exact .inr (.inr h1)
theorem pP.same{E:List Edge}{s N far:Nat}{d q:List Nat}{r i t c:Nat}(I:pP E s N far d q (eX E r i))(hi:E[i]?=some (r,t,c)∨E[i]?=some (t,r,c))(hn:d.getD t 0≤d.getD r 0+c):pP E s N far d q (eX E r (i+1)):=by
 refine⟨I.i,I.w,fun u v c' h=>?_⟩
 rcases I.tr u v c' h with h1|h1|h1
 ·exact .inl h1
 ·rcases h1.next with h1|⟨rfl,h2⟩
  ·exact .inr (.inl h1)
  ·right;right
   rcases hi with h3|h3<;>rcases h2 with h2|h2<;>(rw[h3]at h2;cases h2;exact hn)
 ·exact .inr (.inr h1)
theorem pP.less{E:List Edge}{s N far:Nat}{d q q':List Nat}{r i t c:Nat}(I:pP E s N far d q (eX E r i))(hr:r<N)(ht:t<N)(hrt:r≠t)(hi:E[i]?=some (r,t,c)∨E[i]?=some (t,r,c))(hn:d.getD r 0+c<d.getD t 0)(hq:∀x,x∈q'↔x=t∨x∈q):pP E s N far (d.set t (d.getD r 0+c)) q' (eX E r (i+1)):=by
 have hl:=I.i.len
 have at_:=fun v=>oU (d:=d) (v:=v) (x:=d.getD r 0+c) (show t<d.length by omega)
 have hst:Stp E r t c:=hi.elim (fun h=>.inl (apI h)) (fun h=>.inr (apI h))
 have hfar:=I.i.le t ht
 have le:∀v,(d.set t (d.getD r 0+c)).getD v 0≤d.getD v 0:=fun v=>by
  rw[at_];split
  ·rename_i h;subst h;omega
  ·exact aeQ _
 refine⟨⟨by simpa using hl,?_,fun v hv=>?_,fun v hv=>?_⟩,fun x hx=>?_,fun u v c' h=>?_⟩
 ·rw[at_];split
  ·rename_i h;subst h;have:=I.i.src;omega
  ·exact I.i.src
 ·rw[at_];split
  ·rename_i h;subst h
   rcases I.i.real r hr with h|h
   ·omega
   ·exact .inr (h.step hst)
  ·exact I.i.real v hv
 ·have:=le v;have:=I.i.le v hv;omega
 ·rcases(hq x).1 hx with rfl|h
  ·exact ht
  ·exact I.w x h
 ·by_cases hu:u=t
  ·exact .inl ((hq u).2 (.inl hu))
  ·have hdu:(d.set t (d.getD r 0+c)).getD u 0=d.getD u 0:=by rw[at_,if_neg (fun e=>hu e.symm)]
   rcases I.tr u v c' h with h1|h1|h1
   ·exact .inl ((hq u).2 (.inr h1))
   ·rcases h1.next with h1|⟨rfl,h2⟩
    ·exact .inr (.inl h1)
    ·right;right
     have hvt:v=t∧c'=c:=by
      rcases hi with h3|h3<;>rcases h2 with h2|h2<;>(rw[h3]at h2;cases h2;first|exact⟨rfl,rfl⟩|exact(hrt rfl).elim)
     obtain⟨rfl,rfl⟩:=hvt
     rw[hdu,at_,if_pos rfl]
     exact aeQ _
   ·right;right
    have:=le v
    rw[hdu];omega
theorem eX.none{E:List Edge}{r i u v c:Nat}(hi:E.length≤i):¬eX E r i u v c:=fun⟨_,j,h1,h2⟩=>by
 rw[List.getElem?_eq_none (by omega)]at h2
 rcases h2 with h2|h2<;>cases h2
theorem pP.done{E:List Edge}{s N far:Nat}{d q:List Nat}{r i:Nat}(I:pP E s N far d q (eX E r i))(hi:E.length≤i):pP E s N far d q (fun _ _ _=>False):=
 ⟨I.i,I.w,fun u v c h=>(I.tr u v c h).imp id fun h=>h.elim (fun h=>(eX.none hi h).elim) .inr⟩
theorem ayR{d:List Nat}:∀{t x:Nat},t<d.length→(d.set t x).sum+d.getD t 0=d.sum+x:=by
 induction d with
 |nil=>intro t x h;simp at h
 |cons a d ih=>
  intro t x h
  cases t with
  |zero=>simp;omega
  |succ t=>
   have:=ih (t:=t) (x:=x) (by simpa using h)
   simp only[axP,List.sum_cons,List.getD_cons_succ]
   omega
theorem nP{d:List Nat}{t x:Nat}(ht:t<d.length)(hx:x<d.getD t 0):(d.set t x).sum<d.sum:=by
 have:=ayR (d:=d) (x:=x) ht
 omega
theorem pP.right{E:List Edge}{s N far:Nat}{d:List Nat}(hs:s<N)(hE:xP E N)(hf:N≤far)(I:pP E s N far d [] (fun _ _ _=>False)):jY E s N far (fun v=>d.getD v 0):=by
 refine ap1 I.i.src I.i.real (fun u v c h=>?_) fun v k hk=>?_
 ·rcases I.tr u v c h with h1|h1|h1
  ·cases h1
  ·exact h1.elim
  ·exact h1
 ·have:=hk.le hs (fun a b c h=>⟨(hE a b c h).1,(hE a b c h).2.1⟩) (fun a b c h=>(hE a b c h).2.2.2)
  omega
theorem jY.num{E:List Edge}{s N far far':Nat}{d d':Nat→Nat}(h:jY E s N far d)(h':jY E s N far' d')(hf:N≤far)(hf':N≤far')(hs:s<N)(hE:xP E N){v:Nat}(hv:v<N):(d v=far↔d' v=far')∧(d v≠far→d v=d' v)∧(d v≠far→d v<N):=by
 have hE1:∀a b c,(a,b,c)∈E→a<N∧b<N:=fun a b c h=>⟨(hE a b c h).1,(hE a b c h).2.1⟩
 have hE2:∀a b c,(a,b,c)∈E→c≤1:=fun a b c h=>(hE a b c h).2.2.2
 by_cases e:∃k,Cst E s v k
 ·obtain⟨k,hk⟩:=e
  obtain⟨j,hj⟩:=sN.ex hk
  have h1:=(h v hv).1 j hj
  have h2:=(h' v hv).1 j hj
  have h3:=hj.le hs hE1 hE2
  rw[h1,h2]
  exact⟨⟨fun e=>by omega,fun e=>by omega⟩,fun _=>rfl,fun _=>by omega⟩
 ·have hn:∀k,¬Cst E s v k:=fun k hk=>e ⟨k,hk⟩
  have h1:=(h v hv).2 hn
  have h2:=(h' v hv).2 hn
  rw[h1,h2]
  exact⟨⟨fun _=>rfl,fun _=>rfl⟩,fun h=>(h rfl).elim,fun h=>(h rfl).elim⟩
end Net
end Go.Ev
namespace Go.Ev
namespace Net
def Vq(N s far:Nat):List Nat:=(apP N far).set s 0
theorem tC{N s far v:Nat}(hs:s<N)(hv:v<N):(Vq N s far).getD v 0=if s=v then 0 else far:=by
 unfold Vq
 rw[oU (by simpa using hs)]
 split
 ·rfl
 ·simp[aNZ,hv]
theorem abB{E:List Edge}{N s far:Nat}(hs:s<N):wH E s N far (Vq N s far):=by
 refine⟨by simp[Vq],by rw[tC hs hs,if_pos rfl],fun v hv=>?_,fun v hv=>?_⟩
 ·rw[tC hs hv]
  split
  ·rename_i h;subst h;exact .inr ⟨0,.nil 0⟩
  ·exact .inl rfl
 ·rw[tC hs hv];split<;>omega
theorem aIL{E:List Edge}{N s far:Nat}(hs:s<N)(hE:xP E N):pP E s N far (Vq N s far) [s] (fun _ _ _=>False):=by
 refine⟨abB hs,fun r hr=>by simp at hr;omega,fun u v c h=>?_⟩
 have hb:u<N∧v<N:=h.elim (fun h=>⟨(hE _ _ _ h).1,(hE _ _ _ h).2.1⟩) (fun h=>⟨(hE _ _ _ h).2.1,(hE _ _ _ h).1⟩)
 by_cases e:u=s
 ·exact .inl (by simp[e])
 ·right;right
  rw[tC hs hb.1,if_neg (fun h=>e h.symm)]
  have:=(abB (E:=E) (far:=far) hs).le v hb.2
  omega
def sV(E:List Edge)(N len:Nat):Nat:=if 1000≤(dD E N (Vq N 0 1000)).getD 1 0 then len+1 else(dD E N (Vq N 0 1000)).getD 1 0
theorem lZ{E:List Edge}{N:Nat}(hN:2≤N)(hN2:N≤1000)(hE:xP E N):jY E 0 N 1000 (fun v=>(dD E N (Vq N 0 1000)).getD v 0):=
 aiN (by omega) hE hN2 (abB (by omega)) (by omega)
theorem a8G{E:List Edge}{N far len:Nat}(hN:2≤N)(hN2:N≤1000)(hf:N≤far)(hE:xP E N){d:Nat→Nat}(h:jY E 0 N far d):(if d 1=far then len+1 else d 1)=sV E N len:=by
 obtain⟨h1,h2,h3⟩:=jY.num (lZ hN hN2 hE) h hN2 hf (by omega) hE (v:=1) (by omega)
 unfold sV
 by_cases e:(dD E N (Vq N 0 1000)).getD 1 0=1000
 ·rw[if_pos (h1.1 e),if_pos (by rw[e];exact aeQ _)]
 ·have:=h3 e
  rw[if_neg (fun h=>e (h1.2 h)),if_neg (by omega)]
  exact(h2 e).symm
end Net
end Go.Ev
namespace Go.Ev
namespace Net
end Net
end Go.Ev
namespace Go.Ev
namespace Net
theorem xP.ends{E:List Edge}{N:Nat}(h:xP E N):∀a b c,(a,b,c)∈E→a<N∧b<N:=fun a b c e=>⟨(h a b c e).1,(h a b c e).2.1⟩
theorem xP.one{E:List Edge}{N:Nat}(h:xP E N):∀a b c,(a,b,c)∈E→c≤1:=fun a b c e=>(h a b c e).2.2.2
theorem ak6{E:List Edge}{N len k:Nat}(hN:2≤N)(hN2:N≤1000)(hE:xP E N)(h:sN E 0 1 k):sV E N len=k∧k<N:=by
 have h1:=(lZ hN hN2 hE 1 (by omega)).1 k h
 have h2:=h.le (s:=0) (by omega) hE.ends hE.one
 simp only at h1
 unfold sV
 rw[h1,if_neg (by omega)]
 exact⟨rfl,by omega⟩
theorem ajD{E:List Edge}{N len:Nat}(hN:2≤N)(hN2:N≤1000)(hE:xP E N)(h:∀k,¬Cst E 0 1 k):sV E N len=len+1:=by
 have h1:=(lZ hN hN2 hE 1 (by omega)).2 h
 simp only at h1
 unfold sV
 rw[h1,if_pos (aeQ _)]
def Tgh(E E':List Edge):Prop:=∀a b c',(a,b,c')∈E'→∃c,(a,b,c)∈E∧c≤c'
theorem bI.tgh{E E':List Edge}(h:Tgh E E'){s n v k:Nat}(hw:bI E' s n v k):∃k',k'≤k∧bI E s n v k':=by
 induction hw with
 |nil n=>exact⟨0,aeQ _,.nil n⟩
 |fwd _ he ih=>
  obtain⟨k',h1,h2⟩:=ih
  obtain⟨c,h3,h4⟩:=h _ _ _ he
  exact⟨k'+c,by omega,.fwd h2 h3⟩
 |bwd _ he ih=>
  obtain⟨k',h1,h2⟩:=ih
  obtain⟨c,h3,h4⟩:=h _ _ _ he
  exact⟨k'+c,by omega,.bwd h2 h3⟩
def tY(E E':List Edge):Prop:=∀a b c,(a,b,c)∈E→∃c',(a,b,c')∈E'
theorem bI.ends{E E':List Edge}(h:tY E E'){s n v k:Nat}(hw:bI E s n v k):∃k',bI E' s n v k':=by
 induction hw with
 |nil n=>exact⟨0,.nil n⟩
 |fwd _ he ih=>
  obtain⟨k',h2⟩:=ih
  obtain⟨c,h3⟩:=h _ _ _ he
  exact⟨k'+c,.fwd h2 h3⟩
 |bwd _ he ih=>
  obtain⟨k',h2⟩:=ih
  obtain⟨c,h3⟩:=h _ _ _ he
  exact⟨k'+c,.bwd h2 h3⟩
theorem au8{E E':List Edge}{N len:Nat}(hN:2≤N)(hN2:N≤1000)(hE:xP E N)(hE':xP E' N)(h:Tgh E E')(he:tY E E'):sV E N len≤sV E' N len:=by
 by_cases hp:∃k,Cst E' 0 1 k
 ·obtain⟨k,hk⟩:=hp
  obtain⟨j,hj⟩:=sN.ex hk
  obtain⟨n,hn⟩:=hj.1
  obtain⟨i,hi,hw⟩:=hn.tgh h
  obtain⟨m,hm⟩:=sN.ex (E:=E) ⟨n,hw⟩
  rw[(ak6 hN hN2 hE hm).1,(ak6 hN hN2 hE' hj).1]
  exact Nat.le_trans (hm.2 i ⟨n,hw⟩) hi
 ·have h1:∀k,¬Cst E' 0 1 k:=fun k hk=>hp ⟨k,hk⟩
  have h2:∀k,¬Cst E 0 1 k:=fun k ⟨n,hk⟩=>by
   obtain⟨k',hk'⟩:=hk.ends he
   exact h1 k' ⟨n,hk'⟩
  rw[ajD hN hN2 hE h2,ajD hN hN2 hE' h1]
  exact aeQ _
end Net
end Go.Ev
namespace Go.Ev
namespace Net
end Net
end Go.Ev
namespace Go.Ev
namespace Net
end Net
end Go.Ev
