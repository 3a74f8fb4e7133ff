/- The evaluator and its soundness. -/
import Derived.Test.YtcncggaobhbomaaGreatDoorLibD
import Derived.Sort.Grow
open And renaming intro→agX
open Eq renaming trans→ao8
open Option renaming map_eq_some_iff→aqM,bind_eq_some_iff→aqT,bind_some→awX,map_some→aC8,some→aNV
open Nat renaming le_refl→aAR,zero_le→aC7,le_trans→aJ1,add_zero→aNU,strongRecOn→aT1,mul_le_mul_left→aY7
open List renaming mem_cons_of_mem→aC4,mem_cons_self→aC5,mem_cons→aC6,getElem?_eq_some_iff→aEY,mem_append→aE6,mem_append_left→aFD,mem_append_right→aHS,all_eq_true→aH6,filter_cons_of_pos→aIF,mem_map→aIS,nil_append→aJY,getElem?_eq_getElem→aJ9,filter_cons_of_neg→aKY,getElem?_map→aLK,append_nil→aM0,length_cons→aM7,foldl_cons→aNZ,pairwise_cons→aN0,cons_append→aOE,replicate→aP8,range→aRR,flatMap_cons→aRS,getElem?_append_left→aR1,mem_of_getElem?→aSL,getElem?_of_mem→aS7,length_append→aT2,length_nil→aT3,set_cons_succ→aWL,getElem?_append_right→aWS,any_eq_true→aXY,getElem?_set_ne→aY4,getD_eq_getElem?_getD→aY5,getElem?_set_self→aY6
open Bool renaming or_true→aNT,and_eq_true→aQ4,or_eq_true→aXT,not_eq_true'→aY2,not_eq_eq_eq_not→aY3
set_option linter.unusedSimpArgs false
set_option linter.unusedVariables false
namespace Go.Ev
noncomputable section
set_option maxRecDepth 100000
def EVa:=PLift.up (agX @aWC (agX @a1Y (agX @a4O (agX @aVU (agX @aSI (agX @aX7 (agX @aXH (agX @aZD (agX @List.map_cons.{0,0} (agX @List.map_nil.{0,0} (agX @aC8.{0,0} (agX @Option.map_none.{0,0} (agX @List.getElem?_cons_zero.{0} (agX @List.getElem?_cons_succ.{0} (agX @awX.{0,0} (agX @a71 (agX @a9T (agX @ba9 (agX @a2S (agX @a4W (agX @a6X (agX @a5W (agX @a6A (agX @a6K (agX @aT7 (agX @a86 (agX @a1P (agX @aZW (agX @a2R (agX @aZ9 (agX @a3P (agX @Nat.add_assoc (agX @List.append_assoc.{0} @aT2.{0})))))))))))))))))))))))))))))))))
def EVb:=PLift.up (agX @List.length_replicate.{0} (agX @List.length_map.{0,0} (agX @Int.natCast_nonneg (agX @Int.toNat_natCast (agX @aLK.{0,0} (agX @a05 (agX @aSM (agX @aZ6 (agX @a7P (agX @a80 (agX @a1N (agX @aXK (agX @aYD (agX @a6V (agX @a8S (agX @a9S (agX @a6U (agX @a14 (agX @aO4 (agX @aYK (agX @aCV (agX @a06 (agX @aUV (agX @aZI (agX @a97 (agX @bbE (agX @a88 (agX @baL (agX @baH (agX @bbA (agX @a9Z @baR)))))))))))))))))))))))))))))))
def EVc:=PLift.up (agX @a18 (agX @aV8 (agX @aXZ (agX @a0J (agX @a25 (agX @azG (agX @aWP (agX @aXC (agX @aQE (agX @a0G (agX @a7D (agX @aX4 (agX @baZ (agX @aXL (agX @aXP (agX @aWB (agX @aTC (agX @aGH (agX @aHX (agX @aX8 (agX @aJT (agX @aH4 (agX @aX5 (agX @aTF (agX @aSN (agX @aU1 (agX @aVF (agX @a3M (agX @a0W (agX @a6T (agX @a0Q (agX @a73 @a2X))))))))))))))))))))))))))))))))
def EVd:=PLift.up (agX @a7Z (agX @a60 (agX @a0F (agX @aU7 (agX @a5J (agX @a0D (agX @a7Q (agX @a21 (agX @a6C (agX @a6I (agX @a50 (agX @a6L (agX @a59 (agX @a01 (agX @List.all_cons.{0} (agX @List.all_nil.{0} (agX @aJY.{0} (agX @aM0.{0} (agX @aOE.{0} (agX @aM7.{0} (agX @aT3.{0} (agX @List.take_succ_cons.{0} (agX @List.take_zero.{0} (agX @List.drop_succ_cons.{0} (agX @List.drop_zero.{0} (agX @List.take_nil.{0} (agX @List.set_cons_zero.{0} (agX @aWL.{0} (agX @a0Y @a4Z)))))))))))))))))))))))))))))
def EVe:=PLift.up (agX @a2W (agX @aZR (agX @a4D (agX @a7R (agX @a42 (agX @aZ8 (agX @a6Y (agX @a3C (agX @a04 (agX @a5I (agX @a7E (agX @a47 (agX @Bool.and_self (agX @Bool.and_true (agX @Bool.true_and (agX @Bool.false_and (agX @Bool.and_false (agX @aNT (agX @Bool.or_false (agX @Bool.true_or (agX @Bool.not_true (agX @Bool.not_false (agX @Nat.zero_add (agX @aNU (agX @Bool.false_eq_true (agX @true_and (agX @and_true (agX @and_self (agX @aAR (agX @a5M (agX @aZE (agX @aYT @aUK))))))))))))))))))))))))))))))))
def EVf:=PLift.up (agX @a9A (agX @a9W (agX @a16 (agX @a5L (agX @a4M (agX @aPU (agX @aLT (agX @aUB (agX @a63 (agX @aQR (agX @a1W (agX @aTI (agX @a2Q (agX @a7B (agX @a9C (agX @a90 (agX @aN3 (agX @aW6 (agX @aN9 (agX @a4L (agX @aVM (agX @aT5 (agX @a74 (agX @a8Y (agX @aVS (agX @a33 (agX @a7Y (agX @aWN (agX @a9G (agX @a82 (agX @a0A (agX @a54 (agX @a8A (agX @a65 (agX @a48 (agX @a6Z @ba7))))))))))))))))))))))))))))))))))))
def EVg:=PLift.up (agX @a0E (agX @aUM (agX @aTV (agX @aO1 (agX @a19 (agX @a7K (agX @a13 (agX @a56 (agX @a1B (agX @aO7 (agX @aYA (agX @a0X (agX @a5Y (agX @a6W (agX @a4K (agX @a79 (agX @List.any_cons.{0} (agX @List.any_nil.{0} (agX @a4X (agX @aVA (agX @aLS (agX @aKC (agX @aS3 (agX @aPK (agX @List.replicate_succ.{0} (agX @List.replicate_zero.{0} (agX @or_self (agX @ne_eq.{1} @not_true_eq_false))))))))))))))))))))))))))))
def EVh:=PLift.up (agX @a6R (agX @aVH (agX @aV6 (agX @aSH (agX @aTO (agX @ba5 (agX @aXN @a0O)))))))
section
variable {P:Program} {O:Dx}
theorem aFU{C:R→Prop}{b:Bool}{k:R}(hb:b=true)(h:True→C k):C (Et b k):=a3X hb (h trivial)
end
end
noncomputable section
open Go.RowKit
theorem aSW(b:Nat):place [] b=(0,[b]):=ao8 rfl rfl
theorem aOY(a b:Nat)(m:List Nat):place (a::m) b=if a=b then(0,a::m)else((place m b).1+1,a::(place m b).2):=by
 unfold place
 rw[List.idxOf?_cons]
 by_cases h:a=b
 ·simp[h]
 ·simp only[h,if_false,beq_iff_eq]
  cases List.idxOf? b m<;>simp
section
variable {P:Program} {O:Dx}
theorem a3O(d:Nat)(m:List Nat)(b:Bool):Bc (d+1) m (.bool b)=some (.bool b,m):=ao8 rfl rfl
theorem a4N(d:Nat)(m:List Nat)(k:IntKind)(n:Int):Bc (d+1) m (.int k n)=some (.int k n,m):=ao8 rfl rfl
theorem aZB(d:Nat)(m:List Nat):Bc (d+1) m .nils=some (.nils,m):=ao8 rfl rfl
theorem a7T(d:Nat)(m:List Nat)(n:Nat)(fl:Bool)(rows:List (List AV)):Bc (d+1) m (.imm n fl rows)=some (.imm n fl rows,m):=ao8 rfl rfl
theorem a4T(d:Nat)(m:List Nat)(n:Nat)(fl nn:Bool)(rows:List (List AV)):Bc (d+1) m (Bo n fl nn rows)=some (Bo n fl nn rows,m):=Hl m (azG d n fl nn rows)
theorem a41(d:Nat)(m:List Nat)(b r o:Nat):Bc (d+1) m (.ptr b r o)=some (.ptr (place m b).1 r o,(place m b).2):=ao8 rfl rfl
theorem a49(d:Nat)(m:List Nat)(st b r len:Nat):Bc (d+1) m (.slr st b r len)=some (.slr st (place m b).1 r len,(place m b).2):=ao8 rfl rfl
def rfA(x:Option (List AV × List Nat)):Option (AV × List Nat):=x.map fun(cs,m)=>(.agg cs,m)
def rfT(x:Option (List AV × List Nat)):Option (AV × List Nat):=x.map fun(cs,m)=>(.tup cs,m)
theorem aY1(cs:List AV)(m:List Nat):rfA (some (cs,m))=some (.agg cs,m):=ao8 rfl rfl
theorem aYZ(cs:List AV)(m:List Nat):rfT (some (cs,m))=some (.tup cs,m):=ao8 rfl rfl
theorem a7A(d:Nat)(m:List Nat)(cs:List AV):Bc (d+1) m (.agg cs)=rfA (Bc.refL (Bc d) m cs):=ao8 rfl rfl
theorem a6M(d:Nat)(m:List Nat)(cs:List AV):Bc (d+1) m (.tup cs)=rfT (Bc.refL (Bc d) m cs):=ao8 rfl rfl
def rfG(fn:Fn)(a:List AV)(x:Option (List AV × List Nat)):Option (AV × List Nat):=x.map fun(b,m)=>(.func fn a b,m)
def rfF(fn:Fn)(d:Nat)(b:List AV)(x:Option (List AV × List Nat)):Option (AV × List Nat):=x.bind fun(a,m)=>rfG fn a (Bc.refL (Bc d) m b)
theorem aV4(fn:Fn)(a b:List AV)(m:List Nat):rfG fn a (some (b,m))=some (.func fn a b,m):=ao8 rfl rfl
theorem aW0(fn:Fn)(d:Nat)(a b:List AV)(m:List Nat):rfF fn d b (some (a,m))=rfG fn a (Bc.refL (Bc d) m b):=ao8 rfl rfl
theorem aZ0(d:Nat)(m:List Nat)(fn:Fn)(a b:List AV):Bc (d+1) m (.func fn a b)=rfF fn d b (Bc.refL (Bc d) m a):=ao8 rfl rfl
def rfD(v:AV)(x:Option (List AV × List Nat)):Option (List AV × List Nat):=x.map fun(vs,m)=>(v::vs,m)
def rfC(f:List Nat→AV→Option (AV × List Nat))(vs:List AV)(x:Option (AV × List Nat)):Option (List AV × List Nat):=x.bind fun(v,m)=>rfD v (Bc.refL f m vs)
theorem aYI(v:AV)(vs:List AV)(m:List Nat):rfD v (some (vs,m))=some (v::vs,m):=ao8 rfl rfl
theorem aX3(f:List Nat→AV→Option (AV × List Nat))(vs:List AV)(v:AV)(m:List Nat):rfC f vs (some (v,m))=rfD v (Bc.refL f m vs):=ao8 rfl rfl
theorem aZ7(f:List Nat→AV→Option (AV × List Nat))(m:List Nat):Bc.refL f m []=some ([],m):=ao8 rfl rfl
theorem aUN(f:List Nat→AV→Option (AV × List Nat))(m:List Nat)(v:AV)(vs:List AV):Bc.refL f m (v::vs)=rfC f vs (f m v):=ao8 rfl rfl
def rrD(cs:List AV)(x:Option (List (List AV) × List Nat)):Option (List (List AV) × List Nat):=x.map fun(rs,m)=>(cs::rs,m)
def rrC(rs:List (List AV))(x:Option (List AV × List Nat)):Option (List (List AV) × List Nat):=x.bind fun(cs,m)=>rrD cs (Iy m rs)
theorem aU5(cs:List AV)(rs:List (List AV))(m:List Nat):rrD cs (some (rs,m))=some (cs::rs,m):=ao8 rfl rfl
theorem aYW(rs:List (List AV))(cs:List AV)(m:List Nat):rrC rs (some (cs,m))=rrD cs (Iy m rs):=ao8 rfl rfl
theorem a7I(m:List Nat):Iy m []=some ([],m):=ao8 rfl rfl
theorem a3D(m:List Nat)(cs:List AV)(rs:List (List AV)):Iy m (cs::rs)=rrC rs (Bc.refL (Bc 8) m cs):=ao8 rfl rfl
def rbV(st:Nat)(w:Bool)(x:Option (List (List AV) × List Nat)):Option (CB × List Nat):=x.map fun(rows,m)=>(.live st false w rows,m)
theorem aWO(st:Nat)(w:Bool)(rows:List (List AV))(m:List Nat):rbV st w (some (rows,m))=some (.live st false w rows,m):=ao8 rfl rfl
theorem bbB(m:List Nat)(st:Nat)(w:Bool)(rows:List (List AV)):aBU m (.live st true w rows)=some (.live st true w rows,m):=ao8 rfl rfl
theorem a8X(m:List Nat)(st:Nat)(w:Bool)(rows:List (List AV)):aBU m (.live st false w rows)=rbV st w (Iy m rows):=ao8 rfl rfl
def pcE(c:CB)(x:Option (List CB × List Nat)):Option (List CB × List Nat):=x.map fun(cs,m)=>(c::cs,m)
def pcR(n:Nat)(h:Aa)(i:Nat)(x:Option (CB × List Nat)):Option (List CB × List Nat):=x.bind fun(c,m)=>pcE c (Ij n (hf h) (i+1) m)
def pcB(n:Nat)(h:Aa)(i:Nat)(m:List Nat)(x:Option CB):Option (List CB × List Nat):=x.bind fun c=>pcR n h i (aBU m c)
def pcK(n:Nat)(h:Aa)(i:Nat)(m:List Nat)(x:Option Nat):Option (List CB × List Nat):=
 match x with
 |none=>some ([],m)
 |some b=>pcB n h i m (h[b]?)
theorem aV5(c:CB)(cs:List CB)(m:List Nat):pcE c (some (cs,m))=some (c::cs,m):=ao8 rfl rfl
theorem aWQ(n:Nat)(h:Aa)(i:Nat)(c:CB)(m:List Nat):pcR n h i (some (c,m))=pcE c (Ij n (hf h) (i+1) m):=ao8 rfl rfl
theorem aW1(n:Nat)(h:Aa)(i:Nat)(m:List Nat)(c:CB):pcB n h i m (some c)=pcR n h i (aBU m c):=ao8 rfl rfl
theorem aU9(n:Nat)(h:Aa)(i:Nat)(m:List Nat):pcK n h i m none=some ([],m):=ao8 rfl rfl
theorem aW8(n:Nat)(h:Aa)(i:Nat)(m:List Nat)(b:Nat):pcK n h i m (some b)=pcB n h i m (h[b]?):=ao8 rfl rfl
theorem baX(n:Nat)(h:Aa)(i:Nat)(m:List Nat):Ij (n+1) (hf h) i m=pcK n h i m (m[i]?):=by
 unfold Ij pcK
 cases m[i]?<;>rfl
def pkB(vs:List AV)(x:Option (List CB × List Nat)):Option (List AV × List CB × List Nat):=x.map fun(cs,m)=>(vs,cs,m)
def pkA(h:Aa)(x:Option (List AV × List Nat)):Option (List AV × List CB × List Nat):=x.bind fun(vs,m)=>pkB vs (Ij 5000 (hf h) 0 m)
theorem aUO(vs:List AV)(cs:List CB)(m:List Nat):pkB vs (some (cs,m))=some (vs,cs,m):=ao8 rfl rfl
theorem aXQ(h:Aa)(vs:List AV)(m:List Nat):pkA h (some (vs,m))=pkB vs (Ij 5000 (hf h) 0 m):=ao8 rfl rfl
theorem baV(h:Aa)(m:List Nat)(vs:List AV):Hu (hf h) m vs=pkA h (Bc.refL (Bc 8) m vs):=ao8 rfl rfl
def upK(h:Aa)(lent:List Nat)(v:Option AV)(ps ns:Option (List Ab))(o:AV→Dm):OE:=v.bind fun v=>ps.bind fun ps=>ns.bind fun ns=>
 some (o v,(if lent.isEmpty|| !(hasImm 8 v||(ps++ns).any Ab.hasImm)then []else Ee (hf h) lent)++ps++ns)
def crU(h:Aa)(base:Nat)(lent m:List Nat)(cs:List CB)(x:Option (Dm × Aa)):OE:=
 match x with
 |some (.ret v,h')=>upK h lent (Cb 8 (Eb m base) v) (Fg (Eb m base) m cs (h'.take m.length)) (Hq (Eb m base) base (h'.drop m.length)) .ret
 |some (.pan v,h')=>upK h lent (Cb 8 (Eb m base) v) (Fg (Eb m base) m cs (h'.take m.length)) (Hq (Eb m base) base (h'.drop m.length)) .pan
 |none=>none
def crP(O:Dx)(h:Aa)(base:Nat)(f:Np)(lent:List Nat)(x:Option (List AV × List CB × List Nat)):OE:=x.bind fun(vs,cs,m)=>
 if lent.any (m.contains ·)then none else crU h base lent m cs (O.call f vs (cs.map CB.clean))
def crQ(O:Dx)(h:Aa)(base:Nat)(f:Np)(lent:List Nat)(x:Option (List AV)):OE:=x.bind fun vs=>crP O h base f lent (Hu (hf h) [] vs)
theorem bc4(h:Aa)(base:Nat)(f:Np)(args:List AV):cr (aGK O (hf h) base f args)=crQ O h base f (args.flatMap (Ao 12 (hf h))) (Ba (rdV h) args):=by
 unfold aGK Bz crQ rdV
 cases Ba (Fj 12 (hf h)) args with
 |none=>rfl
 |some vs=>
  simp only[awX]
  unfold crP
  cases Hu (hf h) [] vs with
  |none=>rfl
  |some x=>
   obtain⟨vs',cs,m⟩:=x
   simp only[awX]
   split
   ·rfl
   ·cases O.call f vs' (cs.map CB.clean)with
    |none=>rfl
    |some y=>
     obtain⟨out,h'⟩:=y
     simp only[awX,Ic]
     unfold crU upK
     cases out with
     |ret v=>
      simp only[Dm.v]
      cases Cb 8 (Eb m base) v with
      |none=>rfl
      |some v=>
       cases Fg (Eb m base) m cs (h'.take m.length)with
       |none=>rfl
       |some ps=>cases Hq (Eb m base) base (h'.drop m.length)<;>rfl
     |pan v=>
      simp only[Dm.v]
      cases Cb 8 (Eb m base) v with
      |none=>rfl
      |some v=>
       cases Fg (Eb m base) m cs (h'.take m.length)with
       |none=>rfl
       |some ps=>cases Hq (Eb m base) base (h'.drop m.length)<;>rfl
theorem aVN(h:Aa)(base:Nat)(f:Np)(lent:List Nat)(vs:List AV):crQ O h base f lent (some vs)=crP O h base f lent (Hu (hf h) [] vs):=ao8 rfl rfl
theorem aWR(h:Aa)(base:Nat)(f:Np)(lent:List Nat)(vs:List AV)(cs:List CB)(m:List Nat):crP O h base f lent (some (vs,cs,m))=if lent.any (m.contains ·)=true then none else crU h base lent m cs (O.call f vs (cs.map CB.clean)):=ao8 rfl rfl
theorem a27(h:Aa)(base:Nat)(lent m:List Nat)(cs:List CB)(v:AV)(h':Aa):crU h base lent m cs (some (.ret v,h'))=upK h lent (Cb 8 (Eb m base) v) (Fg (Eb m base) m cs (h'.take m.length)) (Hq (Eb m base) base (h'.drop m.length)) .ret:=ao8 rfl rfl
theorem aV3(h:Aa)(lent:List Nat)(v:AV)(ps ns:List Ab)(o:AV→Dm):upK h lent (some v) (some ps) (some ns) o=some (o v,(if(lent.isEmpty|| !(hasImm 8 v||(ps++ns).any Ab.hasImm))=true then []else Ee (hf h) lent)++ps++ns):=ao8 rfl rfl
theorem a2J(st:Nat)(fl w:Bool)(rows:List (List AV)):CB.clean (.live st fl w rows)=.live st fl false rows:=ao8 rfl rfl
theorem a2Z(d:Nat)(g:HF)(b:Bool):Ao (d+1) g (.bool b)=[]:=ao8 rfl rfl
theorem a5K(d:Nat)(g:HF)(k:IntKind)(n:Int):Ao (d+1) g (.int k n)=[]:=ao8 rfl rfl
theorem a3E(d:Nat)(g:HF):Ao (d+1) g .nils=[]:=ao8 rfl rfl
theorem a77(d:Nat)(g:HF)(n:Nat)(fl:Bool)(rows:List (List AV)):Ao (d+1) g (.imm n fl rows)=[]:=ao8 rfl rfl
theorem a5P(d:Nat)(g:HF)(b r o:Nat):Ao (d+1) g (.ptr b r o)=[]:=ao8 rfl rfl
theorem a3H(d:Nat)(g:HF)(fn:Fn)(a b:List AV):Ao (d+1) g (.func fn a b)=[]:=ao8 rfl rfl
theorem a7V(d:Nat)(g:HF)(n:Nat)(fl nn:Bool)(rows:List (List AV)):Ao (d+1) g (Bo n fl nn rows)=[]:=abK g (d:=1) (by omega) (azG 0 n fl nn rows)
theorem a5U(d:Nat)(g:HF)(cs:List AV):Ao (d+1) g (.agg cs)=cs.flatMap (Ao d g):=ao8 rfl rfl
def lvS(b:Nat)(c:Option CB)(q:AV→List Nat)(r len:Nat):List Nat:=
 b::match c with
 |some (.live _ fl _ rows)=>if r+len≤rows.length then(if fl then []else((rows.drop r).take len).flatMap fun cs=>cs.flatMap q)else []
 |some (.frz _ fl rows)=>if r+len≤rows.length then(if fl then []else((rows.drop r).take len).flatMap fun cs=>cs.flatMap q)else []
 |_=>[]
theorem aNX(d:Nat)(h:Aa)(st b r len:Nat):Ao (d+1) (hf h) (.slr st b r len)=lvS b (h[b]?) (Ao d (hf h)) r len:=by
 have e:Ao (d+1) (hf h) (.slr st b r len)=b::(match Ec (hf h) b r len with|some (_,fl,rows)=>if fl then []else rows.flatMap fun cs=>cs.flatMap (Ao d (hf h))|none=>[]):=rfl
 rw[e]
 generalize Ao d (hf h)=q
 unfold Ec lvS
 have eh:hf h b=h[b]?:=rfl
 rw[eh]
 cases h[b]? with
 |none=>rfl
 |some c=>
  cases c with
  |live st fl w rows=>simp only;by_cases hq:r+len≤rows.length<;>simp[hq]
  |frz st fl rows=>simp only;by_cases hq:r+len≤rows.length<;>simp[hq]
  |_=>rfl
theorem baB(b:Nat)(st:Nat)(w:Bool)(rows:List (List AV))(q:AV→List Nat)(r len:Nat):lvS b (some (.live st true w rows)) q r len=[b]:=by simp[lvS]
theorem ba4(m:List Nat)(base i:Nat):Eb m base i=if i<m.length then m.getD i base else base+(i-m.length):=ao8 rfl rfl
theorem aZ3(d:Nat)(f:Nat→Nat)(b:Bool):Cb (d+1) f (.bool b)=some (.bool b):=ao8 rfl rfl
theorem a5S(d:Nat)(f:Nat→Nat)(k:IntKind)(n:Int):Cb (d+1) f (.int k n)=some (.int k n):=ao8 rfl rfl
theorem a5D(d:Nat)(f:Nat→Nat)(n:Nat)(fl nn:Bool)(rows:List (List AV)):Cb (d+1) f (Bo n fl nn rows)=some (Bo n fl nn rows):=Jl f (azG d n fl nn rows)
theorem a5C(d:Nat)(f:Nat→Nat)(b r o:Nat):Cb (d+1) f (.ptr b r o)=some (.ptr (f b) r o):=ao8 rfl rfl
theorem a5E(d:Nat)(f:Nat→Nat)(st b r len:Nat):Cb (d+1) f (.slr st b r len)=some (.slr st (f b) r len):=ao8 rfl rfl
def rnA(x:Option (List AV)):Option AV:=x.map .agg
def rnT(x:Option (List AV)):Option AV:=x.map .tup
theorem aVG(cs:List AV):rnA (some cs)=some (.agg cs):=ao8 rfl rfl
theorem aT6(cs:List AV):rnT (some cs)=some (.tup cs):=ao8 rfl rfl
theorem a6P(d:Nat)(f:Nat→Nat)(cs:List AV):Cb (d+1) f (.agg cs)=rnA (Ba (Cb d f) cs):=ao8 rfl rfl
theorem a6G(d:Nat)(f:Nat→Nat)(cs:List AV):Cb (d+1) f (.tup cs)=rnT (Ba (Cb d f) cs):=ao8 rfl rfl
def rnG(fn:Fn)(a:List AV)(x:Option (List AV)):Option AV:=x.map fun b=>.func fn a b
def rnF(fn:Fn)(b:Option (List AV))(x:Option (List AV)):Option AV:=x.bind fun a=>rnG fn a b
theorem aWK(fn:Fn)(a b:List AV):rnG fn a (some b)=some (.func fn a b):=ao8 rfl rfl
theorem aYS(fn:Fn)(b:Option (List AV))(a:List AV):rnF fn b (some a)=rnG fn a b:=ao8 rfl rfl
theorem a1C(d:Nat)(f:Nat→Nat)(fn:Fn)(a b:List AV):Cb (d+1) f (.func fn a b)=rnF fn (Ba (Cb d f) b) (Ba (Cb d f) a):=ao8 rfl rfl
def rbW(st:Nat)(w:Bool)(x:Option (List (List AV))):Option CB:=x.map (.live st false w)
theorem aV0(st:Nat)(w:Bool)(rows:List (List AV)):rbW st w (some rows)=some (.live st false w rows):=ao8 rfl rfl
theorem a87(f:Nat→Nat)(st:Nat)(w:Bool)(rows:List (List AV)):Ho f (.live st true w rows)=some (.live st true w rows):=ao8 rfl rfl
theorem a9B(f:Nat→Nat)(st:Nat)(w:Bool)(rows:List (List AV)):Ho f (.live st false w rows)=rbW st w (Ba (Ba (Cb 8 f)) rows):=ao8 rfl rfl
def peE(b:Nat)(c:Option CB)(x:Option (List Ab)):Option (List Ab):=c.bind fun c=>x.map fun es=>.put b c::es
def peK(f:Nat→Nat)(b:Nat)(c:CB)(same bad:Bool)(x:Option (List Ab)):Option (List Ab):=bif same then x else bif bad then none else peE b (Ho f c) x
theorem baM(f:Nat→Nat)(b:Nat)(c:CB)(bad:Bool)(x:Option (List Ab)):peK f b c true bad x=x:=ao8 rfl rfl
theorem a5O(f:Nat→Nat):Fg f [] [] []=some []:=ao8 rfl rfl
theorem a1Z(f:Nat→Nat)(b:Nat)(m:List Nat)(c₀ c:CB)(cs₀ cs:List CB):Fg f (b::m) (c₀::cs₀) (c::cs)=peK f b c (c₀.same c) (c.unw|| !c₀.isLive) (Fg f m cs₀ cs):=by
 conv=>lhs;unfold Fg
 unfold peK
 cases c₀.same c with
 |true=>rfl
 |false=>
  cases(c.unw|| !c₀.isLive)with
  |true=>rfl
  |false=>
   simp only[cond_false,peE]
theorem a3G(a:Nat)(b c:Bool)(r:List (List AV))(st:Nat)(fl w:Bool)(rows:List (List AV)):CB.same (.live a b c r) (.live st fl w rows)= !w:=ao8 rfl rfl
theorem a23(st:Nat)(fl w:Bool)(rows:List (List AV)):CB.unw (.live st fl w rows)= !w:=ao8 rfl rfl
theorem a0I(st:Nat)(fl w:Bool)(rows:List (List AV)):CB.isLive (.live st fl w rows)=true:=ao8 rfl rfl
def neK(base:Nat)(c:Option CB)(x:Option (List Ab)):Option (List Ab):=c.bind fun c=>x.map fun es=>.new base c::es
theorem aT4(base:Nat)(c:CB)(es:List Ab):neK base (some c) (some es)=some (.new base c::es):=ao8 rfl rfl
theorem a4S(f:Nat→Nat)(base:Nat):Hq f base []=some []:=ao8 rfl rfl
theorem a0T(f:Nat→Nat)(base:Nat)(c:CB)(cs:List CB):Hq f base (c::cs)=neK base (Ho f c) (Hq f (base+1) cs):=ao8 rfl rfl
theorem a2G(d:Nat)(fn:Fn)(a b:List AV):hasImm (d+1) (.func fn a b)=(a.any (hasImm d)||b.any (hasImm d)):=ao8 rfl rfl
theorem a39(b:Nat)(c:CB):Ab.hasImm (.new b c)=c.hasImm:=ao8 rfl rfl
theorem baU(st:Nat)(w:Bool)(rows:List (List AV)):CB.hasImm (.live st true w rows)=false:=ao8 rfl rfl
theorem a93(st:Nat)(w:Bool)(rows:List (List AV)):CB.hasImm (.live st false w rows)=rows.any fun cs=>cs.any (Ev.hasImm 8):=ao8 rfl rfl
theorem a64(h:Aa)(b r o:Nat):rdV h (.ptr b r o)=some (.ptr b r o):=ao8 rfl rfl
theorem a1J(h:Aa)(cs:List AV):rdV h (.agg cs)=rdA (Ba (Fj 11 (hf h)) cs):=ao8 rfl rfl
theorem aSQ(l:List AV):rdA (some l)=some (.agg l):=ao8 rfl rfl
theorem a11(d:Nat)(h:Aa)(b:Bool):Fj (d+1) (hf h) (.bool b)=some (.bool b):=ao8 rfl rfl
theorem a62(d:Nat)(h:Aa)(k:IntKind)(n:Int):Fj (d+1) (hf h) (.int k n)=some (.int k n):=ao8 rfl rfl
theorem a44(d:Nat)(h:Aa)(n:Nat)(fl:Bool)(rows:List (List AV)):Fj (d+1) (hf h) (.imm n fl rows)=some (.imm n fl rows):=ao8 rfl rfl
def mfK(f:Nat)(a b:Option (List AV)):OE:=a.bind fun a=>b.bind fun b=>some (.ret (.func (.func f) a b),[])
theorem aVC(f:Nat)(a b:List AV):mfK f (some a) (some b)=some (.ret (.func (.func f) a b),[]):=ao8 rfl rfl
theorem a8T(t:List AV)(h:Aa)(f:Nat)(a b:Array Operand):Dc O P t h (.makeFunc (.func f) a b)=mfK f (Aw t a.toList) (Aw t b.toList):=by
 rw[Bj _ _ _ rfl]
 simp only[exec,mfK]
 cases Aw t a.toList with
 |none=>rfl
 |some a=>cases Aw t b.toList<;>rfl
def msK(n:Nat)(z:AV)(base:Nat)(l c:Option AV):OE:=
 match l,c with
 |some (.int .i64 l),some (.int .i64 c)=>if 0≤l∧l≤c∧c≤2 ^ 40∧(Ad z).all AV.isCell=true then some (.ret (.slr n base 0 l.toNat),[.new base (.live n ((Ad z).all AV.flat) false (aP8 l.toNat (Ad z)))])else none
 |_,_=>none
theorem aUU(n:Nat)(z:AV)(base:Nat)(l c:Int):msK n z base (some (.int .i64 l)) (some (.int .i64 c))=if 0≤l∧l≤c∧c≤2 ^ 40∧(Ad z).all AV.isCell=true then some (.ret (.slr n base 0 l.toNat),[.new base (.live n ((Ad z).all AV.flat) false (aP8 l.toNat (Ad z)))])else none:=ao8 rfl rfl
def msO(P:Program)(ty:TypeId)(base:Nat)(l c:Option AV):OE:=rD (l.bind fun l=>c.bind fun c=>Ft P base ty l c)
theorem baE(t:List AV)(h:Aa)(ty:TypeId)(l c:Operand):Dc O P t h (.makeSlice ty l c)=msO P ty h.length (Ac t l) (Ac t c):=Bj _ _ _ rfl
theorem baN{ty e:TypeId}{n b:Nat}{z:AV}(he:aAH P ty=some e)(hn:Ji P e=some n)(hb:byT P e=some b)(hz:Es P e=some z)(ok:(decide (b≤2 ^ 7)&&decide (n≠0)&&decide ((Ad z).length=n))=true)(base:Nat)(l c:Option AV):
 msO P ty base l c=msK n z base l c:=by
 simp only[aQ4,decide_eq_true_eq]at ok
 unfold msO msK
 cases l with
 |none=>rfl
 |some l=>
  cases c with
  |none=>cases l<;>first|rfl|(rename_i k _;cases k<;>rfl)
  |some c=>
   simp only[awX,Ft,he,hn,hb,hz]
   cases l with
   |int k l=>
    cases c with
    |int k' c=>
     cases k<;>cases k'<;>first|rfl|skip
     simp only[ok.1.1,ok.1.2,ok.2,ne_eq,not_false_eq_true,true_and]
     split<;>rfl
    |_=>cases k<;>rfl
   |_=>rfl
def srS(q:Nat)(c:Option CB)(r len:Nat):Option (Bool × List (List AV)):=
 match c with
 |some (.live st fl _ rows)=>if r+len≤rows.length∧st=q then some (fl,(rows.drop r).take len)else none
 |some (.frz st fl rows)=>if r+len≤rows.length∧st=q then some (fl,(rows.drop r).take len)else none
 |_=>none
def srK(q:Nat)(h:Aa)(x:Option AV):Option (Bool × List (List AV)):=
 match x with
 |some .nils=>some (true,[])
 |some (.imm st fl rows)=>if st=q then some (fl,rows)else none
 |some (.slr _ b r len)=>srS q (h[b]?) r len
 |_=>none
theorem aW4(q st:Nat)(fl w:Bool)(rows:List (List AV))(r len:Nat):srS q (some (.live st fl w rows)) r len=if r+len≤rows.length∧st=q then some (fl,(rows.drop r).take len)else none:=ao8 rfl rfl
theorem aWM(q:Nat)(h:Aa):srK q h (some .nils)=some (true,[]):=ao8 rfl rfl
theorem aZT(q:Nat)(h:Aa)(st:Nat)(fl:Bool)(rows:List (List AV)):srK q h (some (.imm st fl rows))=if st=q then some (fl,rows)else none:=ao8 rfl rfl
theorem aPT(q:Nat)(h:Aa)(st b r len:Nat):srK q h (some (.slr st b r len))=srS q (h[b]?) r len:=ao8 rfl rfl
def apT(n base b r len:Nat)(nfl:Bool)(new:List (List AV))(st:Nat)(fl:Bool)(rows:List (List AV)):OE:=
 if st=n∧r+len≤rows.length∧len+new.length≤2 ^ 39 then some (.ret (.slr st base 0 (len+new.length)),[.put b .dead,.new base (.live st (fl&&nfl) false ((rows.drop r).take len++new))])else none
def apS(n base b r len:Nat)(nfl:Bool)(new:List (List AV))(c:Option CB):OE:=
 match c with
 |some (.live st fl _ rows)=>if st=n∧r+len=rows.length∧len+new.length≤2 ^ 39 then some (.ret (.slr st base 0 (len+new.length)),[.put b .dead,.new base (.live st (fl&&nfl) false (rows.drop r++new))])else apT n base b r len nfl new st fl rows
 |_=>none
theorem aNG(n base b r len:Nat)(nfl:Bool)(new:List (List AV))(st:Nat)(fl w:Bool)(rows:List (List AV)):apS n base b r len nfl new (some (.live st fl w rows))=if st=n∧r+len=rows.length∧len+new.length≤2 ^ 39 then some (.ret (.slr st base 0 (len+new.length)),[.put b .dead,.new base (.live st (fl&&nfl) false (rows.drop r++new))])else apT n base b r len nfl new st fl rows:=ao8 rfl rfl
def apK(n:Nat)(h:Aa)(s:Option AV)(x:Option (Bool × List (List AV))):OE:=
 match s,x with
 |some .nils,some (_,[])=>some (.ret .nils,[])
 |some (.slr a b r l),some (_,[])=>some (.ret (.slr a b r l),[])
 |some (.imm a b r),some (_,[])=>some (.ret (.imm a b r),[])
 |some .nils,some (nfl,r::new)=>if(r::new).length≤2 ^ 39 then some (.ret (.slr n h.length 0 (r::new).length),[.new h.length (.live n nfl false (r::new))])else none
 |some (.slr _ b r len),some (nfl,q::new)=>apS n h.length b r len nfl (q::new) (h[b]?)
 |_,_=>none
theorem a8B(n:Nat)(h:Aa)(a b r l:Nat)(nfl:Bool):apK n h (some (.slr a b r l)) (some (nfl,[]))=some (.ret (.slr a b r l),[]):=ao8 rfl rfl
theorem aPR(n:Nat)(h:Aa)(nfl:Bool)(r:List AV)(new:List (List AV)):apK n h (some .nils) (some (nfl,r::new))=if(r::new).length≤2 ^ 39 then some (.ret (.slr n h.length 0 (r::new).length),[.new h.length (.live n nfl false (r::new))])else none:=ao8 rfl rfl
theorem aPJ(n:Nat)(h:Aa)(a b r len:Nat)(nfl:Bool)(q:List AV)(new:List (List AV)):apK n h (some (.slr a b r len)) (some (nfl,q::new))=apS n h.length b r len nfl (q::new) (h[b]?):=ao8 rfl rfl
def apO(P:Program)(ty:TypeId)(h:Aa)(s x:Option AV):OE:=rD (s.bind fun s=>x.bind fun x=>Fh P (hf h) h.length ty s x)
theorem aWI(t:List AV)(h:Aa)(s x:Operand)(ty ty1 e1:TypeId)(hu:P.underlying ty1=some (.slice e1)):Dc O P t h (.call ⟨.builtin .append,#[s,x],#[ty,ty1]⟩)=apO P ty h (Ac t s) (Ac t x):=by
 rw[Bj _ _ _ rfl]
 simp only[exec,Aw,apO]
 cases Ac t s with
 |none=>rfl
 |some a=>
  cases Ac t x with
  |none=>rfl
  |some b=>
   simp only[awX,aC8]
   have e0:(#[ty,ty1]:Array TypeId)[0]?=some ty:=rfl
   have e1:(#[ty,ty1]:Array TypeId)[1]?=some ty1:=rfl
   simp only[e0,e1,awX,hu]
theorem aQQ{ty e:TypeId}{n b:Nat}{z:AV}(he:aAH P ty=some e)(hn:Ji P e=some n)(hb:byT P e=some b)(hz:Es P e=some z)(ok:(decide (b≤2 ^ 8)&&decide (n≠0)&&decide ((Ad z).length=n))=true)(h:Aa)(s x:AV)(hx:∀q,x≠.str q):
 apO P ty h (some s) (some x)=apK n h (some s) (srK n h (some x)):=by
 simp only[aQ4,decide_eq_true_eq]at ok
 have hbad:¬(n=0∨2 ^ 8<b∨(Ad z).length≠n):=by
  rintro(h1|h1|h1)
  ·exact ok.1.2 h1
  ·omega
  ·exact h1 ok.2
 unfold apO
 simp only[awX,Fh,he,hn,hb,hz]
 have key:∀(nfl:Bool) (new:List (List AV)) (fs:List Au),rD (if n=0∨2 ^ 8<b∨(Ad z).length≠n then none else
  match s,new with
  |s,[]=>match s with
   | .nils| .slr _ _ _ _| .imm _ _ _=>some ⟨s,[],fs⟩
   |_=>none
  | .nils,new=>if new.length≤2 ^ 39 then some ⟨.slr n h.length 0 new.length,[.new h.length (.live n nfl false new)],fs⟩else none
  | .slr _ b r len,new=>
    match hf h b with
    |some (.live st fl _ rows)=>
     if st=n∧r+len≤rows.length∧len+new.length≤2 ^ 39 then
      some ⟨.slr st h.length 0 (len+new.length),[.put b .dead,.new h.length (.live st (fl&&nfl) false ((rows.drop r).take len++new))],.blk b::fs⟩
     else none
    |_=>none
  |_,_=>none)=apK n h (some s) (some (nfl,new)):=fun nfl new fs=>by
  rw[if_neg hbad]
  cases new with
  |nil=>cases s<;>rfl
  |cons q new=>
   cases s with
   |nils=>simp only[aPR];split<;>rfl
   |slr a b r len=>
    simp only[aPJ]
    unfold apS
    have eh:hf h b=h[b]?:=rfl
    rw[eh]
    cases h[b]? with
    |none=>rfl
    |some c=>
     cases c with
     |live st fl w rows=>
      simp only
      by_cases h1:st=n∧r+len=rows.length∧len+(q::new).length≤2 ^ 39
      ·rw[if_pos h1,if_pos ⟨h1.1,by omega,h1.2.2⟩,List.take_of_length_le (by simp;omega)]
       rfl
      ·rw[if_neg h1]
       unfold apT
       split<;>rfl
     |_=>rfl
   |_=>rfl
 cases x with
 |nils=>exact key true [] []
 |imm st fl rows=>
  simp only[Ce,aZT,hn,aNV.injEq]
  by_cases hq:n=st
  ·subst hq;simp only[if_true,awX];exact key fl rows []
  ·rw[if_neg hq,if_neg (fun e=>hq e.symm)]
   cases s<;>rfl
 |slr st b' r len=>
  simp only[Ce,aPT,hn,Ec,srS]
  have eh:hf h b'=h[b']?:=rfl
  rw[eh]
  cases h[b']? with
  |none=>cases s<;>rfl
  |some c=>
   cases c with
   |live st fl w rows=>
    simp only
    by_cases hq:r+len≤rows.length
    ·simp only[hq,if_true,awX,true_and,aNV.injEq]
     by_cases hq2:n=st
     ·subst hq2;simp only[if_true,awX];exact key fl _ _
     ·rw[if_neg hq2,if_neg (fun e=>hq2 e.symm)];cases s<;>rfl
    ·simp only[hq,if_false,false_and];cases s<;>rfl
   |frz st fl rows=>
    simp only
    by_cases hq:r+len≤rows.length
    ·simp only[hq,if_true,awX,true_and,aNV.injEq]
     by_cases hq2:n=st
     ·subst hq2;simp only[if_true,awX];exact key fl _ _
     ·rw[if_neg hq2,if_neg (fun e=>hq2 e.symm)];cases s<;>rfl
    ·simp only[hq,if_false,false_and];cases s<;>rfl
   |_=>cases s<;>rfl
 |str q=>exact(hx q rfl).elim
 |_=>cases s<;>rfl
def rtK(Q:Dm→Aa→Prop)(x:Option (List AV × List CB × List Nat)):Prop:=
 match x with
 |some ([v],cs,_)=>Q (.ret v) cs
 |_=>False
theorem aV9(Q:Dm→Aa→Prop)(v:AV)(cs:List CB)(m:List Nat):rtK Q (some ([v],cs,m))=Q (.ret v) cs:=ao8 rfl rfl
theorem a3W{q:Nat}{vs:List AV}{h:Aa}{Q:Dm→Aa→Prop}:Rt q (some vs) h Q=rtK Q (Hu (hf h) (aRR q) [Mc vs]):=by
 unfold Rt a1L
 simp only[awX,Of]
 cases hp:Hu (hf h) (aRR q) [Mc vs]with
 |none=>simp[rtK]
 |some x=>
  obtain⟨ws,cs,m⟩:=x
  simp only[awX]
  match ws with
  | [v]=>
    simp only[rtK,aC8]
    exact propext ⟨fun⟨o,h',e,k⟩=>by cases e;exact k,fun k=>⟨_,_,rfl,k⟩⟩
  | []=>simp[rtK]
  |_::_::_=>simp[rtK]
theorem a4Y(vs:List AV)(h:Aa)(Q:Dm→Aa→Prop):Rt1 0 (some vs) h Q=rtK Q (Hu (hf h) [] [Mc vs]):=a3W
theorem a2L(q:Nat)(vs:List AV)(h:Aa)(Q:Dm→Aa→Prop):Rt (q+1) (some vs) h Q=rtK Q (Hu (hf h) (aRR (q+1)) [Mc vs]):=a3W
end
end
noncomputable section
set_option maxRecDepth 100000
def EVi:=PLift.up (agX @aSW (agX @aOY (agX @a3O (agX @a4N (agX @aZB (agX @a7T (agX @a4T (agX @a41 (agX @a49 (agX @aY1 (agX @aYZ (agX @a7A (agX @a6M (agX @aV4 (agX @aW0 (agX @aZ0 (agX @aYI (agX @aX3 (agX @aZ7 (agX @aUN (agX @aU5 (agX @aYW (agX @a7I (agX @a3D (agX @aWO (agX @bbB (agX @a8X (agX @aV5 (agX @aWQ (agX @aW1 @aU9))))))))))))))))))))))))))))))
def EVj:=PLift.up (agX @aW8 (agX @baX (agX @aUO (agX @aXQ (agX @baV (agX @bc4 (agX @aVN (agX @aWR (agX @a27 (agX @aV3 (agX @a2J (agX @a2Z (agX @a5K (agX @a3E (agX @a77 (agX @a5P (agX @a3H (agX @a7V (agX @a5U (agX @aNX (agX @baB (agX @ba4 (agX @aZ3 (agX @a5S (agX @a5D (agX @a5C (agX @a5E @aVG)))))))))))))))))))))))))))
def EVk:=PLift.up (agX @aT6 (agX @a6P (agX @a6G (agX @aWK (agX @aYS (agX @a1C (agX @aV0 (agX @a87 (agX @a9B (agX @baM (agX @a5O (agX @a1Z (agX @a3G (agX @a23 (agX @a0I (agX @aT4 (agX @a4S (agX @a0T (agX @a2G (agX @a39 (agX @baU (agX @a93 @a64))))))))))))))))))))))
def EVl:=PLift.up (agX @a1J (agX @aSQ (agX @a11 (agX @a62 (agX @a44 (agX @aVC (agX @a8T (agX @aUU (agX @baE (agX @aW4 (agX @aWM (agX @aPT (agX @aNG (agX @a8B (agX @aPR (agX @aPJ (agX @aV9 (agX @a4Y (agX @a2L (agX @aRS.{0,0} (agX @List.flatMap_nil.{0,0} (agX @List.isEmpty_nil.{0} (agX @List.isEmpty_cons.{0} (agX @List.getD_cons_zero.{0} (agX @List.range_succ (agX @List.range_zero (agX @List.contains_nil.{0} @List.contains_cons.{0})))))))))))))))))))))))))))
def EVm:=PLift.up (agX @List.getElem?_nil.{0} (agX @aRM (agX @aKN (agX @aTZ @aO8))))
end
noncomputable section
theorem av0{n:Nat}{fl nn:Bool}{rows:List (List AV)}(h:rows≠[]):Bo n fl nn rows=.imm n fl rows:=by
 cases rows with
 |nil=>exact(h rfl).elim
 |cons r rs=>rfl
section
variable {P:Program} {t e:TypeId} (hu:P.underlying t=some (.slice e))
include hu
end
def a4V(v:Option AV)(ns:Option (List Ab)):Option Ht:=v.bind fun v=>ns.map fun ns=>⟨.ret v,ns,[]⟩
theorem aR3(v:AV)(ns:List Ab):a4V (some v) (some ns)=some ⟨.ret v,ns,[]⟩:=ao8 rfl rfl
theorem aYU(base:Nat)(v:AV)(c:CB)(cs:List CB):ac0 base (some (.ret v,c::cs))=a4V (Cb 8 (fun i=>base+i) v) (Hq (fun i=>base+i) base (c::cs)):=by
 simp only[ac0,a4V,awX,Dm.v,Dm.map]
section
variable {O:Dx}
theorem ba6(h:Aa)(f:Nat)(args:List AV):shC O h f args=if(aB1 args||O.md f)=true then shK h (O.call (.sh f) args (Gt h))else cr (Bz O (hf h) h.length (.fn f) args):=ao8 rfl rfl
end
theorem a4C(b r o:Nat)(l:List AV):aB1 (.ptr b r o::l)=false:=ao8 rfl rfl
theorem a5Z(a b r n:Nat)(l:List AV):aB1 (.slr a b r n::l)=false:=ao8 rfl rfl
theorem a99(b:Nat)(l:List AV):aB1 (.yl b::l)=true:=ao8 rfl rfl
theorem a43:Gt []=[]:=ao8 rfl rfl
theorem a0B(c:CB)(h:Aa):Gt (c::h)=c.clean::Gt h:=ao8 rfl rfl
theorem a7W(h h':Aa):Gt (h++h')=Gt h++Gt h':=List.map_append
theorem a4G(h:Aa)(b:Nat):(Gt h)[b]?=(h[b]?).map CB.clean:=by simp[Gt]
theorem a4I(h:Aa):(Gt h).length=h.length:=by simp[Gt]
theorem a8U(ps:List Nat)(a b:Code)(t:List AV)(st:Ib):CB.clean (.lp ps a b t st)=.lp ps a b t st:=ao8 rfl rfl
def Ar(h:Aa):Bool:=h.all fun c=>c.quiet c.clean
theorem aP2:∀{h:Aa} (_:Ar h=true) (i:Nat) (l:Aa),Bg i h (Gt h++l)=some (Gq (i+h.length) l)
 | [],_,i,l=>by simp[Gt,Bg]
 |c::h,hq,i,l=>by
  simp only[Ar,List.all_cons,aQ4]at hq
  have ih:=aP2 (h:=h) hq.2 (i+1) l
  simp only[Gt,List.map_cons,aOE,Bg,hq.1,cond_true]at ih ⊢
  rw[ih,aM7]
  congr 2;omega
theorem aJF:∀(cs:List CB) (i:Nat) (h:Aa),Bn h (Gq i cs)=h++cs
 | [],i,h=>by simp[Gq,Bn]
 |c::cs,i,h=>by simp[Gq,Bn,Ko,aJF cs]
theorem aFX(h:Aa)(o:Dm)(h':Aa):shK h (some (o,h'))=(Bg 0 h h').map fun es=>(o,es):=ao8 rfl rfl
def EVo:=PLift.up (agX @a1H (agX @a3K (agX @a2A (agX @a4Q (agX @a7J (agX @a9X (agX @a3F (agX @a5Q (agX @aZ5 (agX @a40 (agX @a55 @a5B)))))))))))
def EVn:=PLift.up (agX @aS1 (agX @aSX (agX @aR3 @aYU)))
def EVp:=PLift.up (agX @ba6 (agX @a4C (agX @a5Z (agX @a99 (agX @a43 (agX @a0B (agX @a7W (agX @a4G (agX @a4I @a8U)))))))))
end
noncomputable section
def Bq:CB→Option (Nat × Bool × List (List AV))
 | .live st fl _ rows=>some (st,fl,rows)
 | .frz st fl rows=>some (st,fl,rows)
 |_=>none
def rdL(f:AV→Option (AV × List Nat)):List AV→Option (List AV × List Nat)
 | []=>some ([],[])
 |a::l=>(f a).bind fun p=>(rdL f l).map fun q=>(p.1::q.1,p.2++q.2)
def Bt(f:AV→Option (AV × List Nat)):List (List AV)→Option (List (List AV) × List Nat)
 | []=>some ([],[])
 |r::rs=>(rdL f r).bind fun p=>(Bt f rs).map fun q=>(p.1::q.1,p.2++q.2)
def rd:Nat→HF→AV→Option (AV × List Nat)
 |0,_,_=>none
 |d+1,g,v=>
  match v with
  | .slr st b r len=>((g b).bind Bq).bind fun z=>
     if z.1=st∧r=0∧len=z.2.2.length then
      (bif z.2.1 then some (.imm st true z.2.2,[b])else(Bt (rd d g) z.2.2).map fun q=>(.imm st false q.1,b::q.2))
     else none
  | .agg cs=>(rdL (rd d g) cs).map fun q=>(.agg q.1,q.2)
  | .iface t x=>(rd d g x).map fun q=>(.iface t q.1,q.2)
  | .func fn [] []=>some (.func fn [] [],[])
  | .func _ _ _=>none
  | .tup _=>none
  | .ptr _ _ _=>none
  | .yl _=>none
  | .mapr _=>none
  | .itr _=>none
  | .imm _ _ _=>none
  | .iptr _=>none
  |v=>some (v,[])
theorem awN{f f':AV→Option (AV × List Nat)}:∀{l:List AV} {p:List AV × List Nat},rdL f l=some p→(∀x∈l,∀q,f x=some q→(∀b∈q.2,b∈p.2)→f' x=some q)→rdL f' l=some p
 | [],p,h,_=>h
 |a::l,p,h,hf=>by
  simp only[rdL,aqT,aqM]at h ⊢
  obtain⟨q,hq,r,hr,rfl⟩:=h
  exact⟨q,hf a (aC5 ..) q hq (fun b hb=>aFD _ hb),r,awN hr (fun x hx q' hq' hs=>hf x (aC4 _ hx) q' hq' (fun b hb=>aHS _ (hs b hb))),rfl⟩
theorem Nq{f f':AV→Option (AV × List Nat)}:∀{l:List (List AV)} {p:List (List AV) × List Nat},Bt f l=some p→(∀r∈l,∀x∈r,∀q,f x=some q→(∀b∈q.2,b∈p.2)→f' x=some q)→Bt f' l=some p
 | [],p,h,_=>h
 |a::l,p,h,hf=>by
  simp only[Bt,aqT,aqM]at h ⊢
  obtain⟨q,hq,r,hr,rfl⟩:=h
  exact⟨q,awN hq (fun x hx q' hq' hs=>hf a (aC5 ..) x hx q' hq' (fun b hb=>aFD _ (hs b hb))),r,
   Nq hr (fun r' hr' x hx q' hq' hs=>hf r' (aC4 _ hr') x hx q' hq' (fun b hb=>aHS _ (hs b hb))),rfl⟩
def Agr(R:List Nat)(g g':HF):Prop:=∀b∈R,∀z,(g b).bind Bq=some z→(g' b).bind Bq=some z
theorem aGG{g g':HF}:∀{d:Nat} {v:AV} {p:AV × List Nat},rd d g v=some p→Agr p.2 g g'→rd d g' v=some p
 |0,v,p,h,_=>by simp[rd]at h
 |d+1,v,p,h,ha=>by
  cases v with
  |slr st b r len=>
   simp only[rd,aqT]at h ⊢
   obtain⟨z,⟨c,hc,hz⟩,h⟩:=h
   split at h
   ·rename_i hq
    have hb:b∈p.2:=by
     cases hfl:z.2.1 with
     |true=>rw[hfl]at h;simp at h;rw[←h];simp
     |false=>rw[hfl]at h;simp only[cond_false,aqM]at h;obtain⟨q,_,rfl⟩:=h;simp
    have hz':=ha b hb z (by rw[hc];exact hz)
    obtain⟨c',hc',hz''⟩:=aqT.1 hz'
    refine⟨z,⟨c',hc',hz''⟩,?_⟩
    rw[if_pos hq]
    cases hfl:z.2.1 with
    |true=>rw[hfl]at h;exact h
    |false=>
     rw[hfl]at h
     simp only[cond_false,aqM]at h ⊢
     obtain⟨q,hq',rfl⟩:=h
     exact⟨q,Nq hq' (fun r' _ x _ q' hx hs=>aGG hx (fun b' hb'=>ha b' (aC4 _ (hs b' hb')))),rfl⟩
   ·cases h
  |agg cs=>
   simp only[rd,aqM]at h ⊢
   obtain⟨q,hq,rfl⟩:=h
   exact⟨q,awN hq (fun x _ q' hx hs=>aGG hx (fun b hb=>ha b (hs b hb))),rfl⟩
  |iface t x=>
   simp only[rd,aqM]at h ⊢
   obtain⟨q,hq,rfl⟩:=h
   exact⟨q,aGG hq ha,rfl⟩
  |func fn a b=>cases a<;>cases b<;>first|exact h|(simp[rd]at h)
  |_=>first|exact h|(simp[rd]at h)
theorem aQ5{g:HF}:∀{d e:Nat} {v:AV} {p:AV × List Nat},d≤e→rd d g v=some p→rd e g v=some p
 |0,e,v,p,_,h=>by simp[rd]at h
 |d+1,0,v,p,he,h=>by omega
 |d+1,e+1,v,p,he,h=>by
  have IH:∀x q,rd d g x=some q→rd e g x=some q:=fun x q hx=>aQ5 (by omega) hx
  cases v with
  |slr st b r len=>
   simp only[rd,aqT]at h ⊢
   obtain⟨z,hz,h⟩:=h
   refine⟨z,hz,?_⟩
   split at h
   ·rename_i hq
    rw[if_pos hq]
    cases hfl:z.2.1 with
    |true=>rw[hfl]at h;exact h
    |false=>
     rw[hfl]at h
     simp only[cond_false,aqM]at h ⊢
     obtain⟨q,hq',rfl⟩:=h
     exact⟨q,Nq hq' (fun r' _ x _ q' hx _=>IH x q' hx),rfl⟩
   ·cases h
  |agg cs=>
   simp only[rd,aqM]at h ⊢
   obtain⟨q,hq,rfl⟩:=h
   exact⟨q,awN hq (fun x _ q' hx _=>IH x q' hx),rfl⟩
  |iface t x=>
   simp only[rd,aqM]at h ⊢
   obtain⟨q,hq,rfl⟩:=h
   exact⟨q,IH _ _ hq,rfl⟩
  |func fn a b=>cases a<;>cases b<;>first|exact h|(simp[rd]at h)
  |_=>first|exact h|(simp[rd]at h)
theorem aCT{f:AV→Option (AV × List Nat)}{f':AV→Option AV}:∀{l:List AV} {p:List AV × List Nat},rdL f l=some p→(∀x∈l,∀q,f x=some q→f' x=some q.1)→Ba f' l=some p.1
 | [],p,h,_=>by simp[rdL]at h;subst h;rfl
 |a::l,p,h,hf=>by
  simp only[rdL,aqT,aqM]at h
  obtain⟨q,hq,r,hr,rfl⟩:=h
  simp only[Ba,hf a (aC5 ..) q hq,awX,aCT hr (fun x hx=>hf x (aC4 _ hx)),aC8]
theorem aEC{f:AV→Option (AV × List Nat)}{f':AV→Option AV}:∀{l:List (List AV)} {p:List (List AV) × List Nat},Bt f l=some p→(∀r∈l,∀x∈r,∀q,f x=some q→f' x=some q.1)→Ba (Ba f') l=some p.1
 | [],p,h,_=>by simp[Bt]at h;subst h;rfl
 |a::l,p,h,hf=>by
  simp only[Bt,aqT,aqM]at h
  obtain⟨q,hq,r,hr,rfl⟩:=h
  simp only[Ba,aCT hq (fun x hx=>hf a (aC5 ..) x hx),awX,aEC hr (fun r' hr'=>hf r' (aC4 _ hr')),aC8]
theorem aBZ{g:HF}{b:Nat}{z:Nat × Bool × List (List AV)}(h:(g b).bind Bq=some z):Ec g b 0 z.2.2.length=some z:=by
 obtain⟨c,hc,hz⟩:=aqT.1 h
 unfold Ec
 rw[hc]
 cases c with
 |live st fl w rows=>simp[Bq]at hz;subst hz;simp
 |frz st fl rows=>simp[Bq]at hz;subst hz;simp
 |dead=>simp[Bq]at hz
 |lp=>simp[Bq]at hz
theorem aE4{g:HF}:∀{d:Nat} {v:AV} {p:AV × List Nat},rd d g v=some p→Dv d g v=some p.1
 |0,v,p,h=>by simp[rd]at h
 |d+1,v,p,h=>by
  cases v with
  |slr st b r len=>
   simp only[rd,aqT]at h
   obtain⟨z,hz,h⟩:=h
   split at h
   ·rename_i hq
    obtain⟨rfl,rfl,rfl⟩:=hq
    simp only[Dv,aBZ (aqT.2 hz),awX]
    cases hfl:z.2.1 with
    |true=>rw[hfl]at h;simp at h;rw[←h];rfl
    |false=>
     rw[hfl]at h
     simp only[cond_false,aqM]at h
     obtain⟨q,hq',rfl⟩:=h
     simp[aEC hq' (fun r' _ x _ q' hx=>aE4 hx)]
   ·cases h
  |agg cs=>
   simp only[rd,aqM]at h
   obtain⟨q,hq,rfl⟩:=h
   simp[Dv,aCT hq (fun x _ q' hx=>aE4 hx)]
  |iface t x=>
   simp only[rd,aqM]at h
   obtain⟨q,hq,rfl⟩:=h
   simp[Dv,aE4 hq]
  |func fn a b=>cases a<;>cases b<;>first|(simp[rd]at h;subst h;rfl)|(simp[rd]at h)
  |_=>first|(simp[rd]at h;subst h;rfl)|(simp[rd]at h)
end
noncomputable section
open Go.RowKit
section
variable {P:Program} {O:Dx} {pr:Kr}
def fnS(P:Program)(rs:List ResultVar)(x:R):Option (Dm × Aa):=
 match x with
 |some (.normal,s)|some (.ret,s)=>(Nl P s rs).map fun vs=>(.ret (Mc vs),s.h)
 |some (.pan v,s)=>some (.pan v,s.h)
 |_=>none
theorem a4H{f:Nat}{fn:Func}(hf:P.funcs[f]?=some fn){c:Code}(hb:fn.body=some c){args:List AV}(hl:args.length≤fn.ntmps)(h:Aa):
 evS O P f args h=fnS P fn.results.toList (Bl O P Hm c [] ⟨mk fn.ntmps (Oc args),h⟩):=by
 unfold evS
 simp only[hf,hb]
 rw[aYQ _ _ hl]
 cases Bl O P Hm c [] ⟨mk fn.ntmps (Oc args),h⟩with
 |none=>rfl
 |some x=>
  obtain⟨e,s⟩:=x
  cases e<;>rfl
def FnS(P:Program)(rs:List ResultVar)(Q:Dm→Aa→Prop)(x:R):Prop:=∃o h,fnS P rs x=some (o,h)∧Q o h
def RtS(vs:Option (List AV))(h:Aa)(Q:Dm→Aa→Prop):Prop:=
 match vs with
 |some vs=>Q (.ret (Mc vs)) h
 |none=>False
theorem aOS(rs:List ResultVar)(Q:Dm→Aa→Prop)(t:List AV)(h:Aa):FnS P rs Q (some (.ret,⟨t,h⟩))=RtS (Nl P ⟨t,h⟩ rs) h Q:=by
 cases hr:Nl P ⟨t,h⟩ rs with
 |none=>simp[FnS,fnS,RtS,hr]
 |some vs=>
  have e:fnS P rs (some (.ret,⟨t,h⟩))=some (.ret (Mc vs),h):=by simp[fnS,hr]
  exact propext (Iff.intro (fun⟨o,h',e',q⟩=>by rw[e]at e';cases e';exact q) (fun q=>⟨_,_,e,q⟩))
theorem Lp(rs:List ResultVar)(Q:Dm→Aa→Prop)(t:List AV)(h:Aa):FnS P rs Q (some (.normal,⟨t,h⟩))=RtS (Nl P ⟨t,h⟩ rs) h Q:=by
 rw[←aOS];rfl
theorem aYN(vs:List AV)(h:Aa)(Q:Dm→Aa→Prop):RtS (some vs) h Q=Q (.ret (Mc vs)) h:=ao8 rfl rfl
theorem aYG{rs:List ResultVar}{Q:Dm→Aa→Prop}:¬FnS P rs Q none:=fun⟨_,_,h,_⟩=>by simp[fnS]at h
def ShQ(O:Dx)(f:Nat)(args:List AV)(h:Aa)(Q:Dm→Aa→Prop):Prop:=∃o h',O.call (.sh f) args h=some (o,h')∧Q o h'
theorem ShQ.start{f:Nat}{fn:Func}{c:Code}{args:List AV}{h:Aa}{Q:Dm→Aa→Prop}(hp:pr f=none)(hf:P.funcs[f]?=some fn)(hb:fn.body=some c)(hl:Nat.ble args.length fn.ntmps=true)
 (he:FnS P fn.results.toList Q (Bl (om P pr) P 5000 c [] ⟨mk fn.ntmps (Oc args),h⟩)) (hs:pr.sh f=none:=by exact rfl):ShQ (om P pr) f args h Q:=by
 obtain⟨o,h',e,q⟩:=he
 exact⟨o,h',a3S hp hs ((a4H hf hb (Nat.le_of_ble_eq_true hl) h).trans e),q⟩
theorem ShQ.eq{f:Nat}{args:List AV}{h:Aa}{o:Dm}{h':Aa}(k:ShQ O f args h fun o1 h1=>(o1,h1)=(o,h')):O.call (.sh f) args h=some (o,h'):=by
 obtain⟨o1,h1,e,q⟩:=k
 rw[e,q]
def ncK(x:Option AV):OE:=
 match x with
 |some (.ptr b r o)=>some (.ret (.ptr b r o),[])
 |some (.iptr cs)=>some (.ret (.iptr cs),[])
 |some (.func (.func f) a c)=>some (.ret (.func (.func f) a c),[])
 |_=>none
theorem a4R(b r o:Nat):ncK (some (.ptr b r o))=some (.ret (.ptr b r o),[]):=ao8 rfl rfl
theorem a92(t:List AV)(h:Aa)(x:Operand):Dc O P t h (.nilCheck x)=ncK (Ac t x):=by
 rw[Bj _ _ _ rfl]
 simp only[exec,ncK]
 cases Ac t x with
 |none=>rfl
 |some v=>
  cases v with
  |func fn a c=>cases fn<;>rfl
  |_=>rfl
end
def EVq:=PLift.up (agX @aOS (agX @Lp (agX @aYN (agX @a4R @a92))))
end
noncomputable section
open Go.RowKit
section
variable {P:Program} {O:Dx}
end
def a5R(k st:Nat)(fl:Bool)(rows:List (List AV))(v:AV)(g:Aa):Prop:=
 (rows=[]∧v=.nils)∨∃b w,v=.slr st (b+k) 0 rows.length∧g[b]?=some (.live st fl w rows)
def kl(k:Nat)(v:AV)(g:Aa):Aa:=
 match v with
 | .slr _ b _ _=>g.set (b-k) .dead
 |_=>g
theorem aDC(k:Nat)(v:AV)(g:Aa):(kl k v g).length=g.length:=by
 unfold kl;split<;>simp
def apE(v:AV)(st:Nat)(fl:Bool)(rows:List (List AV))(base:Nat):List Ab:=
 match v with
 | .slr _ b _ _=>[.put b .dead,.new base (.live st fl false rows)]
 |_=>[.new base (.live st fl false rows)]
theorem a24{k n:Nat}{fl:Bool}{rows:List (List AV)}{v:AV}{g:Aa}(ho:a5R k n fl rows v g){pre:Aa}(hk:pre.length=k)(l:Aa)(r:List AV)(new:List (List AV))(hl:rows.length+(new.length+1)≤549755813888):
 apK n (pre++(g++l)) (some v) (some (fl,r::new))=some (.ret (.slr n (pre++(g++l)).length 0 (rows.length+(r::new).length)),apE v n fl (rows++r::new) (pre++(g++l)).length):=by
 rcases ho with⟨rfl,rfl⟩|⟨b,w,rfl,h2⟩
 ·rw[aPR,if_pos (by simp at hl ⊢;omega)]
  simp[apE]
 ·have hb:=(aEY.1 h2).1
  have hq:(pre++(g++l))[b+k]?=some (.live n fl w rows):=by
   rw[aWS (by omega),aR1 (by omega)]
   rw[show b+k-pre.length=b by omega];exact h2
  rw[aPJ,hq,aNG,if_pos ⟨rfl,by omega,by simp only[aM7];omega⟩]
  simp[apE]
theorem aVZ{k n:Nat}{fl:Bool}{rows:List (List AV)}{v:AV}{g:Aa}(ho:a5R k n fl rows v g){pre:Aa}(hk:pre.length=k)(l:Aa)(st:Nat)(fl':Bool)(rows':List (List AV))(base:Nat):
 Bn (pre++(g++l)) (apE v st fl' rows' base)=pre++(kl k v g++(l++[.live st fl' false rows'])):=by
 rcases ho with⟨rfl,rfl⟩|⟨b,w,rfl,h2⟩
 ·simp[apE,Bn,Ko,kl]
 ·have hb:=(aEY.1 h2).1
  simp only[apE,Bn,Ko,kl,Nat.add_sub_cancel]
  rw[List.set_append_right _ _ (by omega),show b+k-pre.length=b by omega,List.set_append_left _ _ hb]
  simp
section
variable {P:Program} (ty:TypeId)
end
theorem aKB{α:Type}{f:α→Option α}:∀{l:List α},(∀x∈l,f x=some x)→Ba f l=some l
 | [],_=>rfl
 |a::l,h=>by simp only[Ba,h a (aC5 ..),awX,aKB (fun x hx=>h x (aC4 _ hx)),aC8]
end
noncomputable section
open Go.RowKit
section
variable {P:Program} {O:Dx} {pr:Kr}
def rnX(O:Dx)(P:Program)(n:Nat)(k:List Aj)(t:List AV)(b:Nat)(h2:Aa)(x:Option CB):R:=
 match x with
 |some (.lp _ _ _ _ .ready)=>Bf (Bl O P n) k .normal ⟨t,h2.set b .dead⟩
 |some (.lp _ _ _ _ (.done .ret))=>Bf (Bl O P n) k .ret ⟨t,h2.set b .dead⟩
 |some (.lp _ _ _ _ (.done (.exit i)))=>Bf (Bl O P n) k (.exit i) ⟨t,h2.set b .dead⟩
 |_=>none
def rnE(O:Dx)(P:Program)(n:Nat)(k:List Aj)(t:List AV)(b:Nat)(h1:Aa)(x:OE):R:=
 match x with
 |some (.ret _,es)=>rnX O P n k t b (Bn h1 es) ((Bn h1 es)[b]?)
 |_=>none
def rnC(O:Dx)(h1:Aa)(b:Nat)(fv:Option AV):OE:=
 match fv with
 |some (.func (.func g) a c)=>cr (Dp O (hf h1) h1.length (Nr g (a++[.yl b]++c)) (a++[.yl b]++c))
 |_=>none
theorem baA(n:Nat)(k:List Aj)(t:List AV)(b:Nat)(h1:Aa)(x:Option Ht):
 (x.bind fun d=>match d.out with
   | .ret _=>
     let h2:=Bn h1 d.es
     match h2[b]? with
     |some (.lp _ _ _ _ .ready)=>Bf (Bl O P n) k .normal ⟨t,h2.set b .dead⟩
     |some (.lp _ _ _ _ (.done .ret))=>Bf (Bl O P n) k .ret ⟨t,h2.set b .dead⟩
     |some (.lp _ _ _ _ (.done (.exit i)))=>Bf (Bl O P n) k (.exit i) ⟨t,h2.set b .dead⟩
     |_=>none
   | .pan _=>none)=rnE O P n k t b h1 (cr x):=by
 cases x with
 |none=>rfl
 |some d=>
  obtain⟨o,es,fs⟩:=d
  cases o<;>rfl
theorem a38(n:Nat)(f:Operand)(ps:Array Nat)(asg body:Code)(k:List Aj)(t:List AV)(h:Aa):
 Bl O P (n+1) (.rangeFunc f ps asg body) k ⟨t,h⟩=rnE O P n k t h.length (h++[.lp ps.toList asg body t .ready]) (rnC O (h++[.lp ps.toList asg body t .ready]) h.length (Ac t f)):=by
 simp only[Bl,rnC]
 cases Ac t f with
 |none=>rfl
 |some v=>
  simp only[awX]
  cases v with
  |func fn a c=>
   cases fn with
   |func g=>exact baA n k t h.length _ _
   |_=>rfl
  |_=>rfl
theorem a7S(h1:Aa)(b g:Nat)(a c:List AV):rnC O h1 b (some (.func (.func g) a c))=if hdR (a++[.yl b]++c)=true then shC O h1 g (a++[.yl b]++c)else cr (Bz O (hf h1) h1.length (.fn g) (a++[.yl b]++c)):=aVR h1 g _
theorem a2P(n:Nat)(k:List Aj)(t:List AV)(b:Nat)(h1:Aa)(v:AV)(es:List Ab):rnE O P n k t b h1 (some (.ret v,es))=rnX O P n k t b (Bn h1 es) ((Bn h1 es)[b]?):=ao8 rfl rfl
theorem aTN(n:Nat)(k:List Aj)(t:List AV)(b:Nat)(h2:Aa)(ps:List Nat)(asg body:Code)(tm:List AV):rnX O P n k t b h2 (some (.lp ps asg body tm .ready))=Bf (Bl O P n) k .normal ⟨t,h2.set b .dead⟩:=ao8 rfl rfl
def slK(h:Aa)(b:Nat)(ok:Ib→Bool)(st:Ib)(x:Option CB):Option Aa:=
 match x with
 |some (.lp ps asg body tmps st')=>if ok st' then some (h.set b (.lp ps asg body tmps st))else none
 |_=>none
theorem a8R(h:Aa)(b:Nat)(ok:Ib→Bool)(st:Ib):Jz h b ok st=slK h b ok st (h[b]?):=by
 unfold Jz slK
 cases h[b]? with
 |none=>rfl
 |some c=>cases c<;>rfl
theorem aW9(h:Aa)(b:Nat)(st:Ib)(ps:List Nat)(asg body:Code)(tm:List AV):slK h b Ib.isReady st (some (.lp ps asg body tm .ready))=some (h.set b (.lp ps asg body tm st)):=ao8 rfl rfl
theorem a1R(h:Aa)(b:Nat)(st:Ib)(ps:List Nat)(asg body:Code)(tm:List AV):slK h b Ib.isBusy st (some (.lp ps asg body tm .busy))=some (h.set b (.lp ps asg body tm st)):=ao8 rfl rfl
def a0P(O:Dx)(P:Program)(body:Code)(t:List AV)(x:Option Aa):R:=
 match x with
 |some h1=>Bl O P 5000 body [] ⟨t,h1⟩
 |none=>none
def aVY(O:Dx)(P:Program)(b:Nat)(body:Code)(x:R):R:=
 match x with
 |some (.normal,s)=>a0P O P body s.tmps (Jz s.h b Ib.isReady .busy)
 |_=>none
def aM1(r:Bool)(x:Option Aa):Option (Dm × Aa):=x.map fun h2=>(.ret (.bool r),h2)
def aTU(b:Nat)(x:R):Option (Dm × Aa):=
 match x with
 |some (.normal,s)=>aM1 true (Jz s.h b Ib.isBusy .ready)
 |some (.ret,s)=>aM1 false (Jz s.h b Ib.isBusy (.done .ret))
 |some (.exit i,s)=>aM1 false (Jz s.h b Ib.isBusy (.done (.exit i)))
 |_=>none
theorem aSO(body:Code)(t:List AV)(h:Aa):a0P O P body t (some h)=Bl O P 5000 body [] ⟨t,h⟩:=ao8 rfl rfl
theorem aMR(b:Nat)(body:Code)(t:List AV)(h:Aa):aVY O P b body (some (.normal,⟨t,h⟩))=a0P O P body t (Jz h b Ib.isReady .busy):=ao8 rfl rfl
theorem aSY(r:Bool)(h:Aa):aM1 r (some h)=some (.ret (.bool r),h):=ao8 rfl rfl
theorem aYJ{vs:List AV}{b:Nat}{h:Aa}{ps:List Nat}{asg body:Code}{tm:List AV}{st:Ib}(hb:h[b]?=some (.lp ps asg body tm st))(hl:ps.length=vs.length):
 Iz O P (vs++[.yl b]) h=aTU b (aVY O P b body (Bl O P 5000 asg [] ⟨Kx tm ps vs,h⟩)):=by
 unfold Iz
 simp only[List.reverse_append,List.reverse_cons,List.reverse_nil,aJY,aOE,List.reverse_reverse,List.length_reverse,hb,hl,if_true,Hm]
 cases Bl O P 5000 asg [] ⟨Kx tm ps vs,h⟩with
 |none=>rfl
 |some x=>
  obtain⟨e,s⟩:=x
  cases e with
  |normal=>
   simp only[awX,aVY]
   cases Jz s.h b Ib.isReady .busy with
   |none=>rfl
   |some h1=>
    simp only[awX,a0P]
    cases Bl O P 5000 body [] ⟨s.tmps,h1⟩with
    |none=>rfl
    |some y=>
     obtain⟨e,s⟩:=y
     cases e with
     |normal=>simp only[awX,Ju,aTU,aM1];cases Jz s.h b Ib.isBusy .ready<;>rfl
     |ret=>simp only[awX,Ju,aTU,aM1];cases Jz s.h b Ib.isBusy (.done .ret)<;>rfl
     |exit i=>simp only[awX,Ju,aTU,aM1];cases Jz s.h b Ib.isBusy (.done (.exit i))<;>rfl
     |pan v=>rfl
  |_=>rfl
def RnE(b:Nat)(Q:Dm→Aa→Prop)(x:R):Prop:=∃o h',aTU b x=some (o,h')∧Q o h'
def RnQ(O:Dx)(args:List AV)(h:Aa)(Q:Dm→Aa→Prop):Prop:=∃o h',O.call .round args h=some (o,h')∧Q o h'
theorem RnQ.start{vs:List AV}{b:Nat}{h:Aa}{ps:List Nat}{asg body:Code}{tm:List AV}{st:Ib}{Q:Dm→Aa→Prop}(hb:h[b]?=some (.lp ps asg body tm st))(hl:ps.length=vs.length)
 (he:RnE b Q (aVY (om P pr) P b body (Bl (om P pr) P 5000 asg [] ⟨Kx tm ps vs,h⟩))):RnQ (om P pr) (vs++[.yl b]) h Q:=by
 obtain⟨o,h',e,q⟩:=he
 exact⟨o,h',aK6 ((aYJ hb hl).trans e),q⟩
theorem a58{C:R→Prop}{n f b:Nat}{k:List Aj}{t:List AV}{h1 h2:Aa}{args:List AV}{Q:Dm→Aa→Prop}(hq:ShQ O f args h2 Q)(hk:∀o h',Q o h'→C (rnE O P n k t b h1 (shK h1 (some (o,h'))))):C (rnE O P n k t b h1 (shK h1 (O.call (.sh f) args h2))):=by
 obtain⟨o,h',e,q⟩:=hq
 rw[e];exact hk o h' q
theorem aRP(b:Nat)(Q:Dm→Aa→Prop)(t:List AV)(h:Aa):RnE b Q (some (.normal,⟨t,h⟩))=∃o h',aM1 true (Jz h b Ib.isBusy .ready)=some (o,h')∧Q o h':=ao8 rfl rfl
theorem a17(h:Aa)(f:Nat)(args:List AV):aO5 O h f args=if(aB1 args||O.md f)=true then some [.all]else ftR h args:=ao8 rfl rfl
theorem aU3{b:Nat}{Q:Dm→Aa→Prop}:¬RnE b Q none:=fun⟨_,_,h,_⟩=>by simp[aTU]at h
theorem a2V(n:Nat)(t:Tm)(p:Nat)(ps:List Nat)(v:AV)(vs:List AV):Kx (mk n t) (p::ps) (v::vs)=Kx (mk n (up t p v)) ps vs:=by
 simp only[Kx,aVD]
theorem a5X(n:Nat)(t:Tm)(vs:List AV):Kx (mk n t) [] vs=mk n t:=by cases vs<;>rfl
end
def Ox(f:Nat→Nat):Au→Au
 | .cells b o n=>.cells (f b) o n
 | .blk b=>.blk (f b)
 | .all=>.all
def lgF(f:Nat→Nat)(log:Nj):List (List Au × List Au):=log.map fun x=>(x.1.map fun e=>Ox f e.foot,x.2.map (Ox f))
def aKM(x y:List Au × List Au):Bool:=x.1.any (fun f=>(y.1++y.2).any f.meets)||y.1.any (fun f=>x.2.any f.meets)
def aIC(ops:List Oper)(lg:List (List Au × List Au)):Bool:=
 (aEA ops).all fun(i,j)=>match lg[i]?,lg[j]? with
   |some x,some y=> !aKM x y
   |_,_=>false
def aOO(n q:Nat)(b:Nat):Nat:=if b<q then b else b-n+1000
theorem aeG{n q b:Nat}(h:b<q):aOO n q b=b:=by simp[aOO,h]
theorem aFS(f:Nat→Nat)(x y:Au)(h:x.meets y=true):(Ox f x).meets (Ox f y)=true:=by
 cases x<;>cases y<;>simp_all[Au.meets,Ox]
theorem aYC(f:Nat→Nat)(x y:List Ab × List Au)(h:Jf x y=true):aKM (x.1.map fun e=>Ox f e.foot,x.2.map (Ox f)) (y.1.map fun e=>Ox f e.foot,y.2.map (Ox f))=true:=by
 simp only[Jf,aKM,aXT,aXY,aE6,aIS]at h ⊢
 rcases h with⟨a,⟨e,he,rfl⟩,b,hb,hm⟩|⟨a,⟨e,he,rfl⟩,b,hb,hm⟩
 ·refine .inl ⟨_,⟨e,he,rfl⟩,Ox f b,?_,aFS f _ _ hm⟩
  rcases hb with⟨e',he',rfl⟩|hb
  ·exact .inl ⟨e',he',rfl⟩
  ·exact .inr ⟨b,hb,rfl⟩
 ·exact .inr ⟨_,⟨e,he,rfl⟩,Ox f b,⟨b,hb,rfl⟩,aFS f _ _ hm⟩
theorem aFC(f:Nat→Nat){ops:List Oper}{log:Nj}(h:aIC ops (lgF f log)=true):Cj ops log=true:=by
 simp only[aIC,Cj,aH6]at h ⊢
 rintro⟨i,j⟩ hij
 have:=h (i,j) hij
 simp only[lgF,aLK]at this ⊢
 cases hi:log[i]? with
 |none=>simp[hi]at this
 |some x=>
  cases hj:log[j]? with
  |none=>simp[hi,hj]at this
  |some y=>
   simp only[hi,hj,aC8,aY2,aY3]at this ⊢
   cases hc:Jf x y with
   |false=>rfl
   |true=>rw[aYC f x y hc]at this;cases this
theorem aKR(n q:Nat){C:R→Prop}{ops:List Oper}{log:Nj}{k:R}(hb:aIC ops (lgF (aOO n q) log)=true)(h:True→C k):C (Et (Cj ops log) k):=aFU (aFC _ hb) h
theorem aA0(f:Nat→Nat):lgF f []=[]:=ao8 rfl rfl
theorem am3(f:Nat→Nat)(x:List Ab)(y:List Au)(l:Nj):lgF f ((x,y)::l)=(x.map (fun e=>Ox f e.foot),y.map (Ox f))::lgF f l:=ao8 rfl rfl
theorem Nc(f:Nat→Nat)(b o n:Nat):Ox f (.cells b o n)=.cells (f b) o n:=ao8 rfl rfl
theorem aA5(f:Nat→Nat)(b:Nat):Ox f (.blk b)=.blk (f b):=ao8 rfl rfl
theorem aA3(b:Nat)(c:CB):Ab.foot (.new b c)=.blk b:=ao8 rfl rfl
theorem aBI(b:Nat)(c:CB):Ab.foot (.put b c)=.blk b:=ao8 rfl rfl
theorem Lq(b r o:Nat)(vs:List AV):Ab.foot (.cells b r o vs)=.cells b o vs.length:=ao8 rfl rfl
section
variable {P:Program} {O:Dx}
end
def EVs:=PLift.up (agX @a38 (agX @a7S (agX @a2P (agX @aTN (agX @a8R (agX @aW9 (agX @a1R (agX @aSO (agX @aMR (agX @aSY (agX @aRP (agX @a2V (agX @a17 @a5X)))))))))))))
end
noncomputable section
open Go.RowKit
set_option maxRecDepth 100000
def EVZ:=PLift.up (agX EVa.down (agX EVb.down (agX EVc.down (agX EVd.down (agX EVe.down (agX EVf.down (agX EVg.down (agX EVh.down (agX EVi.down (agX EVj.down (agX EVk.down (agX EVl.down (agX EVm.down (agX EVn.down (agX EVo.down (agX EVp.down EVq.down))))))))))))))))
section
variable {P:Program} {O:Dx}
class NoN(C:R→Prop):Prop where
 no:¬C none
instance{q:Nat}{rs:List ResultVar}{Q:Dm→Aa→Prop}:NoN (FnE P q rs Q):=⟨aX1⟩
instance{rs:List ResultVar}{Q:Dm→Aa→Prop}:NoN (FnS P rs Q):=⟨aYG⟩
instance{N:Nat}{J:Tm→Aa→Prop}{Q:Ex→St→Prop}:NoN (Rnd N J Q):=⟨aWA⟩
instance{b:Nat}{Q:Dm→Aa→Prop}:NoN (RnE b Q):=⟨aU3⟩
end
end
noncomputable section
open Go.RowKit
set_option maxRecDepth 100000
section
variable {P:Program} {O:Dx}
class Spl(r:R)(b:outParam Bool)(x y:outParam R):Prop where
 sp:∀{C:R→Prop},(b=true→C x)→(b=false→C y)→C r
instance{n:Nat}{k:List Aj}{d:Option Nat}{op:Op}{cs:List CO}{b w:Bool}{t:List AV}{h:Aa}:Spl (rcG O P n k d op cs (.bool b) w t h) b (rcG O P n k d op cs (.bool true) w t h) (rcG O P n k d op cs (.bool false) w t h):=⟨a9K⟩
instance{n:Nat}{x y:Code}{k:List Aj}{g:Bool}{s:St}:Spl (cdK O P n x y k (some (.bool g)) s) g (Bl O P n x k s) (Bl O P n y k s):=⟨a98⟩
instance{n:Nat}{k:List Aj}{d:Option Nat}{op:Op}{cs:List CO}{b w:Bool}{t:List AV}{h:Aa}:Spl (rqG O P n k d op cs (.bool b) w t h) b (rqG O P n k d op cs (.bool true) w t h) (rqG O P n k d op cs (.bool false) w t h):=⟨baY⟩
instance{n:Nat}{k:List Aj}{d:Option Nat}{op:Op}{cs:List CO}{b w:Bool}{t:List AV}{h:Aa}:Spl (rwG O P n k d op cs (.bool b) w t h) b (rwG O P n k d op cs (.bool true) w t h) (rwG O P n k d op cs (.bool false) w t h):=⟨a9R⟩
instance{n:Nat}{k:List Aj}{ops:List Oper}{d:Option Nat}{op:Op}{cs:List CO}{b w:Bool}{t:List AV}{h:Aa}{log:Nj}:Spl (rlG O P n k ops d op cs (.bool b) w t h log) b (rlG O P n k ops d op cs (.bool true) w t h log) (rlG O P n k ops d op cs (.bool false) w t h log):=⟨a9V⟩
theorem Av{C:R→Prop}{r x y:R}{b:Bool}(h1:b=true→C x)(h2:b=false→C y)(s:Spl r b x y:=by infer_instance):C r:=s.sp h1 h2
class Drw(i:Nat)(r:R)(c:outParam Bool)(r':outParam R):Prop where
 dr:∀{C:R→Prop},¬C none→c=true→C r'→C r
instance{b:Bool}{k:R}:Drw 0 (Et b k) b k:=⟨fun _=>a3X⟩
instance{n id:Nat}{ops:Array Oper}{k:List Aj}{t:List AV}{h:Aa}:Drw 1 (Bl O P (n+1) (.region id ops true) k ⟨t,h⟩) (Jn ops.toList&&aP1 ops.toList) (rw O P n k (ops.toList.map (Fz ops.toList)) t h):=⟨fun h=>baG h⟩
instance{n id:Nat}{ops:Array Oper}{k:List Aj}{t:List AV}{h:Aa}:Drw 2 (Bl O P (n+1) (.region id ops true) k ⟨t,h⟩) (Jn ops.toList&&bbC ops.toList) (rq O P n k (ops.toList.map (Fz ops.toList)) t h):=⟨fun h=>a94 h⟩
instance{n id:Nat}{ops:Array Oper}{k:List Aj}{t:List AV}{h:Aa}:Drw 3 (Bl O P (n+1) (.region id ops true) k ⟨t,h⟩) (Jn ops.toList) (rl O P n k ops.toList (ops.toList.map (Fz ops.toList)) t h []):=⟨fun h=>a9I h⟩
structure Dw(r r':R):Prop where
 dr:∀{C:R→Prop},¬C none→C r'→C r
theorem dg{r r':R}{c:Bool}[d:Drw 0 r c r'](h:c=true:=by kernel_rfl):Dw r r':=⟨fun n k=>d.dr n h k⟩
theorem dw(i:Nat){r r':R}{c:Bool}[d:Drw i r c r'](h:c=true:=by decide+kernel):Dw r r':=⟨fun n k=>d.dr n h k⟩
theorem fd{C:R→Prop}{r r':R}[n:NoN C](k:C r')(e:Dw r r':=by first|exact dg|exact dw 1|exact dw 2|exact dw 3):C r:=e.dr n.no k
theorem fdq{C:R→Prop}{r r':R}[n:NoN C](k:C r')(e:Dw r r':=by first|exact dw 1|exact dw 2|exact dw 3):C r:=e.dr n.no k
end
section
variable {P:Program} {O:Dx}
def Un(O:Dx)(P:Program)(n:Nat)(k:List Aj)(c:Code)(C:R→Prop):R→Prop
 |some (.normal,s)=>C (lpK O P n k (O.loop c s))
 |some (e,s)=>C (Bf (Bl O P n) k e s)
 |none=>False
instance{n:Nat}{k:List Aj}{c:Code}{C:R→Prop}:NoN (Un O P n k c C):=⟨fun h=>h⟩
end
theorem aU8:IntKind.i64.wrap 1=1:=ao8 rfl rfl
def EE:=PLift.up (agX EVZ.down (agX @aU8 (agX @Fz.eq_1 (agX @Ac.eq_1 (agX @Ac.eq_2 (agX @Ac.eq_4 (agX @Aw.eq_1 (agX @Aw.eq_2 (agX @aI3.eq_3 (agX @axN.eq_1 (agX @axN.eq_2 (agX @axN.eq_4 (agX @axN.eq_5 (agX @axN.eq_6 (agX @axN.eq_8 (agX @Bn.eq_1 (agX @Bn.eq_2 (agX @Ko.eq_1 (agX @Ko.eq_2 (agX @Ko.eq_3 (agX @Hr.eq_1 (agX @Br.eq_1 (agX @bsK.eq_1 (agX @Mc.eq_1 (agX @Mc.eq_2 (agX @decide_true @decide_false))))))))))))))))))))))))))
def EF:=PLift.up (agX EE.down EE.down)
def EG:=PLift.up (agX EF.down EVs.down)
end
noncomputable section
open Go.RowKit
def Cl(g:HF)(S:List Nat):Prop:=∀b∈S,∃z,(g b).bind Bq=some z∧(z.2.1=false→∃d q,d≤8∧Bt (rd d g) z.2.2=some q∧∀x∈q.2,x∈S)
theorem Cl.nil(g:HF):Cl g []:=fun _ h=>by cases h
theorem Cl.app{g:HF}{S T:List Nat}(h1:Cl g S)(h2:Cl g T):Cl g (S++T):=fun b hb=>by
 rcases aE6.1 hb with h|h
 ·obtain⟨z,k1,k2⟩:=h1 b h
  exact⟨z,k1,fun e=>by obtain⟨d,q,a1,a2,a3⟩:=k2 e;exact⟨d,q,a1,a2,fun x hx=>aFD _ (a3 x hx)⟩⟩
 ·obtain⟨z,k1,k2⟩:=h2 b h
  exact⟨z,k1,fun e=>by obtain⟨d,q,a1,a2,a3⟩:=k2 e;exact⟨d,q,a1,a2,fun x hx=>aHS _ (a3 x hx)⟩⟩
theorem clL{g:HF}{f:AV→Option (AV × List Nat)}:∀{l:List AV} {p:List AV × List Nat},rdL f l=some p→(∀x∈l,∀q,f x=some q→Cl g q.2)→Cl g p.2
 | [],p,h,_=>by simp[rdL]at h;subst h;exact Cl.nil g
 |a::l,p,h,hf=>by
  simp only[rdL,aqT,aqM]at h
  obtain⟨q,hq,r,hr,rfl⟩:=h
  exact(hf a (aC5 ..) q hq).app (clL hr fun x hx=>hf x (aC4 _ hx))
theorem clR{g:HF}{f:AV→Option (AV × List Nat)}:∀{l:List (List AV)} {p:List (List AV) × List Nat},Bt f l=some p→(∀r∈l,∀x∈r,∀q,f x=some q→Cl g q.2)→Cl g p.2
 | [],p,h,_=>by simp[Bt]at h;subst h;exact Cl.nil g
 |a::l,p,h,hf=>by
  simp only[Bt,aqT,aqM]at h
  obtain⟨q,hq,r,hr,rfl⟩:=h
  exact(clL hq (hf a (aC5 ..))).app (clR hr fun x hx=>hf x (aC4 _ hx))
theorem aX0{g:HF}:∀{d:Nat} {v:AV} {p:AV × List Nat},d≤9→rd d g v=some p→Cl g p.2
 |0,v,p,_,h=>by simp[rd]at h
 |d+1,v,p,hd,h=>by
  have IH:∀x q,rd d g x=some q→Cl g q.2:=fun x q hx=>aX0 (by omega) hx
  cases v with
  |slr st b r len=>
   simp only[rd,aqT]at h
   obtain⟨z,hz,h⟩:=h
   have hz':(g b).bind Bq=some z:=aqT.2 hz
   split at h
   ·cases hfl:z.2.1 with
    |true=>
     rw[hfl]at h;simp at h;rw[←h]
     intro b' hb'
     simp at hb';subst hb'
     exact⟨z,hz',fun e=>by rw[hfl]at e;cases e⟩
    |false=>
     rw[hfl]at h;simp only[cond_false,aqM]at h
     obtain⟨q,hq,rfl⟩:=h
     intro b' hb'
     rcases aC6.1 hb' with rfl|hb'
     ·exact⟨z,hz',fun _=>⟨d,q,by omega,hq,fun x hx=>aC4 _ hx⟩⟩
     ·obtain⟨z',k1,k2⟩:=clR hq (fun r _ x _=>IH x) b' hb'
      exact⟨z',k1,fun e=>by obtain⟨d',q',a1,a2,a3⟩:=k2 e;exact⟨d',q',a1,a2,fun x hx=>aC4 _ (a3 x hx)⟩⟩
   ·cases h
  |agg cs=>
   simp only[rd,aqM]at h
   obtain⟨q,hq,rfl⟩:=h
   exact clL hq fun x _=>IH x
  |iface t x=>
   simp only[rd,aqM]at h
   obtain⟨q,hq,rfl⟩:=h
   exact IH x q hq
  |func fn a b=>
   cases a<;>cases b<;>first|(simp[rd]at h;subst h;exact Cl.nil g)|(simp[rd]at h)
  |_=>first|(simp[rd]at h;subst h;exact Cl.nil g)|(simp[rd]at h)
end
end Go.Ev
namespace Go.Ev
open Go.RowKit
structure Kp(lent:List Nat)(H H1:Aa):Prop where
 len:H.length≤H1.length
 rows:∀b,b<H.length→(hf H1 b).bind Bq=(hf H b).bind Bq
 same:∀b,b<H.length→b∉lent→H1[b]?=H[b]?
end Go.Ev
namespace Go.Ev
noncomputable section
open Go.RowKit
theorem aE9{g:HF}:∀{d e:Nat} {v:AV} {p:AV × List Nat},d≤e→rd d g v=some p→Fj e g v=some p.1
 |0,e,v,p,_,h=>by simp[rd]at h
 |d+1,0,v,p,he,h=>by omega
 |d+1,e+1,v,p,he,h=>by
  cases v with
  |slr st b r len=>exact aE4 (aQ5 he h)
  |agg cs=>
   simp only[rd,aqM]at h
   obtain⟨q,hq,rfl⟩:=h
   simp[Fj,aCT (f':=Fj e g) hq (fun x _ q' hx=>aE9 (show d≤e by omega) hx)]
  |iface t x=>
   simp only[rd,aqM]at h
   obtain⟨q,hq,rfl⟩:=h
   simp[Fj,aE9 (show d≤e by omega) hq]
  |func fn a b=>cases a<;>cases b<;>first|(simp[rd]at h;subst h;rfl)|(simp[rd]at h)
  |_=>first|(simp[rd]at h;subst h;rfl)|(simp[rd]at h)
theorem aXF{f:AV→Option (AV × List Nat)}{f':AV→List Nat}:∀{l:List AV} {p:List AV × List Nat},rdL f l=some p→(∀x∈l,∀q,f x=some q→∀b∈f' x,b∈q.2)→∀b∈l.flatMap f',b∈p.2
 | [],p,h,_=>fun b hb=>by simp at hb
 |a::l,p,h,hf=>fun b hb=>by
  simp only[rdL,aqT,aqM]at h
  obtain⟨q,hq,r,hr,rfl⟩:=h
  rw[aRS]at hb
  rcases aE6.1 hb with hb|hb
  ·exact aFD _ (hf a (aC5 ..) q hq b hb)
  ·exact aHS _ (aXF hr (fun x hx=>hf x (aC4 _ hx)) b hb)
theorem a3Q{f:AV→Option (AV × List Nat)}{f':AV→List Nat}:∀{l:List (List AV)} {p:List (List AV) × List Nat},Bt f l=some p→(∀r∈l,∀x∈r,∀q,f x=some q→∀b∈f' x,b∈q.2)→∀b∈l.flatMap (fun cs=>cs.flatMap f'),b∈p.2
 | [],p,h,_=>fun b hb=>by simp at hb
 |a::l,p,h,hf=>fun b hb=>by
  simp only[Bt,aqT,aqM]at h
  obtain⟨q,hq,r,hr,rfl⟩:=h
  rw[aRS]at hb
  rcases aE6.1 hb with hb|hb
  ·exact aFD _ (aXF hq (hf a (aC5 ..)) b hb)
  ·exact aHS _ (a3Q hr (fun x hx=>hf x (aC4 _ hx)) b hb)
theorem aCO{g:HF}:∀{e d:Nat} {v:AV} {p:AV × List Nat},rd d g v=some p→∀b∈Ao e g v,b∈p.2
 |0,d,v,p,_,b,hb=>by simp[Ao]at hb
 |e+1,0,v,p,h,b,hb=>by simp[rd]at h
 |e+1,d+1,v,p,h,b,hb=>by
  cases v with
  |slr st c r len=>
   simp only[rd,aqT]at h
   obtain⟨z,hz,h⟩:=h
   split at h
   ·rename_i hq
    obtain⟨rfl,rfl,rfl⟩:=hq
    simp only[Ao,aBZ (aqT.2 hz)]at hb
    cases hfl:z.2.1 with
    |true=>rw[hfl]at h hb;simp at h hb;rw[←h];simp[hb]
    |false=>
     rw[hfl]at h hb
     simp only[cond_false,aqM]at h
     obtain⟨q,hq',rfl⟩:=h
     rcases aC6.1 hb with rfl|hb
     ·exact aC5 ..
     ·exact aC4 _ (a3Q hq' (fun r _ x _ q' hx b hb=>aCO hx b hb) b (by simpa using hb))
   ·cases h
  |agg cs=>
   simp only[rd,aqM]at h
   obtain⟨q,hq,rfl⟩:=h
   exact aXF hq (fun x _ q' hx b hb=>aCO hx b hb) b hb
  |iface t x=>
   simp only[rd,aqM]at h
   obtain⟨q,hq,rfl⟩:=h
   exact aCO hq b hb
  |_=>simp[Ao]at hb
theorem Do{C:R→Prop}[n:NoN C]{r:R}(h:∀K:R→Prop,NoN K→(∀x,C x→K x)→K r):C r:=h C n fun _ h=>h
theorem arR{v:AV}{H:Aa}{b:Nat}(l:List CB)(hb:b<H.length)(hv:∀a c r m,v=.slr a c r m→c≠b):(kl 0 v H++l)[b]?=H[b]?:=by
 rw[aR1 (by rw[aDC];exact hb)]
 unfold kl
 split
 ·rename_i a c r m
  rw[aY4];simpa using hv a c r m rfl
 ·rfl
theorem azU{H:Aa}{b:Nat}{z:Nat × Bool × List (List AV)}(h:(hf H b).bind Bq=some z):b<H.length:=by
 obtain⟨c,hc,_⟩:=aqT.1 h
 exact(aEY.1 hc).1
theorem agI{g g':HF}{d:Nat}{l:List AV}{p:List AV × List Nat}(h:rdL (rd d g) l=some p)(ha:Agr p.2 g g'):rdL (rd d g') l=some p:=
 awN h fun _ _ _ hq hs=>aGG hq fun b hb=>ha b (hs b hb)
theorem aFQ{g g':HF}{d:Nat}{l:List (List AV)}{p:List (List AV) × List Nat}(h:Bt (rd d g) l=some p)(ha:Agr p.2 g g'):Bt (rd d g') l=some p:=
 Nq h fun _ _ _ _ _ hq hs=>aGG hq fun b hb=>ha b (hs b hb)
theorem aGL{H:Aa}{d:Nat}{l:List AV}{p:List AV × List Nat}(hd:d≤9)(h:rdL (rd d (hf H)) l=some p):∀b∈p.2,b<H.length:=fun b hb=>by
 obtain⟨z,hz,_⟩:=clL h (fun x _ q hx=>aX0 hd hx) b hb
 exact azU hz
theorem aIE{H:Aa}{d:Nat}{l:List (List AV)}{p:List (List AV) × List Nat}(hd:d≤9)(h:Bt (rd d (hf H)) l=some p):∀b∈p.2,b<H.length:=fun b hb=>by
 obtain⟨z,hz,_⟩:=clR h (fun r _ x _ q hx=>aX0 hd hx) b hb
 exact azU hz
theorem aG9{f:AV→Option (AV × List Nat)}:∀{l:List (List AV)} {p:List (List AV) × List Nat},Bt f l=some p→l.length=p.1.length
 | [],p,h=>by simp[Bt]at h;subst h;rfl
 |a::l,p,h=>by
  simp only[Bt,aqT,aqM]at h
  obtain⟨q,hq,r,hr,rfl⟩:=h
  simp[aG9 hr]
theorem aFZ{f:AV→Option (AV × List Nat)}:∀{l:List (List AV)} {p:List (List AV) × List Nat} {i:Nat} {X:List AV},Bt f l=some p→p.1[i]?=some X→∃r R,l[i]?=some r∧rdL f r=some (X,R)
 | [],p,i,X,h,hx=>by simp[Bt]at h;subst h;simp at hx
 |a::l,p,i,X,h,hx=>by
  simp only[Bt,aqT,aqM]at h
  obtain⟨q,hq,r,hr,rfl⟩:=h
  cases i with
  |zero=>simp at hx;subst hx;exact⟨a,q.2,rfl,hq⟩
  |succ i=>simp at hx;obtain⟨r',R',k1,k2⟩:=aFZ hr hx;exact⟨r',R',by simpa using k1,k2⟩
theorem aQS{f:AV→Option (AV × List Nat)}:∀{l:List AV} {p:List AV × List Nat},rdL f l=some p→l.length=p.1.length
 | [],p,h=>by simp[rdL]at h;subst h;rfl
 |a::l,p,h=>by
  simp only[rdL,aqT,aqM]at h
  obtain⟨q,hq,r,hr,rfl⟩:=h
  simp[aQS hr]
theorem Ia{f:AV→Option (AV × List Nat)}{l xs:List AV}{x:AV}{R:List Nat}(h:rdL f l=some (x::xs,R)):∃a l' R1 R2,l=a::l'∧f a=some (x,R1)∧rdL f l'=some (xs,R2)∧R=R1++R2:=by
 cases l with
 |nil=>simp[rdL]at h
 |cons a l=>
  simp only[rdL,aqT,aqM]at h
  obtain⟨q,hq,r,hr,he⟩:=h
  simp only[Prod.mk.injEq,List.cons.injEq]at he
  obtain⟨⟨rfl,rfl⟩,rfl⟩:=he
  exact⟨a,l,q.2,r.2,rfl,hq,hr,rfl⟩
theorem ac6{f:AV→Option (AV × List Nat)}{l:List AV}{R:List Nat}(h:rdL f l=some ([],R)):l=[]∧R=[]:=by
 cases l with
 |nil=>simp[rdL]at h;exact⟨rfl,h⟩
 |cons a l=>have:=aQS h;simp at this
theorem aN7{g:HF}{d:Nat}{v:AV}{k:IntKind}{n:Int}{R:List Nat}(h:rd (d+1) g v=some (.int k n,R)):v=.int k n∧R=[]:=by
 cases v with
 |slr st b r len=>
  simp only[rd,aqT]at h
  obtain⟨z,_,h⟩:=h
  split at h
  ·cases hfl:z.2.1<;>rw[hfl]at h<;>simp at h
  ·cases h
 |func fn a b=>cases a<;>cases b<;>simp[rd]at h
 |int k' n'=>simp[rd]at h;exact⟨by simp[h],h.2⟩
 |agg cs=>simp[rd]at h
 |iface t x=>simp[rd]at h
 |_=>simp[rd]at h
theorem aWD{g:HF}{d st:Nat}{fl nn:Bool}{v:AV}{rows:List (List AV)}{R:List Nat}(h:rd (d+1) g v=some (Bo st fl nn rows,R)):v.isCell=true∧v.flat=false:=by
 have hs:Bo st fl nn rows=.nils∨∃r,Bo st fl nn rows=.imm st fl r:=by
  cases rows with
  |nil=>cases nn with
   |true=>exact .inr ⟨_,rfl⟩
   |false=>exact .inl rfl
  |cons=>exact .inr ⟨_,rfl⟩
 generalize Bo st fl nn rows=X at h hs
 cases v with
 |func fn a b=>cases a<;>cases b<;>first|exact⟨rfl,rfl⟩|(simp[rd]at h)
 |agg cs=>simp only[rd,aqM]at h;obtain⟨_,_,h⟩:=h;simp only[Prod.mk.injEq]at h;obtain⟨h,_⟩:=h;subst h;rcases hs with hs|⟨_,hs⟩<;>cases hs
 |ptr b r o=>exact⟨rfl,rfl⟩
 |yl b=>exact⟨rfl,rfl⟩
 |mapr b=>exact⟨rfl,rfl⟩
 |itr b=>exact⟨rfl,rfl⟩
 |tup cs=>simp[rd]at h
 |bool b=>simp[rd]at h;obtain⟨h,_⟩:=h;subst h;rcases hs with hs|⟨_,hs⟩<;>cases hs
 |int k n=>simp[rd]at h;obtain⟨h,_⟩:=h;subst h;rcases hs with hs|⟨_,hs⟩<;>cases hs
 |str s=>simp[rd]at h;obtain⟨h,_⟩:=h;subst h;rcases hs with hs|⟨_,hs⟩<;>cases hs
 |_=>exact⟨rfl,rfl⟩
theorem awK{g:HF}{d st:Nat}{fl nn:Bool}{v:AV}{rows:List (List AV)}{R:List Nat}(h:rd (d+1) g v=some (Bo st fl nn rows,R)):
 (v=.nils∧rows=[])∨∃b rows',v=.slr st b 0 rows.length∧(g b).bind Bq=some (st,fl,rows')∧rows'.length=rows.length∧(fl=true→rows'=rows)∧(fl=false→∃R',Bt (rd d g) rows'=some (rows,R')):=by
 have hs:(Bo st fl nn rows=.nils∧rows=[])∨Bo st fl nn rows=.imm st fl rows:=by
  cases rows with
  |nil=>cases nn with
   |true=>exact .inr rfl
   |false=>exact .inl ⟨rfl,rfl⟩
  |cons=>exact .inr rfl
 generalize Bo st fl nn rows=X at h hs
 cases v with
 |nils=>simp[rd]at h;obtain⟨rfl,_⟩:=h;rcases hs with⟨_,hs⟩|hs
        ·exact .inl ⟨rfl,hs⟩
        ·cases hs
 |slr st' b r len=>
  simp only[rd,aqT]at h
  obtain⟨z,hz,h⟩:=h
  split at h
  ·rename_i hq
   obtain⟨q1,rfl,q3⟩:=hq
   obtain⟨z1,z2,z3⟩:=z
   simp only at q1 q3 h
   subst q1
   cases z2 with
   |true=>
    simp at h
    obtain⟨rfl,_⟩:=h
    rcases hs with⟨hs,_⟩|hs
    ·cases hs
    ·cases hs
     exact .inr ⟨b,_,by rw[q3],aqT.2 hz,rfl,fun _=>rfl,fun e=>by cases e⟩
   |false=>
    simp only[cond_false,aqM]at h
    obtain⟨q,hq,he⟩:=h
    simp only[Prod.mk.injEq]at he
    obtain⟨rfl,_⟩:=he
    rcases hs with⟨hs,_⟩|hs
    ·cases hs
    ·cases hs
     have hl:z3.length=q.1.length:=aG9 hq
     exact .inr ⟨b,z3,by rw[q3,hl],aqT.2 hz,hl,fun e=>(by cases e),fun _=>⟨q.2,hq⟩⟩
  ·cases h
 |func fn a b=>cases a<;>cases b<;>simp[rd]at h<;>(obtain⟨rfl,_⟩:=h;rcases hs with⟨hs,_⟩|hs<;>cases hs)
 |agg cs=>simp only[rd,aqM]at h;obtain⟨_,_,h⟩:=h;simp only[Prod.mk.injEq]at h;obtain⟨rfl,_⟩:=h;rcases hs with⟨hs,_⟩|hs<;>cases hs
 |iface t x=>simp only[rd,aqM]at h;obtain⟨_,_,h⟩:=h;simp only[Prod.mk.injEq]at h;obtain⟨rfl,_⟩:=h;rcases hs with⟨hs,_⟩|hs<;>cases hs
 |ptr b r o=>simp[rd]at h
 |yl b=>simp[rd]at h
 |mapr b=>simp[rd]at h
 |itr b=>simp[rd]at h
 |tup cs=>simp[rd]at h
 |imm=>simp[rd]at h
 |iptr=>simp[rd]at h
 |_=>simp[rd]at h;obtain⟨rfl,_⟩:=h;rcases hs with⟨hs,_⟩|hs<;>cases hs
theorem aPY{H:Aa}{b st:Nat}{fl:Bool}{rows:List (List AV)}(h:(hf H b).bind Bq=some (st,fl,rows))(i:Nat):Iu (H[b]?) i=rows[i]?:=by
 obtain⟨c,hc,hz⟩:=aqT.1 h
 rw[show H[b]?=some c from hc]
 cases c<;>simp[Bq]at hz<;>(obtain⟨_,_,rfl⟩:=hz;rfl)
theorem aB7{g:HF}{d:Nat}(k:IntKind)(n:Int):rd (d+1) g (.int k n)=some (.int k n,[]):=rfl
theorem aXD{g:HF}{d st b n:Nat}{rows:List (List AV)}(h:(g b).bind Bq=some (st,true,rows))(hn:n=rows.length):rd (d+1) g (.slr st b 0 n)=some (.imm st true rows,[b]):=by
 subst hn;simp[rd,h]
theorem Px{f:AV→Option (AV × List Nat)}:rdL f []=some ([],[]):=rfl
theorem Ey{f:AV→Option (AV × List Nat)}{a x:AV}{l xs:List AV}{R1 R2:List Nat}(h1:f a=some (x,R1))(h2:rdL f l=some (xs,R2)):rdL f (a::l)=some (x::xs,R1++R2):=by simp[rdL,h1,h2]
theorem aEB{f:AV→Option (AV × List Nat)}:∀{l:List (List AV)} {p:List (List AV) × List Nat} {r:List AV} {q:List AV × List Nat},Bt f l=some p→rdL f r=some q→Bt f (l++[r])=some (p.1++[q.1],p.2++q.2)
 | [],p,r,q,h,hr=>by simp[Bt]at h;subst h;simp[Bt,hr]
 |a::l,p,r,q,h,hr=>by
  simp only[Bt,aqT,aqM]at h
  obtain⟨q1,hq1,r1,hr1,rfl⟩:=h
  simp[Bt,hq1,aEB hr1 hr]
end
noncomputable section
open Go.RowKit
section
variable {P:Program} {O:Dx}
def slx(P:Program)(ty:TypeId)(a:Option AV)(l h:Option (Option AV)):OE:=r1 (a.bind fun a=>l.bind fun l=>h.bind fun h=>aDK P ty a l h)
theorem aWG(t:List AV)(h:Aa)(ty:TypeId)(x:Operand)(lo hi:Option Operand):Dc O P t h (.slice ty x lo hi none)=slx P ty (Ac t x) (aDR t lo) (aDR t hi):=by
 rw[Bj _ _ _ rfl]
 simp only[exec,slx]
 cases Ac t x with
 |none=>rfl
 |some a=>
  cases aDR t lo with
  |none=>rfl
  |some l=>
   cases aDR t hi with
   |none=>rfl
   |some h=>exact Fa _
def oS(x:Option AV):Option (Option AV):=x.map some
theorem a08(v:AV):oS (some v)=some (some v):=ao8 rfl rfl
theorem aSE(t:List AV):aDR t none=some none:=ao8 rfl rfl
theorem aRH(t:List AV)(x:Operand):aDR t (some x)=oS (Ac t x):=ao8 rfl rfl
end
end
noncomputable section
set_option maxRecDepth 100000
section
variable {P:Program} {G:Nat→Option Obj}
end
section
variable {P:Program}
end
def EVu:=PLift.up (agX @a0H (agX @aID (agX @aCN (agX @aWG (agX @aSE (agX @aRH @a08))))))
end
noncomputable section
section
variable {α:Type}
end
end
section
def Kv:Aa→Aa→Aa
 | [],h'=>h'
 |c₀::h,[]=>c₀::h
 |c₀::h,c::h'=>(bif c₀.quiet c then c₀ else c.mark)::Kv h h'
def aMF(h h':Aa):Prop:=h.length≤h'.length∧∀(i:Nat) (c₀ c:CB),h[i]?=some c₀→h'[i]?=some c→c₀.quiet c=true∨c₀.isLive=true
theorem az3:∀(h h' pre:Aa),aMF h h'→∃es,Bg pre.length h h'=some es∧Bn (pre++h) es=pre++Kv h h'
 | [],h',pre,_=>⟨_,rfl,by simp[aJF,Kv]⟩
 |c₀::h,[],pre,ok=>by simp[aMF]at ok
 |c₀::h,c::h',pre,ok=>by
  have ok':aMF h h':=⟨by simpa using ok.1,fun i a b h1 h2=>ok.2 (i+1) a b (by simpa using h1) (by simpa using h2)⟩
  cases hq:c₀.quiet c with
  |true=>
   obtain⟨es,e1,e2⟩:=az3 h h' (pre++[c₀]) ok'
   refine⟨es,?_,?_⟩
   ·simp only[Bg,hq,cond_true]
    simpa using e1
   ·simpa [Kv,hq]using e2
  |false=>
   have hl:c₀.isLive=true:=by
    rcases ok.2 0 c₀ c rfl rfl with h|h
    ·rw[hq]at h;cases h
    ·exact h
   obtain⟨es,e1,e2⟩:=az3 h h' (pre++[c.mark]) ok'
   refine⟨.put pre.length c.mark::es,?_,?_⟩
   ·simp only[Bg,hq,hl,cond_false,cond_true]
    simp only[aT2,aM7,aT3]at e1
    rw[e1];rfl
   ·simp only[Bn,Ko,Kv,hq,cond_false]
    have:(pre++c₀::h).set pre.length c.mark=(pre++[c.mark])++h:=by simp
    rw[this,e2];simp
theorem adL:∀{h h':Aa},h.length≤h'.length→(Kv h h').length=h'.length
 | [],h',_=>rfl
 |c₀::h,[],hl=>by simp at hl
 |c₀::h,c::h',hl=>by simp[Kv,adL (h:=h) (h':=h') (by simpa using hl)]
theorem Jt:∀{h h':Aa} {i:Nat} {c₀ c:CB},h[i]?=some c₀→h'[i]?=some c→c₀.quiet c=true→(Kv h h')[i]?=some c₀
 | [],h',i,c₀,c,h1,_,_=>by simp at h1
 |a::h,[],i,c₀,c,_,h2,_=>by simp at h2
 |a::h,b::h',0,c₀,c,h1,h2,hq=>by
  simp at h1 h2;subst h1 h2;simp[Kv,hq]
 |a::h,b::h',i+1,c₀,c,h1,h2,hq=>by
  simp at h1 h2;simpa [Kv]using Jt h1 h2 hq
theorem azS:∀{h h':Aa} {i:Nat} {c₀ c:CB},h[i]?=some c₀→h'[i]?=some c→c₀.quiet c=false→(Kv h h')[i]?=some c.mark
 | [],h',i,c₀,c,h1,_,_=>by simp at h1
 |a::h,[],i,c₀,c,_,h2,_=>by simp at h2
 |a::h,b::h',0,c₀,c,h1,h2,hq=>by
  simp at h1 h2;subst h1 h2;simp[Kv,hq]
 |a::h,b::h',i+1,c₀,c,h1,h2,hq=>by
  simp at h1 h2;simpa [Kv]using azS h1 h2 hq
theorem aCJ:∀{h h':Aa} {i:Nat},h.length≤h'.length→h.length≤i→(Kv h h')[i]?=h'[i]?
 | [],h',i,_,_=>rfl
 |a::h,[],i,hl,_=>by simp at hl
 |a::h,b::h',0,_,hi=>by simp at hi
 |a::h,b::h',i+1,hl,hi=>by
  simpa [Kv]using aCJ (h:=h) (h':=h') (i:=i) (by simpa using hl) (by simpa using hi)
theorem Ej{h:Aa}{i:Nat}{c:CB}(hc:h[i]?=some c):(Gt h)[i]?=some c.clean:=by simp[Gt,hc]
theorem Bv(h:Aa):(Gt h).length=h.length:=by simp[Gt]
theorem aOB(c:CB):Bq c.clean=Bq c:=by cases c<;>rfl
theorem aRC(c:CB):Bq c.mark=Bq c:=by cases c<;>rfl
theorem aKQ{O:Dx}{H:Aa}{f:Nat}{args:List AV}{Q:Dm→Aa→Prop}(hd:hdR args=true)(hm:O.md f=true)(K:ShQ O f args (Gt H) Q)(ok:∀o G,Q o G→aMF H G):
 ∃o G es,cl O H (some (.func (.func f) [] [])) (some args)=some (o,es)∧Bn H es=Kv H G∧Q o G:=by
 obtain⟨o,G,hc,hq⟩:=K
 obtain⟨es,e1,e2⟩:=az3 H G [] (ok o G hq)
 refine⟨o,G,es,?_,by simpa using e2,hq⟩
 rw[aQE]
 simp only[aJY,aM0,hd,if_true,shC,hm,aNT,hc]
 rw[aFX]
 have e1':Bg 0 H G=some es:=e1
 rw[e1'];rfl
structure Hv(X:List Nat)(H H1:Aa):Prop where
 len:H.length≤H1.length
 same:∀b,b<H.length→b∉X→H1[b]?=H[b]?
theorem Hv.app(H l:Aa):Hv [] H (H++l):=⟨by simp,fun b hb _=>aR1 hb⟩
theorem Hv.trans{X Y:List Nat}{H H1 H2:Aa}(h1:Hv X H H1)(h2:Hv Y H1 H2):Hv (X++Y) H H2:=
 ⟨aJ1 h1.len h2.len,fun b hb hn=>by
   rw[h2.same b (Nat.lt_of_lt_of_le hb h1.len) (fun h=>hn (aHS _ h)),h1.same b hb (fun h=>hn (aFD _ h))]⟩
end
noncomputable section
open Go.RowKit
def aKA(f:Nat→Nat):Nj→List (List Au × List Au)→Prop
 | [],[]=>True
 |(es,fs)::l,(w,r)::l'=>(∀e∈es,Au.all∈w∨Ox f e.foot∈w)∧(∀x∈fs,Au.all∈r∨Ox f x∈r)∧aKA f l l'
 |_,_=>False
theorem aKA.get{f:Nat→Nat}:∀{l:Nj} {l':List (List Au × List Au)} {i:Nat} {y:List Au × List Au},aKA f l l'→l'[i]?=some y→∃x,l[i]?=some x∧(∀e∈x.1,Au.all∈y.1∨Ox f e.foot∈y.1)∧(∀a∈x.2,Au.all∈y.2∨Ox f a∈y.2)
 | [],[],i,y,_,h=>by simp at h
 |(es,fs)::l,(w,r)::l',0,y,h,hy=>by simp at hy;subst hy;exact⟨_,rfl,h.1,h.2.1⟩
 |(es,fs)::l,(w,r)::l',i+1,y,h,hy=>by
  obtain⟨x,h1,h2⟩:=aKA.get h.2.2 (i:=i) (by simpa using hy)
  exact⟨x,by simpa using h1,h2⟩
theorem aSZ(x:Au):x.meets .all=true:=by cases x<;>rfl
theorem aTA(x:Au):Au.meets .all x=true:=by cases x<;>rfl
theorem aUW(f:Nat→Nat){ops:List Oper}{log:Nj}(lg:List (List Au × List Au))(hc:aKA f log lg)(hd:aIC ops lg=true):Cj ops log=true:=by
 simp only[aIC,Cj,aH6]at hd ⊢
 rintro⟨i,j⟩ hij
 have:=hd (i,j) hij
 simp only at this ⊢
 cases hi:lg[i]? with
 |none=>simp[hi]at this
 |some x=>
  cases hj:lg[j]? with
  |none=>simp[hi,hj]at this
  |some y=>
   obtain⟨x',a1,a2,a3⟩:=hc.get hi
   obtain⟨y',b1,b2,b3⟩:=hc.get hj
   simp only[hi,hj,a1,b1,aY2,aY3]at this ⊢
   cases hk:Jf x' y' with
   |false=>rfl
   |true=>
    rw[←this];symm
    have mt:∀{p q:Au} {P Q:List Au},p.meets q=true→(Au.all∈P∨Ox f p∈P)→(Au.all∈Q∨Ox f q∈Q)→∃p'∈P,∃q'∈Q,p'.meets q'=true:=fun {p q P Q} hm hp hq=>by
     rcases hp with hp|hp<;>rcases hq with hq|hq
     ·exact⟨_,hp,_,hq,rfl⟩
     ·exact⟨_,hp,_,hq,aTA _⟩
     ·exact⟨_,hp,_,hq,aSZ _⟩
     ·exact⟨_,hp,_,hq,aFS f _ _ hm⟩
    simp only[Jf,aKM,aXT,aXY,aE6,aIS]at hk ⊢
    rcases hk with⟨_,⟨e,he,rfl⟩,b,hb,hm⟩|⟨_,⟨e,he,rfl⟩,b,hb,hm⟩
    ·left
     rcases hb with⟨e',he',rfl⟩|hb
     ·obtain⟨p,hp,q,hq,hpq⟩:=mt hm (a2 e he) (b2 e' he')
      exact⟨p,hp,q,.inl hq,hpq⟩
     ·obtain⟨p,hp,q,hq,hpq⟩:=mt hm (a2 e he) (b3 b hb)
      exact⟨p,hp,q,.inr hq,hpq⟩
    ·right
     obtain⟨p,hp,q,hq,hpq⟩:=mt hm (b2 e he) (a3 b hb)
     exact⟨p,hp,q,hq,hpq⟩
theorem aKT(f:Nat→Nat)(lg:List (List Au × List Au)){C:R→Prop}{ops:List Oper}{log:Nj}{k:R}(hb:aIC ops lg=true)(hc:aKA f log lg)(h:True→C k):C (Et (Cj ops log) k):=aFU (aUW f lg hc hb) h
theorem aCB(f:Nat→Nat):aKA f [] []=True:=rfl
theorem az0(f:Nat→Nat)(es:List Ab)(fs:List Au)(l:Nj)(w r:List Au)(l':List (List Au × List Au)):aKA f ((es,fs)::l) ((w,r)::l')=((∀e∈es,Au.all∈w∨Ox f e.foot∈w)∧(∀x∈fs,Au.all∈r∨Ox f x∈r)∧aKA f l l'):=rfl
theorem aZ4{O:Dx}{H:Aa}{f:Nat}{args:List AV}{o:Dm}{l:Aa}(hd:hdR args=true)(hm:O.md f=true)(hc:O.call (.sh f) args (Gt H)=some (o,Gt H++l))(hq:Ar H=true):
 cl O H (some (.func (.func f) [] [])) (some args)=some (o,Gq H.length l):=by
 rw[aQE]
 simp only[aJY,aM0,hd,if_true,shC,hm,aNT,hc]
 rw[aFX,aP2 hq]
 simp
theorem aZV{O:Dx}{H:Aa}{f:Nat}{args:List AV}{o:Dm}(hd:hdR args=true)(hm:O.md f=true)(hc:O.call (.sh f) args (Gt H)=some (o,Gt H))(hq:Ar H=true):
 cl O H (some (.func (.func f) [] [])) (some args)=some (o,[]):=by
 have:=aZ4 (l:=[]) hd hm (by simpa using hc) hq
 simpa [Gq]using this
theorem aA7{H:Aa}(h:∀c∈H,c.quiet c.clean=true):Ar H=true:=by simp only[Ar,aH6];exact h
theorem Fp{H:Aa}(h:Ar H=true){b:Nat}{c:CB}(hb:H[b]?=some c):c.quiet c.clean=true:=by
 simp only[Ar,aH6]at h
 exact h c (aSL hb)
theorem Ef{H l:Aa}(h:Ar H=true)(hl:Ar l=true):Ar (H++l)=true:=by
 simp only[Ar,aH6,aE6]at h hl ⊢
 exact fun c hc=>hc.elim (h c) (hl c)
theorem Eh{H:Aa}(h:Ar H=true)(b:Nat){c:CB}(hc:c.quiet c.clean=true):Ar (H.set b c)=true:=by
 simp only[Ar,aH6]at h ⊢
 exact fun x hx=>(List.mem_or_eq_of_mem_set hx).elim (h x) (fun e=>e▸hc)
theorem aM6{c:CB}(h:c.quiet c.clean=true):c.clean.quiet c.clean.clean=true:=by cases c<;>first|rfl|exact h
theorem Oz{H:Aa}(h:Ar H=true):Ar (Gt H)=true:=by
 simp only[Ar,Gt,aH6,aIS]at h ⊢
 rintro c ⟨c0,h0,rfl⟩
 exact aM6 (h c0 h0)
theorem aF3{c:CB}(h:c.quiet c.clean=true):c.mark.quiet c.mark.clean=true:=by cases c<;>first|rfl|exact h
theorem Hy{H0 G:Aa}{X:List Nat}(hq:Ar H0=true)(K:Hv X (Gt H0) G)(hX:∀b∈X,b<H0.length∧∀c0 c,H0[b]?=some c0→G[b]?=some c→c0.isLive=true∧c0.quiet c=false):
 aMF H0 G∧(Kv H0 G).length=G.length∧(∀b,H0.length≤b→(Kv H0 G)[b]?=G[b]?)∧(∀b,b<H0.length→b∉X→(Kv H0 G)[b]?=H0[b]?)∧(∀b∈X,∀c,G[b]?=some c→(Kv H0 G)[b]?=some c.mark):=by
 have hlen:H0.length≤G.length:=by have:=K.len;rwa[Bv]at this
 have old:∀b c0,H0[b]?=some c0→b∉X→G[b]?=some c0.clean:=fun b c0 h0 hb=>by
  rw[K.same b (by rw[Bv];exact(aEY.1 h0).1) hb,Ej h0]
 refine⟨⟨hlen,fun b c0 c h0 h1=>?_⟩,adL hlen,fun b hb=>aCJ hlen hb,fun b hb hn=>?_,fun b hb c hc=>?_⟩
 ·by_cases hb:b∈X
  ·exact .inr ((hX b hb).2 c0 c h0 h1).1
  ·rw[old b c0 h0 hb]at h1;cases h1
   exact .inl (Fp hq h0)
 ·obtain⟨c0,h0⟩:∃c,H0[b]?=some c:=⟨_,aJ9 hb⟩
  rw[h0];exact Jt h0 (old b c0 h0 hn) (Fp hq h0)
 ·obtain⟨h1,h2⟩:=hX b hb
  obtain⟨c0,h0⟩:∃c,H0[b]?=some c:=⟨_,aJ9 h1⟩
  exact azS h0 hc (h2 c0 c h0 hc).2
theorem az7{H0 G:Aa}{X:List Nat}(hq:Ar H0=true)(K:Hv X (Gt H0) G)(hX:∀b∈X,b<H0.length∧∀c0 c,H0[b]?=some c0→G[b]?=some c→c0.isLive=true∧c0.quiet c=false)(hg:Ar G=true):Ar (Kv H0 G)=true:=by
 obtain⟨_,k1,k2,k3,k4⟩:=Hy hq K hX
 refine aA7 fun c hc=>?_
 obtain⟨b,hb⟩:=aS7 hc
 by_cases h1:b<H0.length
 ·by_cases h2:b∈X
  ·obtain⟨c1,h3⟩:∃c,G[b]?=some c:=⟨_,aJ9 (by rw[←k1];exact(aEY.1 hb).1)⟩
   rw[k4 b h2 c1 h3]at hb;cases hb
   exact aF3 (Fp hg h3)
  ·rw[k3 b h1 h2]at hb;exact Fp hq hb
 ·rw[k2 b (by omega)]at hb;exact Fp hg hb
theorem aR9{H0 G:Aa}{X:List Nat}(hq:Ar H0=true)(K:Hv X (Gt H0) G)(hX:∀b∈X,b<H0.length∧∀c0 c,H0[b]?=some c0→G[b]?=some c→c0.isLive=true∧c0.quiet c=false)(b:Nat):(hf (Kv H0 G) b).bind Bq=(hf G b).bind Bq:=by
 obtain⟨_,k1,k2,k3,k4⟩:=Hy hq K hX
 show((Kv H0 G)[b]?).bind Bq=(G[b]?).bind Bq
 by_cases h1:b<H0.length
 ·by_cases h2:b∈X
  ·cases h3:G[b]? with
   |none=>rw[List.getElem?_eq_none_iff]at h3;have h4:=K.len;rw[Bv]at h4;omega
   |some c1=>rw[k4 b h2 c1 h3];exact aRC c1
  ·rw[k3 b h1 h2,K.same b (by rw[Bv];exact h1) h2]
   cases h3:H0[b]? with
   |none=>simp[Gt,h3]
   |some c=>rw[Ej h3];exact(aOB c).symm
 ·rw[k2 b (by omega)]
end
theorem Eg{h:Aa}{b:Nat}{c:CB}(e:h[b]?=some c):b<h.length:=(aEY.1 e).1
structure LLG(st lo:Nat)(ov:AV)(h:Aa)(rows Q:List (List AV))(Ro:List Nat):Prop where
 own:a5R 0 st false rows ov h
 nil:rows=[]→ov=.nils
 q:Bt (rd 5 (hf h)) rows=some (Q,Ro)
 dx:∀b∈Ro,lo≤b
 dov:∀a b r n,ov=.slr a b r n→lo≤b∧b∉Ro∧b<h.length
theorem LLG.none{st lo:Nat}{h:Aa}:LLG st lo .nils h [] [] []:=⟨.inl ⟨rfl,rfl⟩,fun _=>rfl,rfl,by simp,fun _ _ _ _ e=>by cases e⟩
theorem LLG.keep{st lo:Nat}{ov:AV}{h h':Aa}{rows Q:List (List AV)}{Ro:List Nat}(I:LLG st lo ov h rows Q Ro)(hl:h.length≤h'.length)(k:∀b,lo≤b→b<h.length→h'[b]?=h[b]?):LLG st lo ov h' rows Q Ro:=by
 refine⟨?_,I.nil,?_,I.dx,fun a b r n e=>?_⟩
 ·rcases I.own with h1|⟨b,w,h1,h2⟩
  ·exact .inl h1
  ·exact .inr ⟨b,w,h1,by rw[k b (by have:=(I.dov _ _ _ _ h1).1;simpa using this) (Eg h2)];exact h2⟩
 ·refine aFQ I.q fun j hj z hz=>?_
  show(h'[j]?).bind Bq=_
  rw[k j (I.dx j hj) (aIE (by omega) I.q j hj)];exact hz
 ·obtain⟨a1,b1,c⟩:=I.dov a b r n e
  exact⟨a1,b1,by omega⟩
theorem LLG.snoc{st lo:Nat}{ov:AV}{h h':Aa}{rows Q:List (List AV)}{Ro:List Nat}(I:LLG st lo ov h rows Q Ro)(hl:h.length≤h'.length)(k:∀b,lo≤b→b<h.length→h'[b]?=h[b]?){r X:List AV}{R':List Nat}(hr:rdL (rd 5 (hf h')) r=some (X,R'))(hR:∀b∈R',h.length≤b)(hlo:lo≤h.length)(a:CB){m n:Nat}(hm:m=h'.length+1)(hn:n=rows.length+1):
 LLG st lo (.slr st m 0 n) (kl 0 ov h'++[a,.live st false false (rows++[r])]) (rows++[r]) (Q++[X]) (Ro++R'):=by
 subst hm hn
 have I':=I.keep hl k
 have lR:=aIE (by omega) I.q
 have lR':=aGL (by omega) hr
 have get:∀j,j<h'.length→(∀a m r n,ov=.slr a m r n→m≠j)→(kl 0 ov h'++[a,.live st false false (rows++[r])])[j]?=h'[j]?:=fun j hj ho=>arR _ hj ho
 have hlen:(kl 0 ov h').length=h'.length:=aDC ..
 have hnew:(kl 0 ov h'++[a,.live st false false (rows++[r])])[h'.length+1]?=some (.live st false false (rows++[r])):=by
  rw[aWS (by omega),hlen,show h'.length+1-h'.length=1 by omega];rfl
 have q1:Bt (rd 5 (hf (kl 0 ov h'++[a,.live st false false (rows++[r])]))) rows=some (Q,Ro):=aFQ I'.q fun j hj z hz=>by
  show((kl 0 ov h'++_)[j]?).bind Bq=_
  rw[get j (by have:=lR j hj;omega) fun a m r n e e2=>(I.dov a m r n e).2.1 (e2▸hj)];exact hz
 have q2:rdL (rd 5 (hf (kl 0 ov h'++[a,.live st false false (rows++[r])]))) r=some (X,R'):=agI hr fun j hj z hz=>by
  show((kl 0 ov h'++_)[j]?).bind Bq=_
  rw[get j (lR' j hj) fun a m r n e e2=>by have:=(I.dov a m r n e).2.2;have:=hR j hj;omega];exact hz
 refine⟨.inr ⟨h'.length+1,false,by simp,hnew⟩,fun e=>by simp at e,?_,fun b hb=>?_,fun a b r n e=>?_⟩
 ·simpa using aEB q1 q2
 ·rcases aE6.1 hb with hb|hb
  ·exact I.dx b hb
  ·have:=hR b hb;omega
 ·cases e
  refine⟨by omega,fun hb=>?_,by simp[hlen]⟩
  rcases aE6.1 hb with hb|hb
  ·have:=lR _ hb;omega
  ·have:=lR' _ hb;omega
theorem a26(d b:Nat):Aq (d+1) (.mapr b)=false:=ao8 rfl rfl
theorem aZZ(b:Nat):AV.isCell (.mapr b)=true:=ao8 rfl rfl
theorem aZC(b:Nat):AV.flat (.mapr b)=false:=ao8 rfl rfl
theorem a09(b:Nat):Ad (.mapr b)=[.mapr b]:=ao8 rfl rfl
theorem a2I(d:Nat)(m:List Nat)(b:Nat):Bc (d+1) m (.mapr b)=some (.mapr (place m b).1,(place m b).2):=ao8 rfl rfl
theorem a2Y(d:Nat)(g:HF)(b:Nat):Ao (d+1) g (.mapr b)=[]:=ao8 rfl rfl
theorem a1A(h:Aa)(b:Nat):rdV h (.mapr b)=some (.mapr b):=ao8 rfl rfl
def Kt:=PLift.up (agX @a26 (agX @aZZ (agX @aZC (agX @a09 (agX @a2I (agX @a2Y @a1A))))))
theorem aHI(c:CB):c.quiet c.clean=true∨(c.clean.mark=c∧c.isLive=true):=by
 cases c with
 |lp a b d e st=>exact .inr ⟨rfl,rfl⟩
 |_=>exact .inl rfl
theorem aFI:∀(cs:List CB) (i:Nat),∀e∈Gq i cs,∃b,e.foot=.blk b∧i≤b
 | [],i,e,h=>by cases h
 |c::cs,i,e,h=>by
  rcases aC6.1 h with rfl|h
  ·exact⟨i,rfl,aAR _⟩
  ·obtain⟨b,h1,h2⟩:=aFI cs (i+1) e h
   exact⟨b,h1,by omega⟩
theorem aLL:∀{h h':Aa} {i:Nat} {es:List Ab},Bg i h h'=some es→∀e∈es,∃b,e.foot=.blk b∧(i+h.length≤b∨∃j c₀ c,b=i+j∧h[j]?=some c₀∧h'[j]?=some c∧c₀.quiet c=false)
 | [],h',i,es,hs,e,he=>by
   simp only[Bg,aNV.injEq]at hs;subst hs
   obtain⟨b,h1,h2⟩:=aFI h' i e he
   exact⟨b,h1,.inl (by simpa using h2)⟩
 |c₀::h,[],i,es,hs,e,he=>by simp[Bg]at hs
 |c₀::h,c::h',i,es,hs,e,he=>by
  have up:∀{es':List Ab},Bg (i+1) h h'=some es'→e∈es'→∃b,e.foot=.blk b∧(i+(c₀::h).length≤b∨∃j c₀' c',b=i+j∧(c₀::h)[j]?=some c₀'∧(c::h')[j]?=some c'∧c₀'.quiet c'=false):=fun {es'} h1 h2=>by
   obtain⟨b,k1,k2⟩:=aLL h1 e h2
   refine⟨b,k1,?_⟩
   rcases k2 with k2|⟨j,x,y,k3,k4,k5,k6⟩
   ·exact .inl (by simp;omega)
   ·exact .inr ⟨j+1,x,y,by omega,by simpa using k4,by simpa using k5,k6⟩
  unfold Bg at hs
  cases hq:c₀.quiet c with
  |true=>rw[hq]at hs;exact up hs he
  |false=>
   rw[hq]at hs
   simp only[cond_false]at hs
   cases hl:c₀.isLive with
   |false=>rw[hl]at hs;simp at hs
   |true=>
    rw[hl]at hs
    simp only[cond_true,aqM]at hs
    obtain⟨es',h1,rfl⟩:=hs
    rcases aC6.1 he with rfl|he
    ·exact⟨i,rfl,.inr ⟨0,c₀,c,by simp,rfl,rfl,hq⟩⟩
    ·exact up h1 he
theorem aXS{O:Dx}{H:Aa}{f:Nat}{args:List AV}{Q:Dm→Aa→Prop}(hd:hdR args=true)(hm:O.md f=true)(K:ShQ O f args (Gt H) Q)(ok:∀o G,Q o G→aMF H G):
 ∃o G es,cl O H (some (.func (.func f) [] [])) (some args)=some (o,es)∧Bn H es=Kv H G∧Bg 0 H G=some es∧Q o G:=by
 obtain⟨o,G,hc,hq⟩:=K
 obtain⟨es,e1,e2⟩:=az3 H G [] (ok o G hq)
 have e1':Bg 0 H G=some es:=e1
 refine⟨o,G,es,?_,by simpa using e2,e1',hq⟩
 rw[aQE]
 simp only[aJY,aM0,hd,if_true,shC,hm,aNT,hc]
 rw[aFX,e1'];rfl
theorem aN6{O:Dx}{H:Aa}{f:Nat}{args:List AV}{Q:Dm→Aa→Prop}(hd:hdR args=true)(hm:O.md f=true)(K:ShQ O f args (Gt H) fun o G=>Q o G∧Hv [] (Gt H) G):
 ∃o G es M,cl O H (some (.func (.func f) [] [])) (some args)=some (o,es)∧Bn H es=M∧Q o G∧M.length=G.length∧H.length≤M.length∧(∀b,b<H.length→M[b]?=H[b]?)∧(∀b,H.length≤b→M[b]?=G[b]?)∧∀e∈es,∃b,e.foot=.blk b∧(H.length≤b∨∃c,H[b]?=some c∧c.quiet c.clean=false):=by
 obtain⟨o,G,es,e1,e2,e3,hq,hk⟩:=aXS hd hm K fun o G ⟨_,hk⟩=>⟨by have:=hk.len;rwa[Bv]at this,fun i c₀ c h1 h2=>by
  have h3:=hk.same i (by rw[Bv];exact Eg h1) (by simp)
  rw[Ej h1,h2]at h3;cases h3
  rcases aHI c₀ with h|h
  ·exact .inl h
  ·exact .inr h.2⟩
 have hl:H.length≤G.length:=by have:=hk.len;rwa[Bv]at this
 refine⟨o,G,es,Kv H G,e1,e2,hq,adL hl,by rw[adL hl];exact hl,fun b hb=>?_,fun b hb=>aCJ hl hb,fun e he=>?_⟩
 ·have h1:H[b]?=some H[b]:=aJ9 hb
  have h2:=hk.same b (by rw[Bv];exact hb) (by simp)
  rw[Ej h1]at h2
  rcases aHI H[b]with h|h
  ·rw[Jt h1 h2 h,h1]
  ·cases hqq:(H[b]).quiet (H[b]).clean with
   |true=>rw[Jt h1 h2 hqq,h1]
   |false=>rw[azS h1 h2 hqq,h.1,h1]
 ·obtain⟨b,k1,k2⟩:=aLL e3 e he
  refine⟨b,k1,?_⟩
  rcases k2 with k2|⟨j,c₀,c,k3,k4,k5,k6⟩
  ·exact .inl (by omega)
  ·have h2:=hk.same j (by rw[Bv];exact Eg k4) (by simp)
   rw[Ej k4,k5]at h2
   cases h2
   exact .inr ⟨c₀,by rw[k3,Nat.zero_add];exact k4,k6⟩
theorem LLG.read{st lo:Nat}{ov:AV}{h:Aa}{rows Q:List (List AV)}{Ro:List Nat}(I:LLG st lo ov h rows Q Ro):∃R,rd 6 (hf h) ov=some (Bo st false false Q,R)∧(∀b∈R,lo≤b)∧R.length≤1+Ro.length:=by
 have key:∀d,Bt (rd d (hf h)) rows=some (Q,Ro)→∃R,rd (d+1) (hf h) ov=some (Bo st false false Q,R)∧(∀b∈R,lo≤b)∧R.length≤1+Ro.length:=fun d hq=>by
  rcases I.own with⟨rfl,rfl⟩|⟨b,w,rfl,hb⟩
  ·simp[Bt]at hq;obtain⟨rfl,rfl⟩:=hq;exact⟨[],by simp[rd,Bo],by simp,by simp⟩
  ·have hne:rows≠[]:=fun e=>by have:=I.nil e;cases this
   have hb':(hf h (b+0)).bind Bq=some (st,false,rows):=by show(h[b]?).bind Bq=_;rw[hb];rfl
   refine⟨(b+0)::Ro,?_,fun c hc=>?_,by simp;omega⟩
   ·simp only[rd,hb',awX,if_true,and_self,cond_false,hq,aC8]
    have hl:Q≠[]:=fun e=>by
     cases rows with
     |nil=>exact hne rfl
     |cons r rs=>
      simp only[Bt,aqT,aqM]at hq
      obtain⟨_,_,_,_,hq⟩:=hq
      simp only[Prod.mk.injEq]at hq
      rw[e]at hq;cases hq.1
    cases Q with
    |nil=>exact absurd rfl hl
    |cons r rs=>rfl
   ·rcases aC6.1 hc with rfl|hc
    ·exact(I.dov _ _ _ _ rfl).1
    ·exact I.dx c hc
 exact key 5 I.q
theorem aGN{f:AV→Option (AV × List Nat)}:∀{l:List (List AV)} {p:List (List AV) × List Nat} {i:Nat} {r:List AV} {q:List AV × List Nat},Bt f l=some p→l[i]?=some r→rdL f r=some q→∀b∈q.2,b∈p.2
 | [],p,i,r,q,_,h,_=>by simp at h
 |a::l,p,i,r,q,hp,hi,hq=>by
  simp only[Bt,aqT,aqM]at hp
  obtain⟨x,hx,y,hy,rfl⟩:=hp
  cases i with
  |zero=>
   simp at hi;subst hi
   rw[hx]at hq;cases hq
   exact fun b hb=>aFD _ hb
  |succ i=>
   exact fun b hb=>aHS _ (aGN hy (by simpa using hi) hq b hb)
theorem aFO{g:HF}{d st b r n:Nat}{x:AV}{R:List Nat}{rows:List (List AV)}(h:rd (d+1) g (.slr st b r n)=some (x,R))(hb:(g b).bind Bq=some (st,false,rows)):∃q,Bt (rd d g) rows=some q∧R=b::q.2∧x=.imm st false q.1:=by
 simp only[rd,hb,awX,cond_false]at h
 split at h
 ·obtain⟨q,hq,h⟩:=aqM.1 h
  simp only[Prod.mk.injEq]at h
  exact⟨q,hq,h.2.symm,h.1.symm⟩
 ·cases h
end Go.Ev
namespace Go.Ev
namespace Net
abbrev Edge:=Nat × Nat × Nat
inductive Kw(E:List Edge)(s:Nat):Nat→Nat→Nat→Prop
 |nil (n:Nat):Kw E s n s 0
 |fwd {n a b c k:Nat} (h:Kw E s n a k) (he:(a,b,c)∈E):Kw E s (n+1) b (k+c)
 |bwd {n a b c k:Nat} (h:Kw E s n b k) (he:(a,b,c)∈E):Kw E s (n+1) a (k+c)
def Stp(E:List Edge)(u v c:Nat):Prop:=(u,v,c)∈E∨(v,u,c)∈E
theorem Kw.step{E:List Edge}{s n u v k c:Nat}(h:Kw E s n u k)(hs:Stp E u v c):Kw E s (n+1) v (k+c):=hs.elim (fun e=>.fwd h e) (fun e=>.bwd h e)
theorem Kw.cases'{E:List Edge}{s n v k:Nat}(h:Kw E s n v k):(v=s∧k=0)∨∃m u j c,n=m+1∧Kw E s m u j∧Stp E u v c∧k=j+c:=by
 cases h with
 |nil=>exact .inl ⟨rfl,rfl⟩
 |fwd h he=>exact .inr ⟨_,_,_,_,rfl,h,.inl he,rfl⟩
 |bwd h he=>exact .inr ⟨_,_,_,_,rfl,h,.inr he,rfl⟩
theorem Kw.more{E:List Edge}{s n v k:Nat}(h:Kw E s n v k):∀{m:Nat},n≤m→Kw E s m v k:=by
 induction h with
 |nil n=>exact fun _=>.nil _
 |fwd h he ih=>
  intro m hm
  obtain⟨m,rfl⟩:∃j,m=j+1:=⟨m-1,by omega⟩
  exact .fwd (ih (by omega)) he
 |bwd h he ih=>
  intro m hm
  obtain⟨m,rfl⟩:∃j,m=j+1:=⟨m-1,by omega⟩
  exact .bwd (ih (by omega)) he
def Cst(E:List Edge)(s v k:Nat):Prop:=∃n,Kw E s n v k
theorem Cst.step{E:List Edge}{s u v k c:Nat}(h:Cst E s u k)(hs:Stp E u v c):Cst E s v (k+c):=by obtain⟨n,h⟩:=h;exact⟨_,h.step hs⟩
def Lst(E:List Edge)(s v k:Nat):Prop:=Cst E s v k∧∀j,Cst E s v j→k≤j
theorem least{p:Nat→Prop}:(∃n,p n)→∃n,p n∧∀j,p j→n≤j:=fun⟨n,hn⟩=>by
 induction n using aT1 with
 |ind n ih=>
  by_cases h:∃j,j<n∧p j
  ·obtain⟨j,h1,h2⟩:=h;exact ih j h1 h2
  ·exact⟨n,hn,fun j hj=>Nat.le_of_not_lt fun hlt=>h ⟨j,hlt,hj⟩⟩
theorem Lst.ex{E:List Edge}{s v k:Nat}(h:Cst E s v k):∃j,Lst E s v j:=least ⟨k,h⟩
theorem Lst.eq{E:List Edge}{s v k j:Nat}(h1:Lst E s v k)(h2:Lst E s v j):k=j:=Nat.le_antisymm (h1.2 j h2.1) (h2.2 k h1.1)
def Lvl(E:List Edge)(s n v:Nat):Prop:=∃k,Lst E s v k∧Kw E s n v k
theorem Lvl.more{E:List Edge}{s n m v:Nat}(h:Lvl E s n v)(hm:n≤m):Lvl E s m v:=by obtain⟨k,h1,h2⟩:=h;exact⟨k,h1,h2.more hm⟩
theorem Lvl.prev{E:List Edge}{s n v:Nat}(h:Lvl E s (n+1) v):v=s∨∃u c k,Lvl E s n u∧Lst E s u k∧Stp E u v c∧Lst E s v (k+c):=by
 obtain⟨k,h1,h2⟩:=h
 rcases h2.cases' with⟨h,_⟩|⟨m,u,j,c,hm,hw,hs,rfl⟩
 ·exact .inl h
 ·cases hm
  have hl:Lst E s u j:=⟨⟨_,hw⟩,fun i hi=>by have:=h1.2 _ (hi.step hs);omega⟩
  exact .inr ⟨u,c,j,⟨j,hl,hw⟩,hl,hs,h1⟩
theorem Lvl.next{E:List Edge}{s n u v c k:Nat}(h:Lvl E s n u)(hu:Lst E s u k)(hs:Stp E u v c)(hv:Lst E s v (k+c)):Lvl E s (n+1) v:=by
 obtain⟨j,h1,h2⟩:=h
 cases h1.eq hu
 exact⟨_,hv,h2.step hs⟩
theorem Lst.src{E:List Edge}{s:Nat}:Lst E s s 0:=⟨⟨0,.nil 0⟩,fun j _=>aC7 j⟩
theorem Lvl.src{E:List Edge}{s:Nat}(n:Nat):Lvl E s n s:=⟨0,Lst.src,.nil n⟩
theorem Lvl.stable{E:List Edge}{s n:Nat}(h:∀v,Lvl E s (n+1) v→Lvl E s n v):∀m v,Lvl E s m v→Lvl E s n v
 |0,v,hv=>hv.more (aC7 n)
 |m+1,v,hv=>by
  rcases hv.prev with rfl|⟨u,c,k,h1,h2,h3,h4⟩
  ·exact Lvl.src n
  ·exact h v ((Lvl.stable h m u h1).next h2 h3 h4)
noncomputable def aE1(p:Nat→Prop):Nat→Nat
 |0=>0
 |N+1=>aE1 p N+(@ite Nat (p N) (Classical.propDecidable _) 1 0)
theorem aNY(p:Nat→Prop):∀N,aE1 p N≤N
 |0=>aAR 0
 |N+1=>by
  have:=aNY p N
  unfold aE1
  split<;>omega
theorem aL9{p q:Nat→Prop}(h:∀v,p v→q v):∀N,aE1 p N≤aE1 q N
 |0=>aAR 0
 |N+1=>by
  have:=aL9 h N
  unfold aE1
  split
  ·rename_i h1;rw[if_pos (h _ h1)];omega
  ·split<;>omega
theorem aON{p q:Nat→Prop}(h:∀v,p v→q v){v:Nat}(hq:q v)(hp:¬p v):∀{N:Nat},v<N→aE1 p N+1≤aE1 q N
 |0,hv=>by omega
 |N+1,hv=>by
  unfold aE1
  by_cases e:v=N
  ·subst e
   have:=aL9 h v
   rw[if_neg hp,if_pos hq];omega
  ·have:=aON h hq hp (N:=N) (by omega)
   split
   ·rename_i h1;rw[if_pos (h _ h1)];omega
   ·split<;>omega
theorem aP3{p:Nat→Prop}{v:Nat}(hp:p v):∀{N:Nat},v<N→1≤aE1 p N
 |0,hv=>by omega
 |N+1,hv=>by
  unfold aE1
  by_cases e:v=N
  ·subst e;rw[if_pos hp];omega
  ·have:=aP3 hp (N:=N) (by omega);split<;>omega
theorem a0L{E:List Edge}{s N:Nat}(hs:s<N)(hE:∀a b c,(a,b,c)∈E→a<N∧b<N):∀m v,Lvl E s m v→Lvl E s (N-1) v:=by
 have lt:∀m v,Lvl E s m v→v<N:=fun m=>by
  induction m with
  |zero=>
   intro v ⟨k,_,h⟩
   rcases h.cases' with⟨rfl,_⟩|⟨_,_,_,_,h,_⟩
   ·exact hs
   ·cases h
  |succ m ih=>
   intro v hv
   rcases hv.prev with rfl|⟨u,c,k,h1,h2,h3,h4⟩
   ·exact hs
   ·rcases h3 with h3|h3
    ·exact(hE _ _ _ h3).2
    ·exact(hE _ _ _ h3).1
 have grow:∀n,(∃k,k≤n∧∀v,Lvl E s (k+1) v→Lvl E s k v)∨n+1≤aE1 (Lvl E s n) N:=fun n=>by
  induction n with
  |zero=>exact .inr (aP3 (Lvl.src 0) hs)
  |succ n ih=>
   rcases ih with⟨k,h1,h2⟩|h
   ·exact .inl ⟨k,by omega,h2⟩
   ·by_cases e:∀v,Lvl E s (n+1) v→Lvl E s n v
    ·exact .inl ⟨n,by omega,e⟩
    ·obtain⟨v,hv⟩:=Classical.not_forall.1 e
     have h1:Lvl E s (n+1) v:=Classical.byContradiction fun h=>hv fun h'=>(h h').elim
     have h2:¬Lvl E s n v:=fun h=>hv fun _=>h
     have:=aON (p:=Lvl E s n) (q:=Lvl E s (n+1)) (fun v h=>h.more (Nat.le_succ n)) h1 h2 (lt _ v h1)
     exact .inr (by omega)
 intro m v hv
 rcases grow N with⟨k,h1,h2⟩|h
 ·by_cases e:k≤N-1
  ·exact(Lvl.stable h2 m v hv).more e
  ·
   have hk:k=N:=by omega
   rcases grow (N-1)with⟨k',h1',h2'⟩|h'
   ·exact(Lvl.stable h2' m v hv).more h1'
   ·exact Classical.byContradiction fun hn=>by
     have:=aON (p:=Lvl E s (N-1)) (q:=fun _=>True) (fun _ _=>trivial) trivial hn (lt _ v hv)
     have:=aNY (fun _=>True) N
     omega
 ·have:=aNY (Lvl E s N) N;omega
theorem Lst.lvl{E:List Edge}{s N v k:Nat}(hs:s<N)(hE:∀a b c,(a,b,c)∈E→a<N∧b<N)(h:Lst E s v k):Lvl E s (N-1) v:=by
 obtain⟨n,hw⟩:=h.1
 exact a0L hs hE n v ⟨k,h,hw⟩
theorem Kw.le{E:List Edge}{s n v k:Nat}(hc:∀a b c,(a,b,c)∈E→c≤1)(h:Kw E s n v k):k≤n:=by
 induction h with
 |nil=>omega
 |fwd h he ih=>have:=hc _ _ _ he;omega
 |bwd h he ih=>have:=hc _ _ _ he;omega
theorem Lst.le{E:List Edge}{s N v k:Nat}(hs:s<N)(hE:∀a b c,(a,b,c)∈E→a<N∧b<N)(hc:∀a b c,(a,b,c)∈E→c≤1)(h:Lst E s v k):k≤N-1:=by
 obtain⟨j,h1,h2⟩:=h.lvl hs hE
 cases h1.eq h
 exact h2.le hc
def azI(E:List Edge)(s N far:Nat)(d:Nat→Nat):Prop:=∀v,v<N→(∀k,Lst E s v k→d v=k)∧((∀k,¬Cst E s v k)→d v=far)
theorem aWE{E:List Edge}{s N far:Nat}{d:Nat→Nat}(h0:d s=0)(hr:∀v,v<N→d v=far∨Cst E s v (d v))(hc:∀u v c,Stp E u v c→d v≤d u+c)(hf:∀v k,Lst E s v k→k<far):azI E s N far d:=fun v hv=>by
 have le:∀n v k,Kw E s n v k→d v≤k:=fun n v k h=>by
  induction h with
  |nil=>omega
  |fwd h he ih=>have:=hc _ _ _ (.inl he);omega
  |bwd h he ih=>have:=hc _ _ _ (.inr he);omega
 refine⟨fun k hk=>?_,fun h=>?_⟩
 ·obtain⟨n,hn⟩:=hk.1
  have h1:=le n v k hn
  rcases hr v hv with h|h
  ·have:=hf v k hk;omega
  ·have:=hk.2 _ h;omega
 ·rcases hr v hv with h1|h1
  ·exact h1
  ·exact(h _ h1).elim
def aE3(d:List Nat)(e:Edge):List Nat:=(d.set e.2.1 (min (d.getD e.2.1 0) (d.getD e.1 0+e.2.2))).set e.1 (min (d.getD e.1 0) (d.getD e.2.1 0+e.2.2))
def a81(E:List Edge)(d:List Nat):List Nat:=E.foldl aE3 d
def aEX(E:List Edge):Nat→List Nat→List Nat
 |0,d=>d
 |n+1,d=>aEX E n (a81 E d)
theorem aFY(d:List Nat)(e:Edge):(aE3 d e).length=d.length:=by simp[aE3]
theorem aBP{d:List Nat}{i v x:Nat}(hi:i<d.length):(d.set i x).getD v 0=if i=v then x else d.getD v 0:=by
 simp only[aY5]
 by_cases h:i=v
 ·subst h;rw[aY6 hi,if_pos rfl];rfl
 ·rw[aY4 h,if_neg h]
theorem aJ5{d:List Nat}{a b c:Nat}(ha:a<d.length)(hb:b<d.length)(hab:a≠b)(v:Nat):(aE3 d (a,b,c)).getD v 0=if v=a then min (d.getD a 0) (d.getD b 0+c)else if v=b then min (d.getD b 0) (d.getD a 0+c)else d.getD v 0:=by
 unfold aE3
 rw[aBP (by simpa using ha),aBP hb]
 by_cases h1:v=a
 ·subst h1;simp
 ·rw[if_neg (fun e=>h1 e.symm),if_neg h1]
  by_cases h2:v=b
  ·subst h2;simp
  ·rw[if_neg (fun e=>h2 e.symm),if_neg h2]
structure aF2(E:List Edge)(s N far:Nat)(d:List Nat):Prop where
 len:d.length=N
 src:d.getD s 0=0
 real:∀v,v<N→d.getD v 0=far∨Cst E s v (d.getD v 0)
 le:∀v,v<N→d.getD v 0≤far
theorem aF2.one{E:List Edge}{s N far:Nat}{d:List Nat}(I:aF2 E s N far d){a b c:Nat}(he:(a,b,c)∈E)(ha:a<N)(hb:b<N)(hab:a≠b):aF2 E s N far (aE3 d (a,b,c)):=by
 have hl:=I.len
 have at_:=fun v=>aJ5 (d:=d) (c:=c) (by omega) (by omega) hab v
 have mn:∀u v,u<N→v<N→Stp E u v c→(min (d.getD v 0) (d.getD u 0+c)=far∨Cst E s v (min (d.getD v 0) (d.getD u 0+c))):=fun u v hu hv hs=>by
  have h1:=I.le v hv
  rcases Nat.le_total (d.getD v 0) (d.getD u 0+c)with h|h
  ·rw[Nat.min_eq_left h];exact I.real v hv
  ·rw[Nat.min_eq_right h]
   rcases I.real u hu with hh|hh
   ·left;omega
   ·exact .inr (hh.step hs)
 refine⟨by rw[aFY,hl],?_,fun v hv=>?_,fun v hv=>?_⟩
 ·rw[at_]
  have:=I.src
  split
  ·rename_i h;subst h;rw[this];simp
  ·split
   ·rename_i h;subst h;rw[this];simp
   ·exact this
 ·rw[at_]
  split
  ·rename_i h;subst h;exact mn b v hb hv (.inr he)
  ·split
   ·rename_i h;subst h;exact mn a v ha hv (.inl he)
   ·exact I.real v hv
 ·rw[at_]
  split
  ·rename_i h;subst h;have:=I.le v hv;omega
  ·split
   ·rename_i h;subst h;have:=I.le v hv;omega
   ·exact I.le v hv
def EOk(E:List Edge)(N:Nat):Prop:=∀a b c,(a,b,c)∈E→a<N∧b<N∧a≠b∧c≤1
theorem aPZ{d:List Nat}{a b c:Nat}(ha:a<d.length)(hb:b<d.length)(hab:a≠b)(v:Nat):(aE3 d (a,b,c)).getD v 0≤d.getD v 0:=by
 rw[aJ5 ha hb hab]
 split
 ·rename_i h;subst h;omega
 ·split
  ·rename_i h;subst h;omega
  ·exact aAR _
theorem aKW:∀{L:List Edge} {d:List Nat} {N:Nat},d.length=N→EOk L N→∀v,(L.foldl aE3 d).getD v 0≤d.getD v 0
 | [],d,N,_,_,v=>aAR _
 |(a,b,c)::L,d,N,hl,hE,v=>by
  have h:=hE a b c (aC5 ..)
  have h1:=aKW (L:=L) (d:=aE3 d (a,b,c)) (by rw[aFY,hl]) (fun a b c hm=>hE a b c (aC4 _ hm)) v
  have h2:=aPZ (d:=d) (c:=c) (by omega) (by omega) h.2.2.1 v
  rw[aNZ];omega
theorem aUS{E:List Edge}{s N far:Nat}:∀{L:List Edge} {d:List Nat},(∀e∈L,e∈E)→EOk E N→aF2 E s N far d→aF2 E s N far (L.foldl aE3 d)
 | [],d,_,_,I=>I
 |(a,b,c)::L,d,hs,hE,I=>by
  have he:=hs _ (aC5 ..)
  have h:=hE a b c he
  rw[aNZ]
  exact aUS (L:=L) (fun e hm=>hs e (aC4 _ hm)) hE (I.one he h.1 h.2.1 h.2.2.1)
theorem aG3{N:Nat}:∀{L:List Edge} {d:List Nat},d.length=N→EOk L N→∀{u v c k:Nat},(u,v,c)∈L∨(v,u,c)∈L→d.getD u 0≤k→(L.foldl aE3 d).getD v 0≤k+c
 | [],d,_,_,u,v,c,k,h,_=>by rcases h with h|h<;>cases h
 |(a,b,e)::L,d,hl,hE,u,v,c,k,h,hk=>by
  have q:=hE a b e (aC5 ..)
  have hE':EOk L N:=fun a b c hm=>hE a b c (aC4 _ hm)
  have hl':(aE3 d (a,b,e)).length=N:=by rw[aFY,hl]
  have key:(u=a∧v=b∧c=e)∨(u=b∧v=a∧c=e)∨((u,v,c)∈L∨(v,u,c)∈L):=by
   rcases h with h|h
   ·rcases aC6.1 h with h|h
    ·cases h;exact .inl ⟨rfl,rfl,rfl⟩
    ·exact .inr (.inr (.inl h))
   ·rcases aC6.1 h with h|h
    ·cases h;exact .inr (.inl ⟨rfl,rfl,rfl⟩)
    ·exact .inr (.inr (.inr h))
  rw[aNZ]
  have at_:=fun v=>aJ5 (d:=d) (c:=e) (by omega) (by omega) q.2.2.1 v
  rcases key with⟨rfl,rfl,rfl⟩|⟨rfl,rfl,rfl⟩|h
  ·have h1:=aKW hl' hE' v
   rw[at_ v,if_neg (fun e=>q.2.2.1 e.symm),if_pos rfl]at h1
   omega
  ·have h1:=aKW hl' hE' v
   rw[at_ v,if_pos rfl]at h1
   omega
  ·have h2:=aPZ (d:=d) (c:=e) (by omega) (by omega) q.2.2.1 u
   exact aG3 hl' hE' h (by omega)
theorem aKF{E:List Edge}{s N far:Nat}(hE:EOk E N):∀(n:Nat) {d:List Nat},aF2 E s N far d→aF2 E s N far (aEX E n d)
 |0,d,I=>I
 |n+1,d,I=>aKF hE n (aUS (fun _ h=>h) hE I)
theorem aGU(E:List Edge):∀(n:Nat) (d:List Nat),aEX E (n+1) d=a81 E (aEX E n d)
 |0,d=>rfl
 |n+1,d=>by rw[aEX,aGU E n];rfl
theorem aL1{E:List Edge}{s N far:Nat}(hE:EOk E N){d:List Nat}(I:aF2 E s N far d):∀(n:Nat) {v k:Nat},Lvl E s n v→Lst E s v k→(aEX E n d).getD v 0≤k
 |0,v,k,⟨j,h1,h2⟩,hk=>by
  rcases h2.cases' with⟨rfl,rfl⟩|⟨_,_,_,_,h,_⟩
  ·rw[aEX,I.src];exact aC7 _
  ·cases h
 |n+1,v,k,hv,hk=>by
  rw[aGU]
  have J:=aKF hE n I
  rcases hv.prev with rfl|⟨u,c,j,h1,h2,h3,h4⟩
  ·have K:=aKF hE (n+1) I
   rw[aGU]at K
   rw[K.src];exact aC7 _
  ·cases h4.eq hk
   exact aG3 J.len hE h3 (aL1 hE I n h1 h2)
theorem aOL{E:List Edge}{s N far:Nat}(hs:s<N)(hE:EOk E N)(hf:N≤far){d:List Nat}(I:aF2 E s N far d){n:Nat}(hn:N-1≤n):azI E s N far (fun v=>(aEX E n d).getD v 0):=fun v hv=>by
 have J:=aKF hE n I
 have hE1:∀a b c,(a,b,c)∈E→a<N∧b<N:=fun a b c h=>⟨(hE a b c h).1,(hE a b c h).2.1⟩
 have hE2:∀a b c,(a,b,c)∈E→c≤1:=fun a b c h=>(hE a b c h).2.2.2
 refine⟨fun k hk=>?_,fun h=>?_⟩
 ·have h1:=aL1 hE I n ((hk.lvl hs hE1).more hn) hk
  have h2:=hk.le hs hE1 hE2
  rcases J.real v hv with h|h
  ·simp only[h]at h1 ⊢;omega
  ·have:=hk.2 _ h;simp only;omega
 ·rcases J.real v hv with h1|h1
  ·exact h1
  ·exact(h _ h1).elim
end Net
end Go.Ev
namespace Go.Ev
namespace Net
structure DqI(E:List Edge)(s N far:Nat)(d q:List Nat)(X:Nat→Nat→Nat→Prop):Prop where
 i:aF2 E s N far d
 w:∀r∈q,r<N
 tr:∀u v c,Stp E u v c→u∈q∨X u v c∨d.getD v 0≤d.getD u 0+c
def Pe(E:List Edge)(r i u v c:Nat):Prop:=u=r∧∃j,i≤j∧(E[j]?=some (r,v,c)∨E[j]?=some (v,r,c))
theorem DqI.take{E:List Edge}{s N far:Nat}{d q:List Nat}{r:Nat}(I:DqI E s N far d (r::q) (fun _ _ _=>False)):r<N∧DqI E s N far d q (Pe E r 0):=by
 refine⟨I.w r (aC5 ..),I.i,fun u hu=>I.w u (aC4 _ hu),fun u v c h=>?_⟩
 rcases I.tr u v c h with h1|h1|h1
 ·rcases aC6.1 h1 with rfl|h1
  ·right;left
   refine⟨rfl,?_⟩
   rcases h with h|h
   ·obtain⟨j,hj⟩:=aS7 h;exact⟨j,aC7 j,.inl hj⟩
   ·obtain⟨j,hj⟩:=aS7 h;exact⟨j,aC7 j,.inr hj⟩
  ·exact .inl h1
 ·exact h1.elim
 ·exact .inr (.inr h1)
theorem Pe.next{E:List Edge}{r i u v c:Nat}(h:Pe E r i u v c):Pe E r (i+1) u v c∨(u=r∧(E[i]?=some (r,v,c)∨E[i]?=some (v,r,c))):=by
 obtain⟨h1,j,h2,h3⟩:=h
 by_cases e:i=j
 ·subst e;exact .inr ⟨h1,h3⟩
 ·exact .inl ⟨h1,j,by omega,h3⟩
theorem DqI.skip{E:List Edge}{s N far:Nat}{d q:List Nat}{r i a b c:Nat}(I:DqI E s N far d q (Pe E r i))(hi:E[i]?=some (a,b,c))(ha:r≠a)(hb:r≠b):DqI E s N far d q (Pe E r (i+1)):=by
 refine⟨I.i,I.w,fun u v c' h=>?_⟩
 rcases I.tr u v c' h with h1|h1|h1
 ·exact .inl h1
 ·rcases h1.next with h1|⟨_,h2|h2⟩
  ·exact .inr (.inl h1)
  ·rw[hi]at h2;cases h2;exact(ha rfl).elim
  ·rw[hi]at h2;cases h2;exact(hb rfl).elim
 ·exact .inr (.inr h1)
theorem DqI.same{E:List Edge}{s N far:Nat}{d q:List Nat}{r i t c:Nat}(I:DqI E s N far d q (Pe E r i))(hi:E[i]?=some (r,t,c)∨E[i]?=some (t,r,c))(hn:d.getD t 0≤d.getD r 0+c):DqI E s N far d q (Pe E r (i+1)):=by
 refine⟨I.i,I.w,fun u v c' h=>?_⟩
 rcases I.tr u v c' h with h1|h1|h1
 ·exact .inl h1
 ·rcases h1.next with h1|⟨rfl,h2⟩
  ·exact .inr (.inl h1)
  ·right;right
   rcases hi with h3|h3<;>rcases h2 with h2|h2<;>(rw[h3]at h2;cases h2;exact hn)
 ·exact .inr (.inr h1)
theorem DqI.less{E:List Edge}{s N far:Nat}{d q q':List Nat}{r i t c:Nat}(I:DqI E s N far d q (Pe E r i))(hr:r<N)(ht:t<N)(hrt:r≠t)(hi:E[i]?=some (r,t,c)∨E[i]?=some (t,r,c))(hn:d.getD r 0+c<d.getD t 0)(hq:∀x,x∈q'↔x=t∨x∈q):DqI E s N far (d.set t (d.getD r 0+c)) q' (Pe E r (i+1)):=by
 have hl:=I.i.len
 have at_:=fun v=>aBP (d:=d) (v:=v) (x:=d.getD r 0+c) (show t<d.length by omega)
 have hst:Stp E r t c:=hi.elim (fun h=>.inl (aSL h)) (fun h=>.inr (aSL h))
 have hfar:=I.i.le t ht
 have le:∀v,(d.set t (d.getD r 0+c)).getD v 0≤d.getD v 0:=fun v=>by
  rw[at_];split
  ·rename_i h;subst h;omega
  ·exact aAR _
 refine⟨⟨by simpa using hl,?_,fun v hv=>?_,fun v hv=>?_⟩,fun x hx=>?_,fun u v c' h=>?_⟩
 ·rw[at_];split
  ·rename_i h;subst h;have:=I.i.src;omega
  ·exact I.i.src
 ·rw[at_];split
  ·rename_i h;subst h
   rcases I.i.real r hr with h|h
   ·omega
   ·exact .inr (h.step hst)
  ·exact I.i.real v hv
 ·have:=le v;have:=I.i.le v hv;omega
 ·rcases(hq x).1 hx with rfl|h
  ·exact ht
  ·exact I.w x h
 ·by_cases hu:u=t
  ·exact .inl ((hq u).2 (.inl hu))
  ·have hdu:(d.set t (d.getD r 0+c)).getD u 0=d.getD u 0:=by rw[at_,if_neg (fun e=>hu e.symm)]
   rcases I.tr u v c' h with h1|h1|h1
   ·exact .inl ((hq u).2 (.inr h1))
   ·rcases h1.next with h1|⟨rfl,h2⟩
    ·exact .inr (.inl h1)
    ·right;right
     have hvt:v=t∧c'=c:=by
      rcases hi with h3|h3<;>rcases h2 with h2|h2<;>(rw[h3]at h2;cases h2;first|exact⟨rfl,rfl⟩|exact(hrt rfl).elim)
     obtain⟨rfl,rfl⟩:=hvt
     rw[hdu,at_,if_pos rfl]
     exact aAR _
   ·right;right
    have:=le v
    rw[hdu];omega
theorem Pe.none{E:List Edge}{r i u v c:Nat}(hi:E.length≤i):¬Pe E r i u v c:=fun⟨_,j,h1,h2⟩=>by
 rw[List.getElem?_eq_none (by omega)]at h2
 rcases h2 with h2|h2<;>cases h2
theorem DqI.done{E:List Edge}{s N far:Nat}{d q:List Nat}{r i:Nat}(I:DqI E s N far d q (Pe E r i))(hi:E.length≤i):DqI E s N far d q (fun _ _ _=>False):=
 ⟨I.i,I.w,fun u v c h=>(I.tr u v c h).imp id fun h=>h.elim (fun h=>(Pe.none hi h).elim) .inr⟩
theorem a2F{d:List Nat}:∀{t x:Nat},t<d.length→(d.set t x).sum+d.getD t 0=d.sum+x:=by
 induction d with
 |nil=>intro t x h;simp at h
 |cons a d ih=>
  intro t x h
  cases t with
  |zero=>simp;omega
  |succ t=>
   have:=ih (t:=t) (x:=x) (by simpa using h)
   simp only[aWL,List.sum_cons,List.getD_cons_succ]
   omega
theorem aCK{d:List Nat}{t x:Nat}(ht:t<d.length)(hx:x<d.getD t 0):(d.set t x).sum<d.sum:=by
 have:=a2F (d:=d) (x:=x) ht
 omega
theorem DqI.right{E:List Edge}{s N far:Nat}{d:List Nat}(hs:s<N)(hE:EOk E N)(hf:N≤far)(I:DqI E s N far d [] (fun _ _ _=>False)):azI E s N far (fun v=>d.getD v 0):=by
 refine aWE I.i.src I.i.real (fun u v c h=>?_) fun v k hk=>?_
 ·rcases I.tr u v c h with h1|h1|h1
  ·cases h1
  ·exact h1.elim
  ·exact h1
 ·have:=hk.le hs (fun a b c h=>⟨(hE a b c h).1,(hE a b c h).2.1⟩) (fun a b c h=>(hE a b c h).2.2.2)
  omega
theorem azI.num{E:List Edge}{s N far far':Nat}{d d':Nat→Nat}(h:azI E s N far d)(h':azI E s N far' d')(hf:N≤far)(hf':N≤far')(hs:s<N)(hE:EOk E N){v:Nat}(hv:v<N):(d v=far↔d' v=far')∧(d v≠far→d v=d' v)∧(d v≠far→d v<N):=by
 have hE1:∀a b c,(a,b,c)∈E→a<N∧b<N:=fun a b c h=>⟨(hE a b c h).1,(hE a b c h).2.1⟩
 have hE2:∀a b c,(a,b,c)∈E→c≤1:=fun a b c h=>(hE a b c h).2.2.2
 by_cases e:∃k,Cst E s v k
 ·obtain⟨k,hk⟩:=e
  obtain⟨j,hj⟩:=Lst.ex hk
  have h1:=(h v hv).1 j hj
  have h2:=(h' v hv).1 j hj
  have h3:=hj.le hs hE1 hE2
  rw[h1,h2]
  exact⟨⟨fun e=>by omega,fun e=>by omega⟩,fun _=>rfl,fun _=>by omega⟩
 ·have hn:∀k,¬Cst E s v k:=fun k hk=>e ⟨k,hk⟩
  have h1:=(h v hv).2 hn
  have h2:=(h' v hv).2 hn
  rw[h1,h2]
  exact⟨⟨fun _=>rfl,fun _=>rfl⟩,fun h=>(h rfl).elim,fun h=>(h rfl).elim⟩
end Net
end Go.Ev
namespace Go.Ev
namespace Net
def Jx(N s far:Nat):List Nat:=(aP8 N far).set s 0
theorem aE8{N s far v:Nat}(hs:s<N)(hv:v<N):(Jx N s far).getD v 0=if s=v then 0 else far:=by
 unfold Jx
 rw[aBP (by simpa using hs)]
 split
 ·rfl
 ·simp[aY5,hv]
theorem aOW{E:List Edge}{N s far:Nat}(hs:s<N):aF2 E s N far (Jx N s far):=by
 refine⟨by simp[Jx],by rw[aE8 hs hs,if_pos rfl],fun v hv=>?_,fun v hv=>?_⟩
 ·rw[aE8 hs hv]
  split
  ·rename_i h;subst h;exact .inr ⟨0,.nil 0⟩
  ·exact .inl rfl
 ·rw[aE8 hs hv];split<;>omega
theorem aZO{E:List Edge}{N s far:Nat}(hs:s<N)(hE:EOk E N):DqI E s N far (Jx N s far) [s] (fun _ _ _=>False):=by
 refine⟨aOW hs,fun r hr=>by simp at hr;omega,fun u v c h=>?_⟩
 have hb:u<N∧v<N:=h.elim (fun h=>⟨(hE _ _ _ h).1,(hE _ _ _ h).2.1⟩) (fun h=>⟨(hE _ _ _ h).2.1,(hE _ _ _ h).1⟩)
 by_cases e:u=s
 ·exact .inl (by simp[e])
 ·right;right
  rw[aE8 hs hb.1,if_neg (fun h=>e h.symm)]
  have:=(aOW (E:=E) (far:=far) hs).le v hb.2
  omega
def aJU(E:List Edge)(N len:Nat):Nat:=if 1000≤(aEX E N (Jx N 0 1000)).getD 1 0 then len+1 else(aEX E N (Jx N 0 1000)).getD 1 0
theorem aA6{E:List Edge}{N:Nat}(hN:2≤N)(hN2:N≤1000)(hE:EOk E N):azI E 0 N 1000 (fun v=>(aEX E N (Jx N 0 1000)).getD v 0):=
 aOL (by omega) hE hN2 (aOW (by omega)) (by omega)
theorem a45{E:List Edge}{N far len:Nat}(hN:2≤N)(hN2:N≤1000)(hf:N≤far)(hE:EOk E N){d:Nat→Nat}(h:azI E 0 N far d):(if d 1=far then len+1 else d 1)=aJU E N len:=by
 obtain⟨h1,h2,h3⟩:=azI.num (aA6 hN hN2 hE) h hN2 hf (by omega) hE (v:=1) (by omega)
 unfold aJU
 by_cases e:(aEX E N (Jx N 0 1000)).getD 1 0=1000
 ·rw[if_pos (h1.1 e),if_pos (by rw[e];exact aAR _)]
 ·have:=h3 e
  rw[if_neg (fun h=>e (h1.2 h)),if_neg (by omega)]
  exact(h2 e).symm
end Net
end Go.Ev
namespace Go.Ev
namespace Net
end Net
end Go.Ev
namespace Go.Ev
namespace Net
theorem EOk.ends{E:List Edge}{N:Nat}(h:EOk E N):∀a b c,(a,b,c)∈E→a<N∧b<N:=fun a b c e=>⟨(h a b c e).1,(h a b c e).2.1⟩
theorem EOk.one{E:List Edge}{N:Nat}(h:EOk E N):∀a b c,(a,b,c)∈E→c≤1:=fun a b c e=>(h a b c e).2.2.2
theorem aP5{E:List Edge}{N len k:Nat}(hN:2≤N)(hN2:N≤1000)(hE:EOk E N)(h:Lst E 0 1 k):aJU E N len=k∧k<N:=by
 have h1:=(aA6 hN hN2 hE 1 (by omega)).1 k h
 have h2:=h.le (s:=0) (by omega) hE.ends hE.one
 simp only at h1
 unfold aJU
 rw[h1,if_neg (by omega)]
 exact⟨rfl,by omega⟩
theorem aQY{E:List Edge}{N len:Nat}(hN:2≤N)(hN2:N≤1000)(hE:EOk E N)(h:∀k,¬Cst E 0 1 k):aJU E N len=len+1:=by
 have h1:=(aA6 hN hN2 hE 1 (by omega)).2 h
 simp only at h1
 unfold aJU
 rw[h1,if_pos (aAR _)]
def Tgh(E E':List Edge):Prop:=∀a b c',(a,b,c')∈E'→∃c,(a,b,c)∈E∧c≤c'
theorem Kw.tgh{E E':List Edge}(h:Tgh E E'){s n v k:Nat}(hw:Kw E' s n v k):∃k',k'≤k∧Kw E s n v k':=by
 induction hw with
 |nil n=>exact⟨0,aAR _,.nil n⟩
 |fwd _ he ih=>
  obtain⟨k',h1,h2⟩:=ih
  obtain⟨c,h3,h4⟩:=h _ _ _ he
  exact⟨k'+c,by omega,.fwd h2 h3⟩
 |bwd _ he ih=>
  obtain⟨k',h1,h2⟩:=ih
  obtain⟨c,h3,h4⟩:=h _ _ _ he
  exact⟨k'+c,by omega,.bwd h2 h3⟩
def aHO(E E':List Edge):Prop:=∀a b c,(a,b,c)∈E→∃c',(a,b,c')∈E'
theorem Kw.ends{E E':List Edge}(h:aHO E E'){s n v k:Nat}(hw:Kw E s n v k):∃k',Kw E' s n v k':=by
 induction hw with
 |nil n=>exact⟨0,.nil n⟩
 |fwd _ he ih=>
  obtain⟨k',h2⟩:=ih
  obtain⟨c,h3⟩:=h _ _ _ he
  exact⟨k'+c,.fwd h2 h3⟩
 |bwd _ he ih=>
  obtain⟨k',h2⟩:=ih
  obtain⟨c,h3⟩:=h _ _ _ he
  exact⟨k'+c,.bwd h2 h3⟩
theorem aUC{E E':List Edge}{N len:Nat}(hN:2≤N)(hN2:N≤1000)(hE:EOk E N)(hE':EOk E' N)(h:Tgh E E')(he:aHO E E'):aJU E N len≤aJU E' N len:=by
 by_cases hp:∃k,Cst E' 0 1 k
 ·obtain⟨k,hk⟩:=hp
  obtain⟨j,hj⟩:=Lst.ex hk
  obtain⟨n,hn⟩:=hj.1
  obtain⟨i,hi,hw⟩:=hn.tgh h
  obtain⟨m,hm⟩:=Lst.ex (E:=E) ⟨n,hw⟩
  rw[(aP5 hN hN2 hE hm).1,(aP5 hN hN2 hE' hj).1]
  exact aJ1 (hm.2 i ⟨n,hw⟩) hi
 ·have h1:∀k,¬Cst E' 0 1 k:=fun k hk=>hp ⟨k,hk⟩
  have h2:∀k,¬Cst E 0 1 k:=fun k ⟨n,hk⟩=>by
   obtain⟨k',hk'⟩:=hk.ends he
   exact h1 k' ⟨n,hk'⟩
  rw[aQY hN hN2 hE h2,aQY hN hN2 hE' h1]
  exact aAR _
end Net
end Go.Ev
namespace Go.Ev
namespace Net
end Net
end Go.Ev
namespace Go.Ev
namespace Net
end Net
end Go.Ev
namespace Go.Ev
structure Sys(S:Type) where
 goal:S→Bool
 ops:S→List (Nat × List S)
inductive Can{S:Type}(Y:Sys S):S→Nat→Prop
 |met {s:S} {k:Nat} (h:Y.goal s=true):Can Y s k
 |op {s:S} {c:Nat} {to:List S} {k k':Nat} (h:(c,to)∈Y.ops s) (ht:∀s'∈to,Can Y s' k') (hk:c+k'≤k):Can Y s k
namespace Can
variable {S:Type} {Y:Sys S}
theorem mono{s:S}{k j:Nat}(h:Can Y s k)(hj:k≤j):Can Y s j:=by
 cases h with
 |met h=>exact .met h
 |op h ht hk=>exact .op h ht (by omega)
theorem le_of_stable{L:List S}{f:S→Nat}{top:Nat}(hg:∀s∈L,Y.goal s=true→f s=0)
 (hs:∀s∈L,∀c to,(c,to)∈Y.ops s→(∀s'∈to,s'∈L)∧∀m,m<top→(∀s'∈to,f s'≤m)→f s≤c+m) {s:S} {k:Nat} (h:Can Y s k):s∈L→k<top→f s≤k:=by
 induction h with
 |met h=>intro hL _;rw[hg _ hL h];exact aC7 _
 | @op s c to k k' h ht hk ih=>
   intro hL hkt
   obtain⟨h1,h2⟩:=hs s hL c to h
   have:=h2 k' (by omega) fun s' h'=>ih s' h' (h1 s' h') (by omega)
   omega
end Can
theorem aNH{S:Type}[DecidableEq S]{L:List S}{f:S→Nat}{top b:Nat}(h:∀s∈L,f s<top→0<f s→∃s'∈L,f s'<f s∧f s≤b+f s'):∀n,∀s∈L,f s=n→n<top→n≤b*(L.filter fun s'=>decide (f s'<n)).length:=by
 intro n
 induction n using aT1 with
 |ind n ih=>
  intro s hs hf ht
  by_cases h0:0<n
  ·obtain⟨s',h1,h2,h3⟩:=h s hs (by omega) (by omega)
   have h4:=ih (f s') (by omega) s' h1 rfl (by omega)
   have h5:(L.filter fun x=>decide (f x<f s')).length+1≤(L.filter fun x=>decide (f x<n)).length:=by
    clear h4 ih h hs
    have gen:∀{M:List S},s'∈M→(M.filter fun x=>decide (f x<f s')).length+1≤(M.filter fun x=>decide (f x<n)).length:=fun {M}=>by
     have le:∀{M:List S},(M.filter fun x=>decide (f x<f s')).length≤(M.filter fun x=>decide (f x<n)).length:=fun {M}=>by
      induction M with
      |nil=>simp
      |cons a M ih=>
       by_cases e1:f a<f s'
       ·rw[aIF (by simpa using e1),aIF (by simp;omega)];simp;exact ih
       ·rw[aKY (by simpa using e1)]
        by_cases e2:f a<n
        ·rw[aIF (by simpa using e2)];simp;omega
        ·rw[aKY (by simpa using e2)];exact ih
     induction M with
     |nil=>intro h;cases h
     |cons a M ih=>
      intro hm
      rcases aC6.1 hm with rfl|hm
      ·rw[aKY (by simp),aIF (by simp;omega)]
       have:=le (M:=M)
       simp;omega
      ·have:=ih hm
       by_cases e1:f a<f s'
       ·rw[aIF (by simpa using e1),aIF (by simp;omega)];simp;exact this
       ·rw[aKY (by simpa using e1)]
        by_cases e2:f a<n
        ·rw[aIF (by simpa using e2)];simp;omega
        ·rw[aKY (by simpa using e2)];exact this
    exact gen h1
   have:b*((L.filter fun x=>decide (f x<f s')).length+1)≤b*(L.filter fun x=>decide (f x<n)).length:=aY7 b h5
   rw[Nat.mul_add,Nat.mul_one]at this
   omega
  ·have:n=0:=by omega
   subst this;exact aC7 _
theorem aWY{S:Type}[DecidableEq S]{L:List S}{f:S→Nat}{top b:Nat}(h:∀s∈L,f s<top→0<f s→∃s'∈L,f s'<f s∧f s≤b+f s'){s:S}(hs:s∈L)(ht:f s<top):f s≤b*L.length:=
 aJ1 (aNH h (f s) s hs rfl ht) (aY7 b (List.length_filter_le ..))
namespace Sys
variable {S:Type}
def mx(f:S→Nat)(l:List S):Nat:=l.foldl (fun m x=>max m (f x)) 0
theorem aE7(f:S→Nat):∀(l:List S) (m:Nat),m≤l.foldl (fun m x=>max m (f x)) m∧(∀x∈l,f x≤l.foldl (fun m x=>max m (f x)) m)∧(l.foldl (fun m x=>max m (f x)) m=m∨∃x∈l,l.foldl (fun m x=>max m (f x)) m=f x)
 | [],m=>⟨aAR _,by simp,.inl rfl⟩
 |a::l,m=>by
  obtain⟨h1,h2,h3⟩:=aE7 f l (max m (f a))
  simp only[aNZ]
  refine⟨by omega,fun x hx=>?_,?_⟩
  ·rcases aC6.1 hx with rfl|hx
   ·omega
   ·exact h2 x hx
  ·rcases h3 with h3|⟨x,hx,h3⟩
   ·by_cases hm:m≤f a
    ·exact .inr ⟨a,by simp,by rw[h3];omega⟩
    ·exact .inl (by rw[h3];omega)
   ·exact .inr ⟨x,aC4 _ hx,h3⟩
theorem aJH{f:S→Nat}{l:List S}{x:S}(h:x∈l):f x≤mx f l:=(aE7 f l 0).2.1 x h
theorem aJZ{f:S→Nat}{l:List S}{m:Nat}(h:∀x∈l,f x≤m):mx f l≤m:=by
 rcases(aE7 f l 0).2.2 with e|⟨x,hx,e⟩
 ·unfold mx;rw[e];exact aC7 _
 ·unfold mx;rw[e];exact h x hx
theorem baC{f:S→Nat}{l:List S}(h:l≠[]):∃x∈l,mx f l=f x:=by
 rcases(aE7 f l 0).2.2 with e|⟨x,hx,e⟩
 ·obtain⟨a,ha⟩:=List.exists_mem_of_ne_nil l h
  have:=aJH (f:=f) ha
  unfold mx at this
  exact⟨a,ha,by unfold mx;omega⟩
 ·exact⟨x,hx,e⟩
theorem aQV{f g:S→Nat}{l:List S}(h:∀x∈l,g x≤f x):mx g l≤mx f l:=aJZ fun x hx=>aJ1 (h x hx) (aJH hx)
variable [DecidableEq S] (Y:Sys S)
structure Known(top:Nat)(L:List S)(f:S→Nat):Prop where
 ops:∀s∈L,∀o∈Y.ops s,1≤o.1∧o.1≤1000∧o.2≠[]∧∀x∈o.2,x∈L
 le:∀s∈L,f s≤top
 goal:∀s∈L,Y.goal s=true→f s=0
 got:∀s∈L,f s<top→Can Y s (f s)
 by_:∀s∈L,f s<top→Y.goal s=true∨∃o∈Y.ops s,o.1+mx f o.2≤f s
variable {Y}
theorem Known.less{top:Nat}{L:List S}{f:S→Nat}(K:Y.Known top L f){s:S}{o:Nat × List S}(ho:o∈Y.ops s)(hs:s∈L){n:Nat}(hn:n=min top (o.1+mx f o.2))(hl:n<f s):Y.Known top L (fun x=>if x=s then n else f x):=by
 have hts:=K.le s hs
 have hnt:n<top:=by omega
 have hno:n=o.1+mx f o.2:=by omega
 have dn:∀x:S,(if x=s then n else f x)≤f x:=fun x=>by
  split
  ·rename_i e;subst e;omega
  ·exact aAR _
 have hx:∀x∈o.2,f x<top:=fun x h=>by have:=aJH (f:=f) h;omega
 refine⟨K.ops,fun x h=>aJ1 (dn x) (K.le x h),fun x h hg=>?_,fun x h hlt=>?_,fun x h hlt=>?_⟩
 ·have:=K.goal x h hg
  have:=dn x
  omega
 ·by_cases e:x=s
  ·subst e
   simp only[if_true]
   refine .op (c:=o.1) (to:=o.2) ho (k':=mx f o.2) (fun y hy=>?_) (by omega)
   exact(K.got y ((K.ops _ hs o ho).2.2.2 y hy) (hx y hy)).mono (aJH hy)
  ·simp only[if_neg e]at hlt ⊢
   exact K.got x h hlt
 ·by_cases e:x=s
  ·subst e
   simp only[if_true]
   exact .inr ⟨o,ho,by have:=aQV (f:=f) (l:=o.2) fun y _=>dn y;omega⟩
  ·simp only[if_neg e]at hlt ⊢
   rcases K.by_ x h hlt with hg|⟨p,hp,hle⟩
   ·exact .inl hg
   ·exact .inr ⟨p,hp,by have:=aQV (f:=f) (l:=p.2) fun y _=>dn y;omega⟩
theorem Known.best{top:Nat}{L:List S}{f:S→Nat}(K:Y.Known top L f)(st:∀s∈L,∀o∈Y.ops s,f s≤min top (o.1+mx f o.2)){s:S}(hs:s∈L):
 (∀k,k<top→Can Y s k→f s≤k)∧(f s<top→Can Y s (f s)∧f s≤1000*L.length)∧(f s=0→0<top→Y.goal s=true):=by
 refine⟨fun k hk hc=>Can.le_of_stable K.goal (fun s hs c to ho=>⟨(K.ops s hs _ ho).2.2.2,fun m hm h=>?_⟩) hc hs hk,fun h=>⟨K.got s hs h,aWY (f:=f) (top:=top) (fun s hs hlt h0=>?_) hs h⟩,fun h0 ht=>?_⟩
 ·have h1:=st s hs _ ho
  have h2:=aJZ (f:=f) h
  simp only at h1
  omega
 ·rcases K.by_ s hs hlt with hg|⟨o,ho,hle⟩
  ·have:=K.goal s hs hg;omega
  ·have h1:=st s hs o ho
   obtain⟨a1,a2,a3,a4⟩:=K.ops s hs o ho
   obtain⟨x,hx,e⟩:=baC (f:=f) a3
   exact⟨x,a4 x hx,by omega,by omega⟩
 ·rcases K.by_ s hs (by omega)with hg|⟨o,ho,hle⟩
  ·exact hg
  ·have:=(K.ops s hs o ho).1;omega
end Sys
end Go.Ev
namespace Go.Ev
theorem aML{P:Nat→Prop}(h:∃k,P k):∃k,P k∧∀j,P j→k≤j:=by
 obtain⟨k,hk⟩:=h
 induction k using aT1 with
 |ind k ih=>
  by_cases c:∃j,j<k∧P j
  ·obtain⟨j,h1,h2⟩:=c;exact ih j h1 h2
  ·exact⟨k,hk,fun j hj=>by
    by_cases e:j<k
    ·exact absurd ⟨j,e,hj⟩ c
    ·omega⟩
namespace Sys
variable {S:Type} (Y:Sys S)
noncomputable def bst(top:Nat)(s:S):Nat:=@dite Nat (∃k,Can Y s k) (Classical.propDecidable _) (fun h=>Classical.choose (aML h)) fun _=>top
variable {Y}
theorem azY{top:Nat}{s:S}(h:∃k,Can Y s k):Can Y s (Y.bst top s)∧∀k,Can Y s k→Y.bst top s≤k:=by
 unfold bst;rw[dif_pos h];exact Classical.choose_spec (aML h)
theorem bst_none{top:Nat}{s:S}(h:¬∃k,Can Y s k):Y.bst top s=top:=by
 unfold bst;rw[dif_neg h]
theorem bst_goal{top:Nat}{s:S}(h:Y.goal s=true):Y.bst top s=0:=by
 have:=(azY (top:=top) ⟨0,.met h⟩).2 0 (.met h);omega
structure Fine(Y:Sys S)(top:Nat)(s:S):Prop where
 lt:(∃k,Can Y s k)→Y.bst top s<top
theorem Known.fin[DecidableEq S]{top:Nat}{L:List S}{f:S→Nat}(K:Y.Known top L f)(st:∀s∈L,∀o∈Y.ops s,f s≤min top (o.1+mx f o.2))(hb:1000*L.length+1000<top){s:S}{k:Nat}(h:Can Y s k):s∈L→f s<top:=by
 induction h with
 |met h=>intro hL;rw[K.goal _ hL h];omega
 | @op s c to k k' h ht hk ih=>
   intro hL
   obtain⟨a1,a2,a3,a4⟩:=K.ops s hL _ h
   have hm:mx f to≤1000*L.length:=aJZ fun x hx=>((K.best st (a4 x hx)).2.1 (ih x hx (a4 x hx))).2
   have:=st s hL _ h
   simp only at this a2
   omega
theorem Known.bst[DecidableEq S]{top:Nat}{L:List S}{f:S→Nat}(K:Y.Known top L f)(st:∀s∈L,∀o∈Y.ops s,f s≤min top (o.1+mx f o.2))(hb:1000*L.length+1000<top){s:S}(hs:s∈L):f s=Y.bst top s∧((∃k,Can Y s k)→f s<top):=by
 by_cases h:∃k,Can Y s k
 ·obtain⟨k,hk⟩:=h
  have hf:=K.fin st hb hk hs
  obtain⟨b1,b2⟩:=azY (top:=top) ⟨k,hk⟩
  obtain⟨c1,c2,c3⟩:=K.best st hs
  have d1:=b2 _ (c2 hf).1
  have d2:=c1 (Y.bst top s) (by omega) b1
  exact⟨by omega,fun _=>hf⟩
 ·refine⟨?_,fun h'=>absurd h' h⟩
  rw[bst_none h]
  by_cases e:f s<top
  ·exact absurd ⟨_,K.got s hs e⟩ h
  ·have:=K.le s hs;omega
theorem a5N{top:Nat}{s:S}(hs:Y.Fine top s){c:Nat}{to:List S}(h:(c,to)∈Y.ops s):Y.bst top s≤min top (c+mx (Y.bst top) to):=by
 have h1:Y.bst top s≤top:=by
  by_cases e:∃k,Can Y s k
  ·exact Nat.le_of_lt (hs.lt e)
  ·rw[bst_none e];exact aAR _
 by_cases a:∀x∈to,∃k,Can Y x k
 ·have hc:Can Y s (c+mx (Y.bst top) to):=.op h (fun x hx=>(azY (a x hx)).1.mono (aJH hx)) (aAR _)
  have:=(azY (top:=top) ⟨_,hc⟩).2 _ hc
  omega
 ·obtain⟨x,hx⟩:=Classical.not_forall.1 a
  obtain⟨hx,hn⟩:=Classical.not_imp.1 hx
  have h2:=aJH (f:=Y.bst top) hx
  rw[bst_none hn]at h2
  omega
theorem bst_op{top:Nat}{s:S}(hs:Y.Fine top s)(h:Y.bst top s<top)(hg:Y.goal s=false)(h1:∀o∈Y.ops s,1≤o.1):∃o∈Y.ops s,Y.bst top s=min top (o.1+mx (Y.bst top) o.2)∧∀x∈o.2,(∃k,Can Y x k)∧Y.bst top x<Y.bst top s:=by
 have e:∃k,Can Y s k:=Classical.byContradiction fun n=>by rw[bst_none n]at h;omega
 have hc:=(azY (top:=top) e).1
 generalize hb:Y.bst top s=b at *
 cases hc with
 |met h=>rw[hg]at h;cases h
 | @op _ c to _ k' ho ht hk=>
   have hx:∀x∈to,Y.bst top x≤k':=fun x hx=>(azY ⟨_,ht x hx⟩).2 _ (ht x hx)
   have hm:mx (Y.bst top) to≤k':=aJZ hx
   have h3:=a5N hs ho
   rw[hb]at h3
   have h4:=h1 _ ho
   exact⟨(c,to),ho,by simp only;omega,fun x hx'=>⟨⟨_,ht x hx'⟩,by have:=hx x hx';simp only at h4;omega⟩⟩
theorem _root_.Go.Ev.Can.sim{T:Type}{Z:Sys T}(R:S→T→Prop)(hg:∀s t,R s t→Y.goal s=true→Z.goal t=true)(ho:∀s t,R s t→∀o∈Y.ops s,∃p∈Z.ops t,p.1≤o.1∧∀y∈p.2,∃x∈o.2,R x y){s:S}{k:Nat}(h:Can Y s k):∀t,R s t→Can Z t k:=by
 induction h with
 |met h=>intro t r;exact .met (hg _ _ r h)
 | @op s c to k k' h ht hk ih=>
   intro t r
   obtain⟨p,hp,h1,h2⟩:=ho _ _ r _ h
   exact .op (c:=p.1) (to:=p.2) hp (k':=k') (fun y hy=>by
    obtain⟨x,hx,rr⟩:=h2 y hy
    exact ih x hx y rr) (by simp only at h1;omega)
end Sys
end Go.Ev
namespace Go.Ev
namespace Snake
theorem nodup_sub{α:Type}[DecidableEq α]:∀{l m:List α},l.Nodup→(∀x∈l,x∈m)→l.length≤m.length
 | [],_,_,_=>aC7 _
 |a::l,m,hn,hs=>by
  have hn':=List.nodup_cons.1 hn
  have h1:=nodup_sub (l:=l) (m:=m.erase a) hn'.2 fun x hx=>(List.mem_erase_of_ne (fun e=>hn'.1 (by rw[←e];exact hx))).2 (hs x (by simp[hx]))
  rw[List.length_erase_of_mem (hs a (by simp))]at h1
  have:=List.length_pos_of_mem (hs a (by simp))
  simp;omega
end Snake
end Go.Ev
namespace Go.Ev
noncomputable section
open Go.RowKit
def aOU(x:Int):List Int→List Int
 | []=>[x]
 |y::l=>if x≤y then x::y::l else y::aOU x l
def aF7:List Int→List Int
 | []=>[]
 |x::l=>aOU x (aF7 l)
theorem aDM(x:Int):∀l:List Int,(aOU x l).Perm (x::l)
 | []=>List.Perm.refl _
 |y::l=>by
  unfold aOU
  split
  ·exact List.Perm.refl _
  ·exact((aDM x l).cons y).trans (List.Perm.swap x y l)
theorem aBM:∀l:List Int,(aF7 l).Perm l
 | []=>List.Perm.refl _
 |x::l=>(aDM x _).trans ((aBM l).cons x)
theorem aD3(x:Int):∀{l:List Int},l.Pairwise (· ≤·)→(aOU x l).Pairwise (· ≤·)
 | [],_=>by simp[aOU]
 |y::l,h=>by
  rw[aN0]at h
  unfold aOU
  split
  ·rename_i hxy
   refine aN0.2 ⟨fun z hz=>?_,aN0.2 h⟩
   rcases aC6.1 hz with rfl|hz
   ·exact hxy
   ·exact Int.le_trans hxy (h.1 z hz)
  ·rename_i hxy
   refine aN0.2 ⟨fun z hz=>?_,aD3 x h.2⟩
   rcases aC6.1 ((aDM x l).mem_iff.1 hz)with rfl|hz
   ·omega
   ·exact h.1 z hz
theorem aBO:∀l:List Int,(aF7 l).Pairwise (· ≤·)
 | []=>List.Pairwise.nil
 |x::l=>aD3 x (aBO l)
theorem aXU(l:List Int):(l.mergeSort fun x y=>decide (x≤y))=aF7 l:=by
 have h1:=List.pairwise_mergeSort (le:=fun x y:Int=>decide (x≤y)) (by simp;omega) (by simp;omega) l
 refine List.Perm.eq_of_pairwise (le:=(· ≤·)) (fun a b _ _ h1 h2=>Int.le_antisymm h1 h2) ?_ (aBO l) ((List.mergeSort_perm l _).trans (aBM l).symm)
 simpa using h1
theorem aSR(l:List Int):(aF7 l).length=l.length:=(aBM l).length_eq
def aF1:List (List AV)→Option (List Int)
 | []=>some []
 | [.int .i64 n]::l=>(aF1 l).map (n::·)
 |_=>none
theorem aJG:∀{rows:List (List AV)} {l:List Int},aF1 rows=some l→rows=l.map fun n=>[.int .i64 n]
 | [],l,h=>by simp[aF1]at h;subst h;rfl
 |r::rows,l,h=>by
  unfold aF1 at h
  split at h
  ·rename_i e;cases e
  ·rename_i n l' e
   cases e
   obtain⟨l2,h2,rfl⟩:=aqM.1 h
   rw[aJG h2];rfl
  ·cases h
def aQ3:List AV→Aa→Option (Dm × Aa)
 | [.slr 1 b 0 len],h=>match h[b]? with
   |some (.live 1 true _ rows)=>if rows.length=len∧1≤len∧len≤549755813888 then(aF1 rows).map fun zs=>(.ret (.tup []),h.set b (.live 1 true true ((aF7 zs).map fun n=>[.int .i64 n])))else none
   |_=>none
 |_,_=>none
section
variable {P:Program} {G:Nat→Option Obj}
theorem aH7{w:World}{cb:Nat}{c:Array Value}{e:TypeId}{fz:Nat × Nat}(hk:w.heap[cb]?=some (.cells c e fz))(f:Array Value→Array Value):Go.Sort.mapBlock w cb f=setB w cb (.cells (f c) e fz):=by
 unfold Go.Sort.mapBlock setB
 congr 1
 apply Array.ext_getElem?
 intro k
 simp only[Array.getElem?_modify,Array.getElem?_setIfInBounds]
 by_cases h:cb=k
 ·subst h
  have hl:=(Array.getElem?_eq_some_iff.1 hk).1
  rw[if_pos rfl,if_pos rfl,if_pos hl,hk];rfl
 ·rw[if_neg h,if_neg h]
theorem aLW(w:World)(n:Nat):Below w.heap.size w (Go.Sort.ahead w n) where
 os:=rfl
 tape:=rfl
 output:=rfl
 size:=aAR _
 block:=fun _ _=>rfl
theorem a12{f:Nat}(hen:∀args w,(callFunc f args).run P w=.ok (.enter f args) w)
 (hc:∀(blk off cap:Nat) (zs:List Int) (w:World),Go.Sort.Holds (Value.int .i64) w blk off zs.toArray→blk<w.heap.size→zs.length<4611686018427387904→
   Calls P f #[.slice (some ⟨blk,off,none⟩) zs.length cap] w fun e w'=>e=.returned (.tuple #[])∧∃n os,w'=Go.Sort.grow (Go.Sort.putRow (Value.int .i64) (Go.Sort.ahead w n) blk off (zs.mergeSort fun x y=>decide (x≤y)).toArray) os):aDU P G f aQ3:=by
 intro args h out h' hp
 refine⟨hen,fun w S ρ cargs hI H dom all hargs=>?_⟩
 unfold aQ3 at hp
 split at hp
 ·rename_i b len
  split at hp
  ·rename_i wr rows hg
   split at hp
   ·rename_i hl
    obtain⟨hl1,hl2,hl3⟩:=hl
    obtain⟨zs,hz,hp⟩:=aqM.1 hp
    simp only[Prod.mk.injEq]at hp
    obtain⟨rfl,rfl⟩:=hp
    have hrows:=aJG hz
    have hzl:zs.length=len:=by rw[←hl1,hrows];simp
    obtain⟨v,vs',e,hv,hn⟩:=hargs.cons_inv
    have:=hn.nil_inv
    subst this
    have ec:cargs=#[v]:=by apply Array.toList_inj.1;rw[e]
    subst ec
    have hbl:b<h.length:=(aEY.1 hg).1
    cases hv with
    |slrD hρ _=>have:=H.dead b hρ;rw[show hf h b=some _ from hg]at this;cases this
    | @slr _ _ _ _ cb co _ sz cap a hρ hle ha=>
      obtain⟨c,e',fz,fl',rows',k1,k2,k3,k4⟩:=H.at_ b cb co 1 sz hρ
      rcases k4 with⟨⟨wr',k4⟩,hS,hfz⟩|⟨k4,_⟩
      ·rw[show hf h b=some _ from hg]at k4
       cases k4
       rcases ha with ha|⟨rfl,hcap⟩
       ·omega
       have hco:co+len≤c.size:=by have:=k3.len;rw[hl1]at this;omega
       have hold:Go.Sort.Holds (Value.int .i64) w cb (co+0*1) zs.toArray:=fun j hj=>by
        have hj':j<zs.length:=by simpa using hj
        have hr:rows[j]?=some [AV.int .i64 zs[j]]:=by rw[hrows,aLK,aJ9 hj'];rfl
        obtain⟨v,h1,h2⟩:=k3.cell j _ 0 _ hr rfl
        cases h2
        have hlt:co+j<c.size:=by omega
        refine⟨?_,aI6 k1 (hfz _ (by rw[←k2];omega))⟩
        rw[aB3 k1]
        simp only[Nat.zero_mul,aNU]
        have h1':c[co+j]?=some (Value.int .i64 zs[j]):=by simpa using h1
        rw[h1']
        simp[getElem!_pos,hj']
       rw[←hzl]
       refine(hc cb (co+0*1) cap zs w hold (H.lt hρ) (by omega)).mono fun e w' hw=>?_
       obtain⟨rfl,n,os,rfl⟩:=hw
       rw[aXU]
       have hB1:=aLW w n
       have H1:=H.below hB1
       have k1':(Go.Sort.ahead w n).heap[cb]?=some (.cells c e' fz):=k1
       have hsl:=aSR zs
       generalize aF7 zs=ys at *
       have hput:Go.Sort.putRow (Value.int .i64) (Go.Sort.ahead w n) cb (co+0*1) ys.toArray=setB (Go.Sort.ahead w n) cb (.cells (Go.Sort.putCells (Value.int .i64) (co+0*1) ys.toArray c) e' fz):=aH7 k1' _
       rw[hput]
       have hcs:(Go.Sort.putCells (Value.int .i64) (co+0*1) ys.toArray c).size=c.size:=by simp[Go.Sort.putCells]
       have hblk:Di (Go.Sort.ahead w n) S ρ (Go.Sort.putCells (Value.int .i64) (co+0*1) ys.toArray c) co 1 true (ys.map fun n=>[.int .i64 n]):=by
        refine⟨by rw[hcs];simp;omega,fun r hr=>?_,fun _ r hr x hx=>?_,fun i r j x hr hx=>?_,fun r hr x hx=>?_⟩
        ·obtain⟨n,_,rfl⟩:=aIS.1 hr;rfl
        ·obtain⟨n,_,rfl⟩:=aIS.1 hr;simp at hx;subst hx;rfl
        ·rw[aLK]at hr
         obtain⟨m,hm,rfl⟩:=aqM.1 hr
         have hi:i<ys.length:=(aEY.1 hm).1
         have hx':j=0∧x=.int .i64 m:=by
          cases j with
          |zero=>simp at hx;exact⟨rfl,hx.symm⟩
          |succ j=>simp at hx
         obtain⟨rfl,rfl⟩:=hx'
         refine⟨.int .i64 m,?_,.int _ _⟩
         simp only[Go.Sort.putCells,Array.getElem?_mapIdx,Nat.mul_one,aNU,Nat.zero_mul,aNU]
         rw[Array.getElem?_eq_getElem (by omega),aC8,if_pos ⟨by omega,by simp;omega⟩,show co+i-co=i by omega]
         have:ys[i]?=some m:=hm
         have h2:=aEY.1 hm
         simp[getElem!_pos,h2.1,h2.2]
        ·obtain⟨n,_,rfl⟩:=aIS.1 hr;simp at hx;subst hx;rfl
       have H2:=H1.setLive (wr:=true) hρ hS (e:=e') (fz:=fz) (by rw[hcs];exact k2) hfz ⟨_,_,_,k1'⟩ hblk
       have hs2:=Dn.setB (w:=Go.Sort.ahead w n) hρ hS ⟨_,_,_,k1'⟩ (.cells (Go.Sort.putCells (Value.int .i64) (co+0*1) ys.toArray c) e' fz)
       generalize hw2:setB (Go.Sort.ahead w n) cb (.cells (Go.Sort.putCells (Value.int .i64) (co+0*1) ys.toArray c) e' fz)=w2 at *
       have hB3:=aF8 (w:=w2) (aAR _) os
       have H3:=H2.below hB3
       refine⟨.tuple #[],S,ρ,⟨⟨_,rfl⟩,rfl⟩,.tup rfl (fun i x v hx _=>by simp at hx),by rw[aO9 hbl];exact H3,((Dn.below H hB1).trans hs2).trans (Dn.below H2 hB3),fun b' hb'=>dom b' (by simpa using hb'),fun b' hb'=>all b' (by simpa using hb'),by simp,fun i x x' hx hx' hsm=>?_⟩
       by_cases e:i=b
       ·subst e
        rw[hg]at hx;cases hx
        rw[aY6 hbl]at hx';cases hx'
        simp[CB.same]at hsm
       ·refine⟨rfl,fun cb' co' st' sz' hb'=>?_⟩
        have hne:cb'≠cb:=fun q=>e (H.inj _ _ _ _ _ _ _ _ _ hb' (q▸hρ))
        have hl':cb'<w.heap.size:=H.lt hb'
        have hw2s:w2.heap.size=w.heap.size:=by rw[←hw2];simp[setB,Go.Sort.ahead]
        rw[hB3.block cb' (by rw[hw2s];exact hl'),←hw2,An hne]
        rfl
      ·rw[show hf h b=some _ from hg]at k4;cases k4
   ·cases hp
  ·cases hp
 ·cases hp
end
def aKG(fI fJ fS:Nat)(md:Nat→Bool):Kr:={ at_:=fun f=>if f=fI then some aQN else if f=fJ then some aK4 else none,md:=md,sh:=fun f=>if f=fS then some aQ3 else none }
theorem aTS{P:Program}{G:Nat→Option Obj}{fI fJ fS:Nat}{md:Nat→Bool}(hI:aDU P G fI aQN)(hJ:aDU P G fJ aK4)(hS:aDU P G fS aQ3):aKD P G (aKG fI fJ fS md):=by
 refine⟨fun f p hp=>?_,fun f p hp=>?_⟩
 ·simp only[aKG]at hp
  split at hp
  ·rename_i e;subst e;cases hp;exact hI
  ·split at hp
   ·rename_i e;subst e;cases hp;exact hJ
   ·cases hp
 ·simp only[aKG]at hp
  split at hp
  ·rename_i e;subst e;cases hp;exact hS
  ·cases hp
end
end Go.Ev
