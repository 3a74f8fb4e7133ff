/- The functions of the layer, walked. -/
import Derived.Test.YtfkokgjfpojeoaaLibE
import Derived.Test.YtfkokgjfpojeoaaChecked
import Derived.Test.YtfkokgjfpojeoaaLibD
import Derived.Test.YtfkokgjfpojeoaaRows
import Derived.Test.YtfkokgjfpojeoaaShelf
import Derived.ProofKit
import Derived.LaidMore
import Derived.OpenShut
open And renaming intro→aa9
open List renaming length_map→adE,mem_of_getElem?→aeU,contains_cons→akQ,contains_nil→alW,all_eq_not_any_not→as6
open Int renaming lt_irrefl→adJ,le_refl→aiZ
open Bool renaming not_true→ajP,not_false→ajS,or_false→am1,false_and→anK,and_true→anU,true_and→arO,and_false→arP,eq_false_iff→at6
set_option linter.unusedSimpArgs false
set_option linter.unusedVariables false
namespace Go.Proofs.Ytfkokgjfpojeoaa
open Go.Ev
set_option maxRecDepth 100000
theorem aoA(h:aaL)(b r o:Nat):ld Try.prog 27 h (some (.ptr b r o))=ldR (awH (h[b]?) r) o 7:=aH7 ⟨by kernel_rfl,by kernel_rfl⟩ h b r o
theorem aYW(b r o:Nat):ftL Try.prog 27 (some (.ptr b r o))=some [.cells b o 7]:=aBN (isA:=true) (n:=7) (by kernel_rfl) (by kernel_rfl) b r o
theorem azG(b r o:Nat):fa Try.prog 29 (some (.ptr b r o)) 0=some (.ret (.ptr b r (o+0)),[]):=aj9 (show am2 Try.prog 29 0 0 1 from⟨_,_,Try.underlying29,rfl,rfl,by kernel_rfl,by decide⟩) b r o
theorem aQY(cs:List AV):fa Try.prog 29 (some (.iptr cs)) 0=if 0+1≤cs.length then some (.ret (.iptr (cs.drop 0)),[])else none:=aE3 (show am2 Try.prog 29 0 0 1 from⟨_,_,Try.underlying29,rfl,rfl,by kernel_rfl,by decide⟩) cs
theorem arL(h:aaL)(b r o:Nat):ld Try.prog 25 h (some (.ptr b r o))=ldC (awH (h[b]?) r) o:=aAQ ⟨by kernel_rfl,1,by kernel_rfl⟩ h b r o
theorem aK8(h:aaL)(c:AV)(cs:List AV):ld Try.prog 25 h (some (.iptr (c::cs)))=some (.ret c,[]):=a0I ⟨by kernel_rfl,1,by kernel_rfl⟩ h c cs
theorem aGH(b r o:Nat):ftL Try.prog 25 (some (.ptr b r o))=some [.cells b o 1]:=aBN (isA:=false) (n:=1) (by kernel_rfl) (by kernel_rfl) b r o
theorem aC9(st b r len:Nat):ln Try.prog 25 (some (.slr st b r len))=some (.ret (.int .i64 len),[]):=aPA (n:=1) ⟨_,Try.underlying25,by kernel_rfl⟩ st b r len
theorem arN(fl nn:Bool)(rows:List (List AV)):ln Try.prog 25 (some (slv 1 fl nn rows))=some (.ret (.int .i64 rows.length),[]):=aHH ⟨_,Try.underlying25,by kernel_rfl⟩ fl nn rows
theorem ay6(h:aaL)(b r o:Nat):ld Try.prog 29 h (some (.ptr b r o))=ldR (awH (h[b]?) r) o 2:=aH7 ⟨by kernel_rfl,by kernel_rfl⟩ h b r o
theorem aJR(h:aaL)(cs:List AV):ld Try.prog 29 h (some (.iptr cs))=if 2≤cs.length then some (.ret (.agg (cs.take 2)),[])else none:=aR3 ⟨by kernel_rfl,by kernel_rfl⟩ h cs
theorem as4(b r o:Nat):fa Try.prog 27 (some (.ptr b r o)) 3=some (.ret (.ptr b r (o+3)),[]):=aj9 (show am2 Try.prog 27 3 3 1 from⟨_,_,Try.underlying27,rfl,rfl,by kernel_rfl,by decide⟩) b r o
theorem afP(h:aaL)(b r o:Nat):ld Try.prog 3 h (some (.ptr b r o))=ldC (awH (h[b]?) r) o:=aAQ ⟨by kernel_rfl,1,by kernel_rfl⟩ h b r o
theorem auN(h:aaL)(c:AV)(cs:List AV):ld Try.prog 3 h (some (.iptr (c::cs)))=some (.ret c,[]):=a0I ⟨by kernel_rfl,1,by kernel_rfl⟩ h c cs
theorem aQW(b r o:Nat):ftL Try.prog 3 (some (.ptr b r o))=some [.cells b o 1]:=aBN (isA:=false) (n:=1) (by kernel_rfl) (by kernel_rfl) b r o
theorem as1(b r o:Nat):fa Try.prog 27 (some (.ptr b r o)) 1=some (.ret (.ptr b r (o+1)),[]):=aj9 (show am2 Try.prog 27 1 1 1 from⟨_,_,Try.underlying27,rfl,rfl,by kernel_rfl,by decide⟩) b r o
theorem auY(h:aaL)(b r o:Nat):ld Try.prog 23 h (some (.ptr b r o))=ldC (awH (h[b]?) r) o:=aAQ ⟨by kernel_rfl,1,by kernel_rfl⟩ h b r o
theorem av1(fl nn:Bool)(rows:List (List AV)):ln Try.prog 23 (some (slv 4 fl nn rows))=some (.ret (.int .i64 rows.length),[]):=aHH ⟨_,Try.underlying23,by kernel_rfl⟩ fl nn rows
theorem axR(fl nn:Bool)(rows:List (List AV))(k:IntKind)(i:Int):ia Try.prog 23 (some (slv 4 fl nn rows)) (some (.int k i))=if 0≤i then r1 ((rows[i.toNat]?).map .iptr)else none:=aHG ⟨_,Try.underlying23,by kernel_rfl⟩ fl nn rows k i
theorem aK3(h:aaL)(b r o:Nat):ld Try.prog 48 h (some (.ptr b r o))=ldR (awH (h[b]?) r) o 4:=aH7 ⟨by kernel_rfl,by kernel_rfl⟩ h b r o
theorem axL(h:aaL)(cs:List AV):ld Try.prog 48 h (some (.iptr cs))=if 4≤cs.length then some (.ret (.agg (cs.take 4)),[])else none:=aR3 ⟨by kernel_rfl,by kernel_rfl⟩ h cs
theorem aCA:asV Try.prog 48=some (.agg [.nils,.int .i64 0,.int .i64 0,.bool false]):=by kernel_rfl
theorem aB4(h:aaL)(b r o:Nat)(v:AV):st_ Try.prog 48 h (some (.ptr b r o)) (some v)=sv 4 (h[b]?) b r o (abZ v):=av4 (by kernel_rfl) h b r o v
theorem axU{O:Orc}(t:List AV)(h:aaL)(s x:Operand):amG O Try.prog t h (.call ⟨.builtin .append,#[s,x],#[25,25]⟩)=apO Try.prog 25 h (abO t s) (abO t x):=aWC t h s x 25 25 _ Try.underlying25
theorem aHL(h:aaL)(s:AV)(a b r l:Nat):apO Try.prog 25 h (some s) (some (.slr a b r l))=apK 1 h (some s) (srK 1 h (some (.slr a b r l))):=aRQ (e:=3) (b:=8) (z:=.int .i64 0) (by kernel_rfl) (by kernel_rfl) (by kernel_rfl) (by kernel_rfl) (by decide+kernel) h s _ (fun q e=>by cases e)
theorem aXX(h:aaL)(s:AV)(st:Nat)(fl:Bool)(rows:List (List AV)):apO Try.prog 25 h (some s) (some (.imm st fl rows))=apK 1 h (some s) (srK 1 h (some (.imm st fl rows))):=aRQ (e:=3) (b:=8) (z:=.int .i64 0) (by kernel_rfl) (by kernel_rfl) (by kernel_rfl) (by kernel_rfl) (by decide+kernel) h s _ (fun q e=>by cases e)
theorem azI(b r o:Nat):fa Try.prog 48 (some (.ptr b r o)) 0=some (.ret (.ptr b r (o+0)),[]):=aj9 (show am2 Try.prog 48 0 0 1 from⟨_,_,Try.underlying48,rfl,rfl,by kernel_rfl,by decide⟩) b r o
theorem aR1(cs:List AV):fa Try.prog 48 (some (.iptr cs)) 0=if 0+1≤cs.length then some (.ret (.iptr (cs.drop 0)),[])else none:=aE3 (show am2 Try.prog 48 0 0 1 from⟨_,_,Try.underlying48,rfl,rfl,by kernel_rfl,by decide⟩) cs
theorem aGD(b r len:Nat)(k:IntKind)(i:Int):ia Try.prog 25 (some (.slr 1 b r len)) (some (.int k i))=if 0≤i∧i<len then some (.ret (.ptr b (r+i.toNat) 0),[])else none:=aO3 ⟨_,Try.underlying25,by kernel_rfl⟩ b r len k i
theorem au5(fl nn:Bool)(rows:List (List AV))(k:IntKind)(i:Int):ia Try.prog 25 (some (slv 1 fl nn rows)) (some (.int k i))=if 0≤i then r1 ((rows[i.toNat]?).map .iptr)else none:=aHG ⟨_,Try.underlying25,by kernel_rfl⟩ fl nn rows k i
theorem aqO(b r o:Nat):fa Try.prog 27 (some (.ptr b r o)) 0=some (.ret (.ptr b r (o+0)),[]):=aj9 (show am2 Try.prog 27 0 0 1 from⟨_,_,Try.underlying27,rfl,rfl,by kernel_rfl,by decide⟩) b r o
theorem arR(h:aaL)(b r o:Nat):ld Try.prog 22 h (some (.ptr b r o))=ldC (awH (h[b]?) r) o:=aAQ ⟨by kernel_rfl,1,by kernel_rfl⟩ h b r o
theorem aAK(fl nn:Bool)(rows:List (List AV))(k:IntKind)(i:Int):ia Try.prog 22 (some (slv 3 fl nn rows)) (some (.int k i))=if 0≤i then r1 ((rows[i.toNat]?).map .iptr)else none:=aHG ⟨_,Try.underlying22,by kernel_rfl⟩ fl nn rows k i
theorem aT4(h:aaL)(b r o:Nat):ld Try.prog 50 h (some (.ptr b r o))=ldR (awH (h[b]?) r) o 3:=aH7 ⟨by kernel_rfl,by kernel_rfl⟩ h b r o
theorem ay0(h:aaL)(cs:List AV):ld Try.prog 50 h (some (.iptr cs))=if 3≤cs.length then some (.ret (.agg (cs.take 3)),[])else none:=aR3 ⟨by kernel_rfl,by kernel_rfl⟩ h cs
theorem aFF:asV Try.prog 50=some (.agg [.int .i64 0,.int .i64 0,.bool false]):=by kernel_rfl
theorem aFQ(h:aaL)(b r o:Nat)(v:AV):st_ Try.prog 50 h (some (.ptr b r o)) (some v)=sv 3 (h[b]?) b r o (abZ v):=av4 (by kernel_rfl) h b r o v
theorem aHY(b r o:Nat):fa Try.prog 50 (some (.ptr b r o)) 2=some (.ret (.ptr b r (o+2)),[]):=aj9 (show am2 Try.prog 50 2 2 1 from⟨_,_,Try.underlying50,rfl,rfl,by kernel_rfl,by decide⟩) b r o
theorem aGF(h:aaL)(b r o:Nat):ld Try.prog 4 h (some (.ptr b r o))=ldC (awH (h[b]?) r) o:=aAQ ⟨by kernel_rfl,1,by kernel_rfl⟩ h b r o
theorem ayA(b r o:Nat):fa Try.prog 50 (some (.ptr b r o)) 0=some (.ret (.ptr b r (o+0)),[]):=aj9 (show am2 Try.prog 50 0 0 1 from⟨_,_,Try.underlying50,rfl,rfl,by kernel_rfl,by decide⟩) b r o
theorem ax4(b r o:Nat):fa Try.prog 50 (some (.ptr b r o)) 1=some (.ret (.ptr b r (o+1)),[]):=aj9 (show am2 Try.prog 50 1 1 1 from⟨_,_,Try.underlying50,rfl,rfl,by kernel_rfl,by decide⟩) b r o
theorem a6X(h:aaL)(b r o:Nat)(v:AV):st_ Try.prog 3 h (some (.ptr b r o)) (some v)=sv 1 (h[b]?) b r o (abZ v):=av4 (by kernel_rfl) h b r o v
theorem aH1(b r o:Nat):fa Try.prog 48 (some (.ptr b r o)) 3=some (.ret (.ptr b r (o+3)),[]):=aj9 (show am2 Try.prog 48 3 3 1 from⟨_,_,Try.underlying48,rfl,rfl,by kernel_rfl,by decide⟩) b r o
theorem ax8(b r o:Nat):fa Try.prog 48 (some (.ptr b r o)) 2=some (.ret (.ptr b r (o+2)),[]):=aj9 (show am2 Try.prog 48 2 2 1 from⟨_,_,Try.underlying48,rfl,rfl,by kernel_rfl,by decide⟩) b r o
theorem aCG(b r o:Nat):fa Try.prog 48 (some (.ptr b r o)) 1=some (.ret (.ptr b r (o+1)),[]):=aj9 (show am2 Try.prog 48 1 1 1 from⟨_,_,Try.underlying48,rfl,rfl,by kernel_rfl,by decide⟩) b r o
theorem awS(fl nn:Bool)(rows:List (List AV)):ln Try.prog 22 (some (slv 3 fl nn rows))=some (.ret (.int .i64 rows.length),[]):=aHH ⟨_,Try.underlying22,by kernel_rfl⟩ fl nn rows
theorem azL(b r o:Nat):fa Try.prog 27 (some (.ptr b r o)) 2=some (.ret (.ptr b r (o+2)),[]):=aj9 (show am2 Try.prog 27 2 2 1 from⟨_,_,Try.underlying27,rfl,rfl,by kernel_rfl,by decide⟩) b r o
theorem aA6(h:aaL)(b r o:Nat):ld Try.prog 24 h (some (.ptr b r o))=ldC (awH (h[b]?) r) o:=aAQ ⟨by kernel_rfl,1,by kernel_rfl⟩ h b r o
theorem aAM(fl nn:Bool)(rows:List (List AV)):ln Try.prog 24 (some (slv 5 fl nn rows))=some (.ret (.int .i64 rows.length),[]):=aHH ⟨_,Try.underlying24,by kernel_rfl⟩ fl nn rows
theorem a4P:asV Try.prog 56=some (.agg [.int .i64 0,.bool false]):=by kernel_rfl
theorem a2J:asV Try.prog 59=some (.agg [.int .i64 0,.int .i64 0,.nils,.int .i64 0,.int .i64 0]):=by kernel_rfl
theorem aN1(st b r len:Nat):ln Try.prog 66 (some (.slr st b r len))=some (.ret (.int .i64 len),[]):=aPA (n:=2) ⟨_,Try.underlying66,by kernel_rfl⟩ st b r len
theorem aY8:ln Try.prog 66 (some .nils)=some (.ret (.int .i64 0),[]):=aOC (n:=2) ⟨_,Try.underlying66,by kernel_rfl⟩
theorem aHM(fl nn:Bool)(rows:List (List AV)):ln Try.prog 66 (some (slv 2 fl nn rows))=some (.ret (.int .i64 rows.length),[]):=aHH ⟨_,Try.underlying66,by kernel_rfl⟩ fl nn rows
theorem azF(b r o:Nat):fa Try.prog 27 (some (.ptr b r o)) 5=some (.ret (.ptr b r (o+5)),[]):=aj9 (show am2 Try.prog 27 5 5 1 from⟨_,_,Try.underlying27,rfl,rfl,by kernel_rfl,by decide⟩) b r o
theorem aGY(b r len:Nat)(k:IntKind)(i:Int):ia Try.prog 66 (some (.slr 2 b r len)) (some (.int k i))=if 0≤i∧i<len then some (.ret (.ptr b (r+i.toNat) 0),[])else none:=aO3 ⟨_,Try.underlying66,by kernel_rfl⟩ b r len k i
theorem aGE(fl nn:Bool)(rows:List (List AV))(k:IntKind)(i:Int):ia Try.prog 66 (some (slv 2 fl nn rows)) (some (.int k i))=if 0≤i then r1 ((rows[i.toNat]?).map .iptr)else none:=aHG ⟨_,Try.underlying66,by kernel_rfl⟩ fl nn rows k i
theorem aDK(fl nn:Bool)(rows:List (List AV))(k:IntKind)(i:Int):ia Try.prog 24 (some (slv 5 fl nn rows)) (some (.int k i))=if 0≤i then r1 ((rows[i.toNat]?).map .iptr)else none:=aHG ⟨_,Try.underlying24,by kernel_rfl⟩ fl nn rows k i
theorem aBY(b r o:Nat):fa Try.prog 59 (some (.ptr b r o)) 2=some (.ret (.ptr b r (o+2)),[]):=aj9 (show am2 Try.prog 59 2 2 1 from⟨_,_,Try.underlying59,rfl,rfl,by kernel_rfl,by decide⟩) b r o
theorem aRL(cs:List AV):fa Try.prog 59 (some (.iptr cs)) 2=if 2+1≤cs.length then some (.ret (.iptr (cs.drop 2)),[])else none:=aE3 (show am2 Try.prog 59 2 2 1 from⟨_,_,Try.underlying59,rfl,rfl,by kernel_rfl,by decide⟩) cs
theorem aEP(h:aaL)(b r o:Nat):ld Try.prog 57 h (some (.ptr b r o))=ldC (awH (h[b]?) r) o:=aAQ ⟨by kernel_rfl,1,by kernel_rfl⟩ h b r o
theorem aTB(h:aaL)(c:AV)(cs:List AV):ld Try.prog 57 h (some (.iptr (c::cs)))=some (.ret c,[]):=a0I ⟨by kernel_rfl,1,by kernel_rfl⟩ h c cs
theorem aDE(fl nn:Bool)(rows:List (List AV)):ln Try.prog 57 (some (slv 2 fl nn rows))=some (.ret (.int .i64 rows.length),[]):=aHH ⟨_,Try.underlying57,by kernel_rfl⟩ fl nn rows
theorem aCX(b r o:Nat):fa Try.prog 27 (some (.ptr b r o)) 6=some (.ret (.ptr b r (o+6)),[]):=aj9 (show am2 Try.prog 27 6 6 1 from⟨_,_,Try.underlying27,rfl,rfl,by kernel_rfl,by decide⟩) b r o
theorem aDN(base len:Nat)(ps:List (Nat × AV)):rD (ai2 Try.prog base 25 len ps)=bsK 1 (.int .i64 0) base len ps:=a67 (e:=3) (by kernel_rfl) (by kernel_rfl) (by kernel_rfl) base len ps
theorem aR9:asV Try.prog 29=some (.agg [.nils,.int .i64 0]):=by kernel_rfl
theorem aLN(h:aaL)(b r o:Nat)(v:AV):st_ Try.prog 29 h (some (.ptr b r o)) (some v)=sv 2 (h[b]?) b r o (abZ v):=av4 (by kernel_rfl) h b r o v
theorem aW3(b r o:Nat):ftS Try.prog 29 (some (.ptr b r o))=some [.cells b o 2]:=aEY (by kernel_rfl) b r o
theorem aNT(base len:Nat)(ps:List (Nat × AV)):rD (ai2 Try.prog base 66 len ps)=bsK 2 (.agg [.nils,.int .i64 0]) base len ps:=a67 (e:=29) (by kernel_rfl) (by kernel_rfl) (by kernel_rfl) base len ps
theorem aDL(ps:List (Nat × AV)):ayD Try.prog 86 ps=(awV (fun i=>([(0,1),(1,1)]:List (Nat × Nat))[i]?) (abZ (.agg [.int .i64 0,.int .i64 0])) ps).map .agg:=by kernel_rfl
theorem azD(b r o:Nat):fa Try.prog 29 (some (.ptr b r o)) 1=some (.ret (.ptr b r (o+1)),[]):=aj9 (show am2 Try.prog 29 1 1 1 from⟨_,_,Try.underlying29,rfl,rfl,by kernel_rfl,by decide⟩) b r o
theorem aRO(cs:List AV):fa Try.prog 29 (some (.iptr cs)) 1=if 1+1≤cs.length then some (.ret (.iptr (cs.drop 1)),[])else none:=aE3 (show am2 Try.prog 29 1 1 1 from⟨_,_,Try.underlying29,rfl,rfl,by kernel_rfl,by decide⟩) cs
theorem aNE(ps:List (Nat × AV)):ayD Try.prog 90 ps=(awV (fun i=>([(0,1),(1,1)]:List (Nat × Nat))[i]?) (abZ (.agg [.int .i64 0,.int .i64 0])) ps).map .agg:=by kernel_rfl
theorem axY:asV Try.prog 86=some (.agg [.int .i64 0,.int .i64 0]):=by kernel_rfl
theorem ax5(h:aaL)(b r o:Nat)(v:AV):st_ Try.prog 86 h (some (.ptr b r o)) (some v)=sv 2 (h[b]?) b r o (abZ v):=av4 (by kernel_rfl) h b r o v
theorem aM1(b r o:Nat):ftS Try.prog 86 (some (.ptr b r o))=some [.cells b o 2]:=aEY (by kernel_rfl) b r o
theorem ax9(b r o:Nat):fa Try.prog 86 (some (.ptr b r o)) 0=some (.ret (.ptr b r (o+0)),[]):=aj9 (show am2 Try.prog 86 0 0 1 from⟨_,_,Try.underlying86,rfl,rfl,by kernel_rfl,by decide⟩) b r o
theorem aBX(b r o:Nat):fa Try.prog 86 (some (.ptr b r o)) 1=some (.ret (.ptr b r (o+1)),[]):=aj9 (show am2 Try.prog 86 1 1 1 from⟨_,_,Try.underlying86,rfl,rfl,by kernel_rfl,by decide⟩) b r o
theorem auU(b r o:Nat):fa Try.prog 27 (some (.ptr b r o)) 4=some (.ret (.ptr b r (o+4)),[]):=aj9 (show am2 Try.prog 27 4 4 1 from⟨_,_,Try.underlying27,rfl,rfl,by kernel_rfl,by decide⟩) b r o
theorem aJS(h:aaL)(b r o:Nat):ld Try.prog 59 h (some (.ptr b r o))=ldR (awH (h[b]?) r) o 5:=aH7 ⟨by kernel_rfl,by kernel_rfl⟩ h b r o
theorem aEC(h:aaL)(cs:List AV):ld Try.prog 59 h (some (.iptr cs))=if 5≤cs.length then some (.ret (.agg (cs.take 5)),[])else none:=aR3 ⟨by kernel_rfl,by kernel_rfl⟩ h cs
theorem aCW(b r o:Nat):fa Try.prog 59 (some (.ptr b r o)) 1=some (.ret (.ptr b r (o+1)),[]):=aj9 (show am2 Try.prog 59 1 1 1 from⟨_,_,Try.underlying59,rfl,rfl,by kernel_rfl,by decide⟩) b r o
theorem a3W:asV Try.prog 96=some (.nils):=by kernel_rfl
theorem a3S(h:aaL)(b r o:Nat)(v:AV):st_ Try.prog 96 h (some (.ptr b r o)) (some v)=sv 1 (h[b]?) b r o (abZ v):=av4 (by kernel_rfl) h b r o v
theorem aYQ(b r o:Nat):ftS Try.prog 96 (some (.ptr b r o))=some [.cells b o 1]:=aEY (by kernel_rfl) b r o
theorem aJ4(h:aaL)(b r o:Nat):ld Try.prog 96 h (some (.ptr b r o))=ldC (awH (h[b]?) r) o:=aAQ ⟨by kernel_rfl,1,by kernel_rfl⟩ h b r o
theorem aYU(b r o:Nat):ftL Try.prog 96 (some (.ptr b r o))=some [.cells b o 1]:=aBN (isA:=false) (n:=1) (by kernel_rfl) (by kernel_rfl) b r o
theorem aG6(st b r len:Nat):ln Try.prog 99 (some (.slr st b r len))=some (.ret (.int .i64 len),[]):=aPA (n:=2) ⟨_,Try.underlying99,by kernel_rfl⟩ st b r len
theorem aXV:ln Try.prog 99 (some .nils)=some (.ret (.int .i64 0),[]):=aOC (n:=2) ⟨_,Try.underlying99,by kernel_rfl⟩
theorem aHP(b r len:Nat)(k:IntKind)(i:Int):ia Try.prog 99 (some (.slr 2 b r len)) (some (.int k i))=if 0≤i∧i<len then some (.ret (.ptr b (r+i.toNat) 0),[])else none:=aO3 ⟨_,Try.underlying99,by kernel_rfl⟩ b r len k i
theorem au9(h:aaL)(b r o:Nat):ld Try.prog 86 h (some (.ptr b r o))=ldR (awH (h[b]?) r) o 2:=aH7 ⟨by kernel_rfl,by kernel_rfl⟩ h b r o
theorem aN2(b r o:Nat):ftL Try.prog 86 (some (.ptr b r o))=some [.cells b o 2]:=aBN (isA:=true) (n:=2) (by kernel_rfl) (by kernel_rfl) b r o
theorem aD0{O:Orc}(t:List AV)(h:aaL)(s x:Operand):amG O Try.prog t h (.call ⟨.builtin .append,#[s,x],#[66,66]⟩)=apO Try.prog 66 h (abO t s) (abO t x):=aWC t h s x 66 66 _ Try.underlying66
theorem aNU(h:aaL)(s:AV)(a b r l:Nat):apO Try.prog 66 h (some s) (some (.slr a b r l))=apK 2 h (some s) (srK 2 h (some (.slr a b r l))):=aRQ (e:=29) (b:=32) (z:=.agg [.nils,.int .i64 0]) (by kernel_rfl) (by kernel_rfl) (by kernel_rfl) (by kernel_rfl) (by decide+kernel) h s _ (fun q e=>by cases e)
theorem aZO(base:Nat)(l c:Option AV):msO Try.prog 25 base l c=msK 1 (.int .i64 0) base l c:=bfQ (e:=3) (n:=1) (b:=8) (by kernel_rfl) (by kernel_rfl) (by kernel_rfl) (by kernel_rfl) (by decide+kernel) base l c
theorem aSF:asV Try.prog 66=some (.nils):=by kernel_rfl
theorem aP1(h:aaL)(b r o:Nat)(v:AV):st_ Try.prog 66 h (some (.ptr b r o)) (some v)=sv 1 (h[b]?) b r o (abZ v):=av4 (by kernel_rfl) h b r o v
theorem aYR(b r o:Nat):ftS Try.prog 66 (some (.ptr b r o))=some [.cells b o 1]:=aEY (by kernel_rfl) b r o
theorem aXZ:asV Try.prog 100=some (.nilm):=by kernel_rfl
theorem aWX(h:aaL)(b r o:Nat)(v:AV):st_ Try.prog 100 h (some (.ptr b r o)) (some v)=sv 1 (h[b]?) b r o (abZ v):=av4 (by kernel_rfl) h b r o v
theorem aEN(h:aaL)(b r o:Nat):ld Try.prog 66 h (some (.ptr b r o))=ldC (awH (h[b]?) r) o:=aAQ ⟨by kernel_rfl,1,by kernel_rfl⟩ h b r o
theorem aX7(b r o:Nat):ftL Try.prog 66 (some (.ptr b r o))=some [.cells b o 1]:=aBN (isA:=false) (n:=1) (by kernel_rfl) (by kernel_rfl) b r o
theorem aMW(ps:List (Nat × AV)):ayD Try.prog 29 ps=(awV (fun i=>([(0,1),(1,1)]:List (Nat × Nat))[i]?) (abZ (.agg [.nils,.int .i64 0])) ps).map .agg:=by kernel_rfl
theorem a4D(h:aaL)(b r o:Nat)(v:AV):st_ Try.prog 59 h (some (.ptr b r o)) (some v)=sv 5 (h[b]?) b r o (abZ v):=av4 (by kernel_rfl) h b r o v
theorem aKI(h:aaL)(b r o:Nat):ld Try.prog 90 h (some (.ptr b r o))=ldR (awH (h[b]?) r) o 2:=aH7 ⟨by kernel_rfl,by kernel_rfl⟩ h b r o
theorem aTA(ps:List (Nat × AV)):ayD Try.prog 126 ps=(awV (fun i=>([(0,5),(5,2),(7,2)]:List (Nat × Nat))[i]?) (abZ (.agg [.int .i64 0,.int .i64 0,.nils,.int .i64 0,.int .i64 0,.int .i64 0,.int .i64 0,.int .i64 0,.int .i64 0])) ps).map .agg:=by kernel_rfl
theorem aHB(fl nn:Bool)(rows:List (List AV))(k:IntKind)(i:Int):ia Try.prog 57 (some (slv 2 fl nn rows)) (some (.int k i))=if 0≤i then r1 ((rows[i.toNat]?).map .iptr)else none:=aHG ⟨_,Try.underlying57,by kernel_rfl⟩ fl nn rows k i
theorem aCH(b r o:Nat):fa Try.prog 56 (some (.ptr b r o)) 0=some (.ret (.ptr b r (o+0)),[]):=aj9 (show am2 Try.prog 56 0 0 1 from⟨_,_,Try.underlying56,rfl,rfl,by kernel_rfl,by decide⟩) b r o
theorem aRZ(cs:List AV):fa Try.prog 56 (some (.iptr cs)) 0=if 0+1≤cs.length then some (.ret (.iptr (cs.drop 0)),[])else none:=aE3 (show am2 Try.prog 56 0 0 1 from⟨_,_,Try.underlying56,rfl,rfl,by kernel_rfl,by decide⟩) cs
theorem aCV(b r o:Nat):fa Try.prog 59 (some (.ptr b r o)) 0=some (.ret (.ptr b r (o+0)),[]):=aj9 (show am2 Try.prog 59 0 0 1 from⟨_,_,Try.underlying59,rfl,rfl,by kernel_rfl,by decide⟩) b r o
theorem aB0(b r o:Nat):fa Try.prog 59 (some (.ptr b r o)) 3=some (.ret (.ptr b r (o+3)),[]):=aj9 (show am2 Try.prog 59 3 3 1 from⟨_,_,Try.underlying59,rfl,rfl,by kernel_rfl,by decide⟩) b r o
theorem aBV(b r o:Nat):fa Try.prog 59 (some (.ptr b r o)) 4=some (.ret (.ptr b r (o+4)),[]):=aj9 (show am2 Try.prog 59 4 4 1 from⟨_,_,Try.underlying59,rfl,rfl,by kernel_rfl,by decide⟩) b r o
theorem aQL(b r o:Nat):fa Try.prog 56 (some (.ptr b r o)) 1=some (.ret (.ptr b r (o+1)),[]):=aj9 (show am2 Try.prog 56 1 1 1 from⟨_,_,Try.underlying56,rfl,rfl,by kernel_rfl,by decide⟩) b r o
theorem aXD:asV Try.prog 129=some (.nilm):=by kernel_rfl
theorem aXH(h:aaL)(b r o:Nat)(v:AV):st_ Try.prog 129 h (some (.ptr b r o)) (some v)=sv 1 (h[b]?) b r o (abZ v):=av4 (by kernel_rfl) h b r o v
theorem aQN:asV Try.prog 25=some (.nils):=by kernel_rfl
theorem aQD(h:aaL)(b r o:Nat)(v:AV):st_ Try.prog 25 h (some (.ptr b r o)) (some v)=sv 1 (h[b]?) b r o (abZ v):=av4 (by kernel_rfl) h b r o v
theorem aYZ:asV Try.prog 130=some (.nilf):=by kernel_rfl
theorem aXK(h:aaL)(b r o:Nat)(v:AV):st_ Try.prog 130 h (some (.ptr b r o)) (some v)=sv 1 (h[b]?) b r o (abZ v):=av4 (by kernel_rfl) h b r o v
theorem aH2(h:aaL)(b r o:Nat):ld Try.prog 130 h (some (.ptr b r o))=ldC (awH (h[b]?) r) o:=aAQ ⟨by kernel_rfl,1,by kernel_rfl⟩ h b r o
theorem aUN(ps:List (Nat × AV)):ayD Try.prog 114 ps=(awV (fun i=>([(0,2),(2,1)]:List (Nat × Nat))[i]?) (abZ (.agg [.int .i64 0,.int .i64 0,.int .i64 0])) ps).map .agg:=by kernel_rfl
theorem aTZ(ps:List (Nat × AV)):ayD Try.prog 135 ps=(awV (fun i=>([(0,1)]:List (Nat × Nat))[i]?) (abZ (.agg [.nils])) ps).map .agg:=by kernel_rfl
theorem aN9(base len:Nat)(ps:List (Nat × AV)):rD (ai2 Try.prog base 99 len ps)=bsK 2 (.agg [.int .i64 0,.int .i64 0]) base len ps:=a67 (e:=86) (by kernel_rfl) (by kernel_rfl) (by kernel_rfl) base len ps
theorem aD2{O:Orc}(t:List AV)(h:aaL)(s x:Operand):amG O Try.prog t h (.call ⟨.builtin .append,#[s,x],#[99,99]⟩)=apO Try.prog 99 h (abO t s) (abO t x):=aWC t h s x 99 99 _ Try.underlying99
theorem aMY(h:aaL)(s:AV)(a b r l:Nat):apO Try.prog 99 h (some s) (some (.slr a b r l))=apK 2 h (some s) (srK 2 h (some (.slr a b r l))):=aRQ (e:=86) (b:=16) (z:=.agg [.int .i64 0,.int .i64 0]) (by kernel_rfl) (by kernel_rfl) (by kernel_rfl) (by kernel_rfl) (by decide+kernel) h s _ (fun q e=>by cases e)
theorem aXU(st b r len:Nat):ln Try.prog 96 (some (.slr st b r len))=some (.ret (.int .i64 len),[]):=aPA (n:=2) ⟨_,Try.underlying96,by kernel_rfl⟩ st b r len
theorem aX1(b r len:Nat)(k:IntKind)(i:Int):ia Try.prog 96 (some (.slr 2 b r len)) (some (.int k i))=if 0≤i∧i<len then some (.ret (.ptr b (r+i.toNat) 0),[])else none:=aO3 ⟨_,Try.underlying96,by kernel_rfl⟩ b r len k i
theorem aZ2:asV Try.prog 90=some (.agg [.int .i64 0,.int .i64 0]):=by kernel_rfl
theorem a0M(h:aaL)(b r o:Nat)(v:AV):st_ Try.prog 90 h (some (.ptr b r o)) (some v)=sv 2 (h[b]?) b r o (abZ v):=av4 (by kernel_rfl) h b r o v
theorem aNR:asV Try.prog 114=some (.agg [.int .i64 0,.int .i64 0,.int .i64 0]):=by kernel_rfl
theorem aN3(h:aaL)(b r o:Nat)(v:AV):st_ Try.prog 114 h (some (.ptr b r o)) (some v)=sv 3 (h[b]?) b r o (abZ v):=av4 (by kernel_rfl) h b r o v
theorem aQH(b r o:Nat):fa Try.prog 90 (some (.ptr b r o)) 0=some (.ret (.ptr b r (o+0)),[]):=aj9 (show am2 Try.prog 90 0 0 1 from⟨_,_,Try.underlying90,rfl,rfl,by kernel_rfl,by decide⟩) b r o
theorem aQA(h:aaL)(b r o:Nat):ld Try.prog 100 h (some (.ptr b r o))=ldC (awH (h[b]?) r) o:=aAQ ⟨by kernel_rfl,1,by kernel_rfl⟩ h b r o
theorem aPS(b r o:Nat):fa Try.prog 114 (some (.ptr b r o)) 1=some (.ret (.ptr b r (o+2)),[]):=aj9 (show am2 Try.prog 114 1 2 1 from⟨_,_,Try.underlying114,rfl,rfl,by kernel_rfl,by decide⟩) b r o
theorem aO9(b r o:Nat):fa Try.prog 114 (some (.ptr b r o)) 0=some (.ret (.ptr b r (o+0)),[]):=aj9 (show am2 Try.prog 114 0 0 2 from⟨_,_,Try.underlying114,rfl,rfl,by kernel_rfl,by decide⟩) b r o
theorem aWV(n:Nat)(fl:Bool)(rows:List (List AV)):avL Try.prog .eql 25 (.imm n fl rows) .nils=some (.bool false):=aSP Try.underlying25 n fl rows
theorem aKB(h:aaL)(cs:List AV):ld Try.prog 56 h (some (.iptr cs))=if 2≤cs.length then some (.ret (.agg (cs.take 2)),[])else none:=aR3 ⟨by kernel_rfl,by kernel_rfl⟩ h cs
theorem a0F(h:aaL)(b r o:Nat)(v:AV):st_ Try.prog 56 h (some (.ptr b r o)) (some v)=sv 2 (h[b]?) b r o (abZ v):=av4 (by kernel_rfl) h b r o v
theorem aIE(h:aaL)(b r o:Nat):ld Try.prog 126 h (some (.ptr b r o))=ldR (awH (h[b]?) r) o 9:=aH7 ⟨by kernel_rfl,by kernel_rfl⟩ h b r o
theorem aPY(h:aaL)(b r o:Nat):ld Try.prog 129 h (some (.ptr b r o))=ldC (awH (h[b]?) r) o:=aAQ ⟨by kernel_rfl,1,by kernel_rfl⟩ h b r o
theorem aZH(base len:Nat)(ps:List (Nat × AV)):rD (ai2 Try.prog base 96 len ps)=bsK 2 (.agg [.int .i64 0,.int .i64 0]) base len ps:=a67 (e:=90) (by kernel_rfl) (by kernel_rfl) (by kernel_rfl) base len ps
theorem aLY{O:Orc}(t:List AV)(h:aaL)(s x:Operand):amG O Try.prog t h (.call ⟨.builtin .append,#[s,x],#[96,96]⟩)=apO Try.prog 96 h (abO t s) (abO t x):=aWC t h s x 96 96 _ Try.underlying96
theorem aYT(h:aaL)(s:AV)(a b r l:Nat):apO Try.prog 96 h (some s) (some (.slr a b r l))=apK 2 h (some s) (srK 2 h (some (.slr a b r l))):=aRQ (e:=90) (b:=16) (z:=.agg [.int .i64 0,.int .i64 0]) (by kernel_rfl) (by kernel_rfl) (by kernel_rfl) (by kernel_rfl) (by decide+kernel) h s _ (fun q e=>by cases e)
theorem ayO(b r o:Nat):fa Try.prog 126 (some (.ptr b r o)) 0=some (.ret (.ptr b r (o+0)),[]):=aj9 (show am2 Try.prog 126 0 0 5 from⟨_,_,Try.underlying126,rfl,rfl,by kernel_rfl,by decide⟩) b r o
theorem aFL(b r o:Nat):fa Try.prog 126 (some (.ptr b r o)) 1=some (.ret (.ptr b r (o+5)),[]):=aj9 (show am2 Try.prog 126 1 5 2 from⟨_,_,Try.underlying126,rfl,rfl,by kernel_rfl,by decide⟩) b r o
theorem aFY(b r o:Nat):fa Try.prog 126 (some (.ptr b r o)) 2=some (.ret (.ptr b r (o+7)),[]):=aj9 (show am2 Try.prog 126 2 7 2 from⟨_,_,Try.underlying126,rfl,rfl,by kernel_rfl,by decide⟩) b r o
theorem aQ6(b r o:Nat):fa Try.prog 90 (some (.ptr b r o)) 1=some (.ret (.ptr b r (o+1)),[]):=aj9 (show am2 Try.prog 90 1 1 1 from⟨_,_,Try.underlying90,rfl,rfl,by kernel_rfl,by decide⟩) b r o
theorem aEU(b r o:Nat):fa Try.prog 135 (some (.ptr b r o)) 0=some (.ret (.ptr b r (o+0)),[]):=aj9 (show am2 Try.prog 135 0 0 1 from⟨_,_,Try.underlying135,rfl,rfl,by kernel_rfl,by decide⟩) b r o
theorem aKE(h:aaL)(b r o:Nat):ld Try.prog 99 h (some (.ptr b r o))=ldC (awH (h[b]?) r) o:=aAQ ⟨by kernel_rfl,1,by kernel_rfl⟩ h b r o
theorem aXT(b r o:Nat):ftL Try.prog 99 (some (.ptr b r o))=some [.cells b o 1]:=aBN (isA:=false) (n:=1) (by kernel_rfl) (by kernel_rfl) b r o
theorem aRS(h:aaL)(b r o:Nat)(v:AV):st_ Try.prog 99 h (some (.ptr b r o)) (some v)=sv 1 (h[b]?) b r o (abZ v):=av4 (by kernel_rfl) h b r o v
theorem aX3(b r o:Nat):ftS Try.prog 99 (some (.ptr b r o))=some [.cells b o 1]:=aEY (by kernel_rfl) b r o
def azB:=PLift.up (aa9 @aoA (aa9 @aN1 (aa9 @aHM (aa9 @azF (aa9 @afP (aa9 @aGY (aa9 @aGE (aa9 @ay6 (aa9 @aJR @as4)))))))))
def aK4:=PLift.up (aa9 @as1 (aa9 @auY (aa9 @av1 (aa9 @axR (aa9 @aR1 (aa9 @arL (aa9 @aK8 (aa9 @arN (aa9 @azL (aa9 @aA6 (aa9 @aAM (aa9 @aDK (aa9 @aRL (aa9 @aTB (aa9 @aDE (aa9 @aqO (aa9 @arR (aa9 @awS @aCX))))))))))))))))))
def bf6:=PLift.up (aa9 @aoA (aa9 @aYW (aa9 @as4 (aa9 @afP (aa9 @aQW (aa9 @ay6 (aa9 @aDL (aa9 @azG (aa9 @arL (aa9 @aGH (aa9 @azD (aa9 @aNE (aa9 @axY (aa9 @ax5 (aa9 @aM1 (aa9 @ax9 @aBX))))))))))))))))
def aBR:=PLift.up (aa9 @aqO (aa9 @arR (aa9 @awS (aa9 @aAK (aa9 @ay0 (aa9 @aFF (aa9 @aFQ (aa9 @ayA (aa9 @afP (aa9 @auN (aa9 @ax4 (aa9 @as1 (aa9 @auY (aa9 @av1 (aa9 @axR (aa9 @axL (aa9 @as4 (aa9 @auU (aa9 @azF (aa9 @aCX (aa9 @arL (aa9 @arN (aa9 @azL (aa9 @aA6 (aa9 @aAM (aa9 @au5 (aa9 @aoA (aa9 @aDK @aEC))))))))))))))))))))))))))))
def biA:=PLift.up (aa9 @aoA (aa9 @azG (aa9 @arL (aa9 @azD (aa9 @afP @auU)))))
def a55:=PLift.up (aa9 @aoA (aa9 @aqO (aa9 @arR @awS)))
def aWU:=PLift.up (aa9 @arN (aa9 @au5 (aa9 @afP (aa9 @auN @as4))))
def a2D:=PLift.up (aa9 @arN (aa9 @au5 (aa9 @auN (aa9 @aqO (aa9 @arR @awS)))))
def aLT:=PLift.up (aa9 @aoA (aa9 @as4 (aa9 @afP (aa9 @aG6 (aa9 @aHP (aa9 @au9 (aa9 @axY (aa9 @ax5 (aa9 @ax9 (aa9 @aDN (aa9 @axU @aHL)))))))))))
def aR0:=PLift.up (aa9 @aoA (aa9 @as4 (aa9 @afP (aa9 @aSF (aa9 @aP1 (aa9 @aXZ (aa9 @aWX (aa9 @aG6 (aa9 @aHP (aa9 @au9 (aa9 @axY (aa9 @ax5 @ax9))))))))))))
def aX2:=PLift.up (aa9 @aHM (aa9 @aoA (aa9 @aGE @aJR)))
def aXR:=PLift.up (aa9 @arN (aa9 @au5 @auN))
def aG7:=PLift.up (aa9 @aHM (aa9 @aGE (aa9 @aQY (aa9 @aK8 (aa9 @arN (aa9 @au5 (aa9 @auN @aRO)))))))
def az6:=PLift.up (aa9 @aqO (aa9 @arR (aa9 @awS (aa9 @as1 (aa9 @auY (aa9 @av1 (aa9 @azL (aa9 @aA6 (aa9 @aAM (aa9 @as4 (aa9 @afP (aa9 @auU (aa9 @azF (aa9 @aCX (aa9 @arL (aa9 @arN (aa9 @aAK (aa9 @ay0 (aa9 @aFF (aa9 @aFQ (aa9 @ayA (aa9 @ax4 (aa9 @axR (aa9 @axL (aa9 @aCA (aa9 @aB4 (aa9 @azI (aa9 @aCG @ax8))))))))))))))))))))))))))))
def biG:=PLift.up (aa9 @aoA (aa9 @azG (aa9 @arL (aa9 @azD (aa9 @afP @auU)))))
def aL5:=PLift.up (aa9 @au9 (aa9 @axY (aa9 @azL (aa9 @aA6 (aa9 @aAM (aa9 @aDK (aa9 @aJS (aa9 @aEC (aa9 @a2J (aa9 @a4D (aa9 @aKI (aa9 @aTA (aa9 @aCW (aa9 @afP (aa9 @aDL (aa9 @ax5 (aa9 @ax9 @aBX)))))))))))))))))
def aFP:=PLift.up (aa9 @as1 (aa9 @auY (aa9 @av1 (aa9 @axR (aa9 @aK3 (aa9 @axL (aa9 @aCA (aa9 @aB4 (aa9 @azI (aa9 @arL (aa9 @arN (aa9 @au5 (aa9 @afP (aa9 @auN (aa9 @aqO (aa9 @arR (aa9 @aAK (aa9 @ay0 @aCG))))))))))))))))))
def aY0:=PLift.up (aa9 @azI (aa9 @arL (aa9 @arN (aa9 @au5 (aa9 @afP (aa9 @auN (aa9 @aCG @ax8)))))))
def aKP:=PLift.up (aa9 @aBY (aa9 @aEP (aa9 @aDE (aa9 @aHB (aa9 @aRZ (aa9 @afP (aa9 @auN (aa9 @as1 (aa9 @auY (aa9 @av1 (aa9 @aCV (aa9 @as4 (aa9 @aCW (aa9 @aB0 (aa9 @auU @aBV)))))))))))))))
def a54:=PLift.up (aa9 @auU (aa9 @afP (aa9 @aqO (aa9 @arR (aa9 @awS (aa9 @aoA @aC9))))))
def aIV:=PLift.up (aa9 @arN (aa9 @au5 @auN))
def be6:=PLift.up (aa9 @aSF (aa9 @a3W (aa9 @aXD (aa9 @aXH (aa9 @aqO (aa9 @arR (aa9 @awS (aa9 @aZO (aa9 @aQN (aa9 @aQD (aa9 @aYZ (aa9 @aXK (aa9 @aH2 (aa9 @aEN @aJ4))))))))))))))
def aL2:=PLift.up (aa9 @azF (aa9 @afP (aa9 @aDL (aa9 @axY (aa9 @ax5 (aa9 @au9 (aa9 @aUN (aa9 @aTZ (aa9 @aN9 (aa9 @aD2 (aa9 @aMY (aa9 @aXU (aa9 @aX1 (aa9 @aKI (aa9 @aZ2 (aa9 @a0M (aa9 @aoA (aa9 @aNR @aN3))))))))))))))))))
def bh6:=PLift.up (aa9 @arN (aa9 @aqO (aa9 @arR @awS)))
def a06:=PLift.up (aa9 @au9 (aa9 @axY (aa9 @aR9 (aa9 @ax5 (aa9 @aLN (aa9 @ay6 (aa9 @aNT (aa9 @aD0 @aNU))))))))
def bc5:=PLift.up (aa9 @au9 (aa9 @aN2 (aa9 @ay6 (aa9 @axY (aa9 @aR9 (aa9 @aQA (aa9 @aNR (aa9 @aN3 (aa9 @aPS (aa9 @afP (aa9 @aQW (aa9 @aMW (aa9 @ax5 (aa9 @aM1 (aa9 @aLN (aa9 @aW3 (aa9 @aEN (aa9 @aGY (aa9 @aO9 (aa9 @azG (aa9 @arL (aa9 @aGH @azD))))))))))))))))))))))
def beK:=PLift.up (aa9 @aWV (aa9 @aDN (aa9 @axU @aXX)))
def bgD:=PLift.up (aa9 @aoA @aJS)
def aE7:=PLift.up (aa9 @aBY (aa9 @aEP (aa9 @aDE (aa9 @aHB (aa9 @aKB (aa9 @a4P (aa9 @a0F (aa9 @aCH (aa9 @afP (aa9 @as1 (aa9 @auY (aa9 @av1 (aa9 @aCV (aa9 @as4 (aa9 @aCW (aa9 @aB0 (aa9 @auU @aBV)))))))))))))))))
def a6G:=PLift.up (aa9 @aIE @aIE)
def bfE:=PLift.up (aa9 @aHY (aa9 @aGF (aa9 @ayA (aa9 @afP (aa9 @ax4 (aa9 @aH1 @ax8))))))
def aAE:=PLift.up (aa9 @aqO (aa9 @arR (aa9 @aAK (aa9 @ay0 (aa9 @aFF (aa9 @aFQ (aa9 @aDN (aa9 @aHY (aa9 @aGF (aa9 @ayA (aa9 @afP (aa9 @ax4 (aa9 @axU (aa9 @aHL (aa9 @as1 (aa9 @auY (aa9 @av1 (aa9 @axR (aa9 @axL (aa9 @aCA (aa9 @aB4 (aa9 @ax8 (aa9 @aH1 (aa9 @aC9 @aGD))))))))))))))))))))))))
def aMF:=PLift.up (aa9 @afP (aa9 @arL (aa9 @aGH (aa9 @aC9 (aa9 @aoA (aa9 @aPY (aa9 @auU (aa9 @aEN (aa9 @aX7 (aa9 @aMW (aa9 @aNT (aa9 @aD0 (aa9 @aNU (aa9 @aJ4 (aa9 @aYU (aa9 @aNE (aa9 @aZH (aa9 @aLY (aa9 @aYT (aa9 @aP1 (aa9 @aYR (aa9 @a3S (aa9 @aYQ (aa9 @aGD (aa9 @a6X @aH2)))))))))))))))))))))))))
def a8D:=PLift.up (aa9 @aqO (aa9 @arR (aa9 @afP (aa9 @aAK (aa9 @ay0 (aa9 @aFF (aa9 @aFQ (aa9 @ayA (aa9 @ax4 (aa9 @aDN (aa9 @aQN (aa9 @aQD (aa9 @as1 (aa9 @auY (aa9 @av1 (aa9 @axR (aa9 @axL (aa9 @aCA (aa9 @aB4 (aa9 @arL (aa9 @ax8 (aa9 @axU @aHL))))))))))))))))))))))
def a0H:=PLift.up (aa9 @arN (aa9 @au5 @auN))
def aUP:=PLift.up (aa9 @aN1 (aa9 @aY8 (aa9 @aGY (aa9 @ay6 @aLN))))
def aMC:=PLift.up (aa9 @aAM (aa9 @aDK @aEC))
def bgC:=PLift.up (aa9 @aCH @afP)
def aL3:=PLift.up (aa9 @arN (aa9 @au5 @auN))
def bfY:=PLift.up (aa9 @ayO (aa9 @aCV (aa9 @afP (aa9 @aFL @ax9))))
def be0:=PLift.up (aa9 @ayO (aa9 @aBV (aa9 @afP (aa9 @aFL @aBX))))
def bgJ:=PLift.up (aa9 @ayO (aa9 @aBY @aEP))
def bgX:=PLift.up (aa9 @ayO (aa9 @aB0 (aa9 @afP (aa9 @aFY @aQ6))))
def aK2:=PLift.up (aa9 @arL (aa9 @aC9 (aa9 @aGD (aa9 @afP (aa9 @as1 (aa9 @auY (aa9 @av1 (aa9 @axR (aa9 @aK3 (aa9 @axL (aa9 @aCA (aa9 @aB4 (aa9 @azI @aT4)))))))))))))
def aAN:=PLift.up (aa9 @aDE (aa9 @aHB @aKB))
def beU:=PLift.up (aa9 @aFY (aa9 @aQH (aa9 @afP (aa9 @aCH (aa9 @aQL @aGF)))))
def a9K:=PLift.up (aa9 @aEU (aa9 @aKE (aa9 @aXT (aa9 @au9 (aa9 @aN2 (aa9 @aN9 (aa9 @aD2 (aa9 @aMY (aa9 @aRS @aX3)))))))))
def a1B:=PLift.up (aa9 @au9 (aa9 @axY (aa9 @aEU (aa9 @aKE (aa9 @aG6 (aa9 @aXV (aa9 @aDL (aa9 @ax5 (aa9 @aHP @aRS)))))))))
end Go.Proofs.Ytfkokgjfpojeoaa
namespace Go.Proofs.Ytfkokgjfpojeoaa.Ko
open Go Go.Ev Go.ChangeShapes Go.WideShapes Go.ChangeAt Go.RowKit
set_option maxRecDepth 100000
set_option maxHeartbeats 16000000
def mdL:List Nat:=[96,100,102,83]
def pr:auV:={ at_:=fun _=>none,md:=(mdL.contains ·) }
noncomputable def om':Orc:=om Try.prog pr
theorem aB2(f:Nat):om'.md f=([96,100,102,83]:List Nat).contains f:=Eq.trans rfl rfl
def Vc:=PLift.up (aa9 EG.down (aa9 EVu.down @aB2))
theorem bcK{C:R→Prop}[NoN C]{n:Nat}{k:List adP}{c:Code}{s:St}(h:Un om' Try.prog n k c C (evM om' Try.prog 5000 c [] s)):C (lpK om' Try.prog n k (om'.loop c s)):=a9P (pr:=pr) h
theorem a76:aUB Try.prog:=fun f fn hf=>by
 have h:(Try.prog.funcs.toList.all fun fn=> !(fn.name== "runtime.NumGoroutine"))=true:=by kernel_rfl
 have:=List.all_eq_true.1 h fn (by rw[Array.mem_toList_iff];exact Array.mem_of_getElem? hf)
 simpa using this
theorem mixed:Try.prog.follows .mixedOrders=true:=by kernel_rfl
theorem calls_ok:arS Try.prog (fun _=>none) om':=a9R a76 ⟨fun f p h=>(by cases h),fun f p h=>(by cases h)⟩ mixed
theorem aTO{f:Nat}{fn:Func}{c:Code}{args:List AV}{h:aaL}{Q:Out→aaL→Prop}(hp:pr f=none)(hf:Try.prog.funcs[f]?=some fn)(hb:fn.body=some c)(hl:Nat.ble args.length fn.ntmps=true)
 (he:FnE Try.prog h.length fn.results.toList Q (evM om' Try.prog 5000 c [] ⟨mk fn.ntmps (ent args),h⟩)):ClQ om' f args h Q:=ClQ.start (pr:=pr) hp hf hb hl he
theorem ce{f:Nat}{fn:Func}{c:Code}{args:List AV}{h:aaL}{o:Out}{h':aaL}(hf:Try.prog.funcs[f]?=some fn)(he:FnE Try.prog h.length fn.results.toList (fun o1 h1=>(o1,h1)=(o,h')) (evM om' Try.prog 5000 c [] ⟨mk fn.ntmps (ent args),h⟩))(hp:pr f=none:=by exact rfl)(hb:fn.body=some c:=by exact rfl)(hl:Nat.ble args.length fn.ntmps=true:=by exact rfl):om'.call (.fn f) args h=some (o,h'):=(aTO hp hf hb hl he).eq
theorem lst{α σ ρ:Type}{c:Code}(N:Nat)(l:List α)(E:Nat→σ→Tm→aaL→Prop)(F:List α→σ→ρ)(Q:ρ→Ex→Tm→aaL→Prop)
 (stop:∀s t h Q',(∀e t h,Q (F [] s) e t h→Q' e ⟨mk N t,h⟩)→E l.length s t h→Rnd N (fun _ _=>False) Q' (evM om' Try.prog 5000 c [] ⟨mk N t,h⟩))
 (go:∀x rest i s t h J Q',(∀t' h' s',E (i+1) s' t' h'→F rest s'=F (x::rest) s→J t' h')→(∀e t h,Q (F (x::rest) s) e t h→Q' e ⟨mk N t,h⟩)→l[i]?=some x→i<l.length→E i s t h→
   Rnd N J Q' (evM om' Try.prog 5000 c [] ⟨mk N t,h⟩)):
 ∀s t h,E 0 s t h→LpQ om' c ⟨mk N t,h⟩ (Ot N (Q (F l s))):=aNC (pr:=pr) rfl N l E F Q stop go
def iv(x:Int):List AV:=[.int .i64 x]
theorem aaO{h:aaL}{b:Nat}{c:CB}(h0:h[b]?=some c)(l:aaL):(h++l)[b]?=some c:=by
 rw[List.getElem?_append_left (List.getElem?_eq_some_iff.1 h0).1];exact h0
end Go.Proofs.Ytfkokgjfpojeoaa.Ko
namespace Go.Proofs.Ytfkokgjfpojeoaa.Ko
open Go.Ev Go
set_option maxRecDepth 100000
set_option maxHeartbeats 16000000
structure ad1 where
 lo:Int
 hi:Int
 byp:Bool
def ad1.cells(s:ad1):List AV:=[.int .i64 s.lo,.int .i64 s.hi,.bool s.byp]
structure abT where
 nn:Bool
 sens:List Int
 need:Int
 level:Int
 above:Bool
def abT.cells(v:abT):List AV:=[slv 1 true v.nn (v.sens.map iv),.int .i64 v.need,.int .i64 v.level,.bool v.above]
structure acI where
 vote:Int
 is:Bool
def acI.cells(w:acI):List AV:=[.int .i64 w.vote,.bool w.is]
structure ac4 where
 frm:Int
 to:Int
 nn:Bool
 wants:List acI
 cmd:Int
 after:Int
def ac4.cells(x:ac4):List AV:=[.int .i64 x.frm,.int .i64 x.to,slv 2 true x.nn (x.wants.map acI.cells),.int .i64 x.cmd,.int .i64 x.after]
structure aaW where
 nS:Bool
 sens:List ad1
 nV:Bool
 votes:List abT
 nM:Bool
 moves:List ac4
 states:Int
 cmds:Int
 bgn:Int
 nO:Bool
 opn:List Int
abbrev aaW.cells(m:aaW):List AV:=[slv 3 true m.nS (m.sens.map ad1.cells),slv 4 false m.nV (m.votes.map abT.cells),slv 5 false m.nM (m.moves.map ac4.cells),.int .i64 m.states,.int .i64 m.cmds,.int .i64 m.bgn,slv 1 true m.nO (m.opn.map iv)]
structure aaW.small(m:aaW):Prop where
 sens:m.sens.length≤maxLen
 votes:m.votes.length≤maxLen
 moves:m.moves.length≤maxLen
 opn:m.opn.length≤maxLen
 vs:∀v∈m.votes,v.sens.length≤maxLen
 ws:∀x∈m.moves,x.wants.length≤maxLen
def inB(x lo hi:Int):Bool:=decide (lo≤x)&&decide (x≤hi)
theorem axB(x lo hi:Int):om'.call (.fn 43) [.int .i64 x,.int .i64 lo,.int .i64 hi] []=some (.ret (.bool (inB x lo hi)),[]):=by
 (refine ce Try.func43 ?_;simp only[Try.f43];(have hb:=trivial;with_reducible repeat' (first|simp only[hb,Vc.down,seval]|refine fsp ?_ ?_<;>intro hb|refine fd ?_|fail)))
 all_goals simp[inB, *]
def awX(x:Int):Bool:=inB x (-10000) 10000
theorem aA9(x:Int):om'.call (.fn 69) [.int .i64 x] []=some (.ret (.bool (awX x)),[]):=by
 (refine ce Try.func69 ?_;simp only[Try.f69];(have hb:=trivial;with_reducible repeat' (first|simp only[hb,Vc.down,seval,axB]|refine fsp ?_ ?_<;>intro hb|refine fd ?_|fail)))
 all_goals rfl
theorem aJ9(x:Int):om'.call (.fn 74) [.int .i64 x] []=some (.ret (.bool (!inB x 0 255)),[]):=by
 (refine ce Try.func74 ?_;simp only[Try.f74];(have hb:=trivial;with_reducible repeat' (first|simp only[hb,Vc.down,seval,axB]|refine fsp ?_ ?_<;>intro hb|refine fd ?_|fail)))
def aw5(s:ad1)(v:abT)(r:Int):Bool:= !s.byp&&(!inB r s.lo s.hi||(if v.above=true then decide (v.level≤r)else decide (r≤v.level)))
theorem aO6(s:ad1)(v:abT)(r:Int):om'.call (.fn 76) [.agg [.int .i64 s.lo,.int .i64 s.hi,.bool s.byp],.agg [slv 1 true v.nn (v.sens.map iv),.int .i64 v.need,.int .i64 v.level,.bool v.above],.int .i64 r] []=some (.ret (.bool (aw5 s v r)),[]):=by
 (refine ce Try.func76 ?_;simp only[Try.f76];(have hb:=trivial;with_reducible repeat' (first|simp only[hb,Vc.down,seval,bfE.down,axB]|refine fsp ?_ ?_<;>intro hb|refine fd ?_|fail)))
 all_goals simp_all[aw5]
def idx{α:Type}(p:α→Bool):List α→Int→Int
 | [],_=> -1
 |x::l,i=>if p x=true then i else idx p l (i+1)
theorem awG{α:Type}(p:α→Bool):∀(l:List α) (i:Int),0≤i→decide (0≤idx p l i)=l.any p
 | [],i,_=>rfl
 |x::l,i,h=>by
  unfold idx
  split
  ·rename_i hp;simp[h,hp]
  ·rename_i hp;rw[awG p l (i+1) (by omega)];simp[hp]
theorem aKH{l:List Int}{nn:Bool}{g:Nat}{cap:List AV}{p:Int→Bool}(hc:cap.all (ad2 8)=true)(hc7:cap.all (ad2 7)=true)(hp:∀x∈l,om'.call (.fn g) (.int .i64 x::cap) []=some (.ret (.bool (p x)),[]))(hl:l.length≤maxLen)(hgm:om'.md g=false:=by exact rfl):
 om'.call (.fn 91) [slv 1 true nn (l.map iv),.func (.func g) [] cap] []=some (.ret (.int .i64 (idx p l 0)),[]):=by
 (refine ce Try.func91 ?_;simp only[Try.f91];(have hb:=trivial;with_reducible repeat' (first|simp only[hb,Vc.down,seval,aL3.down,adE]|refine fsp ?_ ?_<;>intro hb|refine fd ?_|fail)))
 refine ahX (lst 19 l (fun i (s:Int) t h=>s=i∧h=[]∧t 0=slv 1 true nn (l.map iv)∧t 1=.func (.func g) [] cap∧t 7=.int .i64 l.length∧t 8=.int .i64 i)
  (fun rest s=>idx p rest s) (fun r e t h=>h=[]∧((e=.exit 0∧r= -1)∨(e=.ret∧t 4=.int .i64 r))) ?_ ?_ 0 _ _ ?_) (fun e t h hk=>?_)
 ·rintro s t h Q' kQ ⟨rfl,rfl,h0,h1,h7,h8⟩
  (have hb:=trivial;with_reducible repeat' (first|simp only[hb,Vc.down,seval,aL3.down,h0,h1,h7,h8,adJ,decide_false]|refine fsp ?_ ?_<;>intro hb|refine fd ?_|fail))
  exact kQ _ _ _ ⟨rfl,.inl ⟨rfl,rfl⟩⟩
 ·rintro x rest i s t h J Q' kJ kQ hx hi ⟨rfl,rfl,h0,h1,h7,h8⟩
  have hgm2:=hgm
  simp only[aB2,akQ,alW,am1]at hgm2
  have hpx:=hp x (aeU hx)
  have hd:decide ((i:Int)<(l.length:Int))=true:=by simpa using hi
  (have hb:=trivial;with_reducible repeat' (first|simp only[hb,Vc.down,seval,aL3.down,h0,h1,h7,h8,hd,hx,iv,hc,hc7,hpx,hgm2,adL hi hl]|refine fsp ?_ ?_<;>intro hb|refine fd ?_|fail))
  ·exact kQ _ _ _ ⟨rfl,.inr ⟨rfl,by simp[up,idx,hb]⟩⟩
  ·exact adW (kJ _ _ (i+1) ⟨by simp,rfl,by simp[up,h0],by simp[up,h1],by simp[up,h7],by simp[up]⟩ (by simp[idx,hb]))
 ·exact⟨rfl,rfl,by simp[up,ent],by simp[up,ent],by simp[up],by simp[up]⟩
 ·obtain⟨rfl,⟨rfl,hi⟩|⟨rfl,hi⟩⟩:=hk
  ·(have hb:=trivial;with_reducible repeat' (first|simp only[hb,Vc.down,seval,aL3.down]|refine fsp ?_ ?_<;>intro hb|refine fd ?_|fail))
   rw[hi]
  ·(have hb:=trivial;with_reducible repeat' (first|simp only[hb,Vc.down,seval,aL3.down,hi]|refine fsp ?_ ?_<;>intro hb|refine fd ?_|fail))
theorem aDG{l:List Int}{nn:Bool}{g:Nat}{cap:List AV}{p:Int→Bool}(hc:cap.all (ad2 8)=true)(hc7:cap.all (ad2 7)=true)(hp:∀x∈l,om'.call (.fn g) (.int .i64 x::cap) []=some (.ret (.bool (p x)),[]))(hl:l.length≤maxLen)(hgm:om'.md g=false:=by exact rfl):
 om'.call (.fn 73) [slv 1 true nn (l.map iv),.func (.func g) [] cap] []=some (.ret (.bool (l.any p)),[]):=by
 (refine ce Try.func73 ?_;simp only[Try.f73];(have hb:=trivial;with_reducible repeat' (first|simp only[hb,Vc.down,seval,aKH hc hc7 hp hl hgm,hc,hc7,awG p l 0 (aiZ 0)]|refine fsp ?_ ?_<;>intro hb|refine fd ?_|fail)))
def as7(b:Int):List Int→Option Int→Bool
 | [],_=>true
 |n::l,p=>inB n 0 (IntKind.i64.wrap (b-1))&&(match p with|none=>true|some q=> !decide (n≤q))&&as7 b l (some n)
theorem aA8{l:List Int}{nn:Bool}(b:Int)(hl:l.length≤maxLen):om'.call (.fn 53) [slv 1 true nn (l.map iv),.int .i64 b] []=some (.ret (.bool (as7 b l none)),[]):=by
 (refine ce Try.func53 ?_;simp only[Try.f53];(have hb:=trivial;with_reducible repeat' (first|simp only[hb,Vc.down,seval,aIV.down,adE]|refine fsp ?_ ?_<;>intro hb|refine fd ?_|fail)))
 refine ahX (lst 33 l (fun i (s:Option Int) t h=>(i=0∧s=none∨0<i∧s=l[i-1]?)∧t 0=slv 1 true nn (l.map iv)∧t 1=.int .i64 b∧t 7=slv 1 true nn (l.map iv)∧t 8=.int .i64 l.length∧t 9=.int .i64 i)
  (fun rest s=>as7 b rest s) (fun r e t h=>if r=true then e=.exit 0 else e=.ret∧t 4=.bool false) ?_ ?_ none _ _ ?_) (fun e t h hk=>?_)
 ·rintro s t h Q' kQ ⟨hs,h0,h1,h7,h8,h9⟩
  (have hb:=trivial;with_reducible repeat' (first|simp only[hb,Vc.down,seval,aIV.down,h0,h1,h7,h8,h9,adJ,decide_false]|refine fsp ?_ ?_<;>intro hb|refine fd ?_|fail))
  exact kQ _ _ _ (by simp[as7])
 ·rintro x rest i s t h J Q' kJ kQ hx hi ⟨hs,h0,h1,h7,h8,h9⟩
  have hd:decide ((i:Int)<(l.length:Int))=true:=by simpa using hi
  have kF:∀{p:Option Int},(inB x 0 (IntKind.i64.wrap (b-1))&&(match p with|none=>true|some q=> !decide (x≤q)))=false→as7 b (x::rest) p=false:=fun h=>by simp[as7,h]
  have kT:∀{p:Option Int},(inB x 0 (IntKind.i64.wrap (b-1))&&(match p with|none=>true|some q=> !decide (x≤q)))=true→as7 b rest (some x)=as7 b (x::rest) p:=fun h=>by simp[as7,h]
  have hw:=adL hi hl
  rcases hs with⟨rfl,rfl⟩|⟨hpos,rfl⟩
  ·simp only[Int.natCast_zero,Int.zero_add]at hd h9 hw
   (have hb:=trivial;with_reducible repeat' (first|simp only[hb,Vc.down,seval,aIV.down,h0,h1,h7,h8,h9,hd,hx,iv,axB,hw,Int.toNat_zero,aiZ,adJ,decide_false]|refine fsp ?_ ?_<;>intro hb|refine fd ?_|fail))
   all_goals first
    |exact kQ _ _ _ (by rw[if_neg (by rw[kF (by simp_all)];simp)];exact⟨rfl,rfl⟩)
    |exact adW (kJ _ _ (some x) ⟨.inr ⟨by omega,by simp[hx]⟩,by simp[up,h0],by simp[up,h1],by simp[up,h7],by simp[up,h8],by simp[up]<;>omega⟩ (kT (by simp_all)))
  ·obtain⟨j,rfl⟩:∃j,i=j+1:=⟨i-1,by omega⟩
   obtain⟨q,hq⟩:∃q,l[j]?=some q:=⟨l[j],List.getElem?_eq_getElem (by omega)⟩
   have hj:IntKind.i64.wrap (((j+1:Nat):Int)-1)=(j:Int):=by unfold maxLen at hl;rw[ajR (by omega) (by omega)];omega
   have hg:decide (0<((j+1:Nat):Int))=true:=by rw[decide_eq_true_eq];omega
   simp only[Nat.add_sub_cancel,hq]at kJ kQ
   (have hb:=trivial;with_reducible repeat' (first|simp only[hb,Vc.down,seval,aIV.down,h0,h1,h7,h8,h9,hd,hx,iv,axB,hw,hj,hg,hq]|refine fsp ?_ ?_<;>intro hb|refine fd ?_|fail))
   all_goals first
    |exact kQ _ _ _ (by rw[if_neg (by rw[kF (by simp_all)];simp)];exact⟨rfl,rfl⟩)
    |exact adW (kJ _ _ (some x) ⟨.inr ⟨by omega,by simp[hx]⟩,by simp[up,h0],by simp[up,h1],by simp[up,h7],by simp[up,h8],by simp[up]<;>omega⟩ (kT (by simp_all)))
 ·exact⟨.inl ⟨rfl,rfl⟩,by simp[up,ent],by simp[up,ent],by simp[up,ent],by simp[up],by simp[up]⟩
 ·split at hk
  ·subst hk
   rename_i hr
   (have hb:=trivial;with_reducible repeat' (first|simp only[hb,Vc.down,seval,aIV.down]|refine fsp ?_ ?_<;>intro hb|refine fd ?_|fail))
   all_goals simp[hr]
  ·obtain⟨rfl,h2⟩:=hk
   rename_i hr
   (have hb:=trivial;with_reducible repeat' (first|simp only[hb,Vc.down,seval,aIV.down,h2]|refine fsp ?_ ?_<;>intro hb|refine fd ?_|fail))
   all_goals simp[hr]
def ay9(ns:Int)(v:abT):Bool:=as7 ns v.sens none&&inB v.need 1 v.sens.length&&awX v.level
theorem aPN(o w:acI):om'.call (.fn 90) [.agg [.int .i64 o.vote,.bool o.is],.ptr 0 0 0] [.live 2 true false [[.int .i64 w.vote,.bool w.is]]]=some (.ret (.bool (o.vote==w.vote)),[.live 2 true false [[.int .i64 w.vote,.bool w.is]]]):=by
 (refine ce Try.func90 ?_;simp only[Try.f90];(have hb:=trivial;with_reducible repeat' (first|simp only[hb,Vc.down,seval,bgC.down]|refine fsp ?_ ?_<;>intro hb|refine fd ?_|fail)))
theorem aHS{l:List acI}{nn:Bool}{g:Nat}{ww:acI}{p:acI→Bool}(hp:∀x∈l,om'.call (.fn g) (.agg [.int .i64 x.vote,.bool x.is]::[.ptr 0 0 0]) [.live 2 true false [[.int .i64 ww.vote,.bool ww.is]]]=some (.ret (.bool (p x)),[.live 2 true false [[.int .i64 ww.vote,.bool ww.is]]]))(hl:l.length≤maxLen)(hgm:om'.md g=false:=by exact rfl):
 om'.call (.fn 98) [slv 2 true nn (l.map acI.cells),.func (.func g) [] [.ptr 0 0 0]] [.live 2 true false [[.int .i64 ww.vote,.bool ww.is]]]=some (.ret (.int .i64 (idx p l 0)),[.live 2 true false [[.int .i64 ww.vote,.bool ww.is]]]):=by
 (refine ce Try.func98 ?_;simp only[Try.f98];(have hb:=trivial;with_reducible repeat' (first|simp only[hb,Vc.down,seval,aAN.down,adE]|refine fsp ?_ ?_<;>intro hb|refine fd ?_|fail)))
 refine ahX (lst 19 l (fun i (s:Int) t h=>s=i∧h=[.live 2 true false [[.int .i64 ww.vote,.bool ww.is]]]∧t 0=slv 2 true nn (l.map acI.cells)∧t 1=.func (.func g) [] [.ptr 0 0 0]∧t 7=.int .i64 l.length∧t 8=.int .i64 i)
  (fun rest s=>idx p rest s) (fun r e t h=>h=[.live 2 true false [[.int .i64 ww.vote,.bool ww.is]]]∧((e=.exit 0∧r= -1)∨(e=.ret∧t 4=.int .i64 r))) ?_ ?_ 0 _ _ ?_) (fun e t h hk=>?_)
 ·rintro s t h Q' kQ ⟨rfl,rfl,h0,h1,h7,h8⟩
  (have hb:=trivial;with_reducible repeat' (first|simp only[hb,Vc.down,seval,aAN.down,h0,h1,h7,h8,adJ,decide_false]|refine fsp ?_ ?_<;>intro hb|refine fd ?_|fail))
  exact kQ _ _ _ ⟨rfl,.inl ⟨rfl,rfl⟩⟩
 ·rintro x rest i s t h J Q' kJ kQ hx hi ⟨rfl,rfl,h0,h1,h7,h8⟩
  have hgm2:=hgm
  simp only[aB2,akQ,alW,am1]at hgm2
  have hpx:=hp x (aeU hx)
  have hd:decide ((i:Int)<(l.length:Int))=true:=by simpa using hi
  (have hb:=trivial;with_reducible repeat' (first|simp only[hb,Vc.down,seval,aAN.down,h0,h1,h7,h8,hd,hx,acI.cells,hpx,hgm2,adL hi hl]|refine fsp ?_ ?_<;>intro hb|refine fd ?_|fail))
  ·exact kQ _ _ _ ⟨rfl,.inr ⟨rfl,by simp[up,idx,hb]⟩⟩
  ·exact adW (kJ _ _ (i+1) ⟨by simp,rfl,by simp[up,h0],by simp[up,h1],by simp[up,h7],by simp[up]⟩ (by simp[idx,hb]))
 ·exact⟨rfl,rfl,by simp[up,ent],by simp[up,ent],by simp[up],by simp[up]⟩
 ·obtain⟨rfl,⟨rfl,hi⟩|⟨rfl,hi⟩⟩:=hk
  ·(have hb:=trivial;with_reducible repeat' (first|simp only[hb,Vc.down,seval,aAN.down]|refine fsp ?_ ?_<;>intro hb|refine fd ?_|fail))
   rw[hi]
  ·(have hb:=trivial;with_reducible repeat' (first|simp only[hb,Vc.down,seval,aAN.down,hi]|refine fsp ?_ ?_<;>intro hb|refine fd ?_|fail))
theorem aEB{l:List acI}{nn:Bool}{g:Nat}{ww:acI}{p:acI→Bool}(hp:∀x∈l,om'.call (.fn g) (.agg [.int .i64 x.vote,.bool x.is]::[.ptr 0 0 0]) [.live 2 true false [[.int .i64 ww.vote,.bool ww.is]]]=some (.ret (.bool (p x)),[.live 2 true false [[.int .i64 ww.vote,.bool ww.is]]]))(hl:l.length≤maxLen)(hgm:om'.md g=false:=by exact rfl):
 om'.call (.fn 89) [slv 2 true nn (l.map acI.cells),.func (.func g) [] [.ptr 0 0 0]] [.live 2 true false [[.int .i64 ww.vote,.bool ww.is]]]=some (.ret (.bool (l.any p)),[.live 2 true false [[.int .i64 ww.vote,.bool ww.is]]]):=by
 (refine ce Try.func89 ?_;simp only[Try.f89];(have hb:=trivial;with_reducible repeat' (first|simp only[hb,Vc.down,seval,aHS hp hl hgm,awG p l 0 (aiZ 0)]|refine fsp ?_ ?_<;>intro hb|refine fd ?_|fail)))
def au1(nv:Int):List acI→List acI→Bool
 |_,[]=>true
 |pre,w::l=>inB w.vote 0 (IntKind.i64.wrap (nv-1))&& !(pre.any fun o=>o.vote==w.vote)&&au1 nv (pre++[w]) l
def avG(m:aaW)(x:ac4):Bool:=au1 m.votes.length [] x.wants&&inB x.frm 0 (IntKind.i64.wrap (m.states-1))&&inB x.to 0 (IntKind.i64.wrap (m.states-1))&&decide (x.wants.length≤6)&&inB x.cmd (-1) (IntKind.i64.wrap (m.cmds-1))&&inB x.after 0 10
theorem aTV(m:aaW)(y:ac4)(hl:y.wants.length≤maxLen):om'.call (.fn 72) [.agg [slv 3 true m.nS (m.sens.map ad1.cells),slv 4 false m.nV (m.votes.map abT.cells),slv 5 false m.nM (m.moves.map ac4.cells),.int .i64 m.states,.int .i64 m.cmds,.int .i64 m.bgn,slv 1 true m.nO (m.opn.map iv)],.agg [.int .i64 y.frm,.int .i64 y.to,slv 2 true y.nn (y.wants.map acI.cells),.int .i64 y.cmd,.int .i64 y.after]] []=some (.ret (.bool (avG m y)),[]):=by
 have l6:decide ((y.wants.length:Int)≤6)=decide (y.wants.length≤6):=by rw[decide_eq_decide];omega
 (refine ce Try.func72 ?_;simp only[Try.f72];(have hb:=trivial;with_reducible repeat' (first|simp only[hb,Vc.down,seval,aE7.down,adE]|refine fsp ?_ ?_<;>intro hb|refine fd ?_|fail)))
 refine ahX (lst 65 y.wants (fun i (zz:List acI) t h=>t 2=.ptr 0 0 0∧t 3=.ptr 1 0 0∧t 8=slv 2 true y.nn (y.wants.map acI.cells)∧t 9=.int .i64 y.wants.length∧t 10=.int .i64 i∧(h[0]?=some (.live 7 false false [[slv 3 true m.nS (m.sens.map ad1.cells),slv 4 false m.nV (m.votes.map abT.cells),slv 5 false m.nM (m.moves.map ac4.cells),.int .i64 m.states,.int .i64 m.cmds,.int .i64 m.bgn,slv 1 true m.nO (m.opn.map iv)]])∧h[1]?=some (.live 5 false false [[.int .i64 y.frm,.int .i64 y.to,slv 2 true y.nn (y.wants.map acI.cells),.int .i64 y.cmd,.int .i64 y.after]])∧zz=y.wants.take i)) (fun rest zz=>au1 m.votes.length zz rest) (fun r e t h=>(if r=true then e=.exit 0∧t 2=.ptr 0 0 0∧t 3=.ptr 1 0 0∧h[0]?=some (.live 7 false false [[slv 3 true m.nS (m.sens.map ad1.cells),slv 4 false m.nV (m.votes.map abT.cells),slv 5 false m.nM (m.moves.map ac4.cells),.int .i64 m.states,.int .i64 m.cmds,.int .i64 m.bgn,slv 1 true m.nO (m.opn.map iv)]])∧h[1]?=some (.live 5 false false [[.int .i64 y.frm,.int .i64 y.to,slv 2 true y.nn (y.wants.map acI.cells),.int .i64 y.cmd,.int .i64 y.after]])else e=.ret∧t 4=.bool false)) ?_ ?_ ([]) _ _ ?_) (fun e t h hk=>?_)
 ·rintro p t h Q' kQ ⟨h2,h3,h8,h9,h10,⟨hA,hB,hp⟩⟩
  (have hb:=trivial;with_reducible repeat' (first|simp only[hb,Vc.down,seval,aE7.down,h2,h3,h8,h9,h10,adJ,decide_false]|refine fsp ?_ ?_<;>intro hb|refine fd ?_|fail))
  exact kQ _ _ _ (by rw[if_pos (by rfl)];exact⟨rfl,by simp[up,h2],by simp[up,h3],hA,hB⟩)
 ·rintro x rest i p t h J Q' kJ kQ hx hi ⟨h2,h3,h8,h9,h10,⟨hA,hB,hp⟩⟩
  have hd:decide ((i:Int)<(y.wants.length:Int))=true:=decide_eq_true (by omega)
  have hw:=adL hi hl
  have hA1:=aaO hA
  have hB1:=aaO hB
  have hcW:=aEB (l:=y.wants.take i) (nn:=true) (ww:=x) (g:=90) (p:=fun o=>o.vote==x.vote) (fun o _=>aPN o x) (by simp;omega)
  have hsl:=a18 (P:=Try.prog) (ty:=57) (n:=2) ⟨_,Try.underlying57,by kernel_rfl⟩ true y.nn (rows:=y.wants.map acI.cells) (i:=i) (by simpa using hi)
  rw[aw6,List.map_take]at hcW
  subst hp
  cases c1:inB x.vote 0 (IntKind.i64.wrap ((m.votes.length:Int)-1))with
  |false=>
   (have hb:=trivial;with_reducible repeat' (first|simp only[hb,Vc.down,seval,aE7.down,h2,h3,h8,h9,h10,hd,hx,hw,hA1,hB1,axB,acI.cells,adE,hcW,hsl,c1]|refine fsp ?_ ?_<;>intro hb|refine fd ?_|fail))
   exact kQ _ _ _ (by rw[if_neg (by simp[au1,c1])];exact⟨rfl,by simp[up]⟩)
  |true=>
   cases c2:(y.wants.take i).any (fun o=>o.vote==x.vote)with
   |true=>
    rw[c2]at hcW
    (have hb:=trivial;with_reducible repeat' (first|simp only[hb,Vc.down,seval,aE7.down,h2,h3,h8,h9,h10,hd,hx,hw,hA1,hB1,axB,acI.cells,adE,hcW,hsl,c1]|refine fsp ?_ ?_<;>intro hb|refine fd ?_|fail))
    exact kQ _ _ _ (by rw[if_neg (by simp only[au1,c1,c2,ajP,arP,anK];simp)];exact⟨rfl,by simp[up]⟩)
   |false=>
    rw[c2]at hcW
    (have hb:=trivial;with_reducible repeat' (first|simp only[hb,Vc.down,seval,aE7.down,h2,h3,h8,h9,h10,hd,hx,hw,hA1,hB1,axB,acI.cells,adE,hcW,hsl,c1]|refine fsp ?_ ?_<;>intro hb|refine fd ?_|fail))
    (refine adW (kJ _ _ (y.wants.take i++[x]) ⟨?_,?_,?_,?_,?_,⟨hA1 _,hB1 _,by rw[List.take_add_one,hx];rfl⟩⟩ ?_);(simp[up,h2]);(simp[up,h3]);(simp[up,h8]);(simp[up,h9]);(simp[up]);(simp only[au1,c1,c2,ajS,anU,arO]))
 ·exact⟨by simp[up,ent],by simp[up,ent],by simp[up,ent],by simp[up,ent],by simp[up],⟨rfl,rfl,rfl⟩⟩
 ·split at hk
  ·obtain⟨rfl,h2,h3,hA,hB⟩:=hk
   rename_i hr
   have hA1:=aaO hA
   have hB1:=aaO hB
   (have hb:=trivial;with_reducible repeat' (first|simp only[hb,Vc.down,seval,aE7.down,h2,h3,hA,hB,hA1,hB1,axB,adE,l6]|refine fsp ?_ ?_<;>intro hb|refine fd ?_|fail))
   all_goals (refine congrArg (fun b=>(Out.ret (AV.bool b),([]:aaL))) ?_;symm;((try simp only[Bool.not_eq_eq_eq_not,ajP,ajS]at *);simp only[avG, *,arP,anK,anU,arO,Bool.and_self,Bool.not_not,ajP,ajS,List.all_cons,List.all_nil]))
  ·obtain⟨rfl,h4⟩:=hk
   rename_i hr
   (have hb:=trivial;with_reducible repeat' (first|simp only[hb,Vc.down,seval,aE7.down,h4]|refine fsp ?_ ?_<;>intro hb|refine fd ?_|fail))
   all_goals simp_all[avG]
def aHC(s:ad1):Bool:=awX s.lo&&awX s.hi&& !decide (s.hi<s.lo)
def aw0(m:aaW):Bool:=decide (m.sens.length≤6)&&decide (m.votes.length≤6)&&decide (m.moves.length≤20)&&inB m.states 1 8&&inB m.cmds 0 4&&inB m.bgn 0 (IntKind.i64.wrap (m.states-1))&&((m.opn.length:Int)==m.states)
def adZ(m:aaW):Bool:=aw0 m&&m.sens.all aHC&&m.votes.all (ay9 m.sens.length)&&m.moves.all (avG m)&&m.opn.all (fun n=>inB n 0 255)
theorem aJ7(m:aaW)(x:ac4)(hl:x.wants.length≤maxLen):om'.call (.fn 71) [.agg [.int .i64 x.frm,.int .i64 x.to,slv 2 true x.nn (x.wants.map acI.cells),.int .i64 x.cmd,.int .i64 x.after],.ptr 0 0 0] [.live 7 false false [[slv 3 true m.nS (m.sens.map ad1.cells),slv 4 false m.nV (m.votes.map abT.cells),slv 5 false m.nM (m.moves.map ac4.cells),.int .i64 m.states,.int .i64 m.cmds,.int .i64 m.bgn,slv 1 true m.nO (m.opn.map iv)]]]=some (.ret (.bool (!avG m x)),[.live 7 false false [[slv 3 true m.nS (m.sens.map ad1.cells),slv 4 false m.nV (m.votes.map abT.cells),slv 5 false m.nM (m.moves.map ac4.cells),.int .i64 m.states,.int .i64 m.cmds,.int .i64 m.bgn,slv 1 true m.nO (m.opn.map iv)]]]):=by
 have hm:=aTV m x hl
 (refine ce Try.func71 ?_;simp only[Try.f71];(have hb:=trivial;with_reducible repeat' (first|simp only[hb,Vc.down,seval,bgD.down,hm]|refine fsp ?_ ?_<;>intro hb|refine fd ?_|fail)))
theorem aGI{l:List ac4}{nn:Bool}{g:Nat}{mm:aaW}{p:ac4→Bool}(hp:∀x∈l,om'.call (.fn g) (.agg [.int .i64 x.frm,.int .i64 x.to,slv 2 true x.nn (x.wants.map acI.cells),.int .i64 x.cmd,.int .i64 x.after]::[.ptr 0 0 0]) [.live 7 false false [[slv 3 true mm.nS (mm.sens.map ad1.cells),slv 4 false mm.nV (mm.votes.map abT.cells),slv 5 false mm.nM (mm.moves.map ac4.cells),.int .i64 mm.states,.int .i64 mm.cmds,.int .i64 mm.bgn,slv 1 true mm.nO (mm.opn.map iv)]]]=some (.ret (.bool (p x)),[.live 7 false false [[slv 3 true mm.nS (mm.sens.map ad1.cells),slv 4 false mm.nV (mm.votes.map abT.cells),slv 5 false mm.nM (mm.moves.map ac4.cells),.int .i64 mm.states,.int .i64 mm.cmds,.int .i64 mm.bgn,slv 1 true mm.nO (mm.opn.map iv)]]]))(hl:l.length≤maxLen)(hgm:om'.md g=false:=by exact rfl):
 om'.call (.fn 88) [slv 5 false nn (l.map ac4.cells),.func (.func g) [] [.ptr 0 0 0]] [.live 7 false false [[slv 3 true mm.nS (mm.sens.map ad1.cells),slv 4 false mm.nV (mm.votes.map abT.cells),slv 5 false mm.nM (mm.moves.map ac4.cells),.int .i64 mm.states,.int .i64 mm.cmds,.int .i64 mm.bgn,slv 1 true mm.nO (mm.opn.map iv)]]]=some (.ret (.int .i64 (idx p l 0)),[.live 7 false false [[slv 3 true mm.nS (mm.sens.map ad1.cells),slv 4 false mm.nV (mm.votes.map abT.cells),slv 5 false mm.nM (mm.moves.map ac4.cells),.int .i64 mm.states,.int .i64 mm.cmds,.int .i64 mm.bgn,slv 1 true mm.nO (mm.opn.map iv)]]]):=by
 (refine ce Try.func88 ?_;simp only[Try.f88];(have hb:=trivial;with_reducible repeat' (first|simp only[hb,Vc.down,seval,aMC.down,adE]|refine fsp ?_ ?_<;>intro hb|refine fd ?_|fail)))
 refine ahX (lst 19 l (fun i (s:Int) t h=>s=i∧h=[.live 7 false false [[slv 3 true mm.nS (mm.sens.map ad1.cells),slv 4 false mm.nV (mm.votes.map abT.cells),slv 5 false mm.nM (mm.moves.map ac4.cells),.int .i64 mm.states,.int .i64 mm.cmds,.int .i64 mm.bgn,slv 1 true mm.nO (mm.opn.map iv)]]]∧t 0=slv 5 false nn (l.map ac4.cells)∧t 1=.func (.func g) [] [.ptr 0 0 0]∧t 7=.int .i64 l.length∧t 8=.int .i64 i)
  (fun rest s=>idx p rest s) (fun r e t h=>h=[.live 7 false false [[slv 3 true mm.nS (mm.sens.map ad1.cells),slv 4 false mm.nV (mm.votes.map abT.cells),slv 5 false mm.nM (mm.moves.map ac4.cells),.int .i64 mm.states,.int .i64 mm.cmds,.int .i64 mm.bgn,slv 1 true mm.nO (mm.opn.map iv)]]]∧((e=.exit 0∧r= -1)∨(e=.ret∧t 4=.int .i64 r))) ?_ ?_ 0 _ _ ?_) (fun e t h hk=>?_)
 ·rintro s t h Q' kQ ⟨rfl,rfl,h0,h1,h7,h8⟩
  (have hb:=trivial;with_reducible repeat' (first|simp only[hb,Vc.down,seval,aMC.down,h0,h1,h7,h8,adJ,decide_false]|refine fsp ?_ ?_<;>intro hb|refine fd ?_|fail))
  exact kQ _ _ _ ⟨rfl,.inl ⟨rfl,rfl⟩⟩
 ·rintro x rest i s t h J Q' kJ kQ hx hi ⟨rfl,rfl,h0,h1,h7,h8⟩
  have hgm2:=hgm
  simp only[aB2,akQ,alW,am1]at hgm2
  have hpx:=hp x (aeU hx)
  have hd:decide ((i:Int)<(l.length:Int))=true:=by simpa using hi
  (have hb:=trivial;with_reducible repeat' (first|simp only[hb,Vc.down,seval,aMC.down,h0,h1,h7,h8,hd,hx,ac4.cells,hpx,hgm2,adL hi hl]|refine fsp ?_ ?_<;>intro hb|refine fd ?_|fail))
  ·exact kQ _ _ _ ⟨rfl,.inr ⟨rfl,by simp[up,idx,hb]⟩⟩
  ·exact adW (kJ _ _ (i+1) ⟨by simp,rfl,by simp[up,h0],by simp[up,h1],by simp[up,h7],by simp[up]⟩ (by simp[idx,hb]))
 ·exact⟨rfl,rfl,by simp[up,ent],by simp[up,ent],by simp[up],by simp[up]⟩
 ·obtain⟨rfl,⟨rfl,hi⟩|⟨rfl,hi⟩⟩:=hk
  ·(have hb:=trivial;with_reducible repeat' (first|simp only[hb,Vc.down,seval,aMC.down]|refine fsp ?_ ?_<;>intro hb|refine fd ?_|fail))
   rw[hi]
  ·(have hb:=trivial;with_reducible repeat' (first|simp only[hb,Vc.down,seval,aMC.down,hi]|refine fsp ?_ ?_<;>intro hb|refine fd ?_|fail))
theorem aEI{l:List ac4}{nn:Bool}{g:Nat}{mm:aaW}{p:ac4→Bool}(hp:∀x∈l,om'.call (.fn g) (.agg [.int .i64 x.frm,.int .i64 x.to,slv 2 true x.nn (x.wants.map acI.cells),.int .i64 x.cmd,.int .i64 x.after]::[.ptr 0 0 0]) [.live 7 false false [[slv 3 true mm.nS (mm.sens.map ad1.cells),slv 4 false mm.nV (mm.votes.map abT.cells),slv 5 false mm.nM (mm.moves.map ac4.cells),.int .i64 mm.states,.int .i64 mm.cmds,.int .i64 mm.bgn,slv 1 true mm.nO (mm.opn.map iv)]]]=some (.ret (.bool (p x)),[.live 7 false false [[slv 3 true mm.nS (mm.sens.map ad1.cells),slv 4 false mm.nV (mm.votes.map abT.cells),slv 5 false mm.nM (mm.moves.map ac4.cells),.int .i64 mm.states,.int .i64 mm.cmds,.int .i64 mm.bgn,slv 1 true mm.nO (mm.opn.map iv)]]]))(hl:l.length≤maxLen)(hgm:om'.md g=false:=by exact rfl):
 om'.call (.fn 70) [slv 5 false nn (l.map ac4.cells),.func (.func g) [] [.ptr 0 0 0]] [.live 7 false false [[slv 3 true mm.nS (mm.sens.map ad1.cells),slv 4 false mm.nV (mm.votes.map abT.cells),slv 5 false mm.nM (mm.moves.map ac4.cells),.int .i64 mm.states,.int .i64 mm.cmds,.int .i64 mm.bgn,slv 1 true mm.nO (mm.opn.map iv)]]]=some (.ret (.bool (l.any p)),[.live 7 false false [[slv 3 true mm.nS (mm.sens.map ad1.cells),slv 4 false mm.nV (mm.votes.map abT.cells),slv 5 false mm.nM (mm.moves.map ac4.cells),.int .i64 mm.states,.int .i64 mm.cmds,.int .i64 mm.bgn,slv 1 true mm.nO (mm.opn.map iv)]]]):=by
 (refine ce Try.func70 ?_;simp only[Try.f70];(have hb:=trivial;with_reducible repeat' (first|simp only[hb,Vc.down,seval,aGI hp hl hgm,awG p l 0 (aiZ 0)]|refine fsp ?_ ?_<;>intro hb|refine fd ?_|fail)))
theorem aFV(m:aaW)(hs:m.small):om'.call (.fn 42) [.agg [slv 3 true m.nS (m.sens.map ad1.cells),slv 4 false m.nV (m.votes.map abT.cells),slv 5 false m.nM (m.moves.map ac4.cells),.int .i64 m.states,.int .i64 m.cmds,.int .i64 m.bgn,slv 1 true m.nO (m.opn.map iv)]] []=some (.ret (.bool (adZ m)),[]):=by
 have l1:decide ((6:Int)<(m.sens.length:Int))= !decide (m.sens.length≤6):=by rw[←decide_not,decide_eq_decide];omega
 have l2:decide ((6:Int)<(m.votes.length:Int))= !decide (m.votes.length≤6):=by rw[←decide_not,decide_eq_decide];omega
 have l3:decide ((20:Int)<(m.moves.length:Int))= !decide (m.moves.length≤20):=by rw[←decide_not,decide_eq_decide];omega
 cases hp:aw0 m with
 |false=>
  have hp':adZ m=false:=by simp[adZ,hp]
  rw[hp']
  (refine ce Try.func42 ?_;simp only[Try.f42];(have hb:=trivial;with_reducible repeat' (first|simp only[hb,Vc.down,seval,az6.down,adE,axB,l1,l2,l3]|refine fsp ?_ ?_<;>intro hb|refine fd ?_|fail)))
  all_goals first
   |rfl
   |(exfalso;simp_all[aw0];done)
 |true=>
  have hp':=hp
  simp only[aw0,Bool.and_eq_true]at hp'
  obtain⟨⟨⟨⟨⟨⟨p1,p2⟩,p3⟩,p4⟩,p5⟩,p6⟩,p7⟩:=hp'
  (refine ce Try.func42 ?_;simp only[Try.f42];(have hb:=trivial;with_reducible repeat' (first|simp only[hb,Vc.down,seval,az6.down,adE,axB,l1,l2,l3,p1,p2,p3,p4,p5,p6,p7]|refine fsp ?_ ?_<;>intro hb|refine fd ?_|fail)))
  refine ahX (lst 118 m.sens (fun i (zz:Unit) t h=>t 1=.ptr 0 0 0∧t 53=slv 3 true m.nS (m.sens.map ad1.cells)∧t 54=.int .i64 m.sens.length∧t 55=.int .i64 i∧(h[0]?=some (.live 7 false false [[slv 3 true m.nS (m.sens.map ad1.cells),slv 4 false m.nV (m.votes.map abT.cells),slv 5 false m.nM (m.moves.map ac4.cells),.int .i64 m.states,.int .i64 m.cmds,.int .i64 m.bgn,slv 1 true m.nO (m.opn.map iv)]]))) (fun rest zz=>rest.all aHC) (fun r e t h=>(if r=true then e=.exit 0∧t 1=.ptr 0 0 0∧h[0]?=some (.live 7 false false [[slv 3 true m.nS (m.sens.map ad1.cells),slv 4 false m.nV (m.votes.map abT.cells),slv 5 false m.nM (m.moves.map ac4.cells),.int .i64 m.states,.int .i64 m.cmds,.int .i64 m.bgn,slv 1 true m.nO (m.opn.map iv)]])else e=.ret∧t 2=.bool false)) ?_ ?_ () _ _ ?_) (fun e t h hk=>?_)
  ·rintro _ t h Q' kQ ⟨h1,h53,h54,h55,hA⟩
   (have hb:=trivial;with_reducible repeat' (first|simp only[hb,Vc.down,seval,az6.down,h1,h53,h54,h55,adJ,decide_false]|refine fsp ?_ ?_<;>intro hb|refine fd ?_|fail))
   exact kQ _ _ _ (by rw[if_pos (by rfl)];exact⟨rfl,by simp[up,h1],hA⟩)
  ·rintro x rest i _ t h J Q' kJ kQ hx hi ⟨h1,h53,h54,h55,hA⟩
   have hd:decide ((i:Int)<(m.sens.length:Int))=true:=decide_eq_true (by omega)
   have hw:=adL hi hs.sens
   have hA1:=aaO hA
   (have hb:=trivial;with_reducible repeat' (first|simp only[hb,Vc.down,seval,az6.down,h1,h53,h54,h55,hd,hx,hw,aA9,ad1.cells,adE]|refine fsp ?_ ?_<;>intro hb|refine fd ?_|fail))
   all_goals first
    |exact kQ _ _ _ (by rw[if_neg (by simp_all[aHC])];exact⟨rfl,by simp[up]⟩)
    |(refine adW (kJ _ _ () ⟨?_,?_,?_,?_,hA1 _⟩ ?_);(simp[up,h1]);(simp[up,h53]);(simp[up,h54]);(simp[up]);(simp_all[aHC]))
  ·exact⟨by simp[up,ent],by simp[up,ent],by simp[up,ent],by simp[up],rfl⟩
  ·split at hk
   ·obtain⟨rfl,h1,hA⟩:=hk
    rename_i hr1
    have hA1:=aaO hA
    (have hb:=trivial;with_reducible repeat' (first|simp only[hb,Vc.down,seval,az6.down,h1,hA,hA1,adE]|refine fsp ?_ ?_<;>intro hb|refine fd ?_|fail))
    refine ahX (lst 118 m.votes (fun i (zz:Unit) t h=>t 1=.ptr 0 0 0∧t 78=slv 4 false m.nV (m.votes.map abT.cells)∧t 79=.int .i64 m.votes.length∧t 80=.int .i64 i∧(h[0]?=some (.live 7 false false [[slv 3 true m.nS (m.sens.map ad1.cells),slv 4 false m.nV (m.votes.map abT.cells),slv 5 false m.nM (m.moves.map ac4.cells),.int .i64 m.states,.int .i64 m.cmds,.int .i64 m.bgn,slv 1 true m.nO (m.opn.map iv)]]))) (fun rest zz=>rest.all (ay9 m.sens.length)) (fun r e t h=>(if r=true then e=.exit 2∧t 1=.ptr 0 0 0∧h[0]?=some (.live 7 false false [[slv 3 true m.nS (m.sens.map ad1.cells),slv 4 false m.nV (m.votes.map abT.cells),slv 5 false m.nM (m.moves.map ac4.cells),.int .i64 m.states,.int .i64 m.cmds,.int .i64 m.bgn,slv 1 true m.nO (m.opn.map iv)]])else e=.ret∧t 2=.bool false)) ?_ ?_ () _ _ ?_) (fun e t h hk=>?_)
    ·rintro _ t h Q' kQ ⟨h1,h78,h79,h80,hA⟩
     (have hb:=trivial;with_reducible repeat' (first|simp only[hb,Vc.down,seval,az6.down,h1,h78,h79,h80,adJ,decide_false]|refine fsp ?_ ?_<;>intro hb|refine fd ?_|fail))
     exact kQ _ _ _ (by rw[if_pos (by rfl)];exact⟨rfl,by simp[up,h1],hA⟩)
    ·rintro x rest i _ t h J Q' kJ kQ hx hi ⟨h1,h78,h79,h80,hA⟩
     have hd:decide ((i:Int)<(m.votes.length:Int))=true:=decide_eq_true (by omega)
     have hw:=adL hi hs.votes
     have hA1:=aaO hA
     have hin:=aA8 (nn:=x.nn) m.sens.length (hs.vs x (aeU hx))
     (have hb:=trivial;with_reducible repeat' (first|simp only[hb,Vc.down,seval,az6.down,h1,h78,h79,h80,hd,hx,hw,hA1,aA9,axB,hin,abT.cells,adE]|refine fsp ?_ ?_<;>intro hb|refine fd ?_|fail))
     all_goals first
      |exact kQ _ _ _ (by rw[if_neg (by simp_all[ay9])];exact⟨rfl,by simp[up]⟩)
      |(refine adW (kJ _ _ () ⟨?_,?_,?_,?_,hA1 _⟩ ?_);(simp[up,h1]);(simp[up,h78]);(simp[up,h79]);(simp[up]);(simp_all[ay9]))
    ·exact⟨by simp[up,ent,h1],by simp[up,ent,h1],by simp[up,ent,h1],by simp[up],hA⟩
    ·split at hk
     ·obtain⟨rfl,h1,hA⟩:=hk
      rename_i hr2
      have hA1:=aaO hA
      have hcM:=aEI (mm:=m) (l:=m.moves) (nn:=m.nM) (g:=71) (p:=fun x=> !avG m x) (fun x hx=>aJ7 m x (hs.ws x hx)) hs.moves
      have hcI:=aDG (l:=m.opn) (nn:=m.nO) (g:=74) (cap:=[]) (p:=fun x=> !inB x 0 255) rfl rfl (fun x _=>aJ9 x) hs.opn
      (have hb:=trivial;with_reducible repeat' (first|simp only[hb,Vc.down,seval,az6.down,h1,hA,hA1,adE,hcM,hcI]|refine fsp ?_ ?_<;>intro hb|refine fd ?_|fail))
      all_goals
       have q1:m.moves.all (avG m)= !(m.moves.any fun x=> !avG m x):=as6
       have q2:m.opn.all (fun n=>inB n 0 255)= !(m.opn.any fun x=> !inB x 0 255):=as6
       simp only[adZ,hp,hr1,hr2,q1,q2,hb,ajP,ajS,arO,anK,anU]
       try rfl
     ·obtain⟨rfl,h2⟩:=hk
      rename_i hr2
      (have hb:=trivial;with_reducible repeat' (first|simp only[hb,Vc.down,seval,az6.down,h2]|refine fsp ?_ ?_<;>intro hb|refine fd ?_|fail))
      all_goals simp[adZ,hp,at6.2 hr2]
   ·obtain⟨rfl,h2⟩:=hk
    rename_i hr1
    (have hb:=trivial;with_reducible repeat' (first|simp only[hb,Vc.down,seval,az6.down,h2]|refine fsp ?_ ?_<;>intro hb|refine fd ?_|fail))
    all_goals simp[adZ,hp,at6.2 hr1]
end Go.Proofs.Ytfkokgjfpojeoaa.Ko
