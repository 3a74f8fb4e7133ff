/- The functions of the layer, walked. -/
import Derived.Test.YtfkokgjfpojeoaaLibD
import Derived.Test.YtfkokgjfpojeoaaChecked
import Derived.Test.YtfkokgjfpojeoaaLibE
import Derived.Test.YtfkokgjfpojeoaaRows
import Derived.ProofKit
import Derived.LaidMore
import Derived.OpenShut
open And renaming intro→aaT
open List renaming length_map→aa7,mem_of_getElem?→acF,getElem?_eq_getElem→ajN,take_add_one→aI7,all_eq_not_any_not→aP1
open Int renaming lt_irrefl→abB,le_refl→abS,natCast_zero→agV
open Bool renaming not_true→abE,not_false→abG,true_and→abJ,false_and→abZ,and_true→afW,and_false→af0,eq_false_iff→agC,not_eq_eq_eq_not→aN2
open Nat renaming add_sub_cancel→azP
set_option linter.unusedSimpArgs false
set_option linter.unusedVariables false
namespace Go.Proofs.Ytfkokgjfpojeoaa
open Go.Ev
set_option maxRecDepth 100000
theorem adG(h:Gq)(b r o:Nat):ld Try.prog 27 h (some (.ptr b r o))=ldR (aj6 (h[b]?) r) o 7:=aSX ⟨by kernel_rfl,by kernel_rfl⟩ h b r o
theorem a0G(b r o:Nat):ftL Try.prog 27 (some (.ptr b r o))=some [.cells b o 7]:=aP0 (isA:=true) (n:=7) (by kernel_rfl) (by kernel_rfl) b r o
theorem agO(b r o:Nat):fa Try.prog 29 (some (.ptr b r o)) 0=some (.ret (.ptr b r (o+0)),[]):=aaL (show aa1 Try.prog 29 0 0 1 from⟨_,_,Try.underlying29,rfl,rfl,by kernel_rfl,by decide⟩) b r o
theorem acC(h:Gq)(b r o:Nat):ld Try.prog 25 h (some (.ptr b r o))=ldC (aj6 (h[b]?) r) o:=aR0 ⟨by kernel_rfl,1,by kernel_rfl⟩ h b r o
theorem aX7(h:Gq)(c:AV)(cs:List AV):ld Try.prog 25 h (some (.iptr (c::cs)))=some (.ret c,[]):=a2P ⟨by kernel_rfl,1,by kernel_rfl⟩ h c cs
theorem aZ4(b r o:Nat):ftL Try.prog 25 (some (.ptr b r o))=some [.cells b o 1]:=aP0 (isA:=false) (n:=1) (by kernel_rfl) (by kernel_rfl) b r o
theorem ac3(fl nn:Bool)(rows:List (List AV)):ln Try.prog 25 (some (Rr 1 fl nn rows))=some (.ret (.int .i64 rows.length),[]):=aSU ⟨_,Try.underlying25,by kernel_rfl⟩ fl nn rows
theorem aS2(h:Gq)(b r o:Nat):ld Try.prog 29 h (some (.ptr b r o))=ldR (aj6 (h[b]?) r) o 2:=aSX ⟨by kernel_rfl,by kernel_rfl⟩ h b r o
theorem adP(b r o:Nat):fa Try.prog 27 (some (.ptr b r o)) 3=some (.ret (.ptr b r (o+3)),[]):=aaL (show aa1 Try.prog 27 3 3 1 from⟨_,_,Try.underlying27,rfl,rfl,by kernel_rfl,by decide⟩) b r o
theorem aaE(h:Gq)(b r o:Nat):ld Try.prog 3 h (some (.ptr b r o))=ldC (aj6 (h[b]?) r) o:=aR0 ⟨by kernel_rfl,1,by kernel_rfl⟩ h b r o
theorem aeB(h:Gq)(c:AV)(cs:List AV):ld Try.prog 3 h (some (.iptr (c::cs)))=some (.ret c,[]):=a2P ⟨by kernel_rfl,1,by kernel_rfl⟩ h c cs
theorem aVY(b r o:Nat):ftL Try.prog 3 (some (.ptr b r o))=some [.cells b o 1]:=aP0 (isA:=false) (n:=1) (by kernel_rfl) (by kernel_rfl) b r o
theorem ab0(b r o:Nat):fa Try.prog 27 (some (.ptr b r o)) 1=some (.ret (.ptr b r (o+1)),[]):=aaL (show aa1 Try.prog 27 1 1 1 from⟨_,_,Try.underlying27,rfl,rfl,by kernel_rfl,by decide⟩) b r o
theorem acX(h:Gq)(b r o:Nat):ld Try.prog 23 h (some (.ptr b r o))=ldC (aj6 (h[b]?) r) o:=aR0 ⟨by kernel_rfl,1,by kernel_rfl⟩ h b r o
theorem adT(fl nn:Bool)(rows:List (List AV)):ln Try.prog 23 (some (Rr 4 fl nn rows))=some (.ret (.int .i64 rows.length),[]):=aSU ⟨_,Try.underlying23,by kernel_rfl⟩ fl nn rows
theorem aNL(fl nn:Bool)(rows:List (List AV))(k:IntKind)(i:Int):ia Try.prog 23 (some (Rr 4 fl nn rows)) (some (.int k i))=if 0≤i then r1 ((rows[i.toNat]?).map .iptr)else none:=aSD ⟨_,Try.underlying23,by kernel_rfl⟩ fl nn rows k i
theorem aYE(h:Gq)(b r o:Nat):ld Try.prog 48 h (some (.ptr b r o))=ldR (aj6 (h[b]?) r) o 4:=aSX ⟨by kernel_rfl,by kernel_rfl⟩ h b r o
theorem aOQ(h:Gq)(cs:List AV):ld Try.prog 48 h (some (.iptr cs))=if 4≤cs.length then some (.ret (.agg (cs.take 4)),[])else none:=aY6 ⟨by kernel_rfl,by kernel_rfl⟩ h cs
theorem aVH:ad4 Try.prog 48=some (.agg [.nils,.int .i64 0,.int .i64 0,.bool false]):=by kernel_rfl
theorem aW9(h:Gq)(b r o:Nat)(v:AV):st_ Try.prog 48 h (some (.ptr b r o)) (some v)=sv 4 (h[b]?) b r o (Um v):=aDX (by kernel_rfl) h b r o v
theorem aKE(b r o:Nat):fa Try.prog 48 (some (.ptr b r o)) 0=some (.ret (.ptr b r (o+0)),[]):=aaL (show aa1 Try.prog 48 0 0 1 from⟨_,_,Try.underlying48,rfl,rfl,by kernel_rfl,by decide⟩) b r o
theorem aWS(cs:List AV):fa Try.prog 48 (some (.iptr cs)) 0=if 0+1≤cs.length then some (.ret (.iptr (cs.drop 0)),[])else none:=aU5 (show aa1 Try.prog 48 0 0 1 from⟨_,_,Try.underlying48,rfl,rfl,by kernel_rfl,by decide⟩) cs
theorem afD(fl nn:Bool)(rows:List (List AV))(k:IntKind)(i:Int):ia Try.prog 25 (some (Rr 1 fl nn rows)) (some (.int k i))=if 0≤i then r1 ((rows[i.toNat]?).map .iptr)else none:=aSD ⟨_,Try.underlying25,by kernel_rfl⟩ fl nn rows k i
theorem acQ(b r o:Nat):fa Try.prog 27 (some (.ptr b r o)) 0=some (.ret (.ptr b r (o+0)),[]):=aaL (show aa1 Try.prog 27 0 0 1 from⟨_,_,Try.underlying27,rfl,rfl,by kernel_rfl,by decide⟩) b r o
theorem adL(h:Gq)(b r o:Nat):ld Try.prog 22 h (some (.ptr b r o))=ldC (aj6 (h[b]?) r) o:=aR0 ⟨by kernel_rfl,1,by kernel_rfl⟩ h b r o
theorem a1F(b r len:Nat)(k:IntKind)(i:Int):ia Try.prog 22 (some (.slr 3 b r len)) (some (.int k i))=if 0≤i∧i<len then some (.ret (.ptr b (r+i.toNat) 0),[])else none:=a11 ⟨_,Try.underlying22,by kernel_rfl⟩ b r len k i
theorem aQH(fl nn:Bool)(rows:List (List AV))(k:IntKind)(i:Int):ia Try.prog 22 (some (Rr 3 fl nn rows)) (some (.int k i))=if 0≤i then r1 ((rows[i.toNat]?).map .iptr)else none:=aSD ⟨_,Try.underlying22,by kernel_rfl⟩ fl nn rows k i
theorem aOV(h:Gq)(cs:List AV):ld Try.prog 50 h (some (.iptr cs))=if 3≤cs.length then some (.ret (.agg (cs.take 3)),[])else none:=aY6 ⟨by kernel_rfl,by kernel_rfl⟩ h cs
theorem aVD:ad4 Try.prog 50=some (.agg [.int .i64 0,.int .i64 0,.bool false]):=by kernel_rfl
theorem aWH(h:Gq)(b r o:Nat)(v:AV):st_ Try.prog 50 h (some (.ptr b r o)) (some v)=sv 3 (h[b]?) b r o (Um v):=aDX (by kernel_rfl) h b r o v
theorem aQU(b r o:Nat):fa Try.prog 50 (some (.ptr b r o)) 2=some (.ret (.ptr b r (o+2)),[]):=aaL (show aa1 Try.prog 50 2 2 1 from⟨_,_,Try.underlying50,rfl,rfl,by kernel_rfl,by decide⟩) b r o
theorem aP4(h:Gq)(b r o:Nat):ld Try.prog 4 h (some (.ptr b r o))=ldC (aj6 (h[b]?) r) o:=aR0 ⟨by kernel_rfl,1,by kernel_rfl⟩ h b r o
theorem a4E(b r o:Nat):ftL Try.prog 4 (some (.ptr b r o))=some [.cells b o 1]:=aP0 (isA:=false) (n:=1) (by kernel_rfl) (by kernel_rfl) b r o
theorem aKF(b r o:Nat):fa Try.prog 50 (some (.ptr b r o)) 0=some (.ret (.ptr b r (o+0)),[]):=aaL (show aa1 Try.prog 50 0 0 1 from⟨_,_,Try.underlying50,rfl,rfl,by kernel_rfl,by decide⟩) b r o
theorem aMT(b r o:Nat):fa Try.prog 50 (some (.ptr b r o)) 1=some (.ret (.ptr b r (o+1)),[]):=aaL (show aa1 Try.prog 50 1 1 1 from⟨_,_,Try.underlying50,rfl,rfl,by kernel_rfl,by decide⟩) b r o
theorem aZ8(st b r len:Nat):ln Try.prog 51 (some (.slr st b r len))=some (.ret (.int .i64 len),[]):=bbM (n:=1) ⟨_,Try.underlying51,by kernel_rfl⟩ st b r len
theorem a0R:ln Try.prog 51 (some .nils)=some (.ret (.int .i64 0),[]):=aU2 (n:=1) ⟨_,Try.underlying51,by kernel_rfl⟩
theorem aWJ(b r o:Nat):fa Try.prog 48 (some (.ptr b r o)) 3=some (.ret (.ptr b r (o+3)),[]):=aaL (show aa1 Try.prog 48 3 3 1 from⟨_,_,Try.underlying48,rfl,rfl,by kernel_rfl,by decide⟩) b r o
theorem aNF(b r o:Nat):fa Try.prog 48 (some (.ptr b r o)) 2=some (.ret (.ptr b r (o+2)),[]):=aaL (show aa1 Try.prog 48 2 2 1 from⟨_,_,Try.underlying48,rfl,rfl,by kernel_rfl,by decide⟩) b r o
theorem a0L(b r len:Nat)(k:IntKind)(i:Int):ia Try.prog 51 (some (.slr 1 b r len)) (some (.int k i))=if 0≤i∧i<len then some (.ret (.ptr b (r+i.toNat) 0),[])else none:=a11 ⟨_,Try.underlying51,by kernel_rfl⟩ b r len k i
theorem aMM(b r o:Nat):fa Try.prog 48 (some (.ptr b r o)) 1=some (.ret (.ptr b r (o+1)),[]):=aaL (show aa1 Try.prog 48 1 1 1 from⟨_,_,Try.underlying48,rfl,rfl,by kernel_rfl,by decide⟩) b r o
theorem a0U(st:Nat)(fl:Bool)(rows:List (List AV)):ln Try.prog 22 (some (.imm st fl rows))=some (.ret (.int .i64 rows.length),[]):=aU6 (n:=3) ⟨_,Try.underlying22,by kernel_rfl⟩ st fl rows
theorem ae8(fl nn:Bool)(rows:List (List AV)):ln Try.prog 22 (some (Rr 3 fl nn rows))=some (.ret (.int .i64 rows.length),[]):=aSU ⟨_,Try.underlying22,by kernel_rfl⟩ fl nn rows
theorem a3M:ad4 Try.prog 27=some (.agg [.nils,.nils,.nils,.int .i64 0,.int .i64 0,.int .i64 0,.nils]):=by kernel_rfl
theorem a32(h:Gq)(b r o:Nat)(v:AV):st_ Try.prog 27 h (some (.ptr b r o)) (some v)=sv 7 (h[b]?) b r o (Um v):=aDX (by kernel_rfl) h b r o v
theorem aTI{O:Orc}(t:List AV)(h:Gq)(s x:Operand):aa0 O Try.prog t h (.call ⟨.builtin .append,#[s,x],#[22,22]⟩)=apO Try.prog 22 h (Pq t s) (Pq t x):=a3Z t h s x 22 22 _ Try.underlying22
theorem aZK(h:Gq)(s:AV)(st:Nat)(fl:Bool)(rows:List (List AV)):apO Try.prog 22 h (some s) (some (.imm st fl rows))=apK 3 h (some s) (srK 3 h (some (.imm st fl rows))):=aYQ (e:=50) (b:=24) (z:=.agg [.int .i64 0,.int .i64 0,.bool false]) (by kernel_rfl) (by kernel_rfl) (by kernel_rfl) (by kernel_rfl) (by decide+kernel) h s _ (fun q e=>by cases e)
theorem a2T(h:Gq)(b r o:Nat)(v:AV):st_ Try.prog 22 h (some (.ptr b r o)) (some v)=sv 1 (h[b]?) b r o (Um v):=aDX (by kernel_rfl) h b r o v
theorem a72(h:Gq)(b r o:Nat)(v:AV):st_ Try.prog 4 h (some (.ptr b r o)) (some v)=sv 1 (h[b]?) b r o (Um v):=aDX (by kernel_rfl) h b r o v
theorem aeU(b r o:Nat):fa Try.prog 27 (some (.ptr b r o)) 2=some (.ret (.ptr b r (o+2)),[]):=aaL (show aa1 Try.prog 27 2 2 1 from⟨_,_,Try.underlying27,rfl,rfl,by kernel_rfl,by decide⟩) b r o
theorem af1(h:Gq)(b r o:Nat):ld Try.prog 24 h (some (.ptr b r o))=ldC (aj6 (h[b]?) r) o:=aR0 ⟨by kernel_rfl,1,by kernel_rfl⟩ h b r o
theorem aZ6(b r o:Nat):ftL Try.prog 24 (some (.ptr b r o))=some [.cells b o 1]:=aP0 (isA:=false) (n:=1) (by kernel_rfl) (by kernel_rfl) b r o
theorem aZT(st:Nat)(fl:Bool)(rows:List (List AV)):ln Try.prog 24 (some (.imm st fl rows))=some (.ret (.int .i64 rows.length),[]):=aU6 (n:=5) ⟨_,Try.underlying24,by kernel_rfl⟩ st fl rows
theorem a1K:ln Try.prog 24 (some .nils)=some (.ret (.int .i64 0),[]):=aU2 (n:=5) ⟨_,Try.underlying24,by kernel_rfl⟩
theorem ae7(fl nn:Bool)(rows:List (List AV)):ln Try.prog 24 (some (Rr 5 fl nn rows))=some (.ret (.int .i64 rows.length),[]):=aSU ⟨_,Try.underlying24,by kernel_rfl⟩ fl nn rows
theorem a1C(ps:List (Nat × AV)):ai9 Try.prog 56 ps=(adX (fun i=>([(0,1),(1,1)]:List (Nat × Nat))[i]?) (Um (.agg [.int .i64 0,.bool false])) ps).map .agg:=by kernel_rfl
theorem a1W:ad4 Try.prog 56=some (.agg [.int .i64 0,.bool false]):=by kernel_rfl
theorem a0Q(base len:Nat)(ps:List (Nat × AV)):rD (vR Try.prog base 57 len ps)=bsK 2 (.agg [.int .i64 0,.bool false]) base len ps:=ba7 (e:=56) (by kernel_rfl) (by kernel_rfl) (by kernel_rfl) base len ps
theorem a0V(ps:List (Nat × AV)):ai9 Try.prog 59 ps=(adX (fun i=>([(0,1),(1,1),(2,1),(3,1),(4,1)]:List (Nat × Nat))[i]?) (Um (.agg [.int .i64 0,.int .i64 0,.nils,.int .i64 0,.int .i64 0])) ps).map .agg:=by kernel_rfl
theorem a4C:ad4 Try.prog 59=some (.agg [.int .i64 0,.int .i64 0,.nils,.int .i64 0,.int .i64 0]):=by kernel_rfl
theorem a1R(base len:Nat)(ps:List (Nat × AV)):rD (vR Try.prog base 24 len ps)=bsK 5 (.agg [.int .i64 0,.int .i64 0,.nils,.int .i64 0,.int .i64 0]) base len ps:=ba7 (e:=59) (by kernel_rfl) (by kernel_rfl) (by kernel_rfl) base len ps
theorem aS9{O:Orc}(t:List AV)(h:Gq)(s x:Operand):aa0 O Try.prog t h (.call ⟨.builtin .append,#[s,x],#[24,24]⟩)=apO Try.prog 24 h (Pq t s) (Pq t x):=a3Z t h s x 24 24 _ Try.underlying24
theorem a07(h:Gq)(s:AV)(st:Nat)(fl:Bool)(rows:List (List AV)):apO Try.prog 24 h (some s) (some (.imm st fl rows))=apK 5 h (some s) (srK 5 h (some (.imm st fl rows))):=aYQ (e:=59) (b:=56) (z:=.agg [.int .i64 0,.int .i64 0,.nils,.int .i64 0,.int .i64 0]) (by kernel_rfl) (by kernel_rfl) (by kernel_rfl) (by kernel_rfl) (by decide+kernel) h s _ (fun q e=>by cases e)
theorem a1I(h:Gq)(s:AV)  :apO Try.prog 24 h (some s) (some .nils)=apK 5 h (some s) (srK 5 h (some .nils)):=aYQ (e:=59) (b:=56) (z:=.agg [.int .i64 0,.int .i64 0,.nils,.int .i64 0,.int .i64 0]) (by kernel_rfl) (by kernel_rfl) (by kernel_rfl) (by kernel_rfl) (by decide+kernel) h s _ (fun q e=>by cases e)
theorem a3V(h:Gq)(b r o:Nat)(v:AV):st_ Try.prog 24 h (some (.ptr b r o)) (some v)=sv 1 (h[b]?) b r o (Um v):=aDX (by kernel_rfl) h b r o v
theorem aZE(b r o:Nat):ftS Try.prog 24 (some (.ptr b r o))=some [.cells b o 1]:=aYW (by kernel_rfl) b r o
theorem aQS(b r o:Nat):fa Try.prog 27 (some (.ptr b r o)) 5=some (.ret (.ptr b r (o+5)),[]):=aaL (show aa1 Try.prog 27 5 5 1 from⟨_,_,Try.underlying27,rfl,rfl,by kernel_rfl,by decide⟩) b r o
theorem aN7(fl nn:Bool)(rows:List (List AV))(k:IntKind)(i:Int):ia Try.prog 24 (some (Rr 5 fl nn rows)) (some (.int k i))=if 0≤i then r1 ((rows[i.toNat]?).map .iptr)else none:=aSD ⟨_,Try.underlying24,by kernel_rfl⟩ fl nn rows k i
theorem aMV(b r o:Nat):fa Try.prog 59 (some (.ptr b r o)) 2=some (.ret (.ptr b r (o+2)),[]):=aaL (show aa1 Try.prog 59 2 2 1 from⟨_,_,Try.underlying59,rfl,rfl,by kernel_rfl,by decide⟩) b r o
theorem aVB(cs:List AV):fa Try.prog 59 (some (.iptr cs)) 2=if 2+1≤cs.length then some (.ret (.iptr (cs.drop 2)),[])else none:=aU5 (show aa1 Try.prog 59 2 2 1 from⟨_,_,Try.underlying59,rfl,rfl,by kernel_rfl,by decide⟩) cs
theorem aOU(h:Gq)(b r o:Nat):ld Try.prog 57 h (some (.ptr b r o))=ldC (aj6 (h[b]?) r) o:=aR0 ⟨by kernel_rfl,1,by kernel_rfl⟩ h b r o
theorem aYD(h:Gq)(c:AV)(cs:List AV):ld Try.prog 57 h (some (.iptr (c::cs)))=some (.ret c,[]):=a2P ⟨by kernel_rfl,1,by kernel_rfl⟩ h c cs
theorem aNT(fl nn:Bool)(rows:List (List AV)):ln Try.prog 57 (some (Rr 2 fl nn rows))=some (.ret (.int .i64 rows.length),[]):=aSU ⟨_,Try.underlying57,by kernel_rfl⟩ fl nn rows
theorem aMN(b r o:Nat):fa Try.prog 27 (some (.ptr b r o)) 6=some (.ret (.ptr b r (o+6)),[]):=aaL (show aa1 Try.prog 27 6 6 1 from⟨_,_,Try.underlying27,rfl,rfl,by kernel_rfl,by decide⟩) b r o
theorem aTO(ps:List (Nat × AV)):ai9 Try.prog 86 ps=(adX (fun i=>([(0,1),(1,1)]:List (Nat × Nat))[i]?) (Um (.agg [.int .i64 0,.int .i64 0])) ps).map .agg:=by kernel_rfl
theorem aKJ(b r o:Nat):fa Try.prog 29 (some (.ptr b r o)) 1=some (.ret (.ptr b r (o+1)),[]):=aaL (show aa1 Try.prog 29 1 1 1 from⟨_,_,Try.underlying29,rfl,rfl,by kernel_rfl,by decide⟩) b r o
theorem aZD(ps:List (Nat × AV)):ai9 Try.prog 90 ps=(adX (fun i=>([(0,1),(1,1)]:List (Nat × Nat))[i]?) (Um (.agg [.int .i64 0,.int .i64 0])) ps).map .agg:=by kernel_rfl
theorem aWR:ad4 Try.prog 86=some (.agg [.int .i64 0,.int .i64 0]):=by kernel_rfl
theorem aWY(h:Gq)(b r o:Nat)(v:AV):st_ Try.prog 86 h (some (.ptr b r o)) (some v)=sv 2 (h[b]?) b r o (Um v):=aDX (by kernel_rfl) h b r o v
theorem a1D(b r o:Nat):ftS Try.prog 86 (some (.ptr b r o))=some [.cells b o 2]:=aYW (by kernel_rfl) b r o
theorem aKH(b r o:Nat):fa Try.prog 86 (some (.ptr b r o)) 0=some (.ret (.ptr b r (o+0)),[]):=aaL (show aa1 Try.prog 86 0 0 1 from⟨_,_,Try.underlying86,rfl,rfl,by kernel_rfl,by decide⟩) b r o
theorem aL5(b r o:Nat):fa Try.prog 86 (some (.ptr b r o)) 1=some (.ret (.ptr b r (o+1)),[]):=aaL (show aa1 Try.prog 86 1 1 1 from⟨_,_,Try.underlying86,rfl,rfl,by kernel_rfl,by decide⟩) b r o
theorem adO(b r o:Nat):fa Try.prog 27 (some (.ptr b r o)) 4=some (.ret (.ptr b r (o+4)),[]):=aaL (show aa1 Try.prog 27 4 4 1 from⟨_,_,Try.underlying27,rfl,rfl,by kernel_rfl,by decide⟩) b r o
theorem aS6(h:Gq)(b r o:Nat):ld Try.prog 59 h (some (.ptr b r o))=ldR (aj6 (h[b]?) r) o 5:=aSX ⟨by kernel_rfl,by kernel_rfl⟩ h b r o
theorem aOR(h:Gq)(cs:List AV):ld Try.prog 59 h (some (.iptr cs))=if 5≤cs.length then some (.ret (.agg (cs.take 5)),[])else none:=aY6 ⟨by kernel_rfl,by kernel_rfl⟩ h cs
theorem aM4(b r o:Nat):fa Try.prog 59 (some (.ptr b r o)) 1=some (.ret (.ptr b r (o+1)),[]):=aaL (show aa1 Try.prog 59 1 1 1 from⟨_,_,Try.underlying59,rfl,rfl,by kernel_rfl,by decide⟩) b r o
theorem aXU(h:Gq)(b r o:Nat):ld Try.prog 86 h (some (.ptr b r o))=ldR (aj6 (h[b]?) r) o 2:=aSX ⟨by kernel_rfl,by kernel_rfl⟩ h b r o
theorem aZP(base len:Nat)(ps:List (Nat × AV)):rD (vR Try.prog base 51 len ps)=bsK 1 (.bool false) base len ps:=ba7 (e:=4) (by kernel_rfl) (by kernel_rfl) (by kernel_rfl) base len ps
theorem aTC{O:Orc}(t:List AV)(h:Gq)(s x:Operand):aa0 O Try.prog t h (.call ⟨.builtin .append,#[s,x],#[51,51]⟩)=apO Try.prog 51 h (Pq t s) (Pq t x):=a3Z t h s x 51 51 _ Try.underlying51
theorem aZR(h:Gq)(s:AV)(a b r l:Nat):apO Try.prog 51 h (some s) (some (.slr a b r l))=apK 1 h (some s) (srK 1 h (some (.slr a b r l))):=aYQ (e:=4) (b:=1) (z:=.bool false) (by kernel_rfl) (by kernel_rfl) (by kernel_rfl) (by kernel_rfl) (by decide+kernel) h s _ (fun q e=>by cases e)
theorem a5A(h:Gq)(b r o:Nat)(v:AV):st_ Try.prog 59 h (some (.ptr b r o)) (some v)=sv 5 (h[b]?) b r o (Um v):=aDX (by kernel_rfl) h b r o v
theorem aYC(h:Gq)(b r o:Nat):ld Try.prog 90 h (some (.ptr b r o))=ldR (aj6 (h[b]?) r) o 2:=aSX ⟨by kernel_rfl,by kernel_rfl⟩ h b r o
theorem aX2(ps:List (Nat × AV)):ai9 Try.prog 126 ps=(adX (fun i=>([(0,5),(5,2),(7,2)]:List (Nat × Nat))[i]?) (Um (.agg [.int .i64 0,.int .i64 0,.nils,.int .i64 0,.int .i64 0,.int .i64 0,.int .i64 0,.int .i64 0,.int .i64 0])) ps).map .agg:=by kernel_rfl
theorem aP6(fl nn:Bool)(rows:List (List AV))(k:IntKind)(i:Int):ia Try.prog 57 (some (Rr 2 fl nn rows)) (some (.int k i))=if 0≤i then r1 ((rows[i.toNat]?).map .iptr)else none:=aSD ⟨_,Try.underlying57,by kernel_rfl⟩ fl nn rows k i
theorem aM2(b r o:Nat):fa Try.prog 56 (some (.ptr b r o)) 0=some (.ret (.ptr b r (o+0)),[]):=aaL (show aa1 Try.prog 56 0 0 1 from⟨_,_,Try.underlying56,rfl,rfl,by kernel_rfl,by decide⟩) b r o
theorem aVL(cs:List AV):fa Try.prog 56 (some (.iptr cs)) 0=if 0+1≤cs.length then some (.ret (.iptr (cs.drop 0)),[])else none:=aU5 (show aa1 Try.prog 56 0 0 1 from⟨_,_,Try.underlying56,rfl,rfl,by kernel_rfl,by decide⟩) cs
theorem aLV(b r o:Nat):fa Try.prog 59 (some (.ptr b r o)) 0=some (.ret (.ptr b r (o+0)),[]):=aaL (show aa1 Try.prog 59 0 0 1 from⟨_,_,Try.underlying59,rfl,rfl,by kernel_rfl,by decide⟩) b r o
theorem aNC(b r o:Nat):fa Try.prog 59 (some (.ptr b r o)) 3=some (.ret (.ptr b r (o+3)),[]):=aaL (show aa1 Try.prog 59 3 3 1 from⟨_,_,Try.underlying59,rfl,rfl,by kernel_rfl,by decide⟩) b r o
theorem aM9(b r o:Nat):fa Try.prog 59 (some (.ptr b r o)) 4=some (.ret (.ptr b r (o+4)),[]):=aaL (show aa1 Try.prog 59 4 4 1 from⟨_,_,Try.underlying59,rfl,rfl,by kernel_rfl,by decide⟩) b r o
theorem aXA(b r o:Nat):fa Try.prog 56 (some (.ptr b r o)) 1=some (.ret (.ptr b r (o+1)),[]):=aaL (show aa1 Try.prog 56 1 1 1 from⟨_,_,Try.underlying56,rfl,rfl,by kernel_rfl,by decide⟩) b r o
theorem aWZ(b r o:Nat):fa Try.prog 90 (some (.ptr b r o)) 0=some (.ret (.ptr b r (o+0)),[]):=aaL (show aa1 Try.prog 90 0 0 1 from⟨_,_,Try.underlying90,rfl,rfl,by kernel_rfl,by decide⟩) b r o
theorem aSB(h:Gq)(cs:List AV):ld Try.prog 56 h (some (.iptr cs))=if 2≤cs.length then some (.ret (.agg (cs.take 2)),[])else none:=aY6 ⟨by kernel_rfl,by kernel_rfl⟩ h cs
theorem a21(h:Gq)(b r o:Nat)(v:AV):st_ Try.prog 56 h (some (.ptr b r o)) (some v)=sv 2 (h[b]?) b r o (Um v):=aDX (by kernel_rfl) h b r o v
theorem aQR(h:Gq)(b r o:Nat):ld Try.prog 126 h (some (.ptr b r o))=ldR (aj6 (h[b]?) r) o 9:=aSX ⟨by kernel_rfl,by kernel_rfl⟩ h b r o
theorem ae5(b r o:Nat):fa Try.prog 126 (some (.ptr b r o)) 0=some (.ret (.ptr b r (o+0)),[]):=aaL (show aa1 Try.prog 126 0 0 5 from⟨_,_,Try.underlying126,rfl,rfl,by kernel_rfl,by decide⟩) b r o
theorem aPN(b r o:Nat):fa Try.prog 126 (some (.ptr b r o)) 1=some (.ret (.ptr b r (o+5)),[]):=aaL (show aa1 Try.prog 126 1 5 2 from⟨_,_,Try.underlying126,rfl,rfl,by kernel_rfl,by decide⟩) b r o
theorem aO9(b r o:Nat):fa Try.prog 126 (some (.ptr b r o)) 2=some (.ret (.ptr b r (o+7)),[]):=aaL (show aa1 Try.prog 126 2 7 2 from⟨_,_,Try.underlying126,rfl,rfl,by kernel_rfl,by decide⟩) b r o
theorem aWW(b r o:Nat):fa Try.prog 90 (some (.ptr b r o)) 1=some (.ret (.ptr b r (o+1)),[]):=aaL (show aa1 Try.prog 90 1 1 1 from⟨_,_,Try.underlying90,rfl,rfl,by kernel_rfl,by decide⟩) b r o
def TY7:=PLift.up (aaT @adG (aaT @aS2 (aaT @adP (aaT @aaE (aaT @aVY (aaT @acQ (aaT @adL (aaT @a0U (aaT @ae8 (aaT @a3M (aaT @a32 (aaT @aTI (aaT @aZK (aaT @a2T (aaT @a1F (aaT @aQU (aaT @a72 (aaT @agO (aaT @acC (aaT @aZ8 (aaT @a0R (aaT @ab0 (aaT @acX (aaT @adT (aaT @a0L (aaT @aP4 (aaT @a4E (aaT @aeU (aaT @af1 (aaT @aZ6 (aaT @aZT (aaT @a1K (aaT @ae7 (aaT @a1C (aaT @a0Q (aaT @a0V (aaT @a1R (aaT @aS9 (aaT @a07 (aaT @a1I (aaT @a3V @aZE)))))))))))))))))))))))))))))))))))))))))
def aR3:=PLift.up (aaT @ab0 (aaT @acX (aaT @adT (aaT @aNL (aaT @aWS (aaT @acC (aaT @aX7 (aaT @ac3 (aaT @aeU (aaT @af1 (aaT @ae7 (aaT @aN7 (aaT @aVB (aaT @aYD (aaT @aNT (aaT @acQ (aaT @adL (aaT @ae8 @aMN))))))))))))))))))
def bfG:=PLift.up (aaT @adG (aaT @a0G (aaT @adP (aaT @aaE (aaT @aVY (aaT @aS2 (aaT @aTO (aaT @agO (aaT @acC (aaT @aZ4 (aaT @aKJ (aaT @aZD (aaT @aWR (aaT @aWY (aaT @a1D (aaT @aKH @aL5))))))))))))))))
def aKD:=PLift.up (aaT @acQ (aaT @adL (aaT @ae8 (aaT @aQH (aaT @aOV (aaT @aVD (aaT @aWH (aaT @aKF (aaT @aaE (aaT @aeB (aaT @aMT (aaT @ab0 (aaT @acX (aaT @adT (aaT @aNL (aaT @aOQ (aaT @adP (aaT @adO (aaT @aQS (aaT @aMN (aaT @acC (aaT @ac3 (aaT @aeU (aaT @af1 (aaT @ae7 (aaT @afD (aaT @adG (aaT @aN7 @aOR))))))))))))))))))))))))))))
def bgQ:=PLift.up (aaT @adG (aaT @agO (aaT @acC (aaT @aKJ (aaT @aaE @adO)))))
def a3Q:=PLift.up (aaT @ac3 (aaT @afD (aaT @aeB (aaT @acQ (aaT @adL @ae8)))))
def aZI:=PLift.up (aaT @adG (aaT @ab0 (aaT @acX (aaT @adT (aaT @aZP (aaT @aTC @aZR))))))
def aTB:=PLift.up (aaT @acQ (aaT @adL (aaT @ae8 (aaT @ab0 (aaT @acX (aaT @adT (aaT @aeU (aaT @af1 (aaT @ae7 (aaT @adP (aaT @aaE (aaT @adO (aaT @aQS (aaT @aMN (aaT @acC (aaT @ac3 (aaT @aQH (aaT @aOV (aaT @aVD (aaT @aWH (aaT @aKF (aaT @aMT (aaT @aNL (aaT @aOQ (aaT @aVH (aaT @aW9 (aaT @aKE (aaT @aMM @aNF))))))))))))))))))))))))))))
def bf5:=PLift.up (aaT @adG (aaT @agO (aaT @acC (aaT @aKJ (aaT @aaE @adO)))))
def a16:=PLift.up (aaT @aXU (aaT @aWR (aaT @aeU (aaT @af1 (aaT @ae7 (aaT @aN7 (aaT @aS6 (aaT @aOR (aaT @a4C (aaT @a5A (aaT @aYC (aaT @aX2 (aaT @aM4 (aaT @aaE (aaT @aTO (aaT @aWY (aaT @aKH @aL5)))))))))))))))))
def aXP:=PLift.up (aaT @ab0 (aaT @acX (aaT @adT (aaT @aNL (aaT @aYE (aaT @aOQ (aaT @aVH (aaT @aW9 (aaT @aKE (aaT @acC (aaT @ac3 (aaT @afD (aaT @aaE (aaT @aeB (aaT @acQ (aaT @adL (aaT @aQH (aaT @aOV @aMM))))))))))))))))))
def a08:=PLift.up (aaT @aKE (aaT @acC (aaT @ac3 (aaT @afD (aaT @aaE (aaT @aeB (aaT @aMM @aNF)))))))
def aR7:=PLift.up (aaT @aMV (aaT @aOU (aaT @aNT (aaT @aP6 (aaT @aVL (aaT @aaE (aaT @aeB (aaT @ab0 (aaT @acX (aaT @adT (aaT @aLV (aaT @adP (aaT @aM4 (aaT @aNC (aaT @adO @aM9)))))))))))))))
def aZU:=PLift.up (aaT @ac3 (aaT @afD @aeB))
def bgD:=PLift.up (aaT @ac3 (aaT @acQ (aaT @adL @ae8)))
def bgN:=PLift.up (aaT @adG @aS6)
def aX3:=PLift.up (aaT @aMV (aaT @aOU (aaT @aNT (aaT @aP6 (aaT @aSB (aaT @a1W (aaT @a21 (aaT @aM2 (aaT @aaE (aaT @ab0 (aaT @acX (aaT @adT (aaT @aLV (aaT @adP (aaT @aM4 (aaT @aNC (aaT @adO @aM9)))))))))))))))))
def bdX:=PLift.up (aaT @aQR @aQR)
def bgR:=PLift.up (aaT @aQU (aaT @aP4 (aaT @aKF (aaT @aaE (aaT @aMT (aaT @aWJ @aNF))))))
def a4R:=PLift.up (aaT @ae7 (aaT @aN7 @aOR))
def bf4:=PLift.up (aaT @aM2 @aaE)
def a3E:=PLift.up (aaT @ac3 (aaT @afD @aeB))
def bgI:=PLift.up (aaT @ae5 (aaT @aLV (aaT @aaE (aaT @aPN @aKH))))
def bgJ:=PLift.up (aaT @ae5 (aaT @aM9 (aaT @aaE (aaT @aPN @aL5))))
def bgE:=PLift.up (aaT @ae5 (aaT @aMV @aOU))
def bgG:=PLift.up (aaT @ae5 (aaT @aNC (aaT @aaE (aaT @aO9 @aWW))))
def aTL:=PLift.up (aaT @aNT (aaT @aP6 @aSB))
def bgO:=PLift.up (aaT @aO9 (aaT @aWZ (aaT @aaE (aaT @aM2 (aaT @aXA @aP4)))))
end Go.Proofs.Ytfkokgjfpojeoaa
namespace Go.Proofs.Ytfkokgjfpojeoaa
open Go Go.Ev Go.ChangeShapes Go.WideShapes Go.ChangeAt Go.RowKit
set_option maxRecDepth 100000
set_option maxHeartbeats 16000000
def mdL:List Nat:=[96,100,102,83]
def pr:acG:=⟨fun _=>none,(mdL.contains ·)⟩
noncomputable def om':Orc:=om Try.prog pr
def Va:=PLift.up (aaT EE.down EE.down)
def Vc:=PLift.up (aaT EG.down EVu.down)
theorem bfK{C:R→Prop}[NoN C]{n:Nat}{k:List Zc}{c:Code}{s:St}(h:Un om' Try.prog n k c C (xP om' Try.prog 5000 c [] s)):C (lpK om' Try.prog n k (om'.loop c s)):=bd5 (pr:=pr) h
theorem own:ownKnob Try.prog.godebug=none:=by kernel_rfl
theorem bgF:aZM Try.prog:=fun f fn hf=>by
 have h:(Try.prog.funcs.toList.all fun fn=> !(fn.name== "runtime.NumGoroutine"))=true:=by kernel_rfl
 have:=List.all_eq_true.1 h fn (by rw[Array.mem_toList_iff];exact Array.mem_of_getElem? hf)
 simpa using this
theorem bdL:Try.prog.follows .mixedOrders=true:=by kernel_rfl
theorem a8A:laidOutB Try.prog=true:=by kernel_rfl
theorem a12:abN Try.prog (fun _=>none) om':=beF bgF (fun f p h=>by cases h) bdL
theorem bcM{W:World}{S:Nat→Prop}:Inv (fun _=>none) W S:=fun b o h=>by cases h
theorem bgL{f:Nat}{fn:Func}{c:Code}{args:List AV}{h:Gq}{Q:Out→Gq→Prop}(hp:pr f=none)(hf:Try.prog.funcs[f]?=some fn)(hb:fn.body=some c)(hl:Nat.ble args.length fn.ntmps=true)
 (he:FnE Try.prog h.length fn.results.toList Q (xP om' Try.prog 5000 c [] ⟨mk fn.ntmps (ent args),h⟩)):ClQ om' f args h Q:=ClQ.start (pr:=pr) hp hf hb hl he
theorem ce{f:Nat}{fn:Func}{c:Code}{args:List AV}{h:Gq}{o:Out}{h':Gq}(hf:Try.prog.funcs[f]?=some fn)(he:FnE Try.prog h.length fn.results.toList (fun o1 h1=>(o1,h1)=(o,h')) (xP om' Try.prog 5000 c [] ⟨mk fn.ntmps (ent args),h⟩))(hp:pr f=none:=by exact rfl)(hb:fn.body=some c:=by exact rfl)(hl:Nat.ble args.length fn.ntmps=true:=by exact rfl):om'.call (.fn f) args h=some (o,h'):=(bgL hp hf hb hl he).eq
theorem lst{α σ ρ:Type}{c:Code}(N:Nat)(l:List α)(E:Nat→σ→Tm→Gq→Prop)(F:List α→σ→ρ)(Q:ρ→Ex→Tm→Gq→Prop)
 (stop:∀s t h Q',(∀e t h,Q (F [] s) e t h→Q' e ⟨mk N t,h⟩)→E l.length s t h→Rnd N (fun _ _=>False) Q' (xP om' Try.prog 5000 c [] ⟨mk N t,h⟩))
 (go:∀x rest i s t h J Q',(∀t' h' s',E (i+1) s' t' h'→F rest s'=F (x::rest) s→J t' h')→(∀e t h,Q (F (x::rest) s) e t h→Q' e ⟨mk N t,h⟩)→l[i]?=some x→i<l.length→E i s t h→
   Rnd N J Q' (xP om' Try.prog 5000 c [] ⟨mk N t,h⟩)):
 ∀s t h,E 0 s t h→LpQ om' c ⟨mk N t,h⟩ (Ot N (Q (F l s))):=aZF (pr:=pr) rfl N l E F Q stop go
def iv(x:Int):List AV:=[.int .i64 x]
theorem zB{h:Gq}{b:Nat}{c:CB}(h0:h[b]?=some c)(l:Gq):(h++l)[b]?=some c:=by
 rw[List.getElem?_append_left (List.getElem?_eq_some_iff.1 h0).1];exact h0
end Go.Proofs.Ytfkokgjfpojeoaa
namespace Go.Proofs.Ytfkokgjfpojeoaa
open Go.Ev Go
set_option maxRecDepth 100000
set_option maxHeartbeats 16000000
structure sF where
 lo:Int
 hi:Int
 byp:Bool
def sF.cells(s:sF):List AV:=[.int .i64 s.lo,.int .i64 s.hi,.bool s.byp]
structure aS where
 nn:Bool
 sens:List Int
 need:Int
 level:Int
 above:Bool
def aS.cells(v:aS):List AV:=[Rr 1 true v.nn (v.sens.map iv),.int .i64 v.need,.int .i64 v.level,.bool v.above]
structure cI where
 vote:Int
 is:Bool
def cI.cells(w:cI):List AV:=[.int .i64 w.vote,.bool w.is]
structure Zw where
 frm:Int
 to:Int
 nn:Bool
 wants:List cI
 cmd:Int
 after:Int
def Zw.cells(x:Zw):List AV:=[.int .i64 x.frm,.int .i64 x.to,Rr 2 true x.nn (x.wants.map cI.cells),.int .i64 x.cmd,.int .i64 x.after]
structure jR where
 nS:Bool
 sens:List sF
 nV:Bool
 votes:List aS
 nM:Bool
 moves:List Zw
 states:Int
 cmds:Int
 bgn:Int
 nO:Bool
 opn:List Int
abbrev jR.cells(m:jR):List AV:=[Rr 3 true m.nS (m.sens.map sF.cells),Rr 4 false m.nV (m.votes.map aS.cells),Rr 5 false m.nM (m.moves.map Zw.cells),.int .i64 m.states,.int .i64 m.cmds,.int .i64 m.bgn,Rr 1 true m.nO (m.opn.map iv)]
structure axQ where
 nn:Bool
 reads:List Int
 cmd:Int
def axQ.cells(s:axQ):List AV:=[Rr 1 true s.nn (s.reads.map iv),.int .i64 s.cmd]
structure jR.small(m:jR):Prop where
 sens:m.sens.length≤maxLen
 votes:m.votes.length≤maxLen
 moves:m.moves.length≤maxLen
 opn:m.opn.length≤maxLen
 vs:∀v∈m.votes,v.sens.length≤maxLen
 ws:∀x∈m.moves,x.wants.length≤maxLen
def inB(x lo hi:Int):Bool:=decide (lo≤x)&&decide (x≤hi)
theorem aOT(x lo hi:Int):om'.call (.fn 43) [.int .i64 x,.int .i64 lo,.int .i64 hi] []=some (.ret (.bool (inB x lo hi)),[]):=by
 (refine ce Try.func43 ?_;simp only[Try.f43];(have hb:=trivial;with_reducible repeat' (first|simp only[hb,Va.down,seval]|refine tQ ?_ ?_<;>intro hb|refine fd ?_|fail)))
 all_goals simp[inB, *]
theorem aRZ(x lo hi:Int):om'.call (.fn 48) [.int .i64 x,.int .i64 lo,.int .i64 hi] []=some (.ret (.bool (inB x lo hi)),[]):=by
 (refine ce Try.func48 ?_;simp only[Try.f48];(have hb:=trivial;with_reducible repeat' (first|simp only[hb,Va.down,seval]|refine tQ ?_ ?_<;>intro hb|refine fd ?_|fail)))
 all_goals simp[inB, *]
def aQE(x:Int):Bool:=inB x (-10000) 10000
theorem aUI(x:Int):om'.call (.fn 69) [.int .i64 x] []=some (.ret (.bool (aQE x)),[]):=by
 (refine ce Try.func69 ?_;simp only[Try.f69];(have hb:=trivial;with_reducible repeat' (first|simp only[hb,Va.down,seval,aOT]|refine tQ ?_ ?_<;>intro hb|refine fd ?_|fail)))
 all_goals rfl
theorem a7K(x:Int):om'.call (.fn 82) [.int .i64 x] []=some (.ret (.bool (!aQE x)),[]):=by
 (refine ce Try.func82 ?_;simp only[Try.f82];(have hb:=trivial;with_reducible repeat' (first|simp only[hb,Va.down,seval,aUI]|refine tQ ?_ ?_<;>intro hb|refine fd ?_|fail)))
theorem a4S(x:Int):om'.call (.fn 74) [.int .i64 x] []=some (.ret (.bool (!inB x 0 255)),[]):=by
 (refine ce Try.func74 ?_;simp only[Try.f74];(have hb:=trivial;with_reducible repeat' (first|simp only[hb,Va.down,seval,aOT]|refine tQ ?_ ?_<;>intro hb|refine fd ?_|fail)))
def aQP(s:sF)(v:aS)(r:Int):Bool:= !s.byp&&(!inB r s.lo s.hi||(if v.above=true then decide (v.level≤r)else decide (r≤v.level)))
theorem bcD(s:sF)(v:aS)(r:Int):om'.call (.fn 76) [.agg [.int .i64 s.lo,.int .i64 s.hi,.bool s.byp],.agg [Rr 1 true v.nn (v.sens.map iv),.int .i64 v.need,.int .i64 v.level,.bool v.above],.int .i64 r] []=some (.ret (.bool (aQP s v r)),[]):=by
 (refine ce Try.func76 ?_;simp only[Try.f76];(have hb:=trivial;with_reducible repeat' (first|simp only[hb,Va.down,seval,bgR.down,aOT]|refine tQ ?_ ?_<;>intro hb|refine fd ?_|fail)))
 all_goals simp_all[aQP]
def idx{α:Type}(p:α→Bool):List α→Int→Int
 | [],_=> -1
 |x::l,i=>if p x=true then i else idx p l (i+1)
theorem aPH{α:Type}(p:α→Bool):∀(l:List α) (i:Int),0≤i→decide (0≤idx p l i)=l.any p
 | [],i,_=>rfl
 |x::l,i,h=>by
  unfold idx
  split
  ·rename_i hp;simp[h,hp]
  ·rename_i hp;rw[aPH p l (i+1) (by omega)];simp[hp]
theorem a3N{l:List Int}{nn:Bool}{g:Nat}{cap:List AV}{p:Int→Bool}(hc:cap.all (iE 8)=true)(hc7:cap.all (iE 7)=true)(hp:∀x∈l,om'.call (.fn g) (.int .i64 x::cap) []=some (.ret (.bool (p x)),[]))(hl:l.length≤maxLen):
 om'.call (.fn 91) [Rr 1 true nn (l.map iv),.func (.func g) [] cap] []=some (.ret (.int .i64 (idx p l 0)),[]):=by
 (refine ce Try.func91 ?_;simp only[Try.f91];(have hb:=trivial;with_reducible repeat' (first|simp only[hb,Va.down,seval,a3E.down,aa7]|refine tQ ?_ ?_<;>intro hb|refine fd ?_|fail)))
 refine acW (lst 19 l (fun i (s:Int) t h=>s=i∧h=[]∧t 0=Rr 1 true nn (l.map iv)∧t 1=.func (.func g) [] cap∧t 7=.int .i64 l.length∧t 8=.int .i64 i)
  (fun rest s=>idx p rest s) (fun r e t h=>h=[]∧((e=.exit 0∧r= -1)∨(e=.ret∧t 4=.int .i64 r))) ?_ ?_ 0 _ _ ?_) (fun e t h hk=>?_)
 ·rintro s t h Q' kQ ⟨rfl,rfl,h0,h1,h7,h8⟩
  (have hb:=trivial;with_reducible repeat' (first|simp only[hb,Va.down,seval,a3E.down,h0,h1,h7,h8,abB,decide_false]|refine tQ ?_ ?_<;>intro hb|refine fd ?_|fail))
  exact kQ _ _ _ ⟨rfl,.inl ⟨rfl,rfl⟩⟩
 ·rintro x rest i s t h J Q' kJ kQ hx hi ⟨rfl,rfl,h0,h1,h7,h8⟩
  have hpx:=hp x (acF hx)
  have hd:decide ((i:Int)<(l.length:Int))=true:=by simpa using hi
  (have hb:=trivial;with_reducible repeat' (first|simp only[hb,Va.down,seval,a3E.down,h0,h1,h7,h8,hd,hx,iv,hc,hc7,hpx,sC hi hl]|refine tQ ?_ ?_<;>intro hb|refine fd ?_|fail))
  ·exact kQ _ _ _ ⟨rfl,.inr ⟨rfl,by simp[up,idx,hb]⟩⟩
  ·exact aaV (kJ _ _ (i+1) ⟨by simp,rfl,by simp[up,h0],by simp[up,h1],by simp[up,h7],by simp[up]⟩ (by simp[idx,hb]))
 ·exact⟨rfl,rfl,by simp[up,ent],by simp[up,ent],by simp[up],by simp[up]⟩
 ·obtain⟨rfl,⟨rfl,hi⟩|⟨rfl,hi⟩⟩:=hk
  ·(have hb:=trivial;with_reducible repeat' (first|simp only[hb,Va.down,seval,a3E.down]|refine tQ ?_ ?_<;>intro hb|refine fd ?_|fail))
   rw[hi]
  ·(have hb:=trivial;with_reducible repeat' (first|simp only[hb,Va.down,seval,a3E.down,hi]|refine tQ ?_ ?_<;>intro hb|refine fd ?_|fail))
theorem aUA{l:List Int}{nn:Bool}{g:Nat}{cap:List AV}{p:Int→Bool}(hc:cap.all (iE 8)=true)(hc7:cap.all (iE 7)=true)(hp:∀x∈l,om'.call (.fn g) (.int .i64 x::cap) []=some (.ret (.bool (p x)),[]))(hl:l.length≤maxLen):
 om'.call (.fn 73) [Rr 1 true nn (l.map iv),.func (.func g) [] cap] []=some (.ret (.bool (l.any p)),[]):=by
 (refine ce Try.func73 ?_;simp only[Try.f73];(have hb:=trivial;with_reducible repeat' (first|simp only[hb,Va.down,seval,a3N hc hc7 hp hl,hc,hc7,aPH p l 0 (abS 0)]|refine tQ ?_ ?_<;>intro hb|refine fd ?_|fail)))
def ai8(b:Int):List Int→Option Int→Bool
 | [],_=>true
 |n::l,p=>inB n 0 (IntKind.i64.wrap (b-1))&&(match p with|none=>true|some q=> !decide (n≤q))&&ai8 b l (some n)
theorem aUV{l:List Int}{nn:Bool}(b:Int)(hl:l.length≤maxLen):om'.call (.fn 53) [Rr 1 true nn (l.map iv),.int .i64 b] []=some (.ret (.bool (ai8 b l none)),[]):=by
 (refine ce Try.func53 ?_;simp only[Try.f53];(have hb:=trivial;with_reducible repeat' (first|simp only[hb,Va.down,seval,aZU.down,aa7]|refine tQ ?_ ?_<;>intro hb|refine fd ?_|fail)))
 refine acW (lst 33 l (fun i (s:Option Int) t h=>(i=0∧s=none∨0<i∧s=l[i-1]?)∧t 0=Rr 1 true nn (l.map iv)∧t 1=.int .i64 b∧t 7=Rr 1 true nn (l.map iv)∧t 8=.int .i64 l.length∧t 9=.int .i64 i)
  (fun rest s=>ai8 b rest s) (fun r e t h=>if r=true then e=.exit 0 else e=.ret∧t 4=.bool false) ?_ ?_ none _ _ ?_) (fun e t h hk=>?_)
 ·rintro s t h Q' kQ ⟨hs,h0,h1,h7,h8,h9⟩
  (have hb:=trivial;with_reducible repeat' (first|simp only[hb,Va.down,seval,aZU.down,h0,h1,h7,h8,h9,abB,decide_false]|refine tQ ?_ ?_<;>intro hb|refine fd ?_|fail))
  exact kQ _ _ _ (by simp[ai8])
 ·rintro x rest i s t h J Q' kJ kQ hx hi ⟨hs,h0,h1,h7,h8,h9⟩
  have hd:decide ((i:Int)<(l.length:Int))=true:=by simpa using hi
  have kF:∀{p:Option Int},(inB x 0 (IntKind.i64.wrap (b-1))&&(match p with|none=>true|some q=> !decide (x≤q)))=false→ai8 b (x::rest) p=false:=fun h=>by simp[ai8,h]
  have kT:∀{p:Option Int},(inB x 0 (IntKind.i64.wrap (b-1))&&(match p with|none=>true|some q=> !decide (x≤q)))=true→ai8 b rest (some x)=ai8 b (x::rest) p:=fun h=>by simp[ai8,h]
  have hw:=sC hi hl
  rcases hs with⟨rfl,rfl⟩|⟨hpos,rfl⟩
  ·simp only[agV,Int.zero_add]at hd h9 hw
   (have hb:=trivial;with_reducible repeat' (first|simp only[hb,Va.down,seval,aZU.down,h0,h1,h7,h8,h9,hd,hx,iv,aOT,hw,Int.toNat_zero,abS,abB,decide_false]|refine tQ ?_ ?_<;>intro hb|refine fd ?_|fail))
   all_goals first
    |exact kQ _ _ _ (by rw[if_neg (by rw[kF (by simp_all)];simp)];exact⟨rfl,rfl⟩)
    |exact aaV (kJ _ _ (some x) ⟨.inr ⟨by omega,by simp[hx]⟩,by simp[up,h0],by simp[up,h1],by simp[up,h7],by simp[up,h8],by simp[up]<;>omega⟩ (kT (by simp_all)))
  ·obtain⟨j,rfl⟩:∃j,i=j+1:=⟨i-1,by omega⟩
   obtain⟨q,hq⟩:∃q,l[j]?=some q:=⟨l[j],ajN (by omega)⟩
   have hj:IntKind.i64.wrap (((j+1:Nat):Int)-1)=(j:Int):=by unfold maxLen at hl;rw[ac8 (by omega) (by omega)];omega
   have hg:decide (0<((j+1:Nat):Int))=true:=by rw[decide_eq_true_eq];omega
   simp only[azP,hq]at kJ kQ
   (have hb:=trivial;with_reducible repeat' (first|simp only[hb,Va.down,seval,aZU.down,h0,h1,h7,h8,h9,hd,hx,iv,aOT,hw,hj,hg,hq]|refine tQ ?_ ?_<;>intro hb|refine fd ?_|fail))
   all_goals first
    |exact kQ _ _ _ (by rw[if_neg (by rw[kF (by simp_all)];simp)];exact⟨rfl,rfl⟩)
    |exact aaV (kJ _ _ (some x) ⟨.inr ⟨by omega,by simp[hx]⟩,by simp[up,h0],by simp[up,h1],by simp[up,h7],by simp[up,h8],by simp[up]<;>omega⟩ (kT (by simp_all)))
 ·exact⟨.inl ⟨rfl,rfl⟩,by simp[up,ent],by simp[up,ent],by simp[up,ent],by simp[up],by simp[up]⟩
 ·split at hk
  ·subst hk
   rename_i hr
   (have hb:=trivial;with_reducible repeat' (first|simp only[hb,Va.down,seval,aZU.down]|refine tQ ?_ ?_<;>intro hb|refine fd ?_|fail))
   all_goals simp[hr]
  ·obtain⟨rfl,h2⟩:=hk
   rename_i hr
   (have hb:=trivial;with_reducible repeat' (first|simp only[hb,Va.down,seval,aZU.down,h2]|refine tQ ?_ ?_<;>intro hb|refine fd ?_|fail))
   all_goals simp[hr]
def aOE(ns:Int)(v:aS):Bool:=ai8 ns v.sens none&&inB v.need 1 v.sens.length&&aQE v.level
theorem ba1(v:aS)(ns:Int)(hl:v.sens.length≤maxLen):om'.call (.fn 47) [.agg [Rr 1 true v.nn (v.sens.map iv),.int .i64 v.need,.int .i64 v.level,.bool v.above],.int .i64 ns] []=some (.ret (.bool (aOE ns v)),[]):=by
 (refine ce Try.func47 ?_;simp only[Try.f47];(have hb:=trivial;with_reducible repeat' (first|simp only[hb,Va.down,seval,a08.down,aa7]|refine tQ ?_ ?_<;>intro hb|refine fd ?_|fail)))
 refine acW (lst 51 v.sens (fun i (s:Option Int) t h=>(i=0∧s=none∨0<i∧s=v.sens[i-1]?)∧h[0]?=some (.live 4 false false [[Rr 1 true v.nn (v.sens.map iv),.int .i64 v.need,.int .i64 v.level,.bool v.above]])∧t 1=.int .i64 ns∧t 2=.ptr 0 0 0∧t 5=.int .i64 i)
  (fun rest s=>ai8 ns rest s) (fun r e t h=>if r=true then e=.exit 0∧h[0]?=some (.live 4 false false [[Rr 1 true v.nn (v.sens.map iv),.int .i64 v.need,.int .i64 v.level,.bool v.above]])∧t 2=.ptr 0 0 0 else e=.ret∧t 4=.bool false) ?_ ?_ none _ _ ?_) (fun e t h hk=>?_)
 ·rintro s t h Q' kQ ⟨hs,hh,h1,h2,h5⟩
  (have hb:=trivial;with_reducible repeat' (first|simp only[hb,Va.down,seval,a08.down,hh,h1,h2,h5,aa7,abB,decide_false]|refine tQ ?_ ?_<;>intro hb|refine fd ?_|fail))
  exact kQ _ _ _ (by simp[ai8,up,h2,hh])
 ·rintro x rest i s t h J Q' kJ kQ hx hi ⟨hs,hh,h1,h2,h5⟩
  have hd:decide ((i:Int)<(v.sens.length:Int))=true:=by simpa using hi
  have hA:=zB hh
  have kF:∀{p:Option Int},(inB x 0 (IntKind.i64.wrap (ns-1))&&(match p with|none=>true|some q=> !decide (x≤q)))=false→ai8 ns (x::rest) p=false:=fun h=>by simp[ai8,h]
  have kT:∀{p:Option Int},(inB x 0 (IntKind.i64.wrap (ns-1))&&(match p with|none=>true|some q=> !decide (x≤q)))=true→ai8 ns rest (some x)=ai8 ns (x::rest) p:=fun h=>by simp[ai8,h]
  have hw:=sC hi hl
  rcases hs with⟨rfl,rfl⟩|⟨hpos,rfl⟩
  ·simp only[agV,Int.zero_add]at hd h5 hw
   (have hb:=trivial;with_reducible repeat' (first|simp only[hb,Va.down,seval,a08.down,hA,hh,h1,h2,h5,hd,hx,aa7,iv,aRZ,hw,Int.toNat_zero,abS,abB,decide_false]|refine tQ ?_ ?_<;>intro hb|refine fd ?_|fail))
   all_goals first
    |exact kQ _ _ _ (by rw[if_neg (by rw[kF (by simp_all)];simp)];exact⟨rfl,rfl⟩)
    |exact aaV (kJ _ _ (some x) ⟨.inr ⟨by omega,by simp[hx]⟩,by simp[hh],by simp[up,h1],by simp[up,h2],by simp[up]<;>omega⟩ (kT (by simp_all)))
  ·obtain⟨j,rfl⟩:∃j,i=j+1:=⟨i-1,by omega⟩
   obtain⟨q,hq⟩:∃q,v.sens[j]?=some q:=⟨v.sens[j],ajN (by omega)⟩
   have hj:IntKind.i64.wrap (((j+1:Nat):Int)-1)=(j:Int):=by unfold maxLen at hl;rw[ac8 (by omega) (by omega)];omega
   have hg:decide (0<((j+1:Nat):Int))=true:=by rw[decide_eq_true_eq];omega
   simp only[azP,hq]at kJ kQ
   (have hb:=trivial;with_reducible repeat' (first|simp only[hb,Va.down,seval,a08.down,hA,hh,h1,h2,h5,hd,hx,aa7,iv,aRZ,hw,hj,hg,hq]|refine tQ ?_ ?_<;>intro hb|refine fd ?_|fail))
   all_goals first
    |exact kQ _ _ _ (by rw[if_neg (by rw[kF (by simp_all)];simp)];exact⟨rfl,rfl⟩)
    |exact aaV (kJ _ _ (some x) ⟨.inr ⟨by omega,by simp[hx]⟩,by simp[hh],by simp[up,h1],by simp[up,h2],by simp[up]<;>omega⟩ (kT (by simp_all)))
 ·exact⟨.inl ⟨rfl,rfl⟩,rfl,by simp[up,ent],by simp[up],by simp[up]⟩
 ·split at hk
  ·obtain⟨rfl,hh,h2⟩:=hk
   have hA:=zB hh
   rename_i hr
   (have hb:=trivial;with_reducible repeat' (first|simp only[hb,Va.down,seval,a08.down,hA,hh,h2,aa7,aRZ]|refine tQ ?_ ?_<;>intro hb|refine fd ?_|fail))
   all_goals simp_all[aOE,aQE]
  ·obtain⟨rfl,h2⟩:=hk
   rename_i hr
   (have hb:=trivial;with_reducible repeat' (first|simp only[hb,Va.down,seval,a08.down,h2]|refine tQ ?_ ?_<;>intro hb|refine fd ?_|fail))
   all_goals simp[aOE,hr]
theorem a6N(o w:cI):om'.call (.fn 90) [.agg [.int .i64 o.vote,.bool o.is],.ptr 0 0 0] [.live 2 true false [[.int .i64 w.vote,.bool w.is]]]=some (.ret (.bool (o.vote==w.vote)),[.live 2 true false [[.int .i64 w.vote,.bool w.is]]]):=by
 (refine ce Try.func90 ?_;simp only[Try.f90];(have hb:=trivial;with_reducible repeat' (first|simp only[hb,Vc.down,seval,bf4.down]|refine tQ ?_ ?_<;>intro hb|refine fd ?_|fail)))
theorem a1S{l:List cI}{nn:Bool}{g:Nat}{ww:cI}{p:cI→Bool}(hp:∀x∈l,om'.call (.fn g) (.agg [.int .i64 x.vote,.bool x.is]::[.ptr 0 0 0]) [.live 2 true false [[.int .i64 ww.vote,.bool ww.is]]]=some (.ret (.bool (p x)),[.live 2 true false [[.int .i64 ww.vote,.bool ww.is]]]))(hl:l.length≤maxLen):
 om'.call (.fn 98) [Rr 2 true nn (l.map cI.cells),.func (.func g) [] [.ptr 0 0 0]] [.live 2 true false [[.int .i64 ww.vote,.bool ww.is]]]=some (.ret (.int .i64 (idx p l 0)),[.live 2 true false [[.int .i64 ww.vote,.bool ww.is]]]):=by
 (refine ce Try.func98 ?_;simp only[Try.f98];(have hb:=trivial;with_reducible repeat' (first|simp only[hb,Vc.down,seval,aTL.down,aa7]|refine tQ ?_ ?_<;>intro hb|refine fd ?_|fail)))
 refine acW (lst 19 l (fun i (s:Int) t h=>s=i∧h=[.live 2 true false [[.int .i64 ww.vote,.bool ww.is]]]∧t 0=Rr 2 true nn (l.map cI.cells)∧t 1=.func (.func g) [] [.ptr 0 0 0]∧t 7=.int .i64 l.length∧t 8=.int .i64 i)
  (fun rest s=>idx p rest s) (fun r e t h=>h=[.live 2 true false [[.int .i64 ww.vote,.bool ww.is]]]∧((e=.exit 0∧r= -1)∨(e=.ret∧t 4=.int .i64 r))) ?_ ?_ 0 _ _ ?_) (fun e t h hk=>?_)
 ·rintro s t h Q' kQ ⟨rfl,rfl,h0,h1,h7,h8⟩
  (have hb:=trivial;with_reducible repeat' (first|simp only[hb,Vc.down,seval,aTL.down,h0,h1,h7,h8,abB,decide_false]|refine tQ ?_ ?_<;>intro hb|refine fd ?_|fail))
  exact kQ _ _ _ ⟨rfl,.inl ⟨rfl,rfl⟩⟩
 ·rintro x rest i s t h J Q' kJ kQ hx hi ⟨rfl,rfl,h0,h1,h7,h8⟩
  have hpx:=hp x (acF hx)
  have hd:decide ((i:Int)<(l.length:Int))=true:=by simpa using hi
  (have hb:=trivial;with_reducible repeat' (first|simp only[hb,Vc.down,seval,aTL.down,h0,h1,h7,h8,hd,hx,cI.cells,hpx,sC hi hl]|refine tQ ?_ ?_<;>intro hb|refine fd ?_|fail))
  ·exact kQ _ _ _ ⟨rfl,.inr ⟨rfl,by simp[up,idx,hb]⟩⟩
  ·exact aaV (kJ _ _ (i+1) ⟨by simp,rfl,by simp[up,h0],by simp[up,h1],by simp[up,h7],by simp[up]⟩ (by simp[idx,hb]))
 ·exact⟨rfl,rfl,by simp[up,ent],by simp[up,ent],by simp[up],by simp[up]⟩
 ·obtain⟨rfl,⟨rfl,hi⟩|⟨rfl,hi⟩⟩:=hk
  ·(have hb:=trivial;with_reducible repeat' (first|simp only[hb,Vc.down,seval,aTL.down]|refine tQ ?_ ?_<;>intro hb|refine fd ?_|fail))
   rw[hi]
  ·(have hb:=trivial;with_reducible repeat' (first|simp only[hb,Vc.down,seval,aTL.down,hi]|refine tQ ?_ ?_<;>intro hb|refine fd ?_|fail))
theorem aXZ{l:List cI}{nn:Bool}{g:Nat}{ww:cI}{p:cI→Bool}(hp:∀x∈l,om'.call (.fn g) (.agg [.int .i64 x.vote,.bool x.is]::[.ptr 0 0 0]) [.live 2 true false [[.int .i64 ww.vote,.bool ww.is]]]=some (.ret (.bool (p x)),[.live 2 true false [[.int .i64 ww.vote,.bool ww.is]]]))(hl:l.length≤maxLen):
 om'.call (.fn 89) [Rr 2 true nn (l.map cI.cells),.func (.func g) [] [.ptr 0 0 0]] [.live 2 true false [[.int .i64 ww.vote,.bool ww.is]]]=some (.ret (.bool (l.any p)),[.live 2 true false [[.int .i64 ww.vote,.bool ww.is]]]):=by
 (refine ce Try.func89 ?_;simp only[Try.f89];(have hb:=trivial;with_reducible repeat' (first|simp only[hb,Vc.down,seval,a1S hp hl,aPH p l 0 (abS 0)]|refine tQ ?_ ?_<;>intro hb|refine fd ?_|fail)))
def aeD(nv:Int):List cI→List cI→Bool
 |_,[]=>true
 |pre,w::l=>inB w.vote 0 (IntKind.i64.wrap (nv-1))&& !(pre.any fun o=>o.vote==w.vote)&&aeD nv (pre++[w]) l
def ae0(m:jR)(x:Zw):Bool:=aeD m.votes.length [] x.wants&&inB x.frm 0 (IntKind.i64.wrap (m.states-1))&&inB x.to 0 (IntKind.i64.wrap (m.states-1))&&decide (x.wants.length≤6)&&inB x.cmd (-1) (IntKind.i64.wrap (m.cmds-1))&&inB x.after 0 10
theorem a9E(m:jR)(y:Zw)(hl:y.wants.length≤maxLen):om'.call (.fn 72) [.agg [Rr 3 true m.nS (m.sens.map sF.cells),Rr 4 false m.nV (m.votes.map aS.cells),Rr 5 false m.nM (m.moves.map Zw.cells),.int .i64 m.states,.int .i64 m.cmds,.int .i64 m.bgn,Rr 1 true m.nO (m.opn.map iv)],.agg [.int .i64 y.frm,.int .i64 y.to,Rr 2 true y.nn (y.wants.map cI.cells),.int .i64 y.cmd,.int .i64 y.after]] []=some (.ret (.bool (ae0 m y)),[]):=by
 have l6:decide ((y.wants.length:Int)≤6)=decide (y.wants.length≤6):=by rw[decide_eq_decide];omega
 (refine ce Try.func72 ?_;simp only[Try.f72];(have hb:=trivial;with_reducible repeat' (first|simp only[hb,Vc.down,seval,aX3.down,aa7]|refine tQ ?_ ?_<;>intro hb|refine fd ?_|fail)))
 refine acW (lst 65 y.wants (fun i (zz:List cI) t h=>t 2=.ptr 0 0 0∧t 3=.ptr 1 0 0∧t 8=Rr 2 true y.nn (y.wants.map cI.cells)∧t 9=.int .i64 y.wants.length∧t 10=.int .i64 i∧(h[0]?=some (.live 7 false false [[Rr 3 true m.nS (m.sens.map sF.cells),Rr 4 false m.nV (m.votes.map aS.cells),Rr 5 false m.nM (m.moves.map Zw.cells),.int .i64 m.states,.int .i64 m.cmds,.int .i64 m.bgn,Rr 1 true m.nO (m.opn.map iv)]])∧h[1]?=some (.live 5 false false [[.int .i64 y.frm,.int .i64 y.to,Rr 2 true y.nn (y.wants.map cI.cells),.int .i64 y.cmd,.int .i64 y.after]])∧zz=y.wants.take i)) (fun rest zz=>aeD m.votes.length zz rest) (fun r e t h=>(if r=true then e=.exit 0∧t 2=.ptr 0 0 0∧t 3=.ptr 1 0 0∧h[0]?=some (.live 7 false false [[Rr 3 true m.nS (m.sens.map sF.cells),Rr 4 false m.nV (m.votes.map aS.cells),Rr 5 false m.nM (m.moves.map Zw.cells),.int .i64 m.states,.int .i64 m.cmds,.int .i64 m.bgn,Rr 1 true m.nO (m.opn.map iv)]])∧h[1]?=some (.live 5 false false [[.int .i64 y.frm,.int .i64 y.to,Rr 2 true y.nn (y.wants.map cI.cells),.int .i64 y.cmd,.int .i64 y.after]])else e=.ret∧t 4=.bool false)) ?_ ?_ ([]) _ _ ?_) (fun e t h hk=>?_)
 ·rintro p t h Q' kQ ⟨h2,h3,h8,h9,h10,⟨hA,hB,hp⟩⟩
  (have hb:=trivial;with_reducible repeat' (first|simp only[hb,Vc.down,seval,aX3.down,h2,h3,h8,h9,h10,abB,decide_false]|refine tQ ?_ ?_<;>intro hb|refine fd ?_|fail))
  exact kQ _ _ _ (by rw[if_pos (by rfl)];exact⟨rfl,by simp[up,h2],by simp[up,h3],hA,hB⟩)
 ·rintro x rest i p t h J Q' kJ kQ hx hi ⟨h2,h3,h8,h9,h10,⟨hA,hB,hp⟩⟩
  have hd:decide ((i:Int)<(y.wants.length:Int))=true:=decide_eq_true (by omega)
  have hw:=sC hi hl
  have hA1:=zB hA
  have hB1:=zB hB
  have hcW:=aXZ (l:=y.wants.take i) (nn:=true) (ww:=x) (g:=90) (p:=fun o=>o.vote==x.vote) (fun o _=>a6N o x) (by simp;omega)
  have hsl:=bbY (P:=Try.prog) (ty:=57) (n:=2) ⟨_,Try.underlying57,by kernel_rfl⟩ true y.nn (rows:=y.wants.map cI.cells) (i:=i) (by simpa using hi)
  rw[aSK,List.map_take]at hcW
  subst hp
  cases c1:inB x.vote 0 (IntKind.i64.wrap ((m.votes.length:Int)-1))with
  |false=>
   (have hb:=trivial;with_reducible repeat' (first|simp only[hb,Vc.down,seval,aX3.down,h2,h3,h8,h9,h10,hd,hx,hw,hA1,hB1,aOT,cI.cells,aa7,hcW,hsl,c1]|refine tQ ?_ ?_<;>intro hb|refine fd ?_|fail))
   exact kQ _ _ _ (by rw[if_neg (by simp[aeD,c1])];exact⟨rfl,by simp[up]⟩)
  |true=>
   cases c2:(y.wants.take i).any (fun o=>o.vote==x.vote)with
   |true=>
    rw[c2]at hcW
    (have hb:=trivial;with_reducible repeat' (first|simp only[hb,Vc.down,seval,aX3.down,h2,h3,h8,h9,h10,hd,hx,hw,hA1,hB1,aOT,cI.cells,aa7,hcW,hsl,c1]|refine tQ ?_ ?_<;>intro hb|refine fd ?_|fail))
    exact kQ _ _ _ (by rw[if_neg (by simp only[aeD,c1,c2,abE,af0,abZ];simp)];exact⟨rfl,by simp[up]⟩)
   |false=>
    rw[c2]at hcW
    (have hb:=trivial;with_reducible repeat' (first|simp only[hb,Vc.down,seval,aX3.down,h2,h3,h8,h9,h10,hd,hx,hw,hA1,hB1,aOT,cI.cells,aa7,hcW,hsl,c1]|refine tQ ?_ ?_<;>intro hb|refine fd ?_|fail))
    (refine aaV (kJ _ _ (y.wants.take i++[x]) ⟨?_,?_,?_,?_,?_,⟨hA1 _,hB1 _,by rw[aI7,hx];rfl⟩⟩ ?_);(simp[up,h2]);(simp[up,h3]);(simp[up,h8]);(simp[up,h9]);(simp[up]);(simp only[aeD,c1,c2,abG,afW,abJ]))
 ·exact⟨by simp[up,ent],by simp[up,ent],by simp[up,ent],by simp[up,ent],by simp[up],⟨rfl,rfl,rfl⟩⟩
 ·split at hk
  ·obtain⟨rfl,h2,h3,hA,hB⟩:=hk
   rename_i hr
   have hA1:=zB hA
   have hB1:=zB hB
   (have hb:=trivial;with_reducible repeat' (first|simp only[hb,Vc.down,seval,aX3.down,h2,h3,hA,hB,hA1,hB1,aOT,aa7,l6]|refine tQ ?_ ?_<;>intro hb|refine fd ?_|fail))
   all_goals (refine congrArg (fun b=>(Out.ret (AV.bool b),([]:Gq))) ?_;symm;((try simp only[aN2,abE,abG]at *);simp only[ae0, *,af0,abZ,afW,abJ,Bool.and_self,Bool.not_not,abE,abG,List.all_cons,List.all_nil]))
  ·obtain⟨rfl,h4⟩:=hk
   rename_i hr
   (have hb:=trivial;with_reducible repeat' (first|simp only[hb,Vc.down,seval,aX3.down,h4]|refine tQ ?_ ?_<;>intro hb|refine fd ?_|fail))
   all_goals simp_all[ae0]
def aZL(w:cI):List cI→Bool
 | []=>true
 |o::l=> !(o.vote==w.vote)&&aZL w l
theorem aUS(w:cI):∀l,aZL w l= !(l.any fun o=>o.vote==w.vote)
 | []=>rfl
 |o::l=>by simp[aZL,aUS w l]
theorem bbJ(m:jR)(y:Zw)(hl:y.wants.length≤maxLen):om'.call (.fn 49) [.agg [Rr 3 true m.nS (m.sens.map sF.cells),Rr 4 false m.nV (m.votes.map aS.cells),Rr 5 false m.nM (m.moves.map Zw.cells),.int .i64 m.states,.int .i64 m.cmds,.int .i64 m.bgn,Rr 1 true m.nO (m.opn.map iv)],.agg [.int .i64 y.frm,.int .i64 y.to,Rr 2 true y.nn (y.wants.map cI.cells),.int .i64 y.cmd,.int .i64 y.after]] []=some (.ret (.bool (ae0 m y)),[]):=by
 have l6:decide ((y.wants.length:Int)≤6)=decide (y.wants.length≤6):=by rw[decide_eq_decide];omega
 (refine ce Try.func49 ?_;simp only[Try.f49];(have hb:=trivial;with_reducible repeat' (first|simp only[hb,Vc.down,seval,aR7.down,aa7]|refine tQ ?_ ?_<;>intro hb|refine fd ?_|fail)))
 refine acW (lst 77 y.wants (fun i (zz:List cI) t h=>t 2=.ptr 0 0 0∧t 3=.ptr 1 0 0∧t 5=.int .i64 i∧(h=[.live 7 false false [[Rr 3 true m.nS (m.sens.map sF.cells),Rr 4 false m.nV (m.votes.map aS.cells),Rr 5 false m.nM (m.moves.map Zw.cells),.int .i64 m.states,.int .i64 m.cmds,.int .i64 m.bgn,Rr 1 true m.nO (m.opn.map iv)]],.live 5 false false [[.int .i64 y.frm,.int .i64 y.to,Rr 2 true y.nn (y.wants.map cI.cells),.int .i64 y.cmd,.int .i64 y.after]]]∧zz=y.wants.take i)) (fun rest zz=>aeD m.votes.length zz rest) (fun r e t h=>(if r=true then e=.exit 0∧t 2=.ptr 0 0 0∧t 3=.ptr 1 0 0∧h=[.live 7 false false [[Rr 3 true m.nS (m.sens.map sF.cells),Rr 4 false m.nV (m.votes.map aS.cells),Rr 5 false m.nM (m.moves.map Zw.cells),.int .i64 m.states,.int .i64 m.cmds,.int .i64 m.bgn,Rr 1 true m.nO (m.opn.map iv)]],.live 5 false false [[.int .i64 y.frm,.int .i64 y.to,Rr 2 true y.nn (y.wants.map cI.cells),.int .i64 y.cmd,.int .i64 y.after]]]else e=.ret∧t 4=.bool false)) ?_ ?_ ([]) _ _ ?_) (fun e t h hk=>?_)
 ·rintro p t h Q' kQ ⟨h2,h3,h5,⟨rfl,hp⟩⟩
  (have hb:=trivial;with_reducible repeat' (first|simp only[hb,Vc.down,seval,aR7.down,h2,h3,h5,abB,decide_false,aa7]|refine tQ ?_ ?_<;>intro hb|refine fd ?_|fail))
  exact kQ _ _ _ (by rw[if_pos (by rfl)];exact⟨rfl,by simp[up,h2],by simp[up,h3],rfl⟩)
 ·rintro x rest i p t h J Q' kJ kQ hx hi ⟨h2,h3,h5,⟨rfl,hp⟩⟩
  have hd:decide ((i:Int)<(y.wants.length:Int))=true:=decide_eq_true (by omega)
  have hw:=sC hi hl
  subst hp
  cases c1:inB x.vote 0 (IntKind.i64.wrap ((m.votes.length:Int)-1))with
  |false=>
   (have hb:=trivial;with_reducible repeat' (first|simp only[hb,Vc.down,seval,aR7.down,h2,h3,h5,hd,hx,hw,aRZ,c1,cI.cells,aa7]|refine tQ ?_ ?_<;>intro hb|refine fd ?_|fail))
   exact kQ _ _ _ (by rw[if_neg (by simp[aeD,c1])];exact⟨rfl,by simp[up]⟩)
  |true=>
   obtain⟨w,rfl⟩:∃w,w=x:=⟨_,rfl⟩
   obtain⟨k,rfl⟩:∃k,k=i:=⟨_,rfl⟩
   have hlen:(y.wants.take k).length=k:=by simp;omega
   have hxk:=hx
   (have hb:=trivial;with_reducible repeat' (first|simp only[hb,Vc.down,seval,aR7.down,h2,h3,h5,hd,hx,hw,aRZ,c1,cI.cells,aa7]|refine tQ ?_ ?_<;>intro hb|refine fd ?_|fail))
   refine acW (lst 77 (y.wants.take k) (fun i (zz:Unit) t h=>t 2=.ptr 0 0 0∧t 3=.ptr 1 0 0∧t 5=.int .i64 (k:Int)∧t 6=.int .i64 i∧h=[.live 7 false false [[Rr 3 true m.nS (m.sens.map sF.cells),Rr 4 false m.nV (m.votes.map aS.cells),Rr 5 false m.nM (m.moves.map Zw.cells),.int .i64 m.states,.int .i64 m.cmds,.int .i64 m.bgn,Rr 1 true m.nO (m.opn.map iv)]],.live 5 false false [[.int .i64 y.frm,.int .i64 y.to,Rr 2 true y.nn (y.wants.map cI.cells),.int .i64 y.cmd,.int .i64 y.after]]]) (fun rest zz=>aZL w rest) (fun r e t h=>(if r=true then e=.exit 2∧t 2=.ptr 0 0 0∧t 3=.ptr 1 0 0∧t 5=.int .i64 (k:Int)∧h=[.live 7 false false [[Rr 3 true m.nS (m.sens.map sF.cells),Rr 4 false m.nV (m.votes.map aS.cells),Rr 5 false m.nM (m.moves.map Zw.cells),.int .i64 m.states,.int .i64 m.cmds,.int .i64 m.bgn,Rr 1 true m.nO (m.opn.map iv)]],.live 5 false false [[.int .i64 y.frm,.int .i64 y.to,Rr 2 true y.nn (y.wants.map cI.cells),.int .i64 y.cmd,.int .i64 y.after]]]else e=.ret∧t 4=.bool false)) ?_ ?_ () _ _ ?_) (fun e tC hC hk=>?_)
   ·rintro _ t h Q' kQ ⟨h2,h3,h5,h6,rfl⟩
    (have hb:=trivial;with_reducible repeat' (first|simp only[hb,Vc.down,seval,aR7.down,h2,h3,h5,h6,abB,decide_false,hlen]|refine tQ ?_ ?_<;>intro hb|refine fd ?_|fail))
    exact kQ _ _ _ (by rw[if_pos (by rfl)];exact⟨rfl,by simp[up,h2],by simp[up,h3],by simp[up,h5],rfl⟩)
   ·rintro x rest i _ t h J Q' kJ kQ hx hi ⟨h2,h3,h5,h6,rfl⟩
    have hd:decide ((i:Int)<((y.wants.take k).length:Int))=true:=decide_eq_true (by omega)
    have hw:=sC hi (by simp;omega)
    rw[hlen]at hd
    have hxi:y.wants[i]?=some x:=by rw[List.getElem?_take]at hx;split at hx;exact hx;cases hx
    cases c3:(x.vote==w.vote)with
    |true=>
     (have hb:=trivial;with_reducible repeat' (first|simp only[hb,Vc.down,seval,aR7.down,h2,h3,h5,h6,hd,hxi,hxk,hw,c3,cI.cells]|refine tQ ?_ ?_<;>intro hb|refine fd ?_|fail))
     exact kQ _ _ _ (by rw[if_neg (by simp[aZL,c3])];exact⟨rfl,by simp[up]⟩)
    |false=>
     (have hb:=trivial;with_reducible repeat' (first|simp only[hb,Vc.down,seval,aR7.down,h2,h3,h5,h6,hd,hxi,hxk,hw,c3,cI.cells]|refine tQ ?_ ?_<;>intro hb|refine fd ?_|fail))
     (refine aaV (kJ _ _ () ⟨?_,?_,?_,?_,rfl⟩ ?_);(simp[up,h2]);(simp[up,h3]);(simp[up,h5]);(simp[up]);(simp[aZL,c3]))
   ·exact⟨by simp[up,ent,h2,h3,h5],by simp[up,ent,h2,h3,h5],by simp[up,ent,h2,h3,h5],by simp[up],rfl⟩
   ·split at hk
    ·rename_i hdup
     obtain⟨rfl,h2,h3,h5,rfl⟩:=hk
     (have hb:=trivial;with_reducible repeat' (first|simp only[hb,Vc.down,seval,aR7.down,h2,h3,h5,hw]|refine tQ ?_ ?_<;>intro hb|refine fd ?_|fail))
     rw[aUS]at hdup
     (refine aaV (kJ _ _ (y.wants.take k++[w]) ⟨?_,?_,?_,⟨rfl,by rw[aI7,hxk];rfl⟩⟩ ?_);(simp[up,h2]);(simp[up,h3]);(simp[up]);(simp only[aeD,c1,hdup,abJ]))
    ·rename_i hdup
     obtain⟨rfl,h4⟩:=hk
     (have hb:=trivial;with_reducible repeat' (first|simp only[hb,Vc.down,seval,aR7.down,h4]|refine tQ ?_ ?_<;>intro hb|refine fd ?_|fail))
     rw[aUS]at hdup
     exact kQ _ _ _ (by rw[if_neg (by simp only[aeD,c1,abJ,agC.2 hdup,abZ];simp)];exact⟨rfl,by simp[up,h4]⟩)
 ·exact⟨by simp[up,ent],by simp[up,ent],by simp[up],⟨rfl,rfl⟩⟩
 ·split at hk
  ·obtain⟨rfl,h2,h3,rfl⟩:=hk
   rename_i hr
   (have hb:=trivial;with_reducible repeat' (first|simp only[hb,Vc.down,seval,aR7.down,h2,h3,aRZ,aa7,l6]|refine tQ ?_ ?_<;>intro hb|refine fd ?_|fail))
   all_goals (refine congrArg (fun b=>(Out.ret (AV.bool b),([]:Gq))) ?_;symm;((try simp only[aN2,abE,abG]at *);simp only[ae0, *,af0,abZ,afW,abJ,Bool.and_self,Bool.not_not,abE,abG,List.all_cons,List.all_nil]))
  ·obtain⟨rfl,h4⟩:=hk
   rename_i hr
   (have hb:=trivial;with_reducible repeat' (first|simp only[hb,Vc.down,seval,aR7.down,h4]|refine tQ ?_ ?_<;>intro hb|refine fd ?_|fail))
   all_goals simp_all[ae0]
def aXQ(s:sF):Bool:=aQE s.lo&&aQE s.hi&& !decide (s.hi<s.lo)
def afQ(m:jR):Bool:=decide (m.sens.length≤6)&&decide (m.votes.length≤6)&&decide (m.moves.length≤20)&&inB m.states 1 8&&inB m.cmds 0 4&&inB m.bgn 0 (IntKind.i64.wrap (m.states-1))&&((m.opn.length:Int)==m.states)
def aaP(m:jR):Bool:=afQ m&&m.sens.all aXQ&&m.votes.all (aOE m.sens.length)&&m.moves.all (ae0 m)&&m.opn.all (fun n=>inB n 0 255)
theorem a41(m:jR)(x:Zw)(hl:x.wants.length≤maxLen):om'.call (.fn 71) [.agg [.int .i64 x.frm,.int .i64 x.to,Rr 2 true x.nn (x.wants.map cI.cells),.int .i64 x.cmd,.int .i64 x.after],.ptr 0 0 0] [.live 7 false false [[Rr 3 true m.nS (m.sens.map sF.cells),Rr 4 false m.nV (m.votes.map aS.cells),Rr 5 false m.nM (m.moves.map Zw.cells),.int .i64 m.states,.int .i64 m.cmds,.int .i64 m.bgn,Rr 1 true m.nO (m.opn.map iv)]]]=some (.ret (.bool (!ae0 m x)),[.live 7 false false [[Rr 3 true m.nS (m.sens.map sF.cells),Rr 4 false m.nV (m.votes.map aS.cells),Rr 5 false m.nM (m.moves.map Zw.cells),.int .i64 m.states,.int .i64 m.cmds,.int .i64 m.bgn,Rr 1 true m.nO (m.opn.map iv)]]]):=by
 have hm:=a9E m x hl
 (refine ce Try.func71 ?_;simp only[Try.f71];(have hb:=trivial;with_reducible repeat' (first|simp only[hb,Vc.down,seval,bgN.down,hm]|refine tQ ?_ ?_<;>intro hb|refine fd ?_|fail)))
theorem a1Q{l:List Zw}{nn:Bool}{g:Nat}{mm:jR}{p:Zw→Bool}(hp:∀x∈l,om'.call (.fn g) (.agg [.int .i64 x.frm,.int .i64 x.to,Rr 2 true x.nn (x.wants.map cI.cells),.int .i64 x.cmd,.int .i64 x.after]::[.ptr 0 0 0]) [.live 7 false false [[Rr 3 true mm.nS (mm.sens.map sF.cells),Rr 4 false mm.nV (mm.votes.map aS.cells),Rr 5 false mm.nM (mm.moves.map Zw.cells),.int .i64 mm.states,.int .i64 mm.cmds,.int .i64 mm.bgn,Rr 1 true mm.nO (mm.opn.map iv)]]]=some (.ret (.bool (p x)),[.live 7 false false [[Rr 3 true mm.nS (mm.sens.map sF.cells),Rr 4 false mm.nV (mm.votes.map aS.cells),Rr 5 false mm.nM (mm.moves.map Zw.cells),.int .i64 mm.states,.int .i64 mm.cmds,.int .i64 mm.bgn,Rr 1 true mm.nO (mm.opn.map iv)]]]))(hl:l.length≤maxLen):
 om'.call (.fn 88) [Rr 5 false nn (l.map Zw.cells),.func (.func g) [] [.ptr 0 0 0]] [.live 7 false false [[Rr 3 true mm.nS (mm.sens.map sF.cells),Rr 4 false mm.nV (mm.votes.map aS.cells),Rr 5 false mm.nM (mm.moves.map Zw.cells),.int .i64 mm.states,.int .i64 mm.cmds,.int .i64 mm.bgn,Rr 1 true mm.nO (mm.opn.map iv)]]]=some (.ret (.int .i64 (idx p l 0)),[.live 7 false false [[Rr 3 true mm.nS (mm.sens.map sF.cells),Rr 4 false mm.nV (mm.votes.map aS.cells),Rr 5 false mm.nM (mm.moves.map Zw.cells),.int .i64 mm.states,.int .i64 mm.cmds,.int .i64 mm.bgn,Rr 1 true mm.nO (mm.opn.map iv)]]]):=by
 (refine ce Try.func88 ?_;simp only[Try.f88];(have hb:=trivial;with_reducible repeat' (first|simp only[hb,Vc.down,seval,a4R.down,aa7]|refine tQ ?_ ?_<;>intro hb|refine fd ?_|fail)))
 refine acW (lst 19 l (fun i (s:Int) t h=>s=i∧h=[.live 7 false false [[Rr 3 true mm.nS (mm.sens.map sF.cells),Rr 4 false mm.nV (mm.votes.map aS.cells),Rr 5 false mm.nM (mm.moves.map Zw.cells),.int .i64 mm.states,.int .i64 mm.cmds,.int .i64 mm.bgn,Rr 1 true mm.nO (mm.opn.map iv)]]]∧t 0=Rr 5 false nn (l.map Zw.cells)∧t 1=.func (.func g) [] [.ptr 0 0 0]∧t 7=.int .i64 l.length∧t 8=.int .i64 i)
  (fun rest s=>idx p rest s) (fun r e t h=>h=[.live 7 false false [[Rr 3 true mm.nS (mm.sens.map sF.cells),Rr 4 false mm.nV (mm.votes.map aS.cells),Rr 5 false mm.nM (mm.moves.map Zw.cells),.int .i64 mm.states,.int .i64 mm.cmds,.int .i64 mm.bgn,Rr 1 true mm.nO (mm.opn.map iv)]]]∧((e=.exit 0∧r= -1)∨(e=.ret∧t 4=.int .i64 r))) ?_ ?_ 0 _ _ ?_) (fun e t h hk=>?_)
 ·rintro s t h Q' kQ ⟨rfl,rfl,h0,h1,h7,h8⟩
  (have hb:=trivial;with_reducible repeat' (first|simp only[hb,Vc.down,seval,a4R.down,h0,h1,h7,h8,abB,decide_false]|refine tQ ?_ ?_<;>intro hb|refine fd ?_|fail))
  exact kQ _ _ _ ⟨rfl,.inl ⟨rfl,rfl⟩⟩
 ·rintro x rest i s t h J Q' kJ kQ hx hi ⟨rfl,rfl,h0,h1,h7,h8⟩
  have hpx:=hp x (acF hx)
  have hd:decide ((i:Int)<(l.length:Int))=true:=by simpa using hi
  (have hb:=trivial;with_reducible repeat' (first|simp only[hb,Vc.down,seval,a4R.down,h0,h1,h7,h8,hd,hx,Zw.cells,hpx,sC hi hl]|refine tQ ?_ ?_<;>intro hb|refine fd ?_|fail))
  ·exact kQ _ _ _ ⟨rfl,.inr ⟨rfl,by simp[up,idx,hb]⟩⟩
  ·exact aaV (kJ _ _ (i+1) ⟨by simp,rfl,by simp[up,h0],by simp[up,h1],by simp[up,h7],by simp[up]⟩ (by simp[idx,hb]))
 ·exact⟨rfl,rfl,by simp[up,ent],by simp[up,ent],by simp[up],by simp[up]⟩
 ·obtain⟨rfl,⟨rfl,hi⟩|⟨rfl,hi⟩⟩:=hk
  ·(have hb:=trivial;with_reducible repeat' (first|simp only[hb,Vc.down,seval,a4R.down]|refine tQ ?_ ?_<;>intro hb|refine fd ?_|fail))
   rw[hi]
  ·(have hb:=trivial;with_reducible repeat' (first|simp only[hb,Vc.down,seval,a4R.down,hi]|refine tQ ?_ ?_<;>intro hb|refine fd ?_|fail))
theorem aX6{l:List Zw}{nn:Bool}{g:Nat}{mm:jR}{p:Zw→Bool}(hp:∀x∈l,om'.call (.fn g) (.agg [.int .i64 x.frm,.int .i64 x.to,Rr 2 true x.nn (x.wants.map cI.cells),.int .i64 x.cmd,.int .i64 x.after]::[.ptr 0 0 0]) [.live 7 false false [[Rr 3 true mm.nS (mm.sens.map sF.cells),Rr 4 false mm.nV (mm.votes.map aS.cells),Rr 5 false mm.nM (mm.moves.map Zw.cells),.int .i64 mm.states,.int .i64 mm.cmds,.int .i64 mm.bgn,Rr 1 true mm.nO (mm.opn.map iv)]]]=some (.ret (.bool (p x)),[.live 7 false false [[Rr 3 true mm.nS (mm.sens.map sF.cells),Rr 4 false mm.nV (mm.votes.map aS.cells),Rr 5 false mm.nM (mm.moves.map Zw.cells),.int .i64 mm.states,.int .i64 mm.cmds,.int .i64 mm.bgn,Rr 1 true mm.nO (mm.opn.map iv)]]]))(hl:l.length≤maxLen):
 om'.call (.fn 70) [Rr 5 false nn (l.map Zw.cells),.func (.func g) [] [.ptr 0 0 0]] [.live 7 false false [[Rr 3 true mm.nS (mm.sens.map sF.cells),Rr 4 false mm.nV (mm.votes.map aS.cells),Rr 5 false mm.nM (mm.moves.map Zw.cells),.int .i64 mm.states,.int .i64 mm.cmds,.int .i64 mm.bgn,Rr 1 true mm.nO (mm.opn.map iv)]]]=some (.ret (.bool (l.any p)),[.live 7 false false [[Rr 3 true mm.nS (mm.sens.map sF.cells),Rr 4 false mm.nV (mm.votes.map aS.cells),Rr 5 false mm.nM (mm.moves.map Zw.cells),.int .i64 mm.states,.int .i64 mm.cmds,.int .i64 mm.bgn,Rr 1 true mm.nO (mm.opn.map iv)]]]):=by
 (refine ce Try.func70 ?_;simp only[Try.f70];(have hb:=trivial;with_reducible repeat' (first|simp only[hb,Vc.down,seval,a1Q hp hl,aPH p l 0 (abS 0)]|refine tQ ?_ ?_<;>intro hb|refine fd ?_|fail)))
theorem aUJ(m:jR)(hs:m.small):om'.call (.fn 42) [.agg [Rr 3 true m.nS (m.sens.map sF.cells),Rr 4 false m.nV (m.votes.map aS.cells),Rr 5 false m.nM (m.moves.map Zw.cells),.int .i64 m.states,.int .i64 m.cmds,.int .i64 m.bgn,Rr 1 true m.nO (m.opn.map iv)]] []=some (.ret (.bool (aaP m)),[]):=by
 have l1:decide ((6:Int)<(m.sens.length:Int))= !decide (m.sens.length≤6):=by rw[←decide_not,decide_eq_decide];omega
 have l2:decide ((6:Int)<(m.votes.length:Int))= !decide (m.votes.length≤6):=by rw[←decide_not,decide_eq_decide];omega
 have l3:decide ((20:Int)<(m.moves.length:Int))= !decide (m.moves.length≤20):=by rw[←decide_not,decide_eq_decide];omega
 cases hp:afQ m with
 |false=>
  have hp':aaP m=false:=by simp[aaP,hp]
  rw[hp']
  (refine ce Try.func42 ?_;simp only[Try.f42];(have hb:=trivial;with_reducible repeat' (first|simp only[hb,Vc.down,seval,aTB.down,aa7,aOT,l1,l2,l3]|refine tQ ?_ ?_<;>intro hb|refine fd ?_|fail)))
  all_goals first
   |rfl
   |(exfalso;simp_all[afQ];done)
 |true=>
  have hp':=hp
  simp only[afQ,Bool.and_eq_true]at hp'
  obtain⟨⟨⟨⟨⟨⟨p1,p2⟩,p3⟩,p4⟩,p5⟩,p6⟩,p7⟩:=hp'
  (refine ce Try.func42 ?_;simp only[Try.f42];(have hb:=trivial;with_reducible repeat' (first|simp only[hb,Vc.down,seval,aTB.down,aa7,aOT,l1,l2,l3,p1,p2,p3,p4,p5,p6,p7]|refine tQ ?_ ?_<;>intro hb|refine fd ?_|fail)))
  refine acW (lst 118 m.sens (fun i (zz:Unit) t h=>t 1=.ptr 0 0 0∧t 53=Rr 3 true m.nS (m.sens.map sF.cells)∧t 54=.int .i64 m.sens.length∧t 55=.int .i64 i∧(h[0]?=some (.live 7 false false [[Rr 3 true m.nS (m.sens.map sF.cells),Rr 4 false m.nV (m.votes.map aS.cells),Rr 5 false m.nM (m.moves.map Zw.cells),.int .i64 m.states,.int .i64 m.cmds,.int .i64 m.bgn,Rr 1 true m.nO (m.opn.map iv)]]))) (fun rest zz=>rest.all aXQ) (fun r e t h=>(if r=true then e=.exit 0∧t 1=.ptr 0 0 0∧h[0]?=some (.live 7 false false [[Rr 3 true m.nS (m.sens.map sF.cells),Rr 4 false m.nV (m.votes.map aS.cells),Rr 5 false m.nM (m.moves.map Zw.cells),.int .i64 m.states,.int .i64 m.cmds,.int .i64 m.bgn,Rr 1 true m.nO (m.opn.map iv)]])else e=.ret∧t 2=.bool false)) ?_ ?_ () _ _ ?_) (fun e t h hk=>?_)
  ·rintro _ t h Q' kQ ⟨h1,h53,h54,h55,hA⟩
   (have hb:=trivial;with_reducible repeat' (first|simp only[hb,Vc.down,seval,aTB.down,h1,h53,h54,h55,abB,decide_false]|refine tQ ?_ ?_<;>intro hb|refine fd ?_|fail))
   exact kQ _ _ _ (by rw[if_pos (by rfl)];exact⟨rfl,by simp[up,h1],hA⟩)
  ·rintro x rest i _ t h J Q' kJ kQ hx hi ⟨h1,h53,h54,h55,hA⟩
   have hd:decide ((i:Int)<(m.sens.length:Int))=true:=decide_eq_true (by omega)
   have hw:=sC hi hs.sens
   have hA1:=zB hA
   (have hb:=trivial;with_reducible repeat' (first|simp only[hb,Vc.down,seval,aTB.down,h1,h53,h54,h55,hd,hx,hw,aUI,sF.cells,aa7]|refine tQ ?_ ?_<;>intro hb|refine fd ?_|fail))
   all_goals first
    |exact kQ _ _ _ (by rw[if_neg (by simp_all[aXQ])];exact⟨rfl,by simp[up]⟩)
    |(refine aaV (kJ _ _ () ⟨?_,?_,?_,?_,hA1 _⟩ ?_);(simp[up,h1]);(simp[up,h53]);(simp[up,h54]);(simp[up]);(simp_all[aXQ]))
  ·exact⟨by simp[up,ent],by simp[up,ent],by simp[up,ent],by simp[up],rfl⟩
  ·split at hk
   ·obtain⟨rfl,h1,hA⟩:=hk
    rename_i hr1
    have hA1:=zB hA
    (have hb:=trivial;with_reducible repeat' (first|simp only[hb,Vc.down,seval,aTB.down,h1,hA,hA1,aa7]|refine tQ ?_ ?_<;>intro hb|refine fd ?_|fail))
    refine acW (lst 118 m.votes (fun i (zz:Unit) t h=>t 1=.ptr 0 0 0∧t 78=Rr 4 false m.nV (m.votes.map aS.cells)∧t 79=.int .i64 m.votes.length∧t 80=.int .i64 i∧(h[0]?=some (.live 7 false false [[Rr 3 true m.nS (m.sens.map sF.cells),Rr 4 false m.nV (m.votes.map aS.cells),Rr 5 false m.nM (m.moves.map Zw.cells),.int .i64 m.states,.int .i64 m.cmds,.int .i64 m.bgn,Rr 1 true m.nO (m.opn.map iv)]]))) (fun rest zz=>rest.all (aOE m.sens.length)) (fun r e t h=>(if r=true then e=.exit 2∧t 1=.ptr 0 0 0∧h[0]?=some (.live 7 false false [[Rr 3 true m.nS (m.sens.map sF.cells),Rr 4 false m.nV (m.votes.map aS.cells),Rr 5 false m.nM (m.moves.map Zw.cells),.int .i64 m.states,.int .i64 m.cmds,.int .i64 m.bgn,Rr 1 true m.nO (m.opn.map iv)]])else e=.ret∧t 2=.bool false)) ?_ ?_ () _ _ ?_) (fun e t h hk=>?_)
    ·rintro _ t h Q' kQ ⟨h1,h78,h79,h80,hA⟩
     (have hb:=trivial;with_reducible repeat' (first|simp only[hb,Vc.down,seval,aTB.down,h1,h78,h79,h80,abB,decide_false]|refine tQ ?_ ?_<;>intro hb|refine fd ?_|fail))
     exact kQ _ _ _ (by rw[if_pos (by rfl)];exact⟨rfl,by simp[up,h1],hA⟩)
    ·rintro x rest i _ t h J Q' kJ kQ hx hi ⟨h1,h78,h79,h80,hA⟩
     have hd:decide ((i:Int)<(m.votes.length:Int))=true:=decide_eq_true (by omega)
     have hw:=sC hi hs.votes
     have hA1:=zB hA
     have hin:=aUV (nn:=x.nn) m.sens.length (hs.vs x (acF hx))
     (have hb:=trivial;with_reducible repeat' (first|simp only[hb,Vc.down,seval,aTB.down,h1,h78,h79,h80,hd,hx,hw,hA1,aUI,aOT,hin,aS.cells,aa7]|refine tQ ?_ ?_<;>intro hb|refine fd ?_|fail))
     all_goals first
      |exact kQ _ _ _ (by rw[if_neg (by simp_all[aOE])];exact⟨rfl,by simp[up]⟩)
      |(refine aaV (kJ _ _ () ⟨?_,?_,?_,?_,hA1 _⟩ ?_);(simp[up,h1]);(simp[up,h78]);(simp[up,h79]);(simp[up]);(simp_all[aOE]))
    ·exact⟨by simp[up,ent,h1],by simp[up,ent,h1],by simp[up,ent,h1],by simp[up],hA⟩
    ·split at hk
     ·obtain⟨rfl,h1,hA⟩:=hk
      rename_i hr2
      have hA1:=zB hA
      have hcM:=aX6 (mm:=m) (l:=m.moves) (nn:=m.nM) (g:=71) (p:=fun x=> !ae0 m x) (fun x hx=>a41 m x (hs.ws x hx)) hs.moves
      have hcI:=aUA (l:=m.opn) (nn:=m.nO) (g:=74) (cap:=[]) (p:=fun x=> !inB x 0 255) rfl rfl (fun x _=>a4S x) hs.opn
      (have hb:=trivial;with_reducible repeat' (first|simp only[hb,Vc.down,seval,aTB.down,h1,hA,hA1,aa7,hcM,hcI]|refine tQ ?_ ?_<;>intro hb|refine fd ?_|fail))
      all_goals
       have q1:m.moves.all (ae0 m)= !(m.moves.any fun x=> !ae0 m x):=aP1
       have q2:m.opn.all (fun n=>inB n 0 255)= !(m.opn.any fun x=> !inB x 0 255):=aP1
       simp only[aaP,hp,hr1,hr2,q1,q2,hb,abE,abG,abJ,abZ,afW]
       try rfl
     ·obtain⟨rfl,h2⟩:=hk
      rename_i hr2
      (have hb:=trivial;with_reducible repeat' (first|simp only[hb,Vc.down,seval,aTB.down,h2]|refine tQ ?_ ?_<;>intro hb|refine fd ?_|fail))
      all_goals simp[aaP,hp,agC.2 hr2]
   ·obtain⟨rfl,h2⟩:=hk
    rename_i hr1
    (have hb:=trivial;with_reducible repeat' (first|simp only[hb,Vc.down,seval,aTB.down,h2]|refine tQ ?_ ?_<;>intro hb|refine fd ?_|fail))
    all_goals simp[aaP,hp,agC.2 hr1]
end Go.Proofs.Ytfkokgjfpojeoaa
