/- The functions of the layer, walked. -/
import Derived.Test.YtckfcfcmfjfchaaDoorLibE
import Derived.Test.YtckfcfcmfjfchaaDoorChecked
import Derived.Test.YtckfcfcmfjfchaaDoorLibD
import Derived.Test.YtckfcfcmfjfchaaDoorRows
import Derived.Test.YtckfcfcmfjfchaaDoorTie
import Derived.Test.YtckfcfcmfjfchaaDoorCards
import Derived.Test.YtckfcfcmfjfchaaDoorShelf
import Derived.ProofKit
import Derived.LaidMore
import Derived.OpenShut
import Derived.Stop.Joined
open And renaming intro→ao5
open List renaming length_map→azH,replicate→aET,getElem?_eq_some_iff→aI5,getElem?_set_ne→aLO,take_of_length_le→aM2,getElem?_set_self→aND,take→aTC,getElem?_append_left→aTD,getElem?_eq_getElem→aTT,length_replicate→aWQ,getD_eq_getElem?_getD→aW1,map_set→aXQ,all_eq_true→aX2,getElem?_append_right→aY8,length_set→aZA,mem_of_getElem?→aZI,set_set→aZM,drop→aZX,flatMap_cons→aZ5,cons_append→aZ7,nil_append→aZ8,length_eq_zero_iff→a0B,getElem?_map→a0L,replicate_succ→a1U,take_add_one→a1V,take_succ_cons→a4V,drop_succ_cons→a4W,set_cons_succ→a5E,length_take→a5T
open Int renaming lt_irrefl→aL7
open Nat renaming ble→aWR
open Bool renaming false_eq_true→a1W,and_eq_true→a6P
set_option linter.unusedSimpArgs false
set_option linter.unusedVariables false
namespace Go.Proofs.YtckfcfcmfjfchaaDoor
open Go.Ev
set_option maxRecDepth 100000
theorem aW6(h:abY)(b r o:Nat):ld Tryd.prog 24 h (some (.ptr b r o))=ldR (a1S (h[b]?) r) o 3:=be7 ⟨by kernel_rfl,by kernel_rfl⟩ h b r o
theorem a82(b r o:Nat):ftL Tryd.prog 24 (some (.ptr b r o))=some [.cells b o 3]:=bnM (isA:=true) (n:=3) (by kernel_rfl) (by kernel_rfl) b r o
theorem a47(st b r len:Nat):ln Tryd.prog 28 (some (.slr st b r len))=some (.ret (.int .i64 len),[]):=brB (n:=1) ⟨_,Tryd.underlying28,by kernel_rfl⟩ st b r len
theorem a84:ln Tryd.prog 28 (some .nils)=some (.ret (.int .i64 0),[]):=bfY (n:=1) ⟨_,Tryd.underlying28,by kernel_rfl⟩
theorem bg3(fl nn:Bool)(rows:List (List AV)):ln Tryd.prog 28 (some (slv 1 fl nn rows))=some (.ret (.int .i64 rows.length),[]):=bjO ⟨_,Tryd.underlying28,by kernel_rfl⟩ fl nn rows
theorem a1G(h:abY)(b r o:Nat):ld Tryd.prog 28 h (some (.ptr b r o))=ldC (a1S (h[b]?) r) o:=a77 ⟨by kernel_rfl,1,by kernel_rfl⟩ h b r o
theorem aL6(b r o:Nat):fa Tryd.prog 24 (some (.ptr b r o)) 2=some (.ret (.ptr b r (o+2)),[]):=aW7 (show aXG Tryd.prog 24 2 2 1 from⟨_,_,Tryd.underlying24,rfl,rfl,by kernel_rfl,by decide⟩) b r o
theorem aSI(h:abY)(b r o:Nat):ld Tryd.prog 22 h (some (.ptr b r o))=ldC (a1S (h[b]?) r) o:=a77 ⟨by kernel_rfl,1,by kernel_rfl⟩ h b r o
theorem aTA(fl nn:Bool)(rows:List (List AV)):ln Tryd.prog 22 (some (slv 9 fl nn rows))=some (.ret (.int .i64 rows.length),[]):=bjO ⟨_,Tryd.underlying22,by kernel_rfl⟩ fl nn rows
theorem bnR:aYF Tryd.prog 3=some (.int .i64 0):=by kernel_rfl
theorem bgH(base:Nat)(l c:Option AV):msO Tryd.prog 28 base l c=msK 1 (.int .i64 0) base l c:=bvK (e:=3) (n:=1) (b:=8) (by kernel_rfl) (by kernel_rfl) (by kernel_rfl) (by kernel_rfl) (by decide+kernel) base l c
theorem aZS(b r len:Nat)(k:IntKind)(i:Int):ia Tryd.prog 28 (some (.slr 1 b r len)) (some (.int k i))=if 0≤i∧i<len then some (.ret (.ptr b (r+i.toNat) 0),[])else none:=bi5 ⟨_,Tryd.underlying28,by kernel_rfl⟩ b r len k i
theorem bgB(fl nn:Bool)(rows:List (List AV))(k:IntKind)(i:Int):ia Tryd.prog 28 (some (slv 1 fl nn rows)) (some (.int k i))=if 0≤i then r1 ((rows[i.toNat]?).map .iptr)else none:=beF ⟨_,Tryd.underlying28,by kernel_rfl⟩ fl nn rows k i
theorem aNA(h:abY)(b r o:Nat):ld Tryd.prog 3 h (some (.ptr b r o))=ldC (a1S (h[b]?) r) o:=a77 ⟨by kernel_rfl,1,by kernel_rfl⟩ h b r o
theorem a9S(h:abY)(c:AV)(cs:List AV):ld Tryd.prog 3 h (some (.iptr (c::cs)))=some (.ret c,[]):=bqM ⟨by kernel_rfl,1,by kernel_rfl⟩ h c cs
theorem bgS(b r len:Nat)(k:IntKind)(i:Int):ia Tryd.prog 41 (some (.slr 1 b r len)) (some (.int k i))=if 0≤i∧i<len then some (.ret (.ptr b (r+i.toNat) 0),[])else none:=bi5 ⟨_,Tryd.underlying41,by kernel_rfl⟩ b r len k i
theorem bhG(fl nn:Bool)(rows:List (List AV))(k:IntKind)(i:Int):ia Tryd.prog 41 (some (slv 1 fl nn rows)) (some (.int k i))=if 0≤i then r1 ((rows[i.toNat]?).map .iptr)else none:=beF ⟨_,Tryd.underlying41,by kernel_rfl⟩ fl nn rows k i
theorem aZQ(h:abY)(b r o:Nat):ld Tryd.prog 4 h (some (.ptr b r o))=ldC (a1S (h[b]?) r) o:=a77 ⟨by kernel_rfl,1,by kernel_rfl⟩ h b r o
theorem a9E(h:abY)(c:AV)(cs:List AV):ld Tryd.prog 4 h (some (.iptr (c::cs)))=some (.ret c,[]):=bqM ⟨by kernel_rfl,1,by kernel_rfl⟩ h c cs
theorem baX(h:abY)(b r o:Nat)(v:AV):st_ Tryd.prog 3 h (some (.ptr b r o)) (some v)=sv 1 (h[b]?) b r o (alG v):=a3H (by kernel_rfl) h b r o v
theorem a0H(b r o:Nat):fa Tryd.prog 24 (some (.ptr b r o)) 1=some (.ret (.ptr b r (o+1)),[]):=aW7 (show aXG Tryd.prog 24 1 1 1 from⟨_,_,Tryd.underlying24,rfl,rfl,by kernel_rfl,by decide⟩) b r o
theorem aYN(fl nn:Bool)(rows:List (List AV))(k:IntKind)(i:Int):ia Tryd.prog 22 (some (slv 9 fl nn rows)) (some (.int k i))=if 0≤i then r1 ((rows[i.toNat]?).map .iptr)else none:=beF ⟨_,Tryd.underlying22,by kernel_rfl⟩ fl nn rows k i
theorem beL(h:abY)(b r o:Nat):ld Tryd.prog 62 h (some (.ptr b r o))=ldR (a1S (h[b]?) r) o 9:=be7 ⟨by kernel_rfl,by kernel_rfl⟩ h b r o
theorem aYR(h:abY)(cs:List AV):ld Tryd.prog 62 h (some (.iptr cs))=if 9≤cs.length then some (.ret (.agg (cs.take 9)),[])else none:=bvC ⟨by kernel_rfl,by kernel_rfl⟩ h cs
theorem a3V:aYF Tryd.prog 62=some (.agg [.int .i64 0,.int .i64 0,.bool false,.bool false,.int .i64 0,.int .i64 0,.bool false,.int .i64 0,.int .i64 0]):=by kernel_rfl
theorem a39(h:abY)(b r o:Nat)(v:AV):st_ Tryd.prog 62 h (some (.ptr b r o)) (some v)=sv 9 (h[b]?) b r o (alG v):=a3H (by kernel_rfl) h b r o v
theorem a2I(b r o:Nat):fa Tryd.prog 62 (some (.ptr b r o)) 3=some (.ret (.ptr b r (o+3)),[]):=aW7 (show aXG Tryd.prog 62 3 3 1 from⟨_,_,Tryd.underlying62,rfl,rfl,by kernel_rfl,by decide⟩) b r o
theorem ba2(cs:List AV):fa Tryd.prog 62 (some (.iptr cs)) 3=if 3+1≤cs.length then some (.ret (.iptr (cs.drop 3)),[])else none:=baA (show aXG Tryd.prog 62 3 3 1 from⟨_,_,Tryd.underlying62,rfl,rfl,by kernel_rfl,by decide⟩) cs
theorem bf2(h:abY)(b r o:Nat)(v:AV):st_ Tryd.prog 4 h (some (.ptr b r o)) (some v)=sv 1 (h[b]?) b r o (alG v):=a3H (by kernel_rfl) h b r o v
theorem a58(b r o:Nat):fa Tryd.prog 62 (some (.ptr b r o)) 6=some (.ret (.ptr b r (o+6)),[]):=aW7 (show aXG Tryd.prog 62 6 6 1 from⟨_,_,Tryd.underlying62,rfl,rfl,by kernel_rfl,by decide⟩) b r o
theorem aZR(base len:Nat)(ps:List (Nat × AV)):rD (aCP Tryd.prog base 28 len ps)=bsK 1 (.int .i64 0) base len ps:=bv5 (e:=3) (by kernel_rfl) (by kernel_rfl) (by kernel_rfl) base len ps
theorem bcF:aYF Tryd.prog 75=some (.agg [.int .i64 0,.bool false,.int .i64 0,.bool false,.int .i64 0,.bool false,.int .i64 0,.bool false,.int .i64 0,.bool false,.int .i64 0,.bool false,.int .i64 0,.bool false,.int .i64 0,.bool false,.int .i64 0,.bool false,.int .i64 0,.bool false,.int .i64 0,.bool false,.int .i64 0,.bool false]):=by kernel_rfl
theorem bc6(h:abY)(b r o:Nat)(v:AV):st_ Tryd.prog 75 h (some (.ptr b r o)) (some v)=sv 24 (h[b]?) b r o (alG v):=a3H (by kernel_rfl) h b r o v
theorem a3J(h:abY)(b r o:Nat):ld Tryd.prog 75 h (some (.ptr b r o))=ldR (a1S (h[b]?) r) o 24:=be7 ⟨by kernel_rfl,by kernel_rfl⟩ h b r o
theorem aY3(b r o:Nat):fa Tryd.prog 79 (some (.ptr b r o)) 0=some (.ret (.ptr b r (o+0)),[]):=aW7 (show aXG Tryd.prog 79 0 0 3 from⟨_,_,Tryd.underlying79,rfl,rfl,by kernel_rfl,by decide⟩) b r o
theorem a2H(b r o:Nat):fa Tryd.prog 62 (some (.ptr b r o)) 0=some (.ret (.ptr b r (o+0)),[]):=aW7 (show aXG Tryd.prog 62 0 0 1 from⟨_,_,Tryd.underlying62,rfl,rfl,by kernel_rfl,by decide⟩) b r o
theorem bbV(cs:List AV):fa Tryd.prog 62 (some (.iptr cs)) 0=if 0+1≤cs.length then some (.ret (.iptr (cs.drop 0)),[])else none:=baA (show aXG Tryd.prog 62 0 0 1 from⟨_,_,Tryd.underlying62,rfl,rfl,by kernel_rfl,by decide⟩) cs
theorem a11(b r o:Nat):fa Tryd.prog 62 (some (.ptr b r o)) 1=some (.ret (.ptr b r (o+1)),[]):=aW7 (show aXG Tryd.prog 62 1 1 1 from⟨_,_,Tryd.underlying62,rfl,rfl,by kernel_rfl,by decide⟩) b r o
theorem bcQ(cs:List AV):fa Tryd.prog 62 (some (.iptr cs)) 1=if 1+1≤cs.length then some (.ret (.iptr (cs.drop 1)),[])else none:=baA (show aXG Tryd.prog 62 1 1 1 from⟨_,_,Tryd.underlying62,rfl,rfl,by kernel_rfl,by decide⟩) cs
theorem a8I(h:abY)(b r o:Nat):ld Tryd.prog 73 h (some (.ptr b r o))=ldR (a1S (h[b]?) r) o 2:=be7 ⟨by kernel_rfl,by kernel_rfl⟩ h b r o
theorem aWN{O:Orc}(t:List AV)(h:abY)(s x:Operand):aMK O Tryd.prog t h (.call ⟨.builtin .append,#[s,x],#[28,28]⟩)=apO Tryd.prog 28 h (ab1 t s) (ab1 t x):=bqE t h s x 28 28 _ Tryd.underlying28
theorem aZO(h:abY)(s:AV)(a b r l:Nat):apO Tryd.prog 28 h (some s) (some (.slr a b r l))=apK 1 h (some s) (srK 1 h (some (.slr a b r l))):=bh8 (e:=3) (b:=8) (z:=.int .i64 0) (by kernel_rfl) (by kernel_rfl) (by kernel_rfl) (by kernel_rfl) (by decide+kernel) h s _ (fun q e=>by cases e)
theorem bhH(h:abY)(s:AV)  :apO Tryd.prog 28 h (some s) (some .nils)=apK 1 h (some s) (srK 1 h (some .nils)):=bh8 (e:=3) (b:=8) (z:=.int .i64 0) (by kernel_rfl) (by kernel_rfl) (by kernel_rfl) (by kernel_rfl) (by decide+kernel) h s _ (fun q e=>by cases e)
theorem bj1:aYF Tryd.prog 28=some (.nils):=by kernel_rfl
theorem aY7(b r o:Nat):fa Tryd.prog 24 (some (.ptr b r o)) 0=some (.ret (.ptr b r (o+0)),[]):=aW7 (show aXG Tryd.prog 24 0 0 1 from⟨_,_,Tryd.underlying24,rfl,rfl,by kernel_rfl,by decide⟩) b r o
theorem a5Z(b r o:Nat):fa Tryd.prog 62 (some (.ptr b r o)) 2=some (.ret (.ptr b r (o+2)),[]):=aW7 (show aXG Tryd.prog 62 2 2 1 from⟨_,_,Tryd.underlying62,rfl,rfl,by kernel_rfl,by decide⟩) b r o
theorem aYW(b r o:Nat):fa Tryd.prog 62 (some (.ptr b r o)) 4=some (.ret (.ptr b r (o+4)),[]):=aW7 (show aXG Tryd.prog 62 4 4 1 from⟨_,_,Tryd.underlying62,rfl,rfl,by kernel_rfl,by decide⟩) b r o
theorem aY1(b r o:Nat):fa Tryd.prog 62 (some (.ptr b r o)) 5=some (.ret (.ptr b r (o+5)),[]):=aW7 (show aXG Tryd.prog 62 5 5 1 from⟨_,_,Tryd.underlying62,rfl,rfl,by kernel_rfl,by decide⟩) b r o
theorem a5J(b r o:Nat):fa Tryd.prog 62 (some (.ptr b r o)) 7=some (.ret (.ptr b r (o+7)),[]):=aW7 (show aXG Tryd.prog 62 7 7 1 from⟨_,_,Tryd.underlying62,rfl,rfl,by kernel_rfl,by decide⟩) b r o
theorem a5Q(b r o:Nat):fa Tryd.prog 62 (some (.ptr b r o)) 8=some (.ret (.ptr b r (o+8)),[]):=aW7 (show aXG Tryd.prog 62 8 8 1 from⟨_,_,Tryd.underlying62,rfl,rfl,by kernel_rfl,by decide⟩) b r o
theorem bh3(base len:Nat)(ps:List (Nat × AV)):rD (aCP Tryd.prog base 41 len ps)=bsK 1 (.bool false) base len ps:=bv5 (e:=4) (by kernel_rfl) (by kernel_rfl) (by kernel_rfl) base len ps
theorem a8S{O:Orc}(t:List AV)(h:abY)(s x:Operand):aMK O Tryd.prog t h (.call ⟨.builtin .append,#[s,x],#[41,41]⟩)=apO Tryd.prog 41 h (ab1 t s) (ab1 t x):=bqE t h s x 41 41 _ Tryd.underlying41
theorem bhZ(h:abY)(s:AV)(a b r l:Nat):apO Tryd.prog 41 h (some s) (some (.slr a b r l))=apK 1 h (some s) (srK 1 h (some (.slr a b r l))):=bh8 (e:=4) (b:=1) (z:=.bool false) (by kernel_rfl) (by kernel_rfl) (by kernel_rfl) (by kernel_rfl) (by decide+kernel) h s _ (fun q e=>by cases e)
theorem a2J(b r o:Nat):fa Tryd.prog 73 (some (.ptr b r o)) 0=some (.ret (.ptr b r (o+0)),[]):=aW7 (show aXG Tryd.prog 73 0 0 1 from⟨_,_,Tryd.underlying73,rfl,rfl,by kernel_rfl,by decide⟩) b r o
theorem bcL(h:abY)(b r o:Nat)(v:AV):st_ Tryd.prog 71 h (some (.ptr b r o)) (some v)=sv 1 (h[b]?) b r o (alG v):=a3H (by kernel_rfl) h b r o v
theorem a6B(b r o:Nat):fa Tryd.prog 79 (some (.ptr b r o)) 1=some (.ret (.ptr b r (o+3)),[]):=aW7 (show aXG Tryd.prog 79 1 3 1 from⟨_,_,Tryd.underlying79,rfl,rfl,by kernel_rfl,by decide⟩) b r o
theorem bhD(ps:List (Nat × AV)):a44 Tryd.prog 79 ps=(aZC (fun i=>([(0,3),(3,1)]:List (Nat × Nat))[i]?) (alG (.agg [.int .i64 0,.int .i64 0,.nils,.int .i64 0])) ps).map .agg:=by kernel_rfl
theorem a5V(b r o:Nat):fa Tryd.prog 73 (some (.ptr b r o)) 1=some (.ret (.ptr b r (o+1)),[]):=aW7 (show aXG Tryd.prog 73 1 1 1 from⟨_,_,Tryd.underlying73,rfl,rfl,by kernel_rfl,by decide⟩) b r o
theorem a3W(h:abY)(b r o:Nat)(v:AV):st_ Tryd.prog 28 h (some (.ptr b r o)) (some v)=sv 1 (h[b]?) b r o (alG v):=a3H (by kernel_rfl) h b r o v
theorem bgN(ps:List (Nat × AV)):a44 Tryd.prog 98 ps=(aZC (fun i=>([(0,1)]:List (Nat × Nat))[i]?) (alG (.agg [.nils])) ps).map .agg:=by kernel_rfl
theorem bjV:aYF Tryd.prog 96=some (.nilp):=by kernel_rfl
theorem bjY(h:abY)(b r o:Nat)(v:AV):st_ Tryd.prog 96 h (some (.ptr b r o)) (some v)=sv 1 (h[b]?) b r o (alG v):=a3H (by kernel_rfl) h b r o v
theorem beT(h:abY)(b r o:Nat):ld Tryd.prog 96 h (some (.ptr b r o))=ldC (a1S (h[b]?) r) o:=a77 ⟨by kernel_rfl,1,by kernel_rfl⟩ h b r o
theorem beI(h:abY)(b r o:Nat):ld Tryd.prog 71 h (some (.ptr b r o))=ldC (a1S (h[b]?) r) o:=a77 ⟨by kernel_rfl,1,by kernel_rfl⟩ h b r o
theorem bdQ(h:abY)(b r o:Nat):ld Tryd.prog 68 h (some (.ptr b r o))=ldC (a1S (h[b]?) r) o:=a77 ⟨by kernel_rfl,1,by kernel_rfl⟩ h b r o
theorem a19(b r o:Nat):fa Tryd.prog 98 (some (.ptr b r o)) 0=some (.ret (.ptr b r (o+0)),[]):=aW7 (show aXG Tryd.prog 98 0 0 1 from⟨_,_,Tryd.underlying98,rfl,rfl,by kernel_rfl,by decide⟩) b r o
def TY5:=PLift.up (ao5 @aW6 @a84)
def TY9:=PLift.up (ao5 @aL6 (ao5 @aSI @aTA))
def bbB:=PLift.up (ao5 @aY7 (ao5 @aNA (ao5 @a0H (ao5 @aL6 (ao5 @aSI (ao5 @aTA (ao5 @aYN (ao5 @aYR (ao5 @a3V (ao5 @a39 (ao5 @a2H (ao5 @a11 (ao5 @a2I (ao5 @aZQ (ao5 @a5Z (ao5 @aYW (ao5 @aY1 (ao5 @a5J @a5Q))))))))))))))))))
def bnZ:=PLift.up (ao5 @bg3 (ao5 @bgB @a9S))
def bkL:=PLift.up (ao5 @aL6 (ao5 @aSI (ao5 @aTA (ao5 @aYN (ao5 @aYR (ao5 @ba2 (ao5 @a9E (ao5 @bh3 (ao5 @a8S @bhZ)))))))))
def a8X:=PLift.up (ao5 @aW6 (ao5 @bcF (ao5 @bc6 (ao5 @aY3 (ao5 @aL6 (ao5 @aSI (ao5 @aTA (ao5 @a3J (ao5 @a2J (ao5 @bcL (ao5 @a8I (ao5 @aZR (ao5 @aWN @aZO)))))))))))))
def a6G:=PLift.up (ao5 @aW6 (ao5 @aZR (ao5 @aL6 (ao5 @aSI (ao5 @aTA (ao5 @aYN (ao5 @aYR (ao5 @a3V (ao5 @a39 (ao5 @aYW (ao5 @aNA (ao5 @aY1 (ao5 @aWN (ao5 @aZO (ao5 @a47 (ao5 @aZS (ao5 @a6B (ao5 @baX @a0H))))))))))))))))))
def baI:=PLift.up (ao5 @aL6 (ao5 @aSI (ao5 @aTA (ao5 @aW6 (ao5 @bgS (ao5 @aZQ (ao5 @bf2 (ao5 @aZR (ao5 @aWN @aZO)))))))))
def bhT:=PLift.up (ao5 @aW6 (ao5 @a0H @aNA))
def bxW:=PLift.up (ao5 @aW6 @a82)
def bv4:=PLift.up (ao5 @aW6 (ao5 @a82 @bhD))
def bpW:=PLift.up (ao5 @a3J (ao5 @bcF (ao5 @aY3 (ao5 @aL6 (ao5 @aSI (ao5 @aTA (ao5 @aYN (ao5 @aYR (ao5 @a3V (ao5 @a39 (ao5 @a2I (ao5 @aZQ (ao5 @a5V (ao5 @bf2 (ao5 @a58 (ao5 @a2J (ao5 @bcL (ao5 @a6B (ao5 @aNA (ao5 @aYW (ao5 @aY1 @bc6)))))))))))))))))))))
def a1T:=PLift.up (ao5 @aY3 (ao5 @aY7 (ao5 @aNA (ao5 @bnR (ao5 @bgH (ao5 @bj1 (ao5 @a3W (ao5 @a1G (ao5 @a47 (ao5 @aZS (ao5 @baX (ao5 @bgN (ao5 @bjV (ao5 @bjY (ao5 @beT @a8I)))))))))))))))
def bxF:=PLift.up (ao5 @a2J (ao5 @beI (ao5 @a5V @aZQ)))
def bwB:=PLift.up (ao5 @aW6 (ao5 @aZS (ao5 @aNA (ao5 @aL6 (ao5 @aSI @aTA)))))
def a67:=PLift.up (ao5 @aZR (ao5 @aY7 (ao5 @aNA (ao5 @a9S (ao5 @aWN (ao5 @aZO (ao5 @aL6 (ao5 @aSI (ao5 @aTA (ao5 @aYN (ao5 @bbV (ao5 @bcQ (ao5 @bhG (ao5 @a9E (ao5 @aZS @baX)))))))))))))))
def bv0:=PLift.up (ao5 @a3J (ao5 @aZS (ao5 @aNA (ao5 @aY3 (ao5 @aL6 (ao5 @aSI @aTA))))))
def bxZ:=PLift.up (ao5 @a58 (ao5 @aZQ (ao5 @aYW (ao5 @aNA @aY1))))
def bxC:=PLift.up (ao5 @aY7 (ao5 @aNA (ao5 @a0H (ao5 @aL6 (ao5 @aSI @aTA)))))
def bn4:=PLift.up (ao5 @a19 (ao5 @a1G (ao5 @aZR (ao5 @aWN (ao5 @aZO @a3W)))))
def bp4:=PLift.up (ao5 @a19 (ao5 @a1G (ao5 @a47 (ao5 @a84 (ao5 @aZS (ao5 @aNA @a3W))))))
def bhA:=PLift.up (ao5 @aZR (ao5 @a19 (ao5 @a1G (ao5 @aWN (ao5 @aZO (ao5 @bhH @a3W))))))
def bxS:=PLift.up (ao5 @beL (ao5 @aY7 @aNA))
def bxP:=PLift.up (ao5 @a2H (ao5 @aNA (ao5 @a11 (ao5 @a5Z (ao5 @aZQ (ao5 @a2I (ao5 @aYW (ao5 @aY1 (ao5 @a5J @a5Q)))))))))
def bg5:=PLift.up (ao5 @bdQ (ao5 @aY3 (ao5 @aL6 (ao5 @aSI (ao5 @aTA (ao5 @aYN (ao5 @aYR (ao5 @a3V (ao5 @a39 (ao5 @aNA (ao5 @a2H @a11)))))))))))
def biT:=PLift.up (ao5 @aTA (ao5 @aYN @aYR))
end Go.Proofs.YtckfcfcmfjfchaaDoor
namespace Go.Proofs.YtckfcfcmfjfchaaDoor
open Go Go.Ev Go.ChangeShapes Go.WideShapes Go.ChangeAt Go.RowKit
set_option maxRecDepth 100000
set_option maxHeartbeats 16000000
def mdL:List Nat:=[46,56,60,57]
def pr:aYY:=a93 54 68 46 (mdL.contains ·)
noncomputable def om':Orc:=om Tryd.prog pr
theorem buW(f:Nat):om'.md f=([46,56,60,57]:List Nat).contains f:=Eq.trans rfl rfl
def Va:=PLift.up (ao5 EE.down EVu.down)
def Vc:=PLift.up (ao5 EG.down @buW)
theorem own:ownKnob Tryd.prog.godebug=none:=by kernel_rfl
theorem bpG:bhW Tryd.prog:=fun f fn hf=>by
 have h:(Tryd.prog.funcs.toList.all fun fn=> !(fn.name== "runtime.NumGoroutine"))=true:=by kernel_rfl
 have:=aX2.1 h fn (by rw[Array.mem_toList_iff];exact Array.mem_of_getElem? hf)
 simpa using this
theorem mixed:Tryd.prog.follows .mixedOrders=true:=by kernel_rfl
theorem bp5:laidOutB Tryd.prog=true:=by kernel_rfl
def laid:List (String × DataW Unit):=[("math/bits.deBruijn32tab",Rows.laid_math_bits_deBruijn32tab),("math/bits.deBruijn64tab",Rows.laid_math_bits_deBruijn64tab),("internal/strconv.uint64pow10",Rows.laid_internal_strconv_uint64pow10)]
theorem bvL:Tryd.prog.globalNamed "internal/strconv.uint64pow10" =some 0:=by kernel_rfl
theorem tab{W:World}(h:laidMetH Tryd.prog laid W):Lib.TabIs Tryd.prog W "internal/strconv.uint64pow10" .u64 Lib.pow10Tab:=by
 rw[MakeChecks.laidMetH_plain _ _ _ (by kernel_rfl)]at h
 obtain⟨ps,h,_⟩:=h
 exact a4E (t:=160) (e:=126) (n:=20) bvL (by kernel_rfl) (by kernel_rfl) (by kernel_rfl) (by kernel_rfl) (by kernel_rfl) h (by
  have e:(Lib.tabData .u64 Lib.pow10Tab:DataW Unit)=Rows.laid_internal_strconv_uint64pow10:=rfl
  rw[e];simp[laid])
theorem blV{W:World}(h:laidMetH Tryd.prog laid W):aTL Tryd.prog (bmG W 0) om':=
 bvB bpG (bhM (bm7 (a7T bpG Tryd.func54 rfl) (bh9 bvL (tab h)) (fun n w h0 h1 ht=>Tryd.strconv_Itoa n h0 h1 w ht)) (bm4 (a7T bpG Tryd.func68 rfl) Tryd.strings_Join_none Tryd.strings_Join) (bnX (a7T bpG Tryd.func46 rfl) Tryd.slices_Sort_int)) mixed
theorem bk3(os:Os)(args:Array Value):laidMetH Tryd.prog laid ((World.doorLaid Tryd.prog 400 os).forCall (fun _ _=>0) ⟨#[],args,[]⟩).memory:=
 laidMetH_of_parts3 (fuel:=8) (laidMet_of_run' 8 (by kernel_rfl) (by kernel_rfl)) (by kernel_rfl) (by kernel_rfl)
theorem bsP{f:Nat}{fn:Func}{c:Code}{args:List AV}{h:abY}{Q:Out→abY→Prop}(hp:pr f=none)(hf:Tryd.prog.funcs[f]?=some fn)(hb:fn.body=some c)(hl:aWR args.length fn.ntmps=true)
 (he:FnE Tryd.prog h.length fn.results.toList Q (evM om' Tryd.prog 5000 c [] ⟨mk fn.ntmps (ent args),h⟩)):ClQ om' f args h Q:=ClQ.start (pr:=pr) hp hf hb hl he
theorem bj4{f:Nat}{fn:Func}{c:Code}{args:List AV}{h:abY}{Q:Out→abY→Prop}(hp:pr f=none)(hf:Tryd.prog.funcs[f]?=some fn)(hb:fn.body=some c)(hl:aWR args.length fn.ntmps=true)
 (he:FnS Tryd.prog fn.results.toList Q (evM om' Tryd.prog 5000 c [] ⟨mk fn.ntmps (ent args),h⟩))  (hs:pr.sh f=none:=by exact rfl):ShQ om' f args h Q:=ShQ.start (pr:=pr) hp hf hb hl he hs
theorem ce{f:Nat}{fn:Func}{c:Code}{args:List AV}{h:abY}{o:Out}{h':abY}(hf:Tryd.prog.funcs[f]?=some fn)(he:FnE Tryd.prog h.length fn.results.toList (fun o1 h1=>(o1,h1)=(o,h')) (evM om' Tryd.prog 5000 c [] ⟨mk fn.ntmps (ent args),h⟩))(hp:pr f=none:=by exact rfl)(hb:fn.body=some c:=by exact rfl)(hl:aWR args.length fn.ntmps=true:=by exact rfl):om'.call (.fn f) args h=some (o,h'):=(bsP hp hf hb hl he).eq
theorem csh{f:Nat}{fn:Func}{c:Code}{args:List AV}{h:abY}{o:Out}{h':abY}(hf:Tryd.prog.funcs[f]?=some fn)(he:FnS Tryd.prog fn.results.toList (fun o1 h1=>(o1,h1)=(o,h')) (evM om' Tryd.prog 5000 c [] ⟨mk fn.ntmps (ent args),h⟩))(hp:pr f=none:=by exact rfl)(hb:fn.body=some c:=by exact rfl)(hl:aWR args.length fn.ntmps=true:=by exact rfl)(hs:pr.sh f=none:=by exact rfl):om'.call (.sh f) args h=some (o,h'):=(bj4 hp hf hb hl he hs).eq
theorem lst{α σ ρ:Type}{c:Code}(N:Nat)(l:List α)(E:Nat→σ→Tm→abY→Prop)(F:List α→σ→ρ)(Q:ρ→Ex→Tm→abY→Prop)
 (stop:∀s t h Q',(∀e t h,Q (F [] s) e t h→Q' e ⟨mk N t,h⟩)→E l.length s t h→Rnd N (fun _ _=>False) Q' (evM om' Tryd.prog 5000 c [] ⟨mk N t,h⟩))
 (go:∀x rest i s t h J Q',(∀t' h' s',E (i+1) s' t' h'→F rest s'=F (x::rest) s→J t' h')→(∀e t h,Q (F (x::rest) s) e t h→Q' e ⟨mk N t,h⟩)→l[i]?=some x→i<l.length→E i s t h→
   Rnd N J Q' (evM om' Tryd.prog 5000 c [] ⟨mk N t,h⟩)):
 ∀s t h,E 0 s t h→LpQ om' c ⟨mk N t,h⟩ (Ot N (Q (F l s))):=bgX (pr:=pr) rfl N l E F Q stop go
theorem cnt{σ ρ:Type}{c:Code}(N:Nat)(E:Nat→σ→Tm→abY→Prop)(F:Nat→σ→ρ)(Q:ρ→Ex→Tm→abY→Prop)
 (stop:∀s t h Q',(∀e t h,Q (F 0 s) e t h→Q' e ⟨mk N t,h⟩)→E 0 s t h→Rnd N (fun _ _=>False) Q' (evM om' Tryd.prog 5000 c [] ⟨mk N t,h⟩))
 (go:∀n s t h J Q',(∀t' h' s',E n s' t' h'→F n s'=F (n+1) s→J t' h')→(∀e t h,Q (F (n+1) s) e t h→Q' e ⟨mk N t,h⟩)→E (n+1) s t h→Rnd N J Q' (evM om' Tryd.prog 5000 c [] ⟨mk N t,h⟩)):
 ∀n s t h,E n s t h→LpQ om' c ⟨mk N t,h⟩ (Ot N (Q (F n s))):=blI (pr:=pr) rfl N E F Q stop go
def iv(x:Int):List AV:=[.int .i64 x]
theorem as2{h:abY}{b:Nat}{c:CB}(h0:h[b]?=some c)(l:abY):(h++l)[b]?=some c:=by
 rw[aTD (aI5.1 h0).1];exact h0
end Go.Proofs.YtckfcfcmfjfchaaDoor
namespace Go.Proofs.YtckfcfcmfjfchaaDoor
open Go.Ev Go
set_option maxRecDepth 100000
set_option maxHeartbeats 16000000
structure ao7 where
 one:Int
 other:Int
 valve:Bool
 opn:Bool
 tested:Int
 valid:Int
 bad:Bool
 test:Int
 change:Int
def ao7.cells(p:ao7):List AV:=[.int .i64 p.one,.int .i64 p.other,.bool p.valve,.bool p.opn,.int .i64 p.tested,.int .i64 p.valid,.bool p.bad,.int .i64 p.test,.int .i64 p.change]
structure avQ where
 rooms:Int
 need:Int
 nn:Bool
 parts:List ao7
abbrev avQ.cells(w:avQ):List AV:=[.int .i64 w.rooms,.int .i64 w.need,slv 9 true w.nn (w.parts.map ao7.cells)]
theorem bfD{α:Type}{f:α→List AV}{p:List AV→Prop}{q:α→Prop}(hf:∀r,p r→∃x,r=f x∧q x):∀{rows:List (List AV)},(∀r∈rows,p r)→∃l:List α,rows=l.map f∧∀x∈l,q x
 | [],_=>⟨[],rfl,fun x hx=>by simp at hx⟩
 |r::rows,h=>by
  obtain⟨x,rfl,hx⟩:=hf r (h r (List.mem_cons_self ..))
  obtain⟨l,rfl,hl⟩:=bfD hf (fun r hr=>h r (List.mem_cons_of_mem _ hr))
  exact⟨x::l,rfl,fun y hy=>by
   rcases List.mem_cons.1 hy with rfl|hy
   ·exact hx
   ·exact hl y hy⟩
def i64(n:Int):Prop:= -9223372036854775808≤n∧n≤9223372036854775807
theorem a1D{n:Nat}{r:List AV}(h:Ty Tryd.prog (n+1) 3 r):∃x,r=[.int .i64 x]∧i64 x:=by
 simp only[Ty,Tryd.underlying3]at h
 obtain⟨x,rfl,h1,h2⟩:=h
 exact⟨x,rfl,h1,h2⟩
theorem baS{n:Nat}{r:List AV}(h:Ty Tryd.prog (n+1) 4 r):∃x,r=[.bool x]:=by
 simp only[Ty,Tryd.underlying4]at h
 exact h
def ao7.fits(p:ao7):Prop:=i64 p.one∧i64 p.other∧i64 p.tested∧i64 p.valid∧i64 p.test∧i64 p.change
theorem bo0{n:Nat}{r:List AV}(h:Ty Tryd.prog (n+2) 62 r):∃x:ao7,r=x.cells∧x.fits:=by
 unfold Ty at h
 simp only[Tryd.underlying62,bmE]at h
 obtain⟨a0,b0,rfl,h0,a1,b1,rfl,h1,a2,b2,rfl,h2,a3,b3,rfl,h3,a4,b4,rfl,h4,a5,b5,rfl,h5,a6,b6,rfl,h6,a7,b7,rfl,h7,a8,b8,rfl,h8,rfl⟩:=h
 obtain⟨x0,rfl,k0⟩:=a1D h0
 obtain⟨x1,rfl,k1⟩:=a1D h1
 obtain⟨x2,rfl⟩:=baS h2
 obtain⟨x3,rfl⟩:=baS h3
 obtain⟨x4,rfl,k4⟩:=a1D h4
 obtain⟨x5,rfl,k5⟩:=a1D h5
 obtain⟨x6,rfl⟩:=baS h6
 obtain⟨x7,rfl,k7⟩:=a1D h7
 obtain⟨x8,rfl,k8⟩:=a1D h8
 exact⟨⟨x0,x1,x2,x3,x4,x5,x6,x7,x8⟩,rfl,k0,k1,k4,k5,k7,k8⟩
structure avQ.small(w:avQ):Prop where
 parts:w.parts.length≤maxLen
 fits:∀p∈w.parts,p.fits
 rooms:i64 w.rooms
 need:i64 w.need
theorem bo2{n:Nat}{r:List AV}(h:Ty Tryd.prog (n+4) 24 r):∃w:avQ,r=w.cells∧w.small:=by
 unfold Ty at h
 simp only[Tryd.underlying24,bmE]at h
 obtain⟨a0,b0,rfl,h0,a1,b1,rfl,h1,a2,b2,rfl,h2,rfl⟩:=h
 obtain⟨x0,rfl,k0⟩:=a1D h0
 obtain⟨x1,rfl,k1⟩:=a1D h1
 unfold Ty at h2
 simp only[Tryd.underlying22]at h2
 obtain⟨n2,rows2,rfl,hl2,hrows2⟩:=h2
 obtain⟨l2,rfl,hm⟩:=bfD (fun r hr=>bo0 hr) hrows2
 have e2:Tryd.prog.cellsOf 62=9:=by kernel_rfl
 have f2:flT Tryd.prog (n+2) 62=true:=by
  simp only[flT,Tryd.underlying62,Tryd.underlying3,Tryd.underlying4];rfl
 rw[e2,f2]
 exact⟨⟨x0,x1,n2,l2⟩,rfl,by simpa using hl2,hm,k0,k1⟩
theorem bn2{av:AV}(h:TyV Tryd.prog 7 24 av):∃w:avQ,av=.agg w.cells∧w.small:=by
 unfold TyV at h
 simp only[Tryd.underlying24]at h
 obtain⟨cs,rfl,h⟩:=h
 obtain⟨s,rfl,hs⟩:=bo2 h
 exact⟨s,rfl,hs⟩
theorem bs9{av:AV}(h:TyV Tryd.prog 7 3 av):∃x,av=.int .i64 x∧i64 x:=by
 unfold TyV at h
 simp only[Tryd.underlying3]at h
 obtain⟨x,hx,hi⟩:=a1D h
 simp only[List.cons.injEq,and_true]at hx
 exact⟨x,hx,hi⟩
end Go.Proofs.YtckfcfcmfjfchaaDoor
namespace Go.Proofs.YtckfcfcmfjfchaaDoor
open Go.Ev Go Go.Ev.Net
set_option maxRecDepth 100000
set_option maxHeartbeats 16000000
def inB(x lo hi:Int):Bool:=decide (lo≤x)&&decide (x≤hi)
theorem bc4(x lo hi:Int):om'.call (.fn 39) [.int .i64 x,.int .i64 lo,.int .i64 hi] []=some (.ret (.bool (inB x lo hi)),[]):=by
 (refine ce Tryd.func39 ?_;simp only[Tryd.f39];(have hb:=trivial;with_reducible repeat' (first|simp only[hb,Va.down,seval]|refine fsp ?_ ?_<;>intro hb|refine fd ?_|fail)))
 all_goals simp[inB, *]
theorem a8O(x lo hi:Int):om'.call (.fn 48) [.int .i64 x,.int .i64 lo,.int .i64 hi] []=some (.ret (.bool (inB x lo hi)),[]):=by
 (refine ce Tryd.func48 ?_;simp only[Tryd.f48];(have hb:=trivial;with_reducible repeat' (first|simp only[hb,Va.down,seval]|refine fsp ?_ ?_<;>intro hb|refine fd ?_|fail)))
 all_goals simp[inB, *]
def a0Z(d:Int):Bool:=inB d 0 5000
theorem biL(d:Int):om'.call (.fn 13) [.int .i64 d] []=some (.ret (.bool (a0Z d)),[]):=by
 (refine ce Tryd.func13 ?_;simp only[Tryd.f13];(have hb:=trivial;with_reducible repeat' (first|simp only[hb,Va.down,seval,bc4]|refine fsp ?_ ?_<;>intro hb|refine fd ?_|fail)))
 rfl
def aYL(p:ao7)(d:Int):Int:=if p.bad=true then 2 else if IntKind.i64.wrap (p.tested+p.valid)<d then 1 else 0
def aY9(p:ao7)(d:Int):Bool:=aYL p d==0&& !p.opn
theorem bbD(p:ao7)(d:Int):om'.call (.fn 45) [.agg [.int .i64 p.one,.int .i64 p.other,.bool p.valve,.bool p.opn,.int .i64 p.tested,.int .i64 p.valid,.bool p.bad,.int .i64 p.test,.int .i64 p.change],.int .i64 d] []=some (.ret (.int .i64 (aYL p d)),[]):=by
 (refine ce Tryd.func45 ?_;simp only[Tryd.f45];(have hb:=trivial;with_reducible repeat' (first|simp only[hb,Va.down,seval,bxZ.down]|refine fsp ?_ ?_<;>intro hb|refine fd ?_|fail)))
 all_goals simp_all[aYL]
def bvv(b:Bool):List AV:=[.bool b]
def nvv(n:Nat):List AV:=[.int .i64 (n:Int)]
def aJ0(w:avQ)(d:Int):List Bool:=w.parts.map fun p=>aY9 p d
theorem aXZ{h:abY}{b:Nat}(hb:b<h.length)(l:abY)(c:CB):(h++l).set b c=h.set b c++l:=List.set_append_left _ _ hb
theorem asR{h:abY}{b:Nat}{c:CB}(e:h[b]?=some c):b<h.length:=(aI5.1 e).1
theorem aXY{h:abY}{b:Nat}(c:CB)(l:abY):(h.set b c++l)[h.length]?=l[0]?:=by
 rw[aY8 (by simp)];simp
theorem aTF{h:abY}{b:Nat}(c:CB)(l:abY)(k:Nat):(h.set b c++l)[h.length+k]?=l[k]?:=by
 rw[aY8 (by simp)];simp
theorem a1E{h:abY}{b b':Nat}{x:CB}(c:CB)(hne:b≠b')(hb:h[b']?=some x)(l:abY):(h.set b c++l)[b']?=some x:=by
 have hlt:b'<h.length:=(aI5.1 hb).1
 rw[aTD (by simpa using hlt),aLO hne];exact hb
def bqH(v:AV)(i:Nat)(rows:List (List AV))(h:abY):Prop:=(i=0∧v=.nils)∨(0<i∧∃b,0<b∧v=.slr 1 b 0 i∧h[b]?=some (.live 1 true false rows))
theorem bfN(w:avQ)(d:Int)(hs:w.parts.length≤1000)(hne:w.parts≠[]):om'.call (.fn 19) [.agg [.int .i64 w.rooms,.int .i64 w.need,slv 9 true w.nn (w.parts.map ao7.cells)],.int .i64 d] []=some (.ret (.slr 1 0 0 w.parts.length),[.live 1 true false ((aJ0 w d).map bvv)]):=by
 (refine ce Tryd.func19 ?_;simp only[Tryd.f19];(have hb:=trivial;with_reducible repeat' (first|simp only[hb,Va.down,seval,bkL.down,azH]|refine fsp ?_ ?_<;>intro hb|refine fd ?_|fail)))
 refine aZG (lst 35 w.parts (fun i (zz:List Bool) t h=>t 1=.int .i64 d∧t 2=.ptr 0 0 0∧t 6=.int .i64 i∧(h[0]?=some (.live 3 false false [[.int .i64 w.rooms,.int .i64 w.need,slv 9 true w.nn (w.parts.map ao7.cells)]])∧zz.length=i∧bqH (t 5) i (zz.map bvv) h)) (fun rest zz=>zz++rest.map (fun p=>aY9 p d)) (fun r e t h=>e=.exit 0∧bqH (t 5) w.parts.length (r.map bvv) h) ?_ ?_ ([]) _ _ ?_) (fun e t h hk=>?_)
 ·rintro a t h Q' kQ ⟨h1,h2,h6,⟨hA,hp,hc⟩⟩
  (have hb:=trivial;with_reducible repeat' (first|simp only[hb,Va.down,seval,bkL.down,h1,h2,h6,aL7,decide_false,hA,azH]|refine fsp ?_ ?_<;>intro hb|refine fd ?_|fail))
  exact kQ _ _ _ ⟨rfl,by simpa [up]using hc⟩
 ·rintro x rest i a t h J Q' kJ kQ hx hi ⟨h1,h2,h6,⟨hA,hp,hc⟩⟩
  have hd:decide ((i:Int)<(w.parts.length:Int))=true:=decide_eq_true (by omega)
  have hw:=aVK hi (by unfold maxLen;omega)
  have hV:=bbD x d
  have htb:aY9 x d=(aYL x d==0&& !x.opn):=rfl
  have hA1:=as2 hA
  have h0l:0<h.length:=(aI5.1 hA).1
  generalize aYL x d=cx at *
  rcases hc with⟨rfl,ho⟩|⟨h0,b,hb0,ho,hb⟩
  ·simp only[Int.natCast_zero]at hd
   obtain rfl:a=[]:=a0B.1 hp
   cases hq:(cx==0)
   all_goals (have hb:=trivial;with_reducible repeat' (first|simp only[hb,Va.down,seval,bkL.down,h1,h2,h6,ho,hd,hw,hx,hA,hA1,hV,hq,ao7.cells,azH]|refine fsp ?_ ?_<;>intro hb|refine fd ?_|fail))
   all_goals (refine aC8 (kJ _ _ [aY9 x d] ⟨?_,?_,?_,⟨hA1 _,rfl,.inr ⟨by omega,h.length+1,by omega,by simp[up],by rw[bfB];simp[bvv,htb,hq]⟩⟩⟩ ?_);(simp[up,h1]);(simp[up,h2]);(simp[up]);(simp))
  ·have hbl:b<h.length:=(aI5.1 hb).1
   have hB:=as2 hb
   have hS:=aXZ hbl
   have hi39:(i+1≤549755813888)=True:=eq_true (by omega)
   cases hq:(cx==0)
   all_goals (have hb:=trivial;with_reducible repeat' (first|simp only[hb,Va.down,seval,bkL.down,h1,h2,h6,ho,hd,hw,hx,hA,hA1,hV,hq,ao7.cells,azH,hB,hS,aXY,aTF,aZA,hp,hi39]|refine fsp ?_ ?_<;>intro hb|refine fd ?_|fail))
   all_goals (refine aC8 (kJ _ _ (a++[aY9 x d]) ⟨?_,?_,?_,⟨a1E _ (by omega) hA _,by simp[hp],.inr ⟨by omega,h.length+1,by omega,by simp[up],by rw[aTF];simp[bvv,htb,hq]⟩⟩⟩ ?_);(simp[up,h1]);(simp[up,h2]);(simp[up]);(simp))
 ·exact⟨by simp[up,ent],by simp[up,ent],by simp[up],⟨rfl,rfl,.inl ⟨rfl,by simp[up]⟩⟩⟩
 obtain⟨rfl,⟨hn,ho⟩|⟨hn,b,hb0,ho,hb⟩⟩:=hk
 ·exact(hne (a0B.1 hn)).elim
 ·(with_reducible repeat' (first|simp only[hb,Va.down,seval,bkL.down,ho,hb]|refine fsp ?_ ?_<;>intro hb|refine fd ?_|fail))
  rfl
def edg(w:avQ)(ts:List Bool):List Net.Edge:=List.zipWith (fun p t=>(p.one.toNat,p.other.toNat,if t=true then 1 else 0)) w.parts ts
structure WOk(w:avQ)(N:Nat):Prop where
 rooms:w.rooms=(N:Int)
 n2:2≤N
 n8:N≤8
 len:w.parts.length≤1000
 ne:w.parts≠[]
 part:∀p∈w.parts,(0≤p.one∧p.one<(N:Int))∧(0≤p.other∧p.other<(N:Int))∧p.one≠p.other
theorem bfJ{w:avQ}{ts:List Bool}{i:Nat}{e:Net.Edge}(h:(edg w ts)[i]?=some e):∃p t,w.parts[i]?=some p∧ts[i]?=some t∧e=(p.one.toNat,p.other.toNat,if t=true then 1 else 0):=by
 unfold edg at h
 rw[List.getElem?_zipWith]at h
 cases h1:w.parts[i]? with
 |none=>simp[h1]at h
 |some p=>
  cases h2:ts[i]? with
  |none=>simp[h1,h2]at h
  |some t=>simp[h1,h2]at h;exact⟨p,t,rfl,rfl,h.symm⟩
theorem a96{w:avQ}{N:Nat}(hw:WOk w N)(ts:List Bool):EOk (edg w ts) N:=fun a b c h=>by
 obtain⟨i,hi⟩:=List.getElem?_of_mem h
 obtain⟨p,t,h1,_,he⟩:=bfJ hi
 cases he
 have:=hw.part p (aZI h1)
 refine⟨by omega,by omega,by omega,?_⟩
 split<;>omega
theorem boX{w:avQ}{ts:List Bool}(h:ts.length=w.parts.length):(edg w ts).length=w.parts.length:=by simp[edg,h]
theorem baR{d:List Nat}{a:Nat}(h:a<d.length):(d.map nvv)[a]?=some [.int .i64 (d.getD a 0:Nat)]:=by
 rw[a0L,aTT h,aW1,aTT h];rfl
theorem bkA{N:Nat}(h:2≤N):aTG N 0 1000=0::aET (N-1) 1000:=by
 obtain⟨n,rfl⟩:∃n,N=n+1:=⟨N-1,by omega⟩
 simp[aTG,a1U]
theorem bl0(x y:Nat):(if(x:Int)<(y:Int)then(x:Int)else(y:Int))=((min y x:Nat):Int):=by split<;>omega
theorem bc8{w:avQ}{N:Nat}(hw:WOk w N){ts:List Bool}{nn:Bool}(ht:ts.length=w.parts.length):
 ∃f,om'.call (.fn 42) [.agg [.int .i64 w.rooms,.int .i64 w.need,slv 9 true w.nn (w.parts.map ao7.cells)],slv 1 true nn (ts.map bvv)] []=some (.ret (.slr 1 0 0 N),[.live 1 true f ((aZ6 (edg w ts) N (aTG N 0 1000)).map nvv)]):=by
 have key:ClQ om' 42 [.agg [.int .i64 w.rooms,.int .i64 w.need,slv 9 true w.nn (w.parts.map ao7.cells)],slv 1 true nn (ts.map bvv)] [] fun o h'=>∃f,(o,h')=(.ret (.slr 1 0 0 N),[.live 1 true f ((aZ6 (edg w ts) N (aTG N 0 1000)).map nvv)]):=by
  have hr:=hw.rooms
  have n2:=hw.n2
  have n8:=hw.n8
  have hE:=a96 hw ts
  have hEl:=boX ht
  generalize hEE:edg w ts=E at *
  refine bsP rfl Tryd.func42 rfl rfl ?_
  simp only[Tryd.f42]
  simp only[hr]
  (have hb:=trivial;with_reducible repeat' (first|simp only[hb,Va.down,seval,a67.down,azH]|refine fsp ?_ ?_<;>intro hb|refine fd ?_|fail))
  refine aZG (lst 80 (aET (N-1) ()) (fun i (_:Unit) t h=>t 1=slv 1 true nn (ts.map bvv)∧t 2=.ptr 0 0 0∧t 6=.int .i64 ((i+1:Nat):Int)∧h[0]?=some (.live 3 false false [[.int .i64 (N:Int),.int .i64 w.need,slv 9 true w.nn (w.parts.map ao7.cells)]])∧∃b,0<b∧t 5=.slr 1 b 0 (i+1)∧h[b]?=some (.live 1 true false ((0::aET i 1000).map nvv))) (fun _ _=>())
   (fun _ e t h=>e=.exit 0∧t 1=slv 1 true nn (ts.map bvv)∧t 2=.ptr 0 0 0∧h[0]?=some (.live 3 false false [[.int .i64 (N:Int),.int .i64 w.need,slv 9 true w.nn (w.parts.map ao7.cells)]])∧∃b,0<b∧t 5=.slr 1 b 0 N∧h[b]?=some (.live 1 true false ((aTG N 0 1000).map nvv))) ?_ ?_ () _ _ ?_) (fun e t h hk=>?_)
  ·rintro _ t h Q' kQ ⟨h1,h2,h6,h0,b,hb0,h5,hvb⟩
   rw[aWQ,show N-1+1=N by omega]at h6 h5
   rw[aWQ]at hvb
   (have hb:=trivial;with_reducible repeat' (first|simp only[hb,Va.down,seval,a67.down,h1,h2,h6,h0,h5,aL7,decide_false]|refine fsp ?_ ?_<;>intro hb|refine fd ?_|fail))
   exact kQ _ _ _ ⟨rfl,by simp[up,h1],by simp[up,h2],h0,b,hb0,by simp[up,h5],by rw[bkA n2];exact hvb⟩
  ·rintro x rest i _ t h J Q' kJ kQ hx hi ⟨h1,h2,h6,h0,b,hb0,h5,hvb⟩
   rw[aWQ]at hi
   have hdd:decide (((i+1:Nat):Int)<(N:Int))=true:=decide_eq_true (by omega)
   have hww:IntKind.i64.wrap (((i+1:Nat):Int)+1)=((i+1+1:Nat):Int):=by rw[aWO (by omega) (by omega)];omega
   have hbl:=asR hvb
   have hB:=as2 hvb
   have hS:=aXZ hbl
   have hA1:=as2 h0
   have hi39:(i+1+1≤549755813888)=True:=eq_true (by omega)
   have hlr:((0::aET i 1000).map nvv).length=i+1:=by simp
   (have hb:=trivial;with_reducible repeat' (first|simp only[hb,Va.down,seval,a67.down,h1,h2,h6,h0,h5,hvb,hdd,hww,hB,hS,hA1,hi39,hlr,aXY,aTF,aZA]|refine fsp ?_ ?_<;>intro hb|refine fd ?_|fail))
   exact aC8 (kJ _ _ () ⟨by simp[up,h1],by simp[up,h2],by simp[up];omega,a1E _ (by omega) h0 _,h.length+1,by omega,by simp[up],by rw[aTF];simp[nvv,List.replicate_succ']⟩ rfl)
  ·exact⟨by simp[up,ent],by simp[up],by simp[up],rfl,1,by omega,by simp[up],rfl⟩
  obtain⟨rfl,h1,h2,h0,b,hb0,h5,hvb⟩:=hk
  (have hb:=trivial;with_reducible repeat' (first|simp only[hb,Va.down,seval,a67.down,h1,h2,h5]|refine fsp ?_ ?_<;>intro hb|refine fd ?_|fail))
  refine aZG (lst 80 (aET N ()) (fun k (_:Unit) t h=>t 1=slv 1 true nn (ts.map bvv)∧t 2=.ptr 0 0 0∧t 5=.slr 1 b 0 N∧t 7=.int .i64 (k:Int)∧h[0]?=some (.live 3 false false [[.int .i64 (N:Int),.int .i64 w.need,slv 9 true w.nn (w.parts.map ao7.cells)]])∧∃f,h[b]?=some (.live 1 true f ((aZ6 E k (aTG N 0 1000)).map nvv))) (fun _ _=>())
   (fun _ e t h=>e=.exit 2∧t 5=.slr 1 b 0 N∧∃f,h[b]?=some (.live 1 true f ((aZ6 E N (aTG N 0 1000)).map nvv))) ?_ ?_ () _ _ ?_) (fun e t h hk=>?_)
  ·rintro _ t h Q' kQ ⟨h1,h2,h5,h7,h0,f,hvb⟩
   rw[aWQ]at h7 hvb
   (have hb:=trivial;with_reducible repeat' (first|simp only[hb,Va.down,seval,a67.down,h1,h2,h5,h7,h0,aL7,decide_false]|refine fsp ?_ ?_<;>intro hb|refine fd ?_|fail))
   exact kQ _ _ _ ⟨rfl,by simp[up,h5],f,hvb⟩
  ·rintro x rest k _ t h J Q' kJ kQ hx hi ⟨h1,h2,h5,h7,h0,f,hvb⟩
   rw[aWQ]at hi
   have hdk:decide ((k:Int)<(N:Int))=true:=decide_eq_true (by omega)
   have hwk:IntKind.i64.wrap ((k:Int)+1)=((k+1:Nat):Int):=by rw[aWO (by omega) (by omega)];omega
   have hIk:=a68 (far:=1000) hE k (baV (E:=E) (N:=N) (s:=0) (far:=1000) (by omega))
   generalize hdk0:aZ6 E k (aTG N 0 1000)=d0 at *
   (have hb:=trivial;with_reducible repeat' (first|simp only[hb,Va.down,seval,a67.down,h1,h2,h5,h7,h0,hdk]|refine fsp ?_ ?_<;>intro hb|refine fd ?_|fail))
   refine aZG (lst 80 E (fun i (_:Unit) t h=>t 1=slv 1 true nn (ts.map bvv)∧t 2=.ptr 0 0 0∧t 5=.slr 1 b 0 N∧t 7=.int .i64 (k:Int)∧t 8=.int .i64 (i:Int)∧h[0]?=some (.live 3 false false [[.int .i64 (N:Int),.int .i64 w.need,slv 9 true w.nn (w.parts.map ao7.cells)]])∧∃f,h[b]?=some (.live 1 true f (((E.take i).foldl a1J d0).map nvv))) (fun _ _=>())
    (fun _ e t h=>e=.exit 4∧t 1=slv 1 true nn (ts.map bvv)∧t 2=.ptr 0 0 0∧t 5=.slr 1 b 0 N∧t 7=.int .i64 (k:Int)∧h[0]?=some (.live 3 false false [[.int .i64 (N:Int),.int .i64 w.need,slv 9 true w.nn (w.parts.map ao7.cells)]])∧∃f,h[b]?=some (.live 1 true f ((boY E d0).map nvv))) ?_ ?_ () _ _ ?_) (fun e t h hk=>?_)
   ·rintro _ t h Q'' kQ ⟨h1,h2,h5,h7,h8,h0,f,hvb⟩
    rw[hEl]at h8
    rw[aM2 (Nat.le_refl _)]at hvb
    (have hb:=trivial;with_reducible repeat' (first|simp only[hb,Va.down,seval,a67.down,h1,h2,h5,h8,h0,aL7,decide_false,azH]|refine fsp ?_ ?_<;>intro hb|refine fd ?_|fail))
    exact kQ _ _ _ ⟨rfl,by simp[up,h1],by simp[up,h2],by simp[up,h5],by simp[up,h7],h0,f,hvb⟩
   ·rintro e rest i _ t h J' Q'' kJ kQ hx hi ⟨h1,h2,h5,h7,h8,h0,f,hvb⟩
    rw[hEl]at hi
    obtain⟨p,tt,hp,htt,he⟩:=bfJ (w:=w) (ts:=ts) (by rw[hEE];exact hx)
    have hpo:=hw.part p (aZI hp)
    have hdi:decide ((i:Int)<(w.parts.length:Int))=true:=decide_eq_true (by omega)
    have hlen:=hw.len
    have hwi:IntKind.i64.wrap ((i:Int)+1)=((i+1:Nat):Int):=by rw[aWO (by omega) (by omega)];omega
    have hI:=beB (L:=E.take i) (fun e hm=>List.mem_of_mem_take hm) hE hIk
    have htk:(E.take (i+1)).foldl a1J d0=a1J ((E.take i).foldl a1J d0) e:=by rw[a1V,hx];simp[List.foldl_append]
    generalize hdd0:(E.take i).foldl a1J d0=d at *
    have hdl:=hI.len
    have hra:d[p.one.toNat]?=some (d.getD p.one.toNat 0):=by rw[aW1,aTT (by omega)];rfl
    have hrb:d[p.other.toNat]?=some (d.getD p.other.toNat 0):=by rw[aW1,aTT (by omega)];rfl
    have o1:(0≤p.one)=True:=eq_true hpo.1.1
    have o2:(p.one<(N:Int))=True:=eq_true hpo.1.2
    have o3:(0≤p.other)=True:=eq_true hpo.2.1.1
    have o4:(p.other<(N:Int))=True:=eq_true hpo.2.1.2
    have la:=hI.le p.one.toNat (by omega)
    have lb:=hI.le p.other.toNat (by omega)
    have hab:p.one.toNat≠p.other.toNat:=by have:=hpo.2.2;omega
    have htk2:(E.take (i+1)).foldl a1J d0=(d.set p.other.toNat (min (d.getD p.other.toNat 0) (d.getD p.one.toNat 0+if tt=true then 1 else 0))).set p.one.toNat (min (d.getD p.one.toNat 0) (d.getD p.other.toNat 0+if tt=true then 1 else 0)):=by rw[htk,he];rfl
    clear htk
    generalize d.getD p.one.toNat 0=da at *
    generalize d.getD p.other.toNat 0=db at *
    have hrr:∀r,((d.map nvv).set p.other.toNat r)[p.one.toNat]?=some [.int .i64 (da:Nat)]:=fun r=>by rw[aLO (fun e=>hab e.symm),a0L,hra];rfl
    have hbl:=asR hvb
    have hsb:∀c,(h.set b c)[b]?=some c:=fun c=>aND hbl
    have hss:∀c c',(h.set b c).set b c'=h.set b c':=fun c c'=>aZM ..
    have w0:∀n:Nat,n≤1000→IntKind.i64.wrap ((n:Int)+0)=(n:Int):=fun n hn=>by rw[aWO (by omega) (by omega)];omega
    have w1:∀n:Nat,n≤1000→IntKind.i64.wrap ((n:Int)+1)=((n+1:Nat):Int):=fun n hn=>by rw[aWO (by omega) (by omega)];omega
    have w0a:=w0 da la
    have w0b:=w0 db lb
    have w1a:=w1 da la
    have w1b:=w1 db lb
    cases tt with
    |false=>
     (have hb:=trivial;with_reducible repeat' (first|simp only[hb,Va.down,seval,a67.down,h1,h2,h5,h8,h0,hvb,hdi,hwi,hp,htt,hra,hrb,hrr,o1,o2,o3,o4,hsb,hss,w0a,w0b,bvv,nvv,ao7.cells,azH]|refine fsp ?_ ?_<;>intro hb|refine fd ?_|fail))
     refine aC8 (kJ _ _ () ⟨by simp[up,h1],by simp[up,h2],by simp[up,h5],by simp[up,h7],by simp[up],by rw[aLO (by omega)];exact h0,true,?_⟩ rfl)
     rw[aND hbl,htk2,aXQ,aXQ]
     simp only[nvv,bl0,a1W,if_false,if_true,Nat.add_zero]
    |true=>
     (have hb:=trivial;with_reducible repeat' (first|simp only[hb,Va.down,seval,a67.down,h1,h2,h5,h8,h0,hvb,hdi,hwi,hp,htt,hra,hrb,hrr,o1,o2,o3,o4,hsb,hss,w1a,w1b,bvv,nvv,ao7.cells,azH]|refine fsp ?_ ?_<;>intro hb|refine fd ?_|fail))
     refine aC8 (kJ _ _ () ⟨by simp[up,h1],by simp[up,h2],by simp[up,h5],by simp[up,h7],by simp[up],by rw[aLO (by omega)];exact h0,true,?_⟩ rfl)
     rw[aND hbl,htk2,aXQ,aXQ]
     simp only[nvv,bl0,a1W,if_false,if_true,Nat.add_zero]
   ·exact⟨by simp[up,h1],by simp[up,h2],by simp[up,h5],by simp[up,h7],by simp[up],h0,f,hvb⟩
   obtain⟨rfl,h1,h2,h5,h7,h0,f,hvb⟩:=hk
   (have hb:=trivial;with_reducible repeat' (first|simp only[hb,Va.down,seval,a67.down,h1,h2,h5,h7,hwk]|refine fsp ?_ ?_<;>intro hb|refine fd ?_|fail))
   exact aC8 (kJ _ _ () ⟨by simp[up,h1],by simp[up,h2],by simp[up,h5],by simp[up],h0,f,by rw[a3Q,hdk0];exact hvb⟩ rfl)
  ·exact⟨by simp[up,h1],by simp[up,h2],by simp[up,h5],by simp[up],h0,false,hvb⟩
  obtain⟨rfl,h5,f,hvb⟩:=hk
  have hlr:((aZ6 E N (aTG N 0 1000)).map nvv).length=N:=by simp[a8E,aTG]
  (have hb:=trivial;with_reducible repeat' (first|simp only[hb,Va.down,seval,a67.down,h5,hvb]|refine fsp ?_ ?_<;>intro hb|refine fd ?_|fail))
  exact⟨f,rfl⟩
 obtain⟨o,h',hc,f,e⟩:=key
 cases e
 exact⟨f,hc⟩
theorem bpL{w:avQ}{N:Nat}(hw:WOk w N)(E:List Net.Edge):(aZ6 E N (aTG N 0 1000)).length=N:=by rw[a8E];simp[aTG]
theorem bfA{w:avQ}{N:Nat}(hw:WOk w N){ts:List Bool}{nn:Bool}(ht:ts.length=w.parts.length):
 om'.call (.fn 41) [.agg [.int .i64 w.rooms,.int .i64 w.need,slv 9 true w.nn (w.parts.map ao7.cells)],slv 1 true nn (ts.map bvv)] []=some (.ret (.int .i64 (a97 (edg w ts) N w.parts.length:Nat)),[]):=by
 obtain⟨f,hD⟩:=bc8 hw (nn:=nn) ht
 have hl:=bpL hw (edg w ts)
 have n2:=hw.n2
 have hlen:=hw.len
 unfold a97
 generalize aZ6 (edg w ts) N (aTG N 0 1000)=d at *
 have hd:d[1]?=some (d.getD 1 0):=by rw[aW1,aTT (by omega)];rfl
 generalize d.getD 1 0=x at *
 have h1N:((1:Int)<(N:Int))=True:=eq_true (by omega)
 have hwl:IntKind.i64.wrap ((w.parts.length:Int)+1)=((w.parts.length+1:Nat):Int):=by rw[aWO (by omega) (by omega)];omega
 have hln:((d.map nvv).length=N):=by simp[hl]
 by_cases hx:1000≤x
 ·have hge:decide ((1000:Int)≤(x:Int))=true:=decide_eq_true (by omega)
  rw[if_pos hx]
  (refine ce Tryd.func41 ?_;simp only[Tryd.f41];(have hb:=trivial;with_reducible repeat' (first|simp only[hb,Va.down,seval,bwB.down,hD,hd,h1N,hge,hwl,nvv,azH]|refine fsp ?_ ?_<;>intro hb|refine fd ?_|fail)))
 ·have hge:decide ((1000:Int)≤(x:Int))=false:=decide_eq_false (by omega)
  rw[if_neg hx]
  (refine ce Tryd.func41 ?_;simp only[Tryd.f41];(have hb:=trivial;with_reducible repeat' (first|simp only[hb,Va.down,seval,bwB.down,hD,hd,h1N,hge,hwl,nvv,azH]|refine fsp ?_ ?_<;>intro hb|refine fd ?_|fail)))
theorem a3K(w:avQ)(d:Int):(aJ0 w d).length=w.parts.length:=by simp[aJ0]
def a8V(w:avQ)(N:Nat)(d:Int):Nat:=a97 (edg w (aJ0 w d)) N w.parts.length
theorem baZ{w:avQ}{N:Nat}(hw:WOk w N)(d:Int):
 om'.call (.fn 27) [.agg [.int .i64 w.rooms,.int .i64 w.need,slv 9 true w.nn (w.parts.map ao7.cells)],.int .i64 d] []=some (.ret (.int .i64 (a8V w N d:Nat)),[]):=by
 have h1:=bfN w d hw.len hw.ne
 have h2:=bfA hw (nn:=true) (a3K w d)
 rw[a79]at h2
 have hl:=a3K w d
 have htk:aTC w.parts.length ((aJ0 w d).map bvv)=(aJ0 w d).map bvv:=aM2 (by simp[hl])
 (refine ce Tryd.func27 ?_;simp only[Tryd.f27];(have hb:=trivial;with_reducible repeat' (first|simp only[hb,Va.down,seval,bxW.down,h1,h2,hl,htk]|refine fsp ?_ ?_<;>intro hb|refine fdl ?_|fail)))
 rfl
theorem bu2(b:Bool):om'.call (.fn 59) [.bool b] []=some (.ret (.int .i64 (if b=true then 1 else 0)),[]):=by
 cases b<;>(refine ce Tryd.func59 ?_;simp only[Tryd.f59];(have hb:=trivial;with_reducible repeat' (first|simp only[hb,Va.down,seval]|refine fsp ?_ ?_<;>intro hb|refine fd ?_|fail)))
theorem bf0(c:Int)(o:Bool):om'.call (.fn 37) [.agg [.int .i64 c,.bool o]] []=some (.ret (.bool (c==0&& !o)),[]):=by
 cases hc:(c==0)<;>(refine ce Tryd.func37 ?_;simp only[Tryd.f37];(have hb:=trivial;with_reducible repeat' (first|simp only[hb,Va.down,seval,bxF.down,hc]|refine fsp ?_ ?_<;>intro hb|refine fd ?_|fail)))
theorem a0M(b r o:Nat)(i:Int):ia Tryd.prog 75 (some (.ptr b r o)) (some (.int .i64 i))=if 0≤i∧i<12 then some (.ret (.ptr b r (o+i.toNat*2)),[])else none:=by
 have h:aWL Tryd.prog 75 (.ptr b r o) (.int .i64 i)=if 0≤i∧i<12 then some (.ptr b r (o+i.toNat*2))else none:=by
  unfold aWL
  simp only[Tryd.underlying75]
  have hz:szT Tryd.prog 73=some 2:=by kernel_rfl
  rw[hz]
  simp
 simp only[ia,Option.bind_some,h]
 split<;>rfl
def aqM(w:avQ)(d:Int):List (Int × Bool):=w.parts.map (fun p=>(aYL p d,p.opn))++aET (12-w.parts.length) (0,false)
def pcs(l:List (Int × Bool)):List AV:=l.flatMap fun x=>[.int .i64 x.1,.bool x.2]
theorem a0C(l:List (Int × Bool)):(pcs l).length=2*l.length:=by
 induction l with
 |nil=>rfl
 |cons x l ih=>simp[pcs]at ih ⊢;omega
theorem bdD:∀(L:List (Int × Bool)) (i:Nat) (a:Int) (b b':Bool),L[i]?=some (a,b)→aTC (i*2+1) (pcs L)++([.bool b']++aZX (i*2+2) (pcs L))=pcs (L.set i (a,b'))
 | [],i,a,b,b',h=>by simp at h
 |x::L,0,a,b,b',h=>by simp at h;subst h;simp[pcs]
 |x::L,i+1,a,b,b',h=>by
  have ih:=bdD L i a b b' (by simpa using h)
  rw[show(i+1)*2+1=(i*2+1)+1+1 by omega,show(i+1)*2+2=(i*2+2)+1+1 by omega]
  simp only[pcs,aZ5,aZ7,aZ8,a4V,a4W,a5E]at ih ⊢
  rw[←ih]
theorem a8B:∀(L:List (Int × Bool)) (i:Nat) (a a':Int) (b:Bool),L[i]?=some (a,b)→aTC (i*2) (pcs L)++([.int .i64 a']++aZX (i*2+1) (pcs L))=pcs (L.set i (a',b))
 | [],i,a,a',b,h=>by simp at h
 |x::L,0,a,a',b,h=>by simp at h;subst h;simp[pcs]
 |x::L,i+1,a,a',b,h=>by
  have ih:=a8B L i a a' b (by simpa using h)
  rw[show(i+1)*2=(i*2)+1+1 by omega,show(i*2)+1+1+1=(i*2+1)+1+1 by omega]
  simp only[pcs,aZ5,aZ7,aZ8,a4V,a4W,a5E]at ih ⊢
  rw[←ih]
def pcI(w:avQ)(d:Int)(i:Nat):List (Int × Bool):=(w.parts.take i).map (fun p=>(aYL p d,p.opn))++aET (12-i) (0,false)
theorem bsT{w:avQ}{d:Int}{i:Nat}(hi:i<w.parts.length)(h12:w.parts.length≤12):(pcI w d i)[i]?=some (0,false):=by
 have hl:((w.parts.take i).map fun p=>(aYL p d,p.opn)).length=i:=by rw[azH,a5T];omega
 unfold pcI
 rw[aY8 (by omega),hl,Nat.sub_self,List.getElem?_replicate,if_pos (by omega)]
theorem bj2{w:avQ}{d:Int}{i:Nat}{p:ao7}(hx:w.parts[i]?=some p)(h12:w.parts.length≤12):(pcI w d i).set i (aYL p d,p.opn)=pcI w d (i+1):=by
 have hi:i<w.parts.length:=(aI5.1 hx).1
 have hl:((w.parts.take i).map fun p=>(aYL p d,p.opn)).length=i:=by rw[azH,a5T];omega
 unfold pcI
 rw[List.set_append_right _ _ (by omega),hl,Nat.sub_self,a1V,hx]
 have e:12-i=(12-(i+1))+1:=by omega
 rw[e,a1U]
 simp
theorem bdB(w:avQ)(d:Int)(wf:Bool)(h12:w.parts.length≤12):om'.call (.fn 35) [.ptr 0 0 0] [.live 4 false wf [[.int .i64 w.rooms,.int .i64 w.need,slv 9 true w.nn (w.parts.map ao7.cells),.int .i64 d]]]=some (.ret (.agg (pcs (aqM w d))),[.live 4 false wf [[.int .i64 w.rooms,.int .i64 w.need,slv 9 true w.nn (w.parts.map ao7.cells),.int .i64 d]]]):=by
 refine ce Tryd.func35 ?_
 simp only[Tryd.f35]
 (have hb:=trivial;with_reducible repeat' (first|simp only[hb,Va.down,seval,bpW.down,azH]|refine fsp ?_ ?_<;>intro hb|refine fd ?_|fail))
 refine aZG (lst 44 w.parts (fun i (_:Unit) t h=>t 0=.ptr 0 0 0∧t 2=.ptr 1 0 0∧t 3=.ptr 2 0 0∧t 10=slv 9 true w.nn (w.parts.map ao7.cells)∧t 11=.int .i64 (w.parts.length:Nat)∧t 12=.int .i64 (i:Int)∧h[0]?=some (.live 4 false wf [[.int .i64 w.rooms,.int .i64 w.need,slv 9 true w.nn (w.parts.map ao7.cells),.int .i64 d]])∧h[1]?=some (.live 24 true false [pcs (aET 12 (0,false))])∧∃f,h[2]?=some (.live 24 true f [pcs (pcI w d i)])) (fun _ _=>())
  (fun _ e t h=>e=.exit 0∧t 2=.ptr 1 0 0∧t 3=.ptr 2 0 0∧h[0]?=some (.live 4 false wf [[.int .i64 w.rooms,.int .i64 w.need,slv 9 true w.nn (w.parts.map ao7.cells),.int .i64 d]])∧h[1]?=some (.live 24 true false [pcs (aET 12 (0,false))])∧∃f,h[2]?=some (.live 24 true f [pcs (pcI w d w.parts.length)])) ?_ ?_ () _ _ ?_) (fun e t h hk=>?_)
 ·rintro _ t h Q' kQ ⟨h0,h2,h3,h10,h11,h12',hA,hB,f,hC⟩
  (have hb:=trivial;with_reducible repeat' (first|simp only[hb,Va.down,seval,bpW.down,h11,h12',aL7,decide_false]|refine fsp ?_ ?_<;>intro hb|refine fd ?_|fail))
  exact kQ _ _ _ ⟨rfl,by simp[up,h2],by simp[up,h3],hA,hB,f,hC⟩
 ·rintro p rest i _ t h J Q' kJ kQ hx hi ⟨h0,h2,h3,h10,h11,h12',hA,hB,f,hC⟩
  have hdd:decide ((i:Int)<(w.parts.length:Int))=true:=decide_eq_true (by omega)
  have hww:=aVK hi (by unfold maxLen;omega)
  have hA1:=as2 hA
  have hC1:=as2 hC
  have hl2:=asR hC
  have i1:((i:Int)<12)=True:=eq_true (by omega)
  have hpl:(pcs (pcI w d i)).length=24:=by rw[a0C];simp[pcI];omega
  have hS:=aXZ hl2
  have i2:(i*2≤22)=True:=eq_true (by omega)
  have i3:(i*2≤23)=True:=eq_true (by omega)
  have hat:=bsT (d:=d) hi h12
  have hnx:=bj2 (d:=d) hx h12
  generalize hL:pcI w d i=L at *
  have s1:=bdD L i 0 false p.opn hat
  have tk1:aTC (23-i*2) [AV.bool p.opn]=[AV.bool p.opn]:=aM2 (by simp;omega)
  have hat2:(L.set i (0,p.opn))[i]?=some (0,p.opn):=aND (by have:=(aI5.1 hat).1;exact this)
  have s2:=fun v=>a8B (L.set i (0,p.opn)) i 0 v p.opn hat2
  have tk2:∀v,aTC (24-i*2) [AV.int .i64 v]=[AV.int .i64 v]:=fun v=>aM2 (by simp;omega)
  simp only[aZ7,aZ8]at s1 s2
  have hpl2:(pcs (L.set i (0,p.opn))).length=24:=by rw[a0C]at hpl ⊢;simpa using hpl
  have hg2:∀c l,(h.set 2 c++l)[2]?=some c:=fun c l=>by rw[aTD (by simpa using hl2),aND hl2]
  have hg0:∀c l,(h.set 2 c++l)[0]?=h[0]?:=fun c l=>by rw[aTD (by simp;omega),aLO (by omega)]
  have hg1:∀c l,(h.set 2 c++l)[1]?=h[1]?:=fun c l=>by rw[aTD (by simp;omega),aLO (by omega)]
  have hgs:∀c l c',(h.set 2 c++l).set 2 c'=h.set 2 c'++l:=fun c l c'=>by rw[aXZ (by simpa using hl2),aZM]
  have ss2:∀v:Int,(L.set i (0,p.opn)).set i (v,p.opn)=L.set i (v,p.opn):=fun v=>aZM ..
  have nx:∀(v:Int) (t':Tm) (l':abY),aYL p d=v→t' 0=.ptr 0 0 0∧t' 2=.ptr 1 0 0∧t' 3=.ptr 2 0 0∧t' 10=slv 9 true w.nn (w.parts.map ao7.cells)∧t' 11=.int .i64 (w.parts.length:Nat)∧t' 12=.int .i64 ((i+1:Nat):Int)→J t' (h.set 2 (.live 24 true true [pcs (L.set i (v,p.opn))])++l'):=fun v t' l' hv ht=>by
   rw[←hv,hnx]
   exact kJ _ _ () ⟨ht.1,ht.2.1,ht.2.2.1,ht.2.2.2.1,ht.2.2.2.2.1,ht.2.2.2.2.2,by rw[hg0];exact hA,by rw[hg1];exact hB,true,hg2 _ _⟩ rfl
  (have hb:=trivial;with_reducible repeat' (first|simp only[hb,Va.down,seval,bpW.down,h0,h2,h3,h10,h11,h12',hdd,hww,hx,hA,hA1,hC,hC1,hS,a0M,i1,i2,i3,hpl,hpl2,s1,s2,tk1,tk2,ss2,hg2,hg0,hg1,hgs,aXY,aTF,aZA,ao7.cells]|refine fsp ?_ ?_<;>intro hb|refine fd ?_|fail))
  ·refine aC8 (nx 2 _ _ (by simp[aYL, *]) ⟨by simp[up,h0],by simp[up,h2],by simp[up,h3],by simp[up,h10],by simp[up,h11],by simp[up]⟩)
  ·refine aC8 (nx 1 _ _ (by simp[aYL];simp_all) ⟨by simp[up,h0],by simp[up,h2],by simp[up,h3],by simp[up,h10],by simp[up,h11],by simp[up]⟩)
  ·refine aC8 (nx 0 _ _ (by simp[aYL];simp_all) ⟨by simp[up,h0],by simp[up,h2],by simp[up,h3],by simp[up,h10],by simp[up,h11],by simp[up]⟩)
 ·exact⟨by simp[up,ent],by simp[up],by simp[up],by simp[up],by simp[up],by simp[up],rfl,rfl,false,rfl⟩
 obtain⟨rfl,h2,h3,hA,hB,f,hC⟩:=hk
 have hL:pcI w d w.parts.length=aqM w d:=by unfold pcI aqM;rw[aM2 (Nat.le_refl _)]
 rw[hL]at hC
 have hpl:(pcs (aqM w d)).length=24:=by rw[a0C];simp[aqM];omega
 have hpz:(pcs (aET 12 (0,false))).length=24:=by rw[a0C];simp
 have htk:aTC 24 (pcs (aqM w d))=pcs (aqM w d):=aM2 (by omega)
 have hl1:=asR hB
 generalize pcs (aET 12 (0,false))=zs at *
 have hdz:aZX 24 zs=[]:=List.drop_eq_nil_iff.2 (by omega)
 have hcell:(pcs (aqM w d)).all AV.isCell=true:=by
  have:∀l:List (Int × Bool),(pcs l).all AV.isCell=true:=fun l=>by
   induction l with
   |nil=>rfl
   |cons x l ih=>simp only[pcs,aZ5,List.all_append]at ih ⊢;rw[ih];rfl
  exact this _
 have hform:∀x∈pcs (aqM w d),(∃n,x=.int .i64 n)∨∃b,x=.bool b:=fun x hx=>by
  simp only[pcs,List.mem_flatMap,List.mem_cons,List.not_mem_nil,or_false]at hx
  obtain⟨y,_,rfl|rfl⟩:=hx
  ·exact .inl ⟨_,rfl⟩
  ·exact .inr ⟨_,rfl⟩
 have hflat:(pcs (aqM w d)).all AV.flat=true:=aX2.2 fun x hx=>by rcases hform x hx with⟨n,rfl⟩|⟨b,rfl⟩<;>rfl
 have hrf:aG4.refL (aG4 7) [0] (pcs (aqM w d))=some (pcs (aqM w d),[0]):=aWM fun x hx=>by rcases hform x hx with⟨n,rfl⟩|⟨b,rfl⟩<;>rfl
 have hg1:∀c,(h.set 1 c)[1]?=some c:=fun c=>aND hl1
 have hg0:∀c,(h.set 1 c)[0]?=h[0]?:=fun c=>aLO (by omega)
 generalize pcs (aqM w d)=ps at *
 (have hb:=trivial;with_reducible repeat' (first|simp only[hb,Va.down,seval,bpW.down,h2,h3,hA,hB,hC,hpl,hpz,htk,hdz,hcell,hflat,hrf,hg1,hg0]|refine fsp ?_ ?_<;>intro hb|refine fd ?_|fail))
def aYU(N:Int)(p:ao7):Bool:=inB p.one 0 (IntKind.i64.wrap (N-1))&&inB p.other 0 (IntKind.i64.wrap (N-1))&& !(p.one==p.other)&& !(p.opn&& !p.valve)&&a0Z p.tested&&a0Z p.valid&&inB p.test 1 1000&&inB p.change 1 1000
def beY(w:avQ):Bool:=inB w.rooms 2 8&&inB w.need 0 12&&inB (w.parts.length:Int) 1 12
def aXT(w:avQ):Bool:=beY w&&w.parts.all (aYU w.rooms)
theorem bsO(w:avQ)(hs:w.small):om'.call (.fn 12) [.agg [.int .i64 w.rooms,.int .i64 w.need,slv 9 true w.nn (w.parts.map ao7.cells)]] []=some (.ret (.bool (aXT w)),[]):=by
 have k1:=bc4 w.rooms 2 8
 have k2:=bc4 w.need 0 12
 have k3:=bc4 (w.parts.length:Int) 1 12
 have hh:beY w=(inB w.rooms 2 8&&inB w.need 0 12&&inB (w.parts.length:Int) 1 12):=rfl
 unfold aXT
 generalize inB w.rooms 2 8=c1 at *
 generalize inB w.need 0 12=c2 at *
 generalize inB (w.parts.length:Int) 1 12=c3 at *
 cases c1
 ·rw[hh]
  (refine ce Tryd.func12 ?_;simp only[Tryd.f12];(have hb:=trivial;with_reducible repeat' (first|simp only[hb,Va.down,seval,bbB.down,k1,k2,k3,azH]|refine fsp ?_ ?_<;>intro hb|refine fd ?_|fail)))
 cases c2
 ·rw[hh]
  (refine ce Tryd.func12 ?_;simp only[Tryd.f12];(have hb:=trivial;with_reducible repeat' (first|simp only[hb,Va.down,seval,bbB.down,k1,k2,k3,azH]|refine fsp ?_ ?_<;>intro hb|refine fd ?_|fail)))
 cases c3
 ·rw[hh]
  (refine ce Tryd.func12 ?_;simp only[Tryd.f12];(have hb:=trivial;with_reducible repeat' (first|simp only[hb,Va.down,seval,bbB.down,k1,k2,k3,azH]|refine fsp ?_ ?_<;>intro hb|refine fd ?_|fail)))
 rw[hh]
 simp only[Bool.and_self,Bool.true_and]
 (refine ce Tryd.func12 ?_;simp only[Tryd.f12];(have hb:=trivial;with_reducible repeat' (first|simp only[hb,Va.down,seval,bbB.down,k1,k2,k3,azH]|refine fsp ?_ ?_<;>intro hb|refine fd ?_|fail)))
 refine aZG (lst 90 w.parts (fun i (zz:Unit) t h=>t 1=.ptr 0 0 0∧t 3=.int .i64 i∧(h[0]?=some (.live 3 false false [[.int .i64 w.rooms,.int .i64 w.need,slv 9 true w.nn (w.parts.map ao7.cells)]]))) (fun rest zz=>rest.all (aYU w.rooms)) (fun r e t h=>(e=.exit 0∧r=true)∨(e=.ret∧t 2=.bool false∧r=false)) ?_ ?_ () _ _ ?_) (fun e t h hk=>?_)
 ·rintro _ t h Q' kQ ⟨h1,h3,hA⟩
  (have hb:=trivial;with_reducible repeat' (first|simp only[hb,Va.down,seval,bbB.down,h1,h3,aL7,decide_false,hA,azH]|refine fsp ?_ ?_<;>intro hb|refine fd ?_|fail))
  exact kQ _ _ _ (.inl ⟨rfl,rfl⟩)
 ·rintro x rest i _ t h J Q' kJ kQ hx hi ⟨h1,h3,hA⟩
  have hd:decide ((i:Int)<(w.parts.length:Int))=true:=decide_eq_true (by omega)
  have hw:=aVK hi hs.parts
  have q1:=bc4 x.one 0 (IntKind.i64.wrap (w.rooms-1))
  have q2:=bc4 x.other 0 (IntKind.i64.wrap (w.rooms-1))
  have q4:=biL x.tested
  have q5:=biL x.valid
  have q6:=bc4 x.test 1 1000
  have q7:=bc4 x.change 1 1000
  have hp:aYU w.rooms x=(inB x.one 0 (IntKind.i64.wrap (w.rooms-1))&&inB x.other 0 (IntKind.i64.wrap (w.rooms-1))&& !(x.one==x.other)&& !(x.opn&& !x.valve)&&a0Z x.tested&&a0Z x.valid&&inB x.test 1 1000&&inB x.change 1 1000):=rfl
  have hA1:=as2 hA
  generalize inB x.one 0 (IntKind.i64.wrap (w.rooms-1))=d1 at *
  generalize inB x.other 0 (IntKind.i64.wrap (w.rooms-1))=d2 at *
  cases hq3:(x.one==x.other)
  all_goals rw[hq3]at hp
  all_goals generalize a0Z x.tested=d4 at *
  all_goals generalize a0Z x.valid=d5 at *
  all_goals generalize inB x.test 1 1000=d6 at *
  all_goals generalize inB x.change 1 1000=d7 at *
  all_goals (have hb:=trivial;with_reducible repeat' (first|simp only[hb,Va.down,seval,bbB.down,h1,h3,hd,hx,hw,hA,hA1,q1,q2,hq3,q4,q5,q6,q7,ao7.cells,azH]|refine fsp ?_ ?_<;>intro hb|refine fd ?_|fail))
  all_goals first|(refine kQ _ _ _ (.inr ⟨rfl,by simp[up],?_⟩);simp_all;done)|(refine aC8 (kJ _ _ () ⟨?_,?_,hA1 _⟩ ?_);(simp[up,h1]);(simp[up]);(simp_all))
 ·exact⟨by simp[up,ent],by simp[up],rfl⟩
 rcases hk with⟨rfl,hr⟩|⟨rfl,h2,hr⟩
 ·rw[hr]
  (have hb:=trivial;with_reducible repeat' (first|simp only[hb,Va.down,seval,bbB.down]|refine fsp ?_ ?_<;>intro hb|refine fd ?_|fail))
 ·rw[hr]
  (have hb:=trivial;with_reducible repeat' (first|simp only[hb,Va.down,seval,bbB.down,h2]|refine fsp ?_ ?_<;>intro hb|refine fd ?_|fail))
theorem bfV{w:avQ}(h:aXT w=true):∃N,WOk w N∧w.parts.length≤12:=by
 simp only[aXT,beY,inB,a6P,decide_eq_true_eq,aX2]at h
 obtain⟨⟨⟨⟨h1,h2⟩,h3,h4⟩,h5,h6⟩,h7⟩:=h
 refine⟨w.rooms.toNat,⟨by omega,by omega,by omega,by omega,fun e=>by rw[e]at h5;simp at h5,fun p hp=>?_⟩,by omega⟩
 have:=h7 p hp
 simp only[aYU,inB,a6P,decide_eq_true_eq,Bool.not_eq_true',beq_eq_false_iff_ne]at this
 obtain⟨⟨⟨⟨⟨⟨⟨a1,a2⟩,a3⟩,_⟩,_⟩,_⟩,_⟩,_⟩:=this
 rw[aWO (by omega) (by omega)]at a1 a2
 refine⟨by omega,by omega,a3⟩
def idx{α:Type}(p:α→Bool):List α→Int→Int
 | [],_=> -1
 |x::l,i=>if p x=true then i else idx p l (i+1)
theorem be6{α:Type}(p:α→Bool):∀(l:List α) (i:Int),0≤i→decide (0≤idx p l i)=l.any p
 | [],i,_=>rfl
 |x::l,i,h=>by
  unfold idx
  split
  ·rename_i hp;simp[h,hp]
  ·rename_i hp;rw[be6 p l (i+1) (by omega)];simp[hp]
theorem br5(p:ao7)(N:Int):om'.call (.fn 66) [.agg [.int .i64 p.one,.int .i64 p.other,.bool p.valve,.bool p.opn,.int .i64 p.tested,.int .i64 p.valid,.bool p.bad,.int .i64 p.test,.int .i64 p.change],.int .i64 N] []=some (.ret (.bool (aYU N p)),[]):=by
 have q1:=a8O p.one 0 (IntKind.i64.wrap (N-1))
 have q2:=a8O p.other 0 (IntKind.i64.wrap (N-1))
 have q4:=a8O p.tested 0 5000
 have q5:=a8O p.valid 0 5000
 have q6:=a8O p.test 1 1000
 have q7:=a8O p.change 1 1000
 have hp:aYU N p=(inB p.one 0 (IntKind.i64.wrap (N-1))&&inB p.other 0 (IntKind.i64.wrap (N-1))&& !(p.one==p.other)&& !(p.opn&& !p.valve)&&inB p.tested 0 5000&&inB p.valid 0 5000&&inB p.test 1 1000&&inB p.change 1 1000):=rfl
 generalize inB p.one 0 (IntKind.i64.wrap (N-1))=d1 at *
 generalize inB p.other 0 (IntKind.i64.wrap (N-1))=d2 at *
 generalize inB p.tested 0 5000=d4 at *
 generalize inB p.valid 0 5000=d5 at *
 generalize inB p.test 1 1000=d6 at *
 generalize inB p.change 1 1000=d7 at *
 cases hq3:(p.one==p.other)
 all_goals rw[hq3]at hp
 all_goals rw[hp]
 all_goals (refine ce Tryd.func66 ?_;simp only[Tryd.f66];(have hb:=trivial;with_reducible repeat' (first|simp only[hb,Va.down,seval,bxP.down,q1,q2,hq3,q4,q5,q6,q7]|refine fsp ?_ ?_<;>intro hb|refine fd ?_|fail)))
 all_goals simp_all
theorem bm6(w:avQ)(x:ao7):om'.call (.fn 65) [.agg [.int .i64 x.one,.int .i64 x.other,.bool x.valve,.bool x.opn,.int .i64 x.tested,.int .i64 x.valid,.bool x.bad,.int .i64 x.test,.int .i64 x.change],.ptr 0 0 0] [.live 3 false false [[.int .i64 w.rooms,.int .i64 w.need,slv 9 true w.nn (w.parts.map ao7.cells)]]]=some (.ret (.bool (!aYU w.rooms x)),[.live 3 false false [[.int .i64 w.rooms,.int .i64 w.need,slv 9 true w.nn (w.parts.map ao7.cells)]]]):=by
 have h:=br5 x w.rooms
 (refine ce Tryd.func65 ?_;simp only[Tryd.f65];(have hb:=trivial;with_reducible repeat' (first|simp only[hb,Va.down,seval,bxS.down,h]|refine fsp ?_ ?_<;>intro hb|refine fd ?_|fail)))
theorem bgA{l:List ao7}{nn:Bool}{g:Nat}{mm:avQ}{p:ao7→Bool}(hp:∀x∈l,om'.call (.fn g) (.agg [.int .i64 x.one,.int .i64 x.other,.bool x.valve,.bool x.opn,.int .i64 x.tested,.int .i64 x.valid,.bool x.bad,.int .i64 x.test,.int .i64 x.change]::[.ptr 0 0 0]) [.live 3 false false [[.int .i64 mm.rooms,.int .i64 mm.need,slv 9 true mm.nn (mm.parts.map ao7.cells)]]]=some (.ret (.bool (p x)),[.live 3 false false [[.int .i64 mm.rooms,.int .i64 mm.need,slv 9 true mm.nn (mm.parts.map ao7.cells)]]]))(hl:l.length≤maxLen):
 om'.call (.fn 83) [slv 9 true nn (l.map ao7.cells),.func (.func g) [] [.ptr 0 0 0]] [.live 3 false false [[.int .i64 mm.rooms,.int .i64 mm.need,slv 9 true mm.nn (mm.parts.map ao7.cells)]]]=some (.ret (.int .i64 (idx p l 0)),[.live 3 false false [[.int .i64 mm.rooms,.int .i64 mm.need,slv 9 true mm.nn (mm.parts.map ao7.cells)]]]):=by
 (refine ce Tryd.func83 ?_;simp only[Tryd.f83];(have hb:=trivial;with_reducible repeat' (first|simp only[hb,Va.down,seval,biT.down,azH]|refine fsp ?_ ?_<;>intro hb|refine fd ?_|fail)))
 refine aZG (lst 19 l (fun i (s:Int) t h=>s=i∧h=[.live 3 false false [[.int .i64 mm.rooms,.int .i64 mm.need,slv 9 true mm.nn (mm.parts.map ao7.cells)]]]∧t 0=slv 9 true nn (l.map ao7.cells)∧t 1=.func (.func g) [] [.ptr 0 0 0]∧t 7=.int .i64 l.length∧t 8=.int .i64 i)
  (fun rest s=>idx p rest s) (fun r e t h=>h=[.live 3 false false [[.int .i64 mm.rooms,.int .i64 mm.need,slv 9 true mm.nn (mm.parts.map ao7.cells)]]]∧((e=.exit 0∧r= -1)∨(e=.ret∧t 4=.int .i64 r))) ?_ ?_ 0 _ _ ?_) (fun e t h hk=>?_)
 ·rintro s t h Q' kQ ⟨rfl,rfl,h0,h1,h7,h8⟩
  (have hb:=trivial;with_reducible repeat' (first|simp only[hb,Va.down,seval,biT.down,h0,h1,h7,h8,aL7,decide_false]|refine fsp ?_ ?_<;>intro hb|refine fd ?_|fail))
  exact kQ _ _ _ ⟨rfl,.inl ⟨rfl,rfl⟩⟩
 ·rintro x rest i s t h J Q' kJ kQ hx hi ⟨rfl,rfl,h0,h1,h7,h8⟩
  have hpx:=hp x (aZI hx)
  have hd:decide ((i:Int)<(l.length:Int))=true:=by simpa using hi
  (have hb:=trivial;with_reducible repeat' (first|simp only[hb,Va.down,seval,biT.down,h0,h1,h7,h8,hd,hx,ao7.cells,hpx,aVK hi hl]|refine fsp ?_ ?_<;>intro hb|refine fd ?_|fail))
  ·exact kQ _ _ _ ⟨rfl,.inr ⟨rfl,by simp[up,idx,hb]⟩⟩
  ·exact aC8 (kJ _ _ (i+1) ⟨by simp,rfl,by simp[up,h0],by simp[up,h1],by simp[up,h7],by simp[up]⟩ (by simp[idx,hb]))
 ·exact⟨rfl,rfl,by simp[up,ent],by simp[up,ent],by simp[up],by simp[up]⟩
 ·obtain⟨rfl,⟨rfl,hi⟩|⟨rfl,hi⟩⟩:=hk
  ·(have hb:=trivial;with_reducible repeat' (first|simp only[hb,Va.down,seval,biT.down]|refine fsp ?_ ?_<;>intro hb|refine fd ?_|fail))
   rw[hi]
  ·(have hb:=trivial;with_reducible repeat' (first|simp only[hb,Va.down,seval,biT.down,hi]|refine fsp ?_ ?_<;>intro hb|refine fd ?_|fail))
theorem bdM{l:List ao7}{nn:Bool}{g:Nat}{mm:avQ}{p:ao7→Bool}(hp:∀x∈l,om'.call (.fn g) (.agg [.int .i64 x.one,.int .i64 x.other,.bool x.valve,.bool x.opn,.int .i64 x.tested,.int .i64 x.valid,.bool x.bad,.int .i64 x.test,.int .i64 x.change]::[.ptr 0 0 0]) [.live 3 false false [[.int .i64 mm.rooms,.int .i64 mm.need,slv 9 true mm.nn (mm.parts.map ao7.cells)]]]=some (.ret (.bool (p x)),[.live 3 false false [[.int .i64 mm.rooms,.int .i64 mm.need,slv 9 true mm.nn (mm.parts.map ao7.cells)]]]))(hl:l.length≤maxLen):
 om'.call (.fn 64) [slv 9 true nn (l.map ao7.cells),.func (.func g) [] [.ptr 0 0 0]] [.live 3 false false [[.int .i64 mm.rooms,.int .i64 mm.need,slv 9 true mm.nn (mm.parts.map ao7.cells)]]]=some (.ret (.bool (l.any p)),[.live 3 false false [[.int .i64 mm.rooms,.int .i64 mm.need,slv 9 true mm.nn (mm.parts.map ao7.cells)]]]):=by
 (refine ce Tryd.func64 ?_;simp only[Tryd.f64];(have hb:=trivial;with_reducible repeat' (first|simp only[hb,Va.down,seval,bgA hp hl,be6 p l 0 (Int.le_refl 0)]|refine fsp ?_ ?_<;>intro hb|refine fd ?_|fail)))
theorem brJ(w:avQ)(hs:w.small):om'.call (.fn 47) [.agg [.int .i64 w.rooms,.int .i64 w.need,slv 9 true w.nn (w.parts.map ao7.cells)]] []=some (.ret (.bool (aXT w)),[]):=by
 have k1:=a8O w.rooms 2 8
 have k2:=a8O w.need 0 12
 have k3:=a8O (w.parts.length:Int) 1 12
 have hcM:=bdM (mm:=w) (l:=w.parts) (nn:=w.nn) (g:=65) (p:=fun x=> !aYU w.rooms x) (fun x _=>bm6 w x) hs.parts
 have q1:w.parts.all (aYU w.rooms)= !(w.parts.any fun x=> !aYU w.rooms x):=List.all_eq_not_any_not
 have hh:beY w=(inB w.rooms 2 8&&inB w.need 0 12&&inB (w.parts.length:Int) 1 12):=rfl
 unfold aXT
 rw[hh,q1]
 generalize inB w.rooms 2 8=c1 at *
 generalize inB w.need 0 12=c2 at *
 generalize inB (w.parts.length:Int) 1 12=c3 at *
 generalize(w.parts.any fun x=> !aYU w.rooms x)=c4 at *
 cases c1<;>cases c2<;>cases c3
 all_goals (refine ce Tryd.func47 ?_;simp only[Tryd.f47];(have hb:=trivial;with_reducible repeat' (first|simp only[hb,Va.down,seval,bxC.down,k1,k2,k3,hcM,azH]|refine fsp ?_ ?_<;>intro hb|refine fd ?_|fail)))
 all_goals simp
theorem a6L(w:avQ)(hs:w.small)(d:Int):om'.call (.fn 34) [.agg [.int .i64 w.rooms,.int .i64 w.need,slv 9 true w.nn (w.parts.map ao7.cells)],.int .i64 d] []=some (.ret (.tup [.ptr 0 0 0,.bool (aXT w&&a0Z d)]),[.live 4 false false [[.int .i64 w.rooms,.int .i64 w.need,slv 9 true w.nn (w.parts.map ao7.cells),.int .i64 d]]]):=by
 have h:=brJ w hs
 have hd:=a8O d 0 5000
 rw[show inB d 0 5000=a0Z d from rfl]at hd
 generalize aXT w=c at *
 generalize a0Z d=e at *
 cases c
 ·(refine ce Tryd.func34 ?_;simp only[Tryd.f34];(have hb:=trivial;with_reducible repeat' (first|simp only[hb,Va.down,seval,bv4.down,h,hd]|refine fsp ?_ ?_<;>intro hb|refine fd ?_|fail)))
 ·(refine ce Tryd.func34 ?_;simp only[Tryd.f34];(have hb:=trivial;with_reducible repeat' (first|simp only[hb,Va.down,seval,bv4.down,h,hd]|refine fsp ?_ ?_<;>intro hb|refine fd ?_|fail)))
end Go.Proofs.YtckfcfcmfjfchaaDoor
