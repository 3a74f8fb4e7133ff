/- The functions of the layer, walked. -/
import Derived.Test.YtckfcfcmfjfchaaDoorLibE
import Derived.Test.YtckfcfcmfjfchaaDoorChecked
import Derived.Test.YtckfcfcmfjfchaaDoorLibD
import Derived.Test.YtckfcfcmfjfchaaDoorRows
import Derived.Test.YtckfcfcmfjfchaaDoorTie
import Derived.Test.YtckfcfcmfjfchaaDoorCards
import Derived.Test.YtckfcfcmfjfchaaDoorShelf
import Derived.ProofKit
import Derived.LaidMore
import Derived.OpenShut
import Derived.Stop.Joined
open And renaming intro→acD
open List renaming length_map→akZ,getElem?_append_left→ak3,getElem?_set_ne→alE,getElem?_set_self→amE,mem_cons_self→am5,replicate→am7,take→anO,getElem?_eq_some_iff→an2,take_of_length_le→an3,getElem?_append_right→aoD,all_eq_true→ao2,mem_cons→ao5,mem_of_getElem?→apG,drop→apH,flatMap_cons→aqD,cons_append→aq4,nil_append→arT,length_set→arY,mem_cons_of_mem→arZ,getElem?_eq_getElem→ar1,take_succ_cons→asY,drop_succ_cons→asZ,set_cons_succ→as0,length_take→atM,length_nil→au4
open Nat renaming ble→aoC
open Int renaming lt_irrefl→aoU
open Option renaming bind_some→asB
open Bool renaming and_eq_true→au2
set_option linter.unusedSimpArgs false
set_option linter.unusedVariables false
namespace Go.Proofs.YtckfcfcmfjfchaaDoor
open Go.Ev
set_option maxRecDepth 100000
theorem aqK(h:qR)(b r o:Nat):ld Tryd.prog 24 h (some (.ptr b r o))=ldR (as3 (h[b]?) r) o 3:=aI9 ⟨by kernel_rfl,by kernel_rfl⟩ h b r o
theorem aLV(b r o:Nat):ftL Tryd.prog 24 (some (.ptr b r o))=some [.cells b o 3]:=aS7 (isA:=true) (n:=3) (by kernel_rfl) (by kernel_rfl) b r o
theorem aDN(st b r len:Nat):ln Tryd.prog 27 (some (.slr st b r len))=some (.ret (.int .i64 len),[]):=aNC (n:=1) ⟨_,Tryd.underlying27,by kernel_rfl⟩ st b r len
theorem aKI:ln Tryd.prog 27 (some .nils)=some (.ret (.int .i64 0),[]):=aD5 (n:=1) ⟨_,Tryd.underlying27,by kernel_rfl⟩
theorem atY(st b r len:Nat):ln Tryd.prog 28 (some (.slr st b r len))=some (.ret (.int .i64 len),[]):=aNC (n:=1) ⟨_,Tryd.underlying28,by kernel_rfl⟩ st b r len
theorem aDC:ln Tryd.prog 28 (some .nils)=some (.ret (.int .i64 0),[]):=aD5 (n:=1) ⟨_,Tryd.underlying28,by kernel_rfl⟩
theorem aLE(fl nn:Bool)(rows:List (List AV)):ln Tryd.prog 28 (some (slv 1 fl nn rows))=some (.ret (.int .i64 rows.length),[]):=aQR ⟨_,Tryd.underlying28,by kernel_rfl⟩ fl nn rows
theorem aKO(b r len:Nat)(k:IntKind)(i:Int):ia Tryd.prog 27 (some (.slr 1 b r len)) (some (.int k i))=if 0≤i∧i<len then some (.ret (.ptr b (r+i.toNat) 0),[])else none:=aIS ⟨_,Tryd.underlying27,by kernel_rfl⟩ b r len k i
theorem aqN(h:qR)(b r o:Nat):ld Tryd.prog 28 h (some (.ptr b r o))=ldC (as3 (h[b]?) r) o:=axU ⟨by kernel_rfl,1,by kernel_rfl⟩ h b r o
theorem aoL(b r o:Nat):fa Tryd.prog 24 (some (.ptr b r o)) 2=some (.ret (.ptr b r (o+2)),[]):=ap3 (show aq8 Tryd.prog 24 2 2 1 from⟨_,_,Tryd.underlying24,rfl,rfl,by kernel_rfl,by decide⟩) b r o
theorem apD(h:qR)(b r o:Nat):ld Tryd.prog 22 h (some (.ptr b r o))=ldC (as3 (h[b]?) r) o:=axU ⟨by kernel_rfl,1,by kernel_rfl⟩ h b r o
theorem apN(fl nn:Bool)(rows:List (List AV)):ln Tryd.prog 22 (some (slv 9 fl nn rows))=some (.ret (.int .i64 rows.length),[]):=aQR ⟨_,Tryd.underlying22,by kernel_rfl⟩ fl nn rows
theorem aT8:ap9 Tryd.prog 3=some (.int .i64 0):=by kernel_rfl
theorem aLK(base:Nat)(l c:Option AV):msO Tryd.prog 28 base l c=msK 1 (.int .i64 0) base l c:=aVI (e:=3) (n:=1) (b:=8) (by kernel_rfl) (by kernel_rfl) (by kernel_rfl) (by kernel_rfl) (by decide+kernel) base l c
theorem arF(b r len:Nat)(k:IntKind)(i:Int):ia Tryd.prog 28 (some (.slr 1 b r len)) (some (.int k i))=if 0≤i∧i<len then some (.ret (.ptr b (r+i.toNat) 0),[])else none:=aIS ⟨_,Tryd.underlying28,by kernel_rfl⟩ b r len k i
theorem aLW(fl nn:Bool)(rows:List (List AV))(k:IntKind)(i:Int):ia Tryd.prog 28 (some (slv 1 fl nn rows)) (some (.int k i))=if 0≤i then r1 ((rows[i.toNat]?).map .iptr)else none:=aOC ⟨_,Tryd.underlying28,by kernel_rfl⟩ fl nn rows k i
theorem an9(h:qR)(b r o:Nat):ld Tryd.prog 3 h (some (.ptr b r o))=ldC (as3 (h[b]?) r) o:=axU ⟨by kernel_rfl,1,by kernel_rfl⟩ h b r o
theorem aMD(h:qR)(c:AV)(cs:List AV):ld Tryd.prog 3 h (some (.iptr (c::cs)))=some (.ret c,[]):=a1D ⟨by kernel_rfl,1,by kernel_rfl⟩ h c cs
theorem aLH(b r len:Nat)(k:IntKind)(i:Int):ia Tryd.prog 41 (some (.slr 1 b r len)) (some (.int k i))=if 0≤i∧i<len then some (.ret (.ptr b (r+i.toNat) 0),[])else none:=aIS ⟨_,Tryd.underlying41,by kernel_rfl⟩ b r len k i
theorem at0(h:qR)(b r o:Nat):ld Tryd.prog 4 h (some (.ptr b r o))=ldC (as3 (h[b]?) r) o:=axU ⟨by kernel_rfl,1,by kernel_rfl⟩ h b r o
theorem aI6(h:qR)(b r o:Nat)(v:AV):st_ Tryd.prog 3 h (some (.ptr b r o)) (some v)=sv 1 (h[b]?) b r o (acB v):=auC (by kernel_rfl) h b r o v
theorem atI(b r o:Nat):fa Tryd.prog 24 (some (.ptr b r o)) 1=some (.ret (.ptr b r (o+1)),[]):=ap3 (show aq8 Tryd.prog 24 1 1 1 from⟨_,_,Tryd.underlying24,rfl,rfl,by kernel_rfl,by decide⟩) b r o
theorem asH(fl nn:Bool)(rows:List (List AV))(k:IntKind)(i:Int):ia Tryd.prog 22 (some (slv 9 fl nn rows)) (some (.int k i))=if 0≤i then r1 ((rows[i.toNat]?).map .iptr)else none:=aOC ⟨_,Tryd.underlying22,by kernel_rfl⟩ fl nn rows k i
theorem aH2(h:qR)(b r o:Nat):ld Tryd.prog 62 h (some (.ptr b r o))=ldR (as3 (h[b]?) r) o 9:=aI9 ⟨by kernel_rfl,by kernel_rfl⟩ h b r o
theorem arC(h:qR)(cs:List AV):ld Tryd.prog 62 h (some (.iptr cs))=if 9≤cs.length then some (.ret (.agg (cs.take 9)),[])else none:=a0K ⟨by kernel_rfl,by kernel_rfl⟩ h cs
theorem avG:ap9 Tryd.prog 62=some (.agg [.int .i64 0,.int .i64 0,.bool false,.bool false,.int .i64 0,.int .i64 0,.bool false,.int .i64 0,.int .i64 0]):=by kernel_rfl
theorem avS(h:qR)(b r o:Nat)(v:AV):st_ Tryd.prog 62 h (some (.ptr b r o)) (some v)=sv 9 (h[b]?) b r o (acB v):=auC (by kernel_rfl) h b r o v
theorem avW(b r o:Nat):fa Tryd.prog 62 (some (.ptr b r o)) 3=some (.ret (.ptr b r (o+3)),[]):=ap3 (show aq8 Tryd.prog 62 3 3 1 from⟨_,_,Tryd.underlying62,rfl,rfl,by kernel_rfl,by decide⟩) b r o
theorem aJX(h:qR)(b r o:Nat)(v:AV):st_ Tryd.prog 4 h (some (.ptr b r o)) (some v)=sv 1 (h[b]?) b r o (acB v):=auC (by kernel_rfl) h b r o v
theorem aFK(b r o:Nat):fa Tryd.prog 62 (some (.ptr b r o)) 6=some (.ret (.ptr b r (o+6)),[]):=ap3 (show aq8 Tryd.prog 62 6 6 1 from⟨_,_,Tryd.underlying62,rfl,rfl,by kernel_rfl,by decide⟩) b r o
theorem asI(base len:Nat)(ps:List (Nat × AV)):rD (ak6 Tryd.prog base 28 len ps)=bsK 1 (.int .i64 0) base len ps:=a09 (e:=3) (by kernel_rfl) (by kernel_rfl) (by kernel_rfl) base len ps
theorem aBL:ap9 Tryd.prog 75=some (.agg [.int .i64 0,.bool false,.int .i64 0,.bool false,.int .i64 0,.bool false,.int .i64 0,.bool false,.int .i64 0,.bool false,.int .i64 0,.bool false,.int .i64 0,.bool false,.int .i64 0,.bool false,.int .i64 0,.bool false,.int .i64 0,.bool false,.int .i64 0,.bool false,.int .i64 0,.bool false]):=by kernel_rfl
theorem aBQ(h:qR)(b r o:Nat)(v:AV):st_ Tryd.prog 75 h (some (.ptr b r o)) (some v)=sv 24 (h[b]?) b r o (acB v):=auC (by kernel_rfl) h b r o v
theorem asS(h:qR)(b r o:Nat):ld Tryd.prog 75 h (some (.ptr b r o))=ldR (as3 (h[b]?) r) o 24:=aI9 ⟨by kernel_rfl,by kernel_rfl⟩ h b r o
theorem ap4(b r o:Nat):fa Tryd.prog 79 (some (.ptr b r o)) 0=some (.ret (.ptr b r (o+0)),[]):=ap3 (show aq8 Tryd.prog 79 0 0 3 from⟨_,_,Tryd.underlying79,rfl,rfl,by kernel_rfl,by decide⟩) b r o
theorem as9(b r o:Nat):fa Tryd.prog 62 (some (.ptr b r o)) 0=some (.ret (.ptr b r (o+0)),[]):=ap3 (show aq8 Tryd.prog 62 0 0 1 from⟨_,_,Tryd.underlying62,rfl,rfl,by kernel_rfl,by decide⟩) b r o
theorem atD(b r o:Nat):fa Tryd.prog 62 (some (.ptr b r o)) 1=some (.ret (.ptr b r (o+1)),[]):=ap3 (show aq8 Tryd.prog 62 1 1 1 from⟨_,_,Tryd.underlying62,rfl,rfl,by kernel_rfl,by decide⟩) b r o
theorem auE(h:qR)(b r o:Nat):ld Tryd.prog 73 h (some (.ptr b r o))=ldR (as3 (h[b]?) r) o 2:=aI9 ⟨by kernel_rfl,by kernel_rfl⟩ h b r o
theorem apM{O:Orc}(t:List AV)(h:qR)(s x:Operand):anR O Tryd.prog t h (.call ⟨.builtin .append,#[s,x],#[28,28]⟩)=apO Tryd.prog 28 h (ab9 t s) (ab9 t x):=aVF t h s x 28 28 _ Tryd.underlying28
theorem asM(h:qR)(s:AV)(a b r l:Nat):apO Tryd.prog 28 h (some s) (some (.slr a b r l))=apK 1 h (some s) (srK 1 h (some (.slr a b r l))):=aPF (e:=3) (b:=8) (z:=.int .i64 0) (by kernel_rfl) (by kernel_rfl) (by kernel_rfl) (by kernel_rfl) (by decide+kernel) h s _ (fun q e=>by cases e)
theorem aKE(h:qR)(s:AV)  :apO Tryd.prog 28 h (some s) (some .nils)=apK 1 h (some s) (srK 1 h (some .nils)):=aPF (e:=3) (b:=8) (z:=.int .i64 0) (by kernel_rfl) (by kernel_rfl) (by kernel_rfl) (by kernel_rfl) (by decide+kernel) h s _ (fun q e=>by cases e)
theorem aE3:ap9 Tryd.prog 28=some (.nils):=by kernel_rfl
theorem aKN(base len:Nat)(ps:List (Nat × AV)):rD (ak6 Tryd.prog base 27 len ps)=bsK 1 (.nils) base len ps:=a09 (e:=28) (by kernel_rfl) (by kernel_rfl) (by kernel_rfl) base len ps
theorem aCQ{O:Orc}(t:List AV)(h:qR)(s x:Operand):anR O Tryd.prog t h (.call ⟨.builtin .append,#[s,x],#[27,27]⟩)=apO Tryd.prog 27 h (ab9 t s) (ab9 t x):=aVF t h s x 27 27 _ Tryd.underlying27
theorem aK1(h:qR)(s:AV)(a b r l:Nat):apO Tryd.prog 27 h (some s) (some (.slr a b r l))=apK 1 h (some s) (srK 1 h (some (.slr a b r l))):=aPF (e:=28) (b:=24) (z:=.nils) (by kernel_rfl) (by kernel_rfl) (by kernel_rfl) (by kernel_rfl) (by decide+kernel) h s _ (fun q e=>by cases e)
theorem arR(b r o:Nat):fa Tryd.prog 24 (some (.ptr b r o)) 0=some (.ret (.ptr b r (o+0)),[]):=ap3 (show aq8 Tryd.prog 24 0 0 1 from⟨_,_,Tryd.underlying24,rfl,rfl,by kernel_rfl,by decide⟩) b r o
theorem azM(b r o:Nat):fa Tryd.prog 62 (some (.ptr b r o)) 2=some (.ret (.ptr b r (o+2)),[]):=ap3 (show aq8 Tryd.prog 62 2 2 1 from⟨_,_,Tryd.underlying62,rfl,rfl,by kernel_rfl,by decide⟩) b r o
theorem atF(b r o:Nat):fa Tryd.prog 62 (some (.ptr b r o)) 4=some (.ret (.ptr b r (o+4)),[]):=ap3 (show aq8 Tryd.prog 62 4 4 1 from⟨_,_,Tryd.underlying62,rfl,rfl,by kernel_rfl,by decide⟩) b r o
theorem as7(b r o:Nat):fa Tryd.prog 62 (some (.ptr b r o)) 5=some (.ret (.ptr b r (o+5)),[]):=ap3 (show aq8 Tryd.prog 62 5 5 1 from⟨_,_,Tryd.underlying62,rfl,rfl,by kernel_rfl,by decide⟩) b r o
theorem ay9(b r o:Nat):fa Tryd.prog 62 (some (.ptr b r o)) 7=some (.ret (.ptr b r (o+7)),[]):=ap3 (show aq8 Tryd.prog 62 7 7 1 from⟨_,_,Tryd.underlying62,rfl,rfl,by kernel_rfl,by decide⟩) b r o
theorem azT(b r o:Nat):fa Tryd.prog 62 (some (.ptr b r o)) 8=some (.ret (.ptr b r (o+8)),[]):=ap3 (show aq8 Tryd.prog 62 8 8 1 from⟨_,_,Tryd.underlying62,rfl,rfl,by kernel_rfl,by decide⟩) b r o
theorem aTO:ap9 Tryd.prog 4=some (.bool false):=by kernel_rfl
theorem avK(b r o:Nat):fa Tryd.prog 73 (some (.ptr b r o)) 0=some (.ret (.ptr b r (o+0)),[]):=ap3 (show aq8 Tryd.prog 73 0 0 1 from⟨_,_,Tryd.underlying73,rfl,rfl,by kernel_rfl,by decide⟩) b r o
theorem aFW(h:qR)(b r o:Nat)(v:AV):st_ Tryd.prog 71 h (some (.ptr b r o)) (some v)=sv 1 (h[b]?) b r o (acB v):=auC (by kernel_rfl) h b r o v
theorem azR(b r o:Nat):fa Tryd.prog 79 (some (.ptr b r o)) 1=some (.ret (.ptr b r (o+3)),[]):=ap3 (show aq8 Tryd.prog 79 1 3 1 from⟨_,_,Tryd.underlying79,rfl,rfl,by kernel_rfl,by decide⟩) b r o
theorem aL0(ps:List (Nat × AV)):ayT Tryd.prog 79 ps=(ar4 (fun i=>([(0,3),(3,1)]:List (Nat × Nat))[i]?) (acB (.agg [.int .i64 0,.int .i64 0,.nils,.int .i64 0])) ps).map .agg:=by kernel_rfl
theorem azZ(b r o:Nat):fa Tryd.prog 73 (some (.ptr b r o)) 1=some (.ret (.ptr b r (o+1)),[]):=ap3 (show aq8 Tryd.prog 73 1 1 1 from⟨_,_,Tryd.underlying73,rfl,rfl,by kernel_rfl,by decide⟩) b r o
theorem atS(h:qR)(b r o:Nat)(v:AV):st_ Tryd.prog 28 h (some (.ptr b r o)) (some v)=sv 1 (h[b]?) b r o (acB v):=auC (by kernel_rfl) h b r o v
theorem aL2(ps:List (Nat × AV)):ayT Tryd.prog 98 ps=(ar4 (fun i=>([(0,1)]:List (Nat × Nat))[i]?) (acB (.agg [.nils])) ps).map .agg:=by kernel_rfl
theorem aPH:ap9 Tryd.prog 96=some (.nilp):=by kernel_rfl
theorem aMK(h:qR)(b r o:Nat)(v:AV):st_ Tryd.prog 96 h (some (.ptr b r o)) (some v)=sv 1 (h[b]?) b r o (acB v):=auC (by kernel_rfl) h b r o v
theorem aHT(h:qR)(b r o:Nat):ld Tryd.prog 96 h (some (.ptr b r o))=ldC (as3 (h[b]?) r) o:=axU ⟨by kernel_rfl,1,by kernel_rfl⟩ h b r o
theorem aHG(h:qR)(b r o:Nat):ld Tryd.prog 71 h (some (.ptr b r o))=ldC (as3 (h[b]?) r) o:=axU ⟨by kernel_rfl,1,by kernel_rfl⟩ h b r o
theorem awY(h:qR)(b r o:Nat):ld Tryd.prog 68 h (some (.ptr b r o))=ldC (as3 (h[b]?) r) o:=axU ⟨by kernel_rfl,1,by kernel_rfl⟩ h b r o
theorem aKK(base:Nat)(l c:Option AV):msO Tryd.prog 41 base l c=msK 1 (.bool false) base l c:=aVI (e:=4) (n:=1) (b:=1) (by kernel_rfl) (by kernel_rfl) (by kernel_rfl) (by kernel_rfl) (by decide+kernel) base l c
theorem aNG:ap9 Tryd.prog 41=some (.nils):=by kernel_rfl
theorem aM6(h:qR)(b r o:Nat)(v:AV):st_ Tryd.prog 41 h (some (.ptr b r o)) (some v)=sv 1 (h[b]?) b r o (acB v):=auC (by kernel_rfl) h b r o v
theorem aK3:ap9 Tryd.prog 105=some (.nilf):=by kernel_rfl
theorem aL9(h:qR)(b r o:Nat)(v:AV):st_ Tryd.prog 105 h (some (.ptr b r o)) (some v)=sv 1 (h[b]?) b r o (acB v):=auC (by kernel_rfl) h b r o v
theorem azE(h:qR)(b r o:Nat):ld Tryd.prog 105 h (some (.ptr b r o))=ldC (as3 (h[b]?) r) o:=axU ⟨by kernel_rfl,1,by kernel_rfl⟩ h b r o
theorem avL(b r o:Nat):fa Tryd.prog 98 (some (.ptr b r o)) 0=some (.ret (.ptr b r (o+0)),[]):=ap3 (show aq8 Tryd.prog 98 0 0 1 from⟨_,_,Tryd.underlying98,rfl,rfl,by kernel_rfl,by decide⟩) b r o
theorem aH6(h:qR)(b r o:Nat):ld Tryd.prog 41 h (some (.ptr b r o))=ldC (as3 (h[b]?) r) o:=axU ⟨by kernel_rfl,1,by kernel_rfl⟩ h b r o
def TY3:=PLift.up (acD @aDN @aKI)
def TY6:=PLift.up (acD @aqK (acD @atY (acD @aDC (acD @aDN (acD @aKO (acD @aqN (acD @arF (acD @an9 @atI))))))))
def TY9:=PLift.up (acD @aoL (acD @apD @apN))
def ay5:=PLift.up (acD @aqK (acD @aBL (acD @aBQ (acD @asS (acD @arF (acD @an9 (acD @ap4 (acD @aoL (acD @apD (acD @apN (acD @asH (acD @arC (acD @avG (acD @avS (acD @as9 (acD @atD (acD @auE (acD @asI (acD @apM (acD @asM (acD @aKN (acD @aCQ @aK1))))))))))))))))))))))
def aFM:=PLift.up (acD @arR (acD @an9 (acD @atI (acD @aoL (acD @apD (acD @apN (acD @asH (acD @arC (acD @avG (acD @avS (acD @as9 (acD @atD (acD @avW (acD @at0 (acD @azM (acD @atF (acD @as7 (acD @ay9 @azT))))))))))))))))))
def a2W:=PLift.up (acD @aqK @aqK)
def aKF:=PLift.up (acD @aLE (acD @aLW @aMD))
def aD2:=PLift.up (acD @aqK (acD @aBL (acD @aBQ (acD @ap4 (acD @aoL (acD @apD (acD @apN (acD @asS (acD @avK (acD @aFW (acD @auE (acD @asI (acD @apM @asM)))))))))))))
def aAQ:=PLift.up (acD @aqK (acD @asI (acD @aoL (acD @apD (acD @apN (acD @asH (acD @arC (acD @avG (acD @avS (acD @atF (acD @an9 (acD @as7 (acD @apM (acD @asM (acD @atY (acD @arF (acD @azR (acD @aI6 @atI))))))))))))))))))
def a07:=PLift.up (acD @aqK (acD @aLV @aL0))
def aSW:=PLift.up (acD @asS (acD @aBL (acD @ap4 (acD @aoL (acD @apD (acD @apN (acD @asH (acD @arC (acD @avG (acD @avS (acD @avW (acD @at0 (acD @azZ (acD @aJX (acD @aFK (acD @avK (acD @aFW (acD @azR (acD @an9 (acD @atF (acD @as7 @aBQ)))))))))))))))))))))
def au3:=PLift.up (acD @ap4 (acD @arR (acD @an9 (acD @aT8 (acD @aLK (acD @aE3 (acD @atS (acD @aqN (acD @atY (acD @arF (acD @aI6 (acD @aL2 (acD @aPH (acD @aMK (acD @aHT @auE)))))))))))))))
def a3M:=PLift.up (acD @avK (acD @aHG (acD @azZ @at0)))
def a3H:=PLift.up (acD @awY (acD @asS (acD @aE3 (acD @atS (acD @ap4 (acD @arR (acD @an9 (acD @aKK (acD @aNG (acD @aM6 (acD @aK3 (acD @aL9 (acD @azE @aqN)))))))))))))
def a1I:=PLift.up (acD @asS (acD @arF (acD @an9 (acD @ap4 (acD @aoL (acD @apD @apN))))))
def a3G:=PLift.up (acD @arR (acD @an9 (acD @atI (acD @aoL (acD @apD @apN)))))
def aUV:=PLift.up (acD @avL (acD @aqN (acD @asI (acD @apM (acD @asM @atS)))))
def aS1:=PLift.up (acD @avL (acD @aqN (acD @atY (acD @aDC (acD @arF (acD @an9 @atS))))))
def aL1:=PLift.up (acD @asI (acD @avL (acD @aqN (acD @apM (acD @asM (acD @aKE @atS))))))
def axY:=PLift.up (acD @at0 (acD @aTO (acD @aJX (acD @aH6 (acD @aLH (acD @awY (acD @an9 (acD @auE (acD @aqN (acD @arF (acD @asI (acD @apM (acD @asM (acD @atS (acD @azE @atY)))))))))))))))
def a2V:=PLift.up (acD @aH2 (acD @arR @an9))
def a29:=PLift.up (acD @as9 (acD @an9 (acD @atD (acD @azM (acD @at0 (acD @avW (acD @atF (acD @as7 (acD @ay9 @azT)))))))))
def axB:=PLift.up (acD @awY (acD @ap4 (acD @aoL (acD @apD (acD @apN (acD @asH (acD @arC (acD @avG (acD @avS (acD @an9 (acD @as9 @atD)))))))))))
def aPK:=PLift.up (acD @apN (acD @asH @arC))
end Go.Proofs.YtckfcfcmfjfchaaDoor
namespace Go.Proofs.YtckfcfcmfjfchaaDoor
open Go Go.Ev Go.ChangeShapes Go.WideShapes Go.ChangeAt Go.RowKit
set_option maxRecDepth 100000
set_option maxHeartbeats 16000000
def mdL:List Nat:=[46,56,60,57,61]
def pr:arK:=aEH 54 68 46 (mdL.contains ·)
noncomputable def om':Orc:=om Tryd.prog pr
theorem a0V(f:Nat):om'.md f=([46,56,60,57,61]:List Nat).contains f:=Eq.trans rfl rfl
def Va:=PLift.up (acD EE.down EVu.down)
def Vc:=PLift.up (acD EG.down (acD EVu.down @a0V))
theorem own:ownKnob Tryd.prog.godebug=none:=by kernel_rfl
theorem aRK:aKV Tryd.prog:=fun f fn hf=>by
 have h:(Tryd.prog.funcs.toList.all fun fn=> !(fn.name== "runtime.NumGoroutine"))=true:=by kernel_rfl
 have:=ao2.1 h fn (by rw[Array.mem_toList_iff];exact Array.mem_of_getElem? hf)
 simpa using this
theorem mixed:Tryd.prog.follows .mixedOrders=true:=by kernel_rfl
theorem aRO:laidOutB Tryd.prog=true:=by kernel_rfl
def laid:List (String × DataW Unit):=[("math/bits.deBruijn32tab",Rows.laid_math_bits_deBruijn32tab),("math/bits.deBruijn64tab",Rows.laid_math_bits_deBruijn64tab),("internal/strconv.uint64pow10",Rows.laid_internal_strconv_uint64pow10)]
theorem a1F:Tryd.prog.globalNamed "internal/strconv.uint64pow10" =some 0:=by kernel_rfl
theorem tab{W:World}(h:laidMetH Tryd.prog laid W):Lib.TabIs Tryd.prog W "internal/strconv.uint64pow10" .u64 Lib.pow10Tab:=by
 rw[MakeChecks.laidMetH_plain _ _ _ (by kernel_rfl)]at h
 obtain⟨ps,h,_⟩:=h
 exact ax6 (t:=160) (e:=126) (n:=20) a1F (by kernel_rfl) (by kernel_rfl) (by kernel_rfl) (by kernel_rfl) (by kernel_rfl) h (by
  have e:(Lib.tabData .u64 Lib.pow10Tab:DataW Unit)=Rows.laid_internal_strconv_uint64pow10:=rfl
  rw[e];simp[laid])
theorem aNR{W:World}(h:laidMetH Tryd.prog laid W):aoJ Tryd.prog (aPB W 0) om':=
 a1H aRK (aLD (aRN (aBS aRK Tryd.func54 rfl) (aNU a1F (tab h)) (fun n w h0 h1 ht=>Tryd.strconv_Itoa n h0 h1 w ht)) (aTV (aBS aRK Tryd.func68 rfl) Tryd.strings_Join_none Tryd.strings_Join) (aRJ (aBS aRK Tryd.func46 rfl) Tryd.slices_Sort_int)) mixed
theorem aNH(os:Os)(args:Array Value):laidMetH Tryd.prog laid ((World.doorLaid Tryd.prog 400 os).forCall (fun _ _=>0) ⟨#[],args,[]⟩).memory:=
 laidMetH_of_parts3 (fuel:=8) (laidMet_of_run' 8 (by kernel_rfl) (by kernel_rfl)) (by kernel_rfl) (by kernel_rfl)
theorem aRX{f:Nat}{fn:Func}{c:Code}{args:List AV}{h:qR}{Q:Out→qR→Prop}(hp:pr f=none)(hf:Tryd.prog.funcs[f]?=some fn)(hb:fn.body=some c)(hl:aoC args.length fn.ntmps=true)
 (he:FnE Tryd.prog h.length fn.results.toList Q (evM om' Tryd.prog 5000 c [] ⟨mk fn.ntmps (ent args),h⟩)):ClQ om' f args h Q:=ClQ.start (pr:=pr) hp hf hb hl he
theorem aHF{f:Nat}{fn:Func}{c:Code}{args:List AV}{h:qR}{Q:Out→qR→Prop}(hp:pr f=none)(hf:Tryd.prog.funcs[f]?=some fn)(hb:fn.body=some c)(hl:aoC args.length fn.ntmps=true)
 (he:FnS Tryd.prog fn.results.toList Q (evM om' Tryd.prog 5000 c [] ⟨mk fn.ntmps (ent args),h⟩))  (hs:pr.sh f=none:=by exact rfl):ShQ om' f args h Q:=ShQ.start (pr:=pr) hp hf hb hl he hs
theorem ce{f:Nat}{fn:Func}{c:Code}{args:List AV}{h:qR}{o:Out}{h':qR}(hf:Tryd.prog.funcs[f]?=some fn)(he:FnE Tryd.prog h.length fn.results.toList (fun o1 h1=>(o1,h1)=(o,h')) (evM om' Tryd.prog 5000 c [] ⟨mk fn.ntmps (ent args),h⟩))(hp:pr f=none:=by exact rfl)(hb:fn.body=some c:=by exact rfl)(hl:aoC args.length fn.ntmps=true:=by exact rfl):om'.call (.fn f) args h=some (o,h'):=(aRX hp hf hb hl he).eq
theorem csh{f:Nat}{fn:Func}{c:Code}{args:List AV}{h:qR}{o:Out}{h':qR}(hf:Tryd.prog.funcs[f]?=some fn)(he:FnS Tryd.prog fn.results.toList (fun o1 h1=>(o1,h1)=(o,h')) (evM om' Tryd.prog 5000 c [] ⟨mk fn.ntmps (ent args),h⟩))(hp:pr f=none:=by exact rfl)(hb:fn.body=some c:=by exact rfl)(hl:aoC args.length fn.ntmps=true:=by exact rfl)(hs:pr.sh f=none:=by exact rfl):om'.call (.sh f) args h=some (o,h'):=(aHF hp hf hb hl he hs).eq
theorem lst{α σ ρ:Type}{c:Code}(N:Nat)(l:List α)(E:Nat→σ→Tm→qR→Prop)(F:List α→σ→ρ)(Q:ρ→Ex→Tm→qR→Prop)
 (stop:∀s t h Q',(∀e t h,Q (F [] s) e t h→Q' e ⟨mk N t,h⟩)→E l.length s t h→Rnd N (fun _ _=>False) Q' (evM om' Tryd.prog 5000 c [] ⟨mk N t,h⟩))
 (go:∀x rest i s t h J Q',(∀t' h' s',E (i+1) s' t' h'→F rest s'=F (x::rest) s→J t' h')→(∀e t h,Q (F (x::rest) s) e t h→Q' e ⟨mk N t,h⟩)→l[i]?=some x→i<l.length→E i s t h→
   Rnd N J Q' (evM om' Tryd.prog 5000 c [] ⟨mk N t,h⟩)):
 ∀s t h,E 0 s t h→LpQ om' c ⟨mk N t,h⟩ (Ot N (Q (F l s))):=aKZ (pr:=pr) rfl N l E F Q stop go
theorem cnt{σ ρ:Type}{c:Code}(N:Nat)(E:Nat→σ→Tm→qR→Prop)(F:Nat→σ→ρ)(Q:ρ→Ex→Tm→qR→Prop)
 (stop:∀s t h Q',(∀e t h,Q (F 0 s) e t h→Q' e ⟨mk N t,h⟩)→E 0 s t h→Rnd N (fun _ _=>False) Q' (evM om' Tryd.prog 5000 c [] ⟨mk N t,h⟩))
 (go:∀n s t h J Q',(∀t' h' s',E n s' t' h'→F n s'=F (n+1) s→J t' h')→(∀e t h,Q (F (n+1) s) e t h→Q' e ⟨mk N t,h⟩)→E (n+1) s t h→Rnd N J Q' (evM om' Tryd.prog 5000 c [] ⟨mk N t,h⟩)):
 ∀n s t h,E n s t h→LpQ om' c ⟨mk N t,h⟩ (Ot N (Q (F n s))):=aOJ (pr:=pr) rfl N E F Q stop go
def iv(x:Int):List AV:=[.int .i64 x]
theorem acG{h:qR}{b:Nat}{c:CB}(h0:h[b]?=some c)(l:qR):(h++l)[b]?=some c:=by
 rw[ak3 (an2.1 h0).1];exact h0
end Go.Proofs.YtckfcfcmfjfchaaDoor
namespace Go.Proofs.YtckfcfcmfjfchaaDoor
open Go.Ev Go
set_option maxRecDepth 100000
set_option maxHeartbeats 16000000
structure acC where
 one:Int
 other:Int
 valve:Bool
 opn:Bool
 tested:Int
 valid:Int
 bad:Bool
 test:Int
 change:Int
def acC.cells(p:acC):List AV:=[.int .i64 p.one,.int .i64 p.other,.bool p.valve,.bool p.opn,.int .i64 p.tested,.int .i64 p.valid,.bool p.bad,.int .i64 p.test,.int .i64 p.change]
structure agR where
 rooms:Int
 need:Int
 nn:Bool
 parts:List acC
abbrev agR.cells(w:agR):List AV:=[.int .i64 w.rooms,.int .i64 w.need,slv 9 true w.nn (w.parts.map acC.cells)]
theorem aI3{α:Type}{f:α→List AV}{p:List AV→Prop}{q:α→Prop}(hf:∀r,p r→∃x,r=f x∧q x):∀{rows:List (List AV)},(∀r∈rows,p r)→∃l:List α,rows=l.map f∧∀x∈l,q x
 | [],_=>⟨[],rfl,fun x hx=>by simp at hx⟩
 |r::rows,h=>by
  obtain⟨x,rfl,hx⟩:=hf r (h r (am5 ..))
  obtain⟨l,rfl,hl⟩:=aI3 hf (fun r hr=>h r (arZ _ hr))
  exact⟨x::l,rfl,fun y hy=>by
   rcases ao5.1 hy with rfl|hy
   ·exact hx
   ·exact hl y hy⟩
def i64(n:Int):Prop:= -9223372036854775808≤n∧n≤9223372036854775807
theorem auU{n:Nat}{r:List AV}(h:Ty Tryd.prog (n+1) 3 r):∃x,r=[.int .i64 x]∧i64 x:=by
 simp only[Ty,Tryd.underlying3]at h
 obtain⟨x,rfl,h1,h2⟩:=h
 exact⟨x,rfl,h1,h2⟩
theorem aEI{n:Nat}{r:List AV}(h:Ty Tryd.prog (n+1) 4 r):∃x,r=[.bool x]:=by
 simp only[Ty,Tryd.underlying4]at h
 exact h
def acC.fits(p:acC):Prop:=i64 p.one∧i64 p.other∧i64 p.tested∧i64 p.valid∧i64 p.test∧i64 p.change
theorem aTK{n:Nat}{r:List AV}(h:Ty Tryd.prog (n+2) 62 r):∃x:acC,r=x.cells∧x.fits:=by
 unfold Ty at h
 simp only[Tryd.underlying62,aQ0]at h
 obtain⟨a0,b0,rfl,h0,a1,b1,rfl,h1,a2,b2,rfl,h2,a3,b3,rfl,h3,a4,b4,rfl,h4,a5,b5,rfl,h5,a6,b6,rfl,h6,a7,b7,rfl,h7,a8,b8,rfl,h8,rfl⟩:=h
 obtain⟨x0,rfl,k0⟩:=auU h0
 obtain⟨x1,rfl,k1⟩:=auU h1
 obtain⟨x2,rfl⟩:=aEI h2
 obtain⟨x3,rfl⟩:=aEI h3
 obtain⟨x4,rfl,k4⟩:=auU h4
 obtain⟨x5,rfl,k5⟩:=auU h5
 obtain⟨x6,rfl⟩:=aEI h6
 obtain⟨x7,rfl,k7⟩:=auU h7
 obtain⟨x8,rfl,k8⟩:=auU h8
 exact⟨⟨x0,x1,x2,x3,x4,x5,x6,x7,x8⟩,rfl,k0,k1,k4,k5,k7,k8⟩
structure agR.small(w:agR):Prop where
 parts:w.parts.length≤maxLen
 fits:∀p∈w.parts,p.fits
 rooms:i64 w.rooms
 need:i64 w.need
theorem aS0{n:Nat}{r:List AV}(h:Ty Tryd.prog (n+4) 24 r):∃w:agR,r=w.cells∧w.small:=by
 unfold Ty at h
 simp only[Tryd.underlying24,aQ0]at h
 obtain⟨a0,b0,rfl,h0,a1,b1,rfl,h1,a2,b2,rfl,h2,rfl⟩:=h
 obtain⟨x0,rfl,k0⟩:=auU h0
 obtain⟨x1,rfl,k1⟩:=auU h1
 unfold Ty at h2
 simp only[Tryd.underlying22]at h2
 obtain⟨n2,rows2,rfl,hl2,hrows2⟩:=h2
 obtain⟨l2,rfl,hm⟩:=aI3 (fun r hr=>aTK hr) hrows2
 have e2:Tryd.prog.cellsOf 62=9:=by kernel_rfl
 have f2:flT Tryd.prog (n+2) 62=true:=by
  simp only[flT,Tryd.underlying62,Tryd.underlying3,Tryd.underlying4];rfl
 rw[e2,f2]
 exact⟨⟨x0,x1,n2,l2⟩,rfl,by simpa using hl2,hm,k0,k1⟩
theorem aR5{av:AV}(h:TyV Tryd.prog 7 24 av):∃w:agR,av=.agg w.cells∧w.small:=by
 unfold TyV at h
 simp only[Tryd.underlying24]at h
 obtain⟨cs,rfl,h⟩:=h
 obtain⟨s,rfl,hs⟩:=aS0 h
 exact⟨s,rfl,hs⟩
theorem aMW{av:AV}(h:TyV Tryd.prog 7 3 av):∃x,av=.int .i64 x∧i64 x:=by
 unfold TyV at h
 simp only[Tryd.underlying3]at h
 obtain⟨x,hx,hi⟩:=auU h
 simp only[List.cons.injEq,and_true]at hx
 exact⟨x,hx,hi⟩
end Go.Proofs.YtckfcfcmfjfchaaDoor
namespace Go.Proofs.YtckfcfcmfjfchaaDoor
open Go.Ev Go Go.Ev.Net
set_option maxRecDepth 100000
set_option maxHeartbeats 16000000
def inB(x lo hi:Int):Bool:=decide (lo≤x)&&decide (x≤hi)
theorem aG2(x lo hi:Int):om'.call (.fn 39) [.int .i64 x,.int .i64 lo,.int .i64 hi] []=some (.ret (.bool (inB x lo hi)),[]):=by
 (refine ce Tryd.func39 ?_;simp only[Tryd.f39];(have hb:=trivial;with_reducible repeat' (first|simp only[hb,Va.down,seval]|refine fsp ?_ ?_<;>intro hb|refine fd ?_|fail)))
 all_goals simp[inB, *]
theorem aCN(x lo hi:Int):om'.call (.fn 48) [.int .i64 x,.int .i64 lo,.int .i64 hi] []=some (.ret (.bool (inB x lo hi)),[]):=by
 (refine ce Tryd.func48 ?_;simp only[Tryd.f48];(have hb:=trivial;with_reducible repeat' (first|simp only[hb,Va.down,seval]|refine fsp ?_ ?_<;>intro hb|refine fd ?_|fail)))
 all_goals simp[inB, *]
def asD(d:Int):Bool:=inB d 0 5000
theorem aDK(d:Int):om'.call (.fn 13) [.int .i64 d] []=some (.ret (.bool (asD d)),[]):=by
 (refine ce Tryd.func13 ?_;simp only[Tryd.f13];(have hb:=trivial;with_reducible repeat' (first|simp only[hb,Va.down,seval,aG2]|refine fsp ?_ ?_<;>intro hb|refine fd ?_|fail)))
 rfl
def aq6(p:acC)(d:Int):Int:=if p.bad=true then 2 else if IntKind.i64.wrap (p.tested+p.valid)<d then 1 else 0
def awW(p:acC)(d:Int):Bool:=aq6 p d==0&& !p.opn
def bvv(b:Bool):List AV:=[.bool b]
def nvv(n:Nat):List AV:=[.int .i64 (n:Int)]
def anZ(w:agR)(d:Int):List Bool:=w.parts.map fun p=>awW p d
theorem ap6{h:qR}{b:Nat}(hb:b<h.length)(l:qR)(c:CB):(h++l).set b c=h.set b c++l:=List.set_append_left _ _ hb
theorem qS{h:qR}{b:Nat}{c:CB}(e:h[b]?=some c):b<h.length:=(an2.1 e).1
theorem aqF{h:qR}{b:Nat}(c:CB)(l:qR):(h.set b c++l)[h.length]?=l[0]?:=by
 rw[aoD (by simp)];simp
theorem aoZ{h:qR}{b:Nat}(c:CB)(l:qR)(k:Nat):(h.set b c++l)[h.length+k]?=l[k]?:=by
 rw[aoD (by simp)];simp
theorem aAG{h:qR}{b b':Nat}{x:CB}(c:CB)(hne:b≠b')(hb:h[b']?=some x)(l:qR):(h.set b c++l)[b']?=some x:=by
 have hlt:b'<h.length:=(an2.1 hb).1
 rw[ak3 (by simpa using hlt),alE hne];exact hb
def edg(w:agR)(ts:List Bool):List Net.Edge:=List.zipWith (fun p t=>(p.one.toNat,p.other.toNat,if t=true then 1 else 0)) w.parts ts
structure WOk(w:agR)(N:Nat):Prop where
 rooms:w.rooms=(N:Int)
 n2:2≤N
 n8:N≤8
 len:w.parts.length≤1000
 ne:w.parts≠[]
 part:∀p∈w.parts,(0≤p.one∧p.one<(N:Int))∧(0≤p.other∧p.other<(N:Int))∧p.one≠p.other
theorem aIU{w:agR}{ts:List Bool}{i:Nat}{e:Net.Edge}(h:(edg w ts)[i]?=some e):∃p t,w.parts[i]?=some p∧ts[i]?=some t∧e=(p.one.toNat,p.other.toNat,if t=true then 1 else 0):=by
 unfold edg at h
 rw[List.getElem?_zipWith]at h
 cases h1:w.parts[i]? with
 |none=>simp[h1]at h
 |some p=>
  cases h2:ts[i]? with
  |none=>simp[h1,h2]at h
  |some t=>simp[h1,h2]at h;exact⟨p,t,rfl,rfl,h.symm⟩
theorem avV{w:agR}{N:Nat}(hw:WOk w N)(ts:List Bool):EOk (edg w ts) N:=fun a b c h=>by
 obtain⟨i,hi⟩:=List.getElem?_of_mem h
 obtain⟨p,t,h1,_,he⟩:=aIU hi
 cases he
 have:=hw.part p (apG h1)
 refine⟨by omega,by omega,by omega,?_⟩
 split<;>omega
theorem az9{d:List Nat}{a:Nat}(h:a<d.length):(d.map nvv)[a]?=some [.int .i64 (d.getD a 0:Nat)]:=by
 rw[List.getElem?_map,ar1 h,List.getD_eq_getElem?_getD,ar1 h];rfl
def awG(w:agR)(N:Nat)(d:Int):Nat:=aDX (edg w (anZ w d)) N w.parts.length
theorem aVM(b:Bool):om'.call (.fn 59) [.bool b] []=some (.ret (.int .i64 (if b=true then 1 else 0)),[]):=by
 cases b<;>(refine ce Tryd.func59 ?_;simp only[Tryd.f59];(have hb:=trivial;with_reducible repeat' (first|simp only[hb,Va.down,seval]|refine fsp ?_ ?_<;>intro hb|refine fd ?_|fail)))
theorem aAH(c:Int)(o:Bool):om'.call (.fn 37) [.agg [.int .i64 c,.bool o]] []=some (.ret (.bool (c==0&& !o)),[]):=by
 cases hc:(c==0)<;>(refine ce Tryd.func37 ?_;simp only[Tryd.f37];(have hb:=trivial;with_reducible repeat' (first|simp only[hb,Va.down,seval,a3M.down,hc]|refine fsp ?_ ?_<;>intro hb|refine fd ?_|fail)))
theorem ao8(b r o:Nat)(i:Int):ia Tryd.prog 75 (some (.ptr b r o)) (some (.int .i64 i))=if 0≤i∧i<12 then some (.ret (.ptr b r (o+i.toNat*2)),[])else none:=by
 have h:apF Tryd.prog 75 (.ptr b r o) (.int .i64 i)=if 0≤i∧i<12 then some (.ptr b r (o+i.toNat*2))else none:=by
  unfold apF
  simp only[Tryd.underlying75]
  have hz:szT Tryd.prog 73=some 2:=by kernel_rfl
  rw[hz]
  simp
 simp only[ia,asB,h]
 split<;>rfl
def acE(w:agR)(d:Int):List (Int × Bool):=w.parts.map (fun p=>(aq6 p d,p.opn))++am7 (12-w.parts.length) (0,false)
def pcs(l:List (Int × Bool)):List AV:=l.flatMap fun x=>[.int .i64 x.1,.bool x.2]
theorem aq3(l:List (Int × Bool)):(pcs l).length=2*l.length:=by
 induction l with
 |nil=>rfl
 |cons x l ih=>simp[pcs]at ih ⊢;omega
theorem aFU:∀(L:List (Int × Bool)) (i:Nat) (a:Int) (b b':Bool),L[i]?=some (a,b)→anO (i*2+1) (pcs L)++([.bool b']++apH (i*2+2) (pcs L))=pcs (L.set i (a,b'))
 | [],i,a,b,b',h=>by simp at h
 |x::L,0,a,b,b',h=>by simp at h;subst h;simp[pcs]
 |x::L,i+1,a,b,b',h=>by
  have ih:=aFU L i a b b' (by simpa using h)
  rw[show(i+1)*2+1=(i*2+1)+1+1 by omega,show(i+1)*2+2=(i*2+2)+1+1 by omega]
  simp only[pcs,aqD,aq4,arT,asY,asZ,as0]at ih ⊢
  rw[←ih]
theorem aAW:∀(L:List (Int × Bool)) (i:Nat) (a a':Int) (b:Bool),L[i]?=some (a,b)→anO (i*2) (pcs L)++([.int .i64 a']++apH (i*2+1) (pcs L))=pcs (L.set i (a',b))
 | [],i,a,a',b,h=>by simp at h
 |x::L,0,a,a',b,h=>by simp at h;subst h;simp[pcs]
 |x::L,i+1,a,a',b,h=>by
  have ih:=aAW L i a a' b (by simpa using h)
  rw[show(i+1)*2=(i*2)+1+1 by omega,show(i*2)+1+1+1=(i*2+1)+1+1 by omega]
  simp only[pcs,aqD,aq4,arT,asY,asZ,as0]at ih ⊢
  rw[←ih]
def pcI(w:agR)(d:Int)(i:Nat):List (Int × Bool):=(w.parts.take i).map (fun p=>(aq6 p d,p.opn))++am7 (12-i) (0,false)
theorem aWW{w:agR}{d:Int}{i:Nat}(hi:i<w.parts.length)(h12:w.parts.length≤12):(pcI w d i)[i]?=some (0,false):=by
 have hl:((w.parts.take i).map fun p=>(aq6 p d,p.opn)).length=i:=by rw[akZ,atM];omega
 unfold pcI
 rw[aoD (by omega),hl,Nat.sub_self,List.getElem?_replicate,if_pos (by omega)]
theorem aNE{w:agR}{d:Int}{i:Nat}{p:acC}(hx:w.parts[i]?=some p)(h12:w.parts.length≤12):(pcI w d i).set i (aq6 p d,p.opn)=pcI w d (i+1):=by
 have hi:i<w.parts.length:=(an2.1 hx).1
 have hl:((w.parts.take i).map fun p=>(aq6 p d,p.opn)).length=i:=by rw[akZ,atM];omega
 unfold pcI
 rw[List.set_append_right _ _ (by omega),hl,Nat.sub_self,List.take_add_one,hx]
 have e:12-i=(12-(i+1))+1:=by omega
 rw[e,List.replicate_succ]
 simp
theorem axW(w:agR)(d:Int)(wf:Bool)(h12:w.parts.length≤12):om'.call (.fn 35) [.ptr 0 0 0] [.live 4 false wf [[.int .i64 w.rooms,.int .i64 w.need,slv 9 true w.nn (w.parts.map acC.cells),.int .i64 d]]]=some (.ret (.agg (pcs (acE w d))),[.live 4 false wf [[.int .i64 w.rooms,.int .i64 w.need,slv 9 true w.nn (w.parts.map acC.cells),.int .i64 d]]]):=by
 refine ce Tryd.func35 ?_
 simp only[Tryd.f35]
 (have hb:=trivial;with_reducible repeat' (first|simp only[hb,Va.down,seval,aSW.down,akZ]|refine fsp ?_ ?_<;>intro hb|refine fd ?_|fail))
 refine atG (lst 44 w.parts (fun i (_:Unit) t h=>t 0=.ptr 0 0 0∧t 2=.ptr 1 0 0∧t 3=.ptr 2 0 0∧t 10=slv 9 true w.nn (w.parts.map acC.cells)∧t 11=.int .i64 (w.parts.length:Nat)∧t 12=.int .i64 (i:Int)∧h[0]?=some (.live 4 false wf [[.int .i64 w.rooms,.int .i64 w.need,slv 9 true w.nn (w.parts.map acC.cells),.int .i64 d]])∧h[1]?=some (.live 24 true false [pcs (am7 12 (0,false))])∧∃f,h[2]?=some (.live 24 true f [pcs (pcI w d i)])) (fun _ _=>())
  (fun _ e t h=>e=.exit 0∧t 2=.ptr 1 0 0∧t 3=.ptr 2 0 0∧h[0]?=some (.live 4 false wf [[.int .i64 w.rooms,.int .i64 w.need,slv 9 true w.nn (w.parts.map acC.cells),.int .i64 d]])∧h[1]?=some (.live 24 true false [pcs (am7 12 (0,false))])∧∃f,h[2]?=some (.live 24 true f [pcs (pcI w d w.parts.length)])) ?_ ?_ () _ _ ?_) (fun e t h hk=>?_)
 ·rintro _ t h Q' kQ ⟨h0,h2,h3,h10,h11,h12',hA,hB,f,hC⟩
  (have hb:=trivial;with_reducible repeat' (first|simp only[hb,Va.down,seval,aSW.down,h11,h12',aoU,decide_false]|refine fsp ?_ ?_<;>intro hb|refine fd ?_|fail))
  exact kQ _ _ _ ⟨rfl,by simp[up,h2],by simp[up,h3],hA,hB,f,hC⟩
 ·rintro p rest i _ t h J Q' kJ kQ hx hi ⟨h0,h2,h3,h10,h11,h12',hA,hB,f,hC⟩
  have hdd:decide ((i:Int)<(w.parts.length:Int))=true:=decide_eq_true (by omega)
  have hww:=aoH hi (by unfold maxLen;omega)
  have hA1:=acG hA
  have hC1:=acG hC
  have hl2:=qS hC
  have i1:((i:Int)<12)=True:=eq_true (by omega)
  have hpl:(pcs (pcI w d i)).length=24:=by rw[aq3];simp[pcI];omega
  have hS:=ap6 hl2
  have i2:(i*2≤22)=True:=eq_true (by omega)
  have i3:(i*2≤23)=True:=eq_true (by omega)
  have hat:=aWW (d:=d) hi h12
  have hnx:=aNE (d:=d) hx h12
  generalize hL:pcI w d i=L at *
  have s1:=aFU L i 0 false p.opn hat
  have tk1:anO (23-i*2) [AV.bool p.opn]=[AV.bool p.opn]:=an3 (by simp;omega)
  have hat2:(L.set i (0,p.opn))[i]?=some (0,p.opn):=amE (by have:=(an2.1 hat).1;exact this)
  have s2:=fun v=>aAW (L.set i (0,p.opn)) i 0 v p.opn hat2
  have tk2:∀v,anO (24-i*2) [AV.int .i64 v]=[AV.int .i64 v]:=fun v=>an3 (by simp;omega)
  simp only[aq4,arT]at s1 s2
  have hpl2:(pcs (L.set i (0,p.opn))).length=24:=by rw[aq3]at hpl ⊢;simpa using hpl
  have hg2:∀c l,(h.set 2 c++l)[2]?=some c:=fun c l=>by rw[ak3 (by simpa using hl2),amE hl2]
  have hg0:∀c l,(h.set 2 c++l)[0]?=h[0]?:=fun c l=>by rw[ak3 (by simp;omega),alE (by omega)]
  have hg1:∀c l,(h.set 2 c++l)[1]?=h[1]?:=fun c l=>by rw[ak3 (by simp;omega),alE (by omega)]
  have hgs:∀c l c',(h.set 2 c++l).set 2 c'=h.set 2 c'++l:=fun c l c'=>by rw[ap6 (by simpa using hl2),List.set_set]
  have ss2:∀v:Int,(L.set i (0,p.opn)).set i (v,p.opn)=L.set i (v,p.opn):=fun v=>List.set_set ..
  have nx:∀(v:Int) (t':Tm) (l':qR),aq6 p d=v→t' 0=.ptr 0 0 0∧t' 2=.ptr 1 0 0∧t' 3=.ptr 2 0 0∧t' 10=slv 9 true w.nn (w.parts.map acC.cells)∧t' 11=.int .i64 (w.parts.length:Nat)∧t' 12=.int .i64 ((i+1:Nat):Int)→J t' (h.set 2 (.live 24 true true [pcs (L.set i (v,p.opn))])++l'):=fun v t' l' hv ht=>by
   rw[←hv,hnx]
   exact kJ _ _ () ⟨ht.1,ht.2.1,ht.2.2.1,ht.2.2.2.1,ht.2.2.2.2.1,ht.2.2.2.2.2,by rw[hg0];exact hA,by rw[hg1];exact hB,true,hg2 _ _⟩ rfl
  (have hb:=trivial;with_reducible repeat' (first|simp only[hb,Va.down,seval,aSW.down,h0,h2,h3,h10,h11,h12',hdd,hww,hx,hA,hA1,hC,hC1,hS,ao8,i1,i2,i3,hpl,hpl2,s1,s2,tk1,tk2,ss2,hg2,hg0,hg1,hgs,aqF,aoZ,arY,acC.cells]|refine fsp ?_ ?_<;>intro hb|refine fd ?_|fail))
  ·refine alD (nx 2 _ _ (by simp[aq6, *]) ⟨by simp[up,h0],by simp[up,h2],by simp[up,h3],by simp[up,h10],by simp[up,h11],by simp[up]⟩)
  ·refine alD (nx 1 _ _ (by simp[aq6];simp_all) ⟨by simp[up,h0],by simp[up,h2],by simp[up,h3],by simp[up,h10],by simp[up,h11],by simp[up]⟩)
  ·refine alD (nx 0 _ _ (by simp[aq6];simp_all) ⟨by simp[up,h0],by simp[up,h2],by simp[up,h3],by simp[up,h10],by simp[up,h11],by simp[up]⟩)
 ·exact⟨by simp[up,ent],by simp[up],by simp[up],by simp[up],by simp[up],by simp[up],rfl,rfl,false,rfl⟩
 obtain⟨rfl,h2,h3,hA,hB,f,hC⟩:=hk
 have hL:pcI w d w.parts.length=acE w d:=by unfold pcI acE;rw[an3 (Nat.le_refl _)]
 rw[hL]at hC
 have hpl:(pcs (acE w d)).length=24:=by rw[aq3];simp[acE];omega
 have hpz:(pcs (am7 12 (0,false))).length=24:=by rw[aq3];simp
 have htk:anO 24 (pcs (acE w d))=pcs (acE w d):=an3 (by omega)
 have hl1:=qS hB
 generalize pcs (am7 12 (0,false))=zs at *
 have hdz:apH 24 zs=[]:=List.drop_eq_nil_iff.2 (by omega)
 have hcell:(pcs (acE w d)).all AV.isCell=true:=by
  have:∀l:List (Int × Bool),(pcs l).all AV.isCell=true:=fun l=>by
   induction l with
   |nil=>rfl
   |cons x l ih=>simp only[pcs,aqD,List.all_append]at ih ⊢;rw[ih];rfl
  exact this _
 have hform:∀x∈pcs (acE w d),(∃n,x=.int .i64 n)∨∃b,x=.bool b:=fun x hx=>by
  simp only[pcs,List.mem_flatMap,ao5,List.not_mem_nil,or_false]at hx
  obtain⟨y,_,rfl|rfl⟩:=hx
  ·exact .inl ⟨_,rfl⟩
  ·exact .inr ⟨_,rfl⟩
 have hflat:(pcs (acE w d)).all AV.flat=true:=ao2.2 fun x hx=>by rcases hform x hx with⟨n,rfl⟩|⟨b,rfl⟩<;>rfl
 have hrf:ak1.refL (ak1 7) [0] (pcs (acE w d))=some (pcs (acE w d),[0]):=apP fun x hx=>by rcases hform x hx with⟨n,rfl⟩|⟨b,rfl⟩<;>rfl
 have hg1:∀c,(h.set 1 c)[1]?=some c:=fun c=>amE hl1
 have hg0:∀c,(h.set 1 c)[0]?=h[0]?:=fun c=>alE (by omega)
 generalize pcs (acE w d)=ps at *
 (have hb:=trivial;with_reducible repeat' (first|simp only[hb,Va.down,seval,aSW.down,h2,h3,hA,hB,hC,hpl,hpz,htk,hdz,hcell,hflat,hrf,hg1,hg0]|refine fsp ?_ ?_<;>intro hb|refine fd ?_|fail))
def arL(N:Int)(p:acC):Bool:=inB p.one 0 (IntKind.i64.wrap (N-1))&&inB p.other 0 (IntKind.i64.wrap (N-1))&& !(p.one==p.other)&& !(p.opn&& !p.valve)&&asD p.tested&&asD p.valid&&inB p.test 1 1000&&inB p.change 1 1000
def aJ5(w:agR):Bool:=inB w.rooms 2 8&&inB w.need 0 12&&inB (w.parts.length:Int) 1 12
def aqE(w:agR):Bool:=aJ5 w&&w.parts.all (arL w.rooms)
theorem aXX(w:agR)(hs:w.small):om'.call (.fn 12) [.agg [.int .i64 w.rooms,.int .i64 w.need,slv 9 true w.nn (w.parts.map acC.cells)]] []=some (.ret (.bool (aqE w)),[]):=by
 have k1:=aG2 w.rooms 2 8
 have k2:=aG2 w.need 0 12
 have k3:=aG2 (w.parts.length:Int) 1 12
 have hh:aJ5 w=(inB w.rooms 2 8&&inB w.need 0 12&&inB (w.parts.length:Int) 1 12):=rfl
 unfold aqE
 generalize inB w.rooms 2 8=c1 at *
 generalize inB w.need 0 12=c2 at *
 generalize inB (w.parts.length:Int) 1 12=c3 at *
 cases c1
 ·rw[hh]
  (refine ce Tryd.func12 ?_;simp only[Tryd.f12];(have hb:=trivial;with_reducible repeat' (first|simp only[hb,Va.down,seval,aFM.down,k1,k2,k3,akZ]|refine fsp ?_ ?_<;>intro hb|refine fd ?_|fail)))
 cases c2
 ·rw[hh]
  (refine ce Tryd.func12 ?_;simp only[Tryd.f12];(have hb:=trivial;with_reducible repeat' (first|simp only[hb,Va.down,seval,aFM.down,k1,k2,k3,akZ]|refine fsp ?_ ?_<;>intro hb|refine fd ?_|fail)))
 cases c3
 ·rw[hh]
  (refine ce Tryd.func12 ?_;simp only[Tryd.f12];(have hb:=trivial;with_reducible repeat' (first|simp only[hb,Va.down,seval,aFM.down,k1,k2,k3,akZ]|refine fsp ?_ ?_<;>intro hb|refine fd ?_|fail)))
 rw[hh]
 simp only[Bool.and_self,Bool.true_and]
 (refine ce Tryd.func12 ?_;simp only[Tryd.f12];(have hb:=trivial;with_reducible repeat' (first|simp only[hb,Va.down,seval,aFM.down,k1,k2,k3,akZ]|refine fsp ?_ ?_<;>intro hb|refine fd ?_|fail)))
 refine atG (lst 90 w.parts (fun i (zz:Unit) t h=>t 1=.ptr 0 0 0∧t 3=.int .i64 i∧(h[0]?=some (.live 3 false false [[.int .i64 w.rooms,.int .i64 w.need,slv 9 true w.nn (w.parts.map acC.cells)]]))) (fun rest zz=>rest.all (arL w.rooms)) (fun r e t h=>(e=.exit 0∧r=true)∨(e=.ret∧t 2=.bool false∧r=false)) ?_ ?_ () _ _ ?_) (fun e t h hk=>?_)
 ·rintro _ t h Q' kQ ⟨h1,h3,hA⟩
  (have hb:=trivial;with_reducible repeat' (first|simp only[hb,Va.down,seval,aFM.down,h1,h3,aoU,decide_false,hA,akZ]|refine fsp ?_ ?_<;>intro hb|refine fd ?_|fail))
  exact kQ _ _ _ (.inl ⟨rfl,rfl⟩)
 ·rintro x rest i _ t h J Q' kJ kQ hx hi ⟨h1,h3,hA⟩
  have hd:decide ((i:Int)<(w.parts.length:Int))=true:=decide_eq_true (by omega)
  have hw:=aoH hi hs.parts
  have q1:=aG2 x.one 0 (IntKind.i64.wrap (w.rooms-1))
  have q2:=aG2 x.other 0 (IntKind.i64.wrap (w.rooms-1))
  have q4:=aDK x.tested
  have q5:=aDK x.valid
  have q6:=aG2 x.test 1 1000
  have q7:=aG2 x.change 1 1000
  have hp:arL w.rooms x=(inB x.one 0 (IntKind.i64.wrap (w.rooms-1))&&inB x.other 0 (IntKind.i64.wrap (w.rooms-1))&& !(x.one==x.other)&& !(x.opn&& !x.valve)&&asD x.tested&&asD x.valid&&inB x.test 1 1000&&inB x.change 1 1000):=rfl
  have hA1:=acG hA
  generalize inB x.one 0 (IntKind.i64.wrap (w.rooms-1))=d1 at *
  generalize inB x.other 0 (IntKind.i64.wrap (w.rooms-1))=d2 at *
  cases hq3:(x.one==x.other)
  all_goals rw[hq3]at hp
  all_goals generalize asD x.tested=d4 at *
  all_goals generalize asD x.valid=d5 at *
  all_goals generalize inB x.test 1 1000=d6 at *
  all_goals generalize inB x.change 1 1000=d7 at *
  all_goals (have hb:=trivial;with_reducible repeat' (first|simp only[hb,Va.down,seval,aFM.down,h1,h3,hd,hx,hw,hA,hA1,q1,q2,hq3,q4,q5,q6,q7,acC.cells,akZ]|refine fsp ?_ ?_<;>intro hb|refine fd ?_|fail))
  all_goals first|(refine kQ _ _ _ (.inr ⟨rfl,by simp[up],?_⟩);simp_all;done)|(refine alD (kJ _ _ () ⟨?_,?_,hA1 _⟩ ?_);(simp[up,h1]);(simp[up]);(simp_all))
 ·exact⟨by simp[up,ent],by simp[up],rfl⟩
 rcases hk with⟨rfl,hr⟩|⟨rfl,h2,hr⟩
 ·rw[hr]
  (have hb:=trivial;with_reducible repeat' (first|simp only[hb,Va.down,seval,aFM.down]|refine fsp ?_ ?_<;>intro hb|refine fd ?_|fail))
 ·rw[hr]
  (have hb:=trivial;with_reducible repeat' (first|simp only[hb,Va.down,seval,aFM.down,h2]|refine fsp ?_ ?_<;>intro hb|refine fd ?_|fail))
theorem aJ2{w:agR}(h:aqE w=true):∃N,WOk w N∧w.parts.length≤12:=by
 simp only[aqE,aJ5,inB,au2,decide_eq_true_eq,ao2]at h
 obtain⟨⟨⟨⟨h1,h2⟩,h3,h4⟩,h5,h6⟩,h7⟩:=h
 refine⟨w.rooms.toNat,⟨by omega,by omega,by omega,by omega,fun e=>by rw[e]at h5;simp at h5,fun p hp=>?_⟩,by omega⟩
 have:=h7 p hp
 simp only[arL,inB,au2,decide_eq_true_eq,Bool.not_eq_true',beq_eq_false_iff_ne]at this
 obtain⟨⟨⟨⟨⟨⟨⟨a1,a2⟩,a3⟩,_⟩,_⟩,_⟩,_⟩,_⟩:=this
 rw[aqH (by omega) (by omega)]at a1 a2
 refine⟨by omega,by omega,a3⟩
def idx{α:Type}(p:α→Bool):List α→Int→Int
 | [],_=> -1
 |x::l,i=>if p x=true then i else idx p l (i+1)
theorem aJW{α:Type}(p:α→Bool):∀(l:List α) (i:Int),0≤i→decide (0≤idx p l i)=l.any p
 | [],i,_=>rfl
 |x::l,i,h=>by
  unfold idx
  split
  ·rename_i hp;simp[h,hp]
  ·rename_i hp;rw[aJW p l (i+1) (by omega)];simp[hp]
theorem aYO(p:acC)(N:Int):om'.call (.fn 66) [.agg [.int .i64 p.one,.int .i64 p.other,.bool p.valve,.bool p.opn,.int .i64 p.tested,.int .i64 p.valid,.bool p.bad,.int .i64 p.test,.int .i64 p.change],.int .i64 N] []=some (.ret (.bool (arL N p)),[]):=by
 have q1:=aCN p.one 0 (IntKind.i64.wrap (N-1))
 have q2:=aCN p.other 0 (IntKind.i64.wrap (N-1))
 have q4:=aCN p.tested 0 5000
 have q5:=aCN p.valid 0 5000
 have q6:=aCN p.test 1 1000
 have q7:=aCN p.change 1 1000
 have hp:arL N p=(inB p.one 0 (IntKind.i64.wrap (N-1))&&inB p.other 0 (IntKind.i64.wrap (N-1))&& !(p.one==p.other)&& !(p.opn&& !p.valve)&&inB p.tested 0 5000&&inB p.valid 0 5000&&inB p.test 1 1000&&inB p.change 1 1000):=rfl
 generalize inB p.one 0 (IntKind.i64.wrap (N-1))=d1 at *
 generalize inB p.other 0 (IntKind.i64.wrap (N-1))=d2 at *
 generalize inB p.tested 0 5000=d4 at *
 generalize inB p.valid 0 5000=d5 at *
 generalize inB p.test 1 1000=d6 at *
 generalize inB p.change 1 1000=d7 at *
 cases hq3:(p.one==p.other)
 all_goals rw[hq3]at hp
 all_goals rw[hp]
 all_goals (refine ce Tryd.func66 ?_;simp only[Tryd.f66];(have hb:=trivial;with_reducible repeat' (first|simp only[hb,Va.down,seval,a29.down,q1,q2,hq3,q4,q5,q6,q7]|refine fsp ?_ ?_<;>intro hb|refine fd ?_|fail)))
 all_goals simp_all
theorem aT3(w:agR)(x:acC):om'.call (.fn 65) [.agg [.int .i64 x.one,.int .i64 x.other,.bool x.valve,.bool x.opn,.int .i64 x.tested,.int .i64 x.valid,.bool x.bad,.int .i64 x.test,.int .i64 x.change],.ptr 0 0 0] [.live 3 false false [[.int .i64 w.rooms,.int .i64 w.need,slv 9 true w.nn (w.parts.map acC.cells)]]]=some (.ret (.bool (!arL w.rooms x)),[.live 3 false false [[.int .i64 w.rooms,.int .i64 w.need,slv 9 true w.nn (w.parts.map acC.cells)]]]):=by
 have h:=aYO x w.rooms
 (refine ce Tryd.func65 ?_;simp only[Tryd.f65];(have hb:=trivial;with_reducible repeat' (first|simp only[hb,Va.down,seval,a2V.down,h]|refine fsp ?_ ?_<;>intro hb|refine fd ?_|fail)))
theorem aKB{l:List acC}{nn:Bool}{g:Nat}{mm:agR}{p:acC→Bool}(hp:∀x∈l,om'.call (.fn g) (.agg [.int .i64 x.one,.int .i64 x.other,.bool x.valve,.bool x.opn,.int .i64 x.tested,.int .i64 x.valid,.bool x.bad,.int .i64 x.test,.int .i64 x.change]::[.ptr 0 0 0]) [.live 3 false false [[.int .i64 mm.rooms,.int .i64 mm.need,slv 9 true mm.nn (mm.parts.map acC.cells)]]]=some (.ret (.bool (p x)),[.live 3 false false [[.int .i64 mm.rooms,.int .i64 mm.need,slv 9 true mm.nn (mm.parts.map acC.cells)]]]))(hl:l.length≤maxLen):
 om'.call (.fn 83) [slv 9 true nn (l.map acC.cells),.func (.func g) [] [.ptr 0 0 0]] [.live 3 false false [[.int .i64 mm.rooms,.int .i64 mm.need,slv 9 true mm.nn (mm.parts.map acC.cells)]]]=some (.ret (.int .i64 (idx p l 0)),[.live 3 false false [[.int .i64 mm.rooms,.int .i64 mm.need,slv 9 true mm.nn (mm.parts.map acC.cells)]]]):=by
 (refine ce Tryd.func83 ?_;simp only[Tryd.f83];(have hb:=trivial;with_reducible repeat' (first|simp only[hb,Va.down,seval,aPK.down,akZ]|refine fsp ?_ ?_<;>intro hb|refine fd ?_|fail)))
 refine atG (lst 19 l (fun i (s:Int) t h=>s=i∧h=[.live 3 false false [[.int .i64 mm.rooms,.int .i64 mm.need,slv 9 true mm.nn (mm.parts.map acC.cells)]]]∧t 0=slv 9 true nn (l.map acC.cells)∧t 1=.func (.func g) [] [.ptr 0 0 0]∧t 7=.int .i64 l.length∧t 8=.int .i64 i)
  (fun rest s=>idx p rest s) (fun r e t h=>h=[.live 3 false false [[.int .i64 mm.rooms,.int .i64 mm.need,slv 9 true mm.nn (mm.parts.map acC.cells)]]]∧((e=.exit 0∧r= -1)∨(e=.ret∧t 4=.int .i64 r))) ?_ ?_ 0 _ _ ?_) (fun e t h hk=>?_)
 ·rintro s t h Q' kQ ⟨rfl,rfl,h0,h1,h7,h8⟩
  (have hb:=trivial;with_reducible repeat' (first|simp only[hb,Va.down,seval,aPK.down,h0,h1,h7,h8,aoU,decide_false]|refine fsp ?_ ?_<;>intro hb|refine fd ?_|fail))
  exact kQ _ _ _ ⟨rfl,.inl ⟨rfl,rfl⟩⟩
 ·rintro x rest i s t h J Q' kJ kQ hx hi ⟨rfl,rfl,h0,h1,h7,h8⟩
  have hpx:=hp x (apG hx)
  have hd:decide ((i:Int)<(l.length:Int))=true:=by simpa using hi
  (have hb:=trivial;with_reducible repeat' (first|simp only[hb,Va.down,seval,aPK.down,h0,h1,h7,h8,hd,hx,acC.cells,hpx,aoH hi hl]|refine fsp ?_ ?_<;>intro hb|refine fd ?_|fail))
  ·exact kQ _ _ _ ⟨rfl,.inr ⟨rfl,by simp[up,idx,hb]⟩⟩
  ·exact alD (kJ _ _ (i+1) ⟨by simp,rfl,by simp[up,h0],by simp[up,h1],by simp[up,h7],by simp[up]⟩ (by simp[idx,hb]))
 ·exact⟨rfl,rfl,by simp[up,ent],by simp[up,ent],by simp[up],by simp[up]⟩
 ·obtain⟨rfl,⟨rfl,hi⟩|⟨rfl,hi⟩⟩:=hk
  ·(have hb:=trivial;with_reducible repeat' (first|simp only[hb,Va.down,seval,aPK.down]|refine fsp ?_ ?_<;>intro hb|refine fd ?_|fail))
   rw[hi]
  ·(have hb:=trivial;with_reducible repeat' (first|simp only[hb,Va.down,seval,aPK.down,hi]|refine fsp ?_ ?_<;>intro hb|refine fd ?_|fail))
theorem aHJ{l:List acC}{nn:Bool}{g:Nat}{mm:agR}{p:acC→Bool}(hp:∀x∈l,om'.call (.fn g) (.agg [.int .i64 x.one,.int .i64 x.other,.bool x.valve,.bool x.opn,.int .i64 x.tested,.int .i64 x.valid,.bool x.bad,.int .i64 x.test,.int .i64 x.change]::[.ptr 0 0 0]) [.live 3 false false [[.int .i64 mm.rooms,.int .i64 mm.need,slv 9 true mm.nn (mm.parts.map acC.cells)]]]=some (.ret (.bool (p x)),[.live 3 false false [[.int .i64 mm.rooms,.int .i64 mm.need,slv 9 true mm.nn (mm.parts.map acC.cells)]]]))(hl:l.length≤maxLen):
 om'.call (.fn 64) [slv 9 true nn (l.map acC.cells),.func (.func g) [] [.ptr 0 0 0]] [.live 3 false false [[.int .i64 mm.rooms,.int .i64 mm.need,slv 9 true mm.nn (mm.parts.map acC.cells)]]]=some (.ret (.bool (l.any p)),[.live 3 false false [[.int .i64 mm.rooms,.int .i64 mm.need,slv 9 true mm.nn (mm.parts.map acC.cells)]]]):=by
 (refine ce Tryd.func64 ?_;simp only[Tryd.f64];(have hb:=trivial;with_reducible repeat' (first|simp only[hb,Va.down,seval,aKB hp hl,aJW p l 0 (Int.le_refl 0)]|refine fsp ?_ ?_<;>intro hb|refine fd ?_|fail)))
theorem aVY(w:agR)(hs:w.small):om'.call (.fn 47) [.agg [.int .i64 w.rooms,.int .i64 w.need,slv 9 true w.nn (w.parts.map acC.cells)]] []=some (.ret (.bool (aqE w)),[]):=by
 have k1:=aCN w.rooms 2 8
 have k2:=aCN w.need 0 12
 have k3:=aCN (w.parts.length:Int) 1 12
 have hcM:=aHJ (mm:=w) (l:=w.parts) (nn:=w.nn) (g:=65) (p:=fun x=> !arL w.rooms x) (fun x _=>aT3 w x) hs.parts
 have q1:w.parts.all (arL w.rooms)= !(w.parts.any fun x=> !arL w.rooms x):=List.all_eq_not_any_not
 have hh:aJ5 w=(inB w.rooms 2 8&&inB w.need 0 12&&inB (w.parts.length:Int) 1 12):=rfl
 unfold aqE
 rw[hh,q1]
 generalize inB w.rooms 2 8=c1 at *
 generalize inB w.need 0 12=c2 at *
 generalize inB (w.parts.length:Int) 1 12=c3 at *
 generalize(w.parts.any fun x=> !arL w.rooms x)=c4 at *
 cases c1<;>cases c2<;>cases c3
 all_goals (refine ce Tryd.func47 ?_;simp only[Tryd.f47];(have hb:=trivial;with_reducible repeat' (first|simp only[hb,Va.down,seval,a3G.down,k1,k2,k3,hcM,akZ]|refine fsp ?_ ?_<;>intro hb|refine fd ?_|fail)))
 all_goals simp
theorem aAE(w:agR)(hs:w.small)(d:Int):om'.call (.fn 34) [.agg [.int .i64 w.rooms,.int .i64 w.need,slv 9 true w.nn (w.parts.map acC.cells)],.int .i64 d] []=some (.ret (.tup [.ptr 0 0 0,.bool (aqE w&&asD d)]),[.live 4 false false [[.int .i64 w.rooms,.int .i64 w.need,slv 9 true w.nn (w.parts.map acC.cells),.int .i64 d]]]):=by
 have h:=aVY w hs
 have hd:=aCN d 0 5000
 rw[show inB d 0 5000=asD d from rfl]at hd
 generalize aqE w=c at *
 generalize asD d=e at *
 cases c
 ·(refine ce Tryd.func34 ?_;simp only[Tryd.f34];(have hb:=trivial;with_reducible repeat' (first|simp only[hb,Va.down,seval,a07.down,h,hd]|refine fsp ?_ ?_<;>intro hb|refine fd ?_|fail)))
 ·(refine ce Tryd.func34 ?_;simp only[Tryd.f34];(have hb:=trivial;with_reducible repeat' (first|simp only[hb,Va.down,seval,a07.down,h,hd]|refine fsp ?_ ?_<;>intro hb|refine fd ?_|fail)))
def QS(v:AV)(q:List Nat)(H:qR)(p:Nat):Prop:=
 (v=.nils∧q=[])∨∃b w rows r,v=.slr 1 b r q.length∧H[b]?=some (.live 1 true w rows)∧b≠p∧rows.drop r=q.map nvv∧r+q.length=rows.length
def scB:AV→List Nat
 | .slr _ b _ _=>[b]
 |_=>[]
theorem awE{x:Option (List AV)}{vs:List AV}{h:qR}{Q:Out→qR→Prop}(hx:x=some vs)(k:Q (.ret (asE vs)) h):RtS x h Q:=by subst hx;exact k
theorem aND{H:qR}{p:Nat}{fl w:Bool}{v:AV}{q:List Nat}(x:Nat)(hp:H[p]?=some (.live 1 fl w [[v]]))(hQ:QS v q H p)(hq:q.length≤100000000):
 ShQ om' 56 [.ptr p 0 0,.int .i64 (x:Int)] H fun o G=>o=.ret (.tup [])∧∃v' fl',G[p]?=some (.live 1 fl' true [[v']])∧QS v' (q++[x]) G p∧auV (p::scB v) H G∧(∀b∈scB v,G[b]?=some .dead)∧(acI H=true→acI G=true)∧∀b∈scB v',H.length≤b:=by
 have hpl:=qS hp
 refine aHF rfl Tryd.func56 rfl rfl ?_
 simp only[Tryd.f56]
 refine hid (fun KK iN hK=>?_)
 have hA:=acG hp
 have hS:=ap6 hpl
 rcases hQ with⟨rfl,rfl⟩|⟨b,w',rows,r,rfl,hrb,hbp,hd,hl⟩
 ·(have hb:=trivial;with_reducible repeat' (first|simp only[hb,Va.down,seval,aUV.down,hp,hA,hS]|refine fsp ?_ ?_<;>intro hb|refine fd ?_|fail))
  refine hK _ ?_
  rw[asK]
  refine awE (vs:=[]) (by simp only[Va.down,seval,aUV.down]) ⟨rfl,.slr 1 (H.length+1) 0 1,false,?_,.inr ⟨H.length+1,false,[nvv x],0,rfl,?_,by omega,rfl,rfl⟩,⟨by simp,fun b hb1 hn=>?_⟩,fun b hb1=>by simp[scB]at hb1,fun hqq=>ahG (agD hqq p rfl) rfl,fun b hb1=>by simp[scB]at hb1;omega⟩
  ·rw[ak3 (by simpa using hpl),amE hpl]
  ·rw[aoZ];rfl
  ·rw[ak3 (by simpa using hb1),alE (fun e=>hn (by rw[e];exact am5 ..))]
 ·have hbl:=qS hrb
  have hB:=acG hrb
  have hSb:=ap6 hbl
  have h39:(q.length+1≤549755813888)=True:=eq_true (by omega)
  have hg:∀l,(H.set b .dead++l)[p]?=some (.live 1 fl w [[.slr 1 b r q.length]]):=fun l=>by
   rw[ak3 (by simpa using hpl),alE hbp];exact hp
  have hg2:∀l c,(H.set b .dead++l).set p c=(H.set b .dead).set p c++l:=fun l c=>ap6 (by simpa using hpl) l c
  (have hb:=trivial;with_reducible repeat' (first|simp only[hb,Va.down,seval,aUV.down,hp,hA,hS,hrb,hB,hSb,hd,hl,h39,hg,hg2,aqF,aoZ,arY,akZ]|refine fsp ?_ ?_<;>intro hb|refine fd ?_|fail))
  have hsl:((H.set b .dead).set p (CB.live 1 false true [[AV.slr 1 (H.length+1) 0 (q.length+1)]])).length=H.length:=by simp
  refine hK _ ?_
  rw[asK]
  refine awE (vs:=[]) (by simp only[Va.down,seval,aUV.down]) ⟨rfl,.slr 1 (H.length+1) 0 (q.length+1),false,?_,.inr ⟨H.length+1,false,(q++[x]).map nvv,0,by simp,?_,by omega,rfl,by simp⟩,⟨by simp,fun c hc hn=>?_⟩,fun c hc=>?_,fun hqq=>ahG (agD (agD hqq b rfl) p rfl) rfl,fun c hc=>by simp[scB]at hc;omega⟩
  ·rw[ak3 (by omega),amE (by simpa using hpl)]
  ·rw[aoD (by omega),hsl,Nat.add_sub_cancel_left];simp[nvv]
  ·have n1:c≠p:=fun e=>hn (by rw[e];exact am5 ..)
   have n2:c≠b:=fun e=>hn (by rw[e];simp[scB])
   rw[ak3 (by omega),alE (fun e=>n1 e.symm),alE (fun e=>n2 e.symm)]
  ·simp[scB]at hc;subst hc
   rw[ak3 (by omega),alE (fun e=>hbp e.symm),amE hbl]
theorem aV9(b r k:Nat):slx Tryd.prog 28 (some (.slr 1 b r (k+1))) (some (some (.int .i64 1))) (some none)=some (.ret (.slr 1 b (r+1) k),[]):=by
 have hz:szT Tryd.prog 3=some 1:=by kernel_rfl
 simp only[slx,asB,ayS,Tryd.underlying28,hz,apQ]
 simp[apQ,r1]
 omega
theorem aS4{H:qR}{p:Nat}{fl w:Bool}{v:AV}(hp:H[p]?=some (.live 1 fl w [[v]]))(hQ:QS v [] H p):
 om'.call (.sh 57) [.ptr p 0 0] H=some (.ret (.tup [.int .i64 0,.bool false]),H):=by
 rcases hQ with⟨rfl,_⟩|⟨b,w',rows,r,rfl,hrb,hbp,hd,hl⟩
 ·(refine csh Tryd.func57 ?_;simp only[Tryd.f57];(have hb:=trivial;with_reducible repeat' (first|simp only[hb,Va.down,seval,aS1.down,hp]|refine fsp ?_ ?_<;>intro hb|refine fd ?_|fail)))
 ·simp only[au4]at hp
  (refine csh Tryd.func57 ?_;simp only[Tryd.f57];(have hb:=trivial;with_reducible repeat' (first|simp only[hb,Va.down,seval,aS1.down,hp]|refine fsp ?_ ?_<;>intro hb|refine fd ?_|fail)))
theorem aTH{H:qR}{p:Nat}{fl w:Bool}{v:AV}{x:Nat}{q:List Nat}(hp:H[p]?=some (.live 1 fl w [[v]]))(hQ:QS v (x::q) H p)(hq:q.length≤100000000):
 ShQ om' 57 [.ptr p 0 0] H fun o G=>o=.ret (.tup [.int .i64 (x:Int),.bool true])∧∃v' fl',G[p]?=some (.live 1 fl' true [[v']])∧QS v' q G p∧auV [p] H G∧scB v'=scB v∧(acI H=true→acI G=true):=by
 have hpl:=qS hp
 rcases hQ with⟨_,h⟩|⟨b,w',rows,r,rfl,hrb,hbp,hd,hl⟩
 ·cases h
 have hr0:rows[r]?=some [.int .i64 (x:Nat)]:=by
  have:=congrArg (·[0]?) hd
  simpa [nvv]using this
 have hd2:rows.drop (r+1)=q.map nvv:=by
  have:=congrArg (·.drop 1) hd
  simpa [List.drop_drop]using this
 simp only[List.length_cons]at hl hp
 have h1:decide (((q.length+1:Nat):Int)=0)=false:=decide_eq_false (by omega)
 have h2:((((q.length+1:Nat):Int))==0)=false:=by simp;omega
 have h3:((0:Int)<((q.length+1:Nat):Int))=True:=eq_true (by omega)
 have h4:((1:Int)≤((q.length+1:Nat):Int))=True:=eq_true (by omega)
 refine aHF rfl Tryd.func57 rfl rfl ?_
 simp only[Tryd.f57]
 refine hid (fun KK iN hK=>?_)
 (have hb:=trivial;with_reducible repeat' (first|simp only[hb,Va.down,seval,aS1.down,hp,hrb,hr0,h1,h2,h3,h4,aV9]|refine fsp ?_ ?_<;>intro hb|refine fd ?_|fail))
 refine hK _ ?_
 rw[aIN]
 refine awE (vs:=[.int .i64 (x:Int),.bool true]) (by simp only[Va.down,seval,aS1.down]) ⟨rfl,.slr 1 b (r+1) q.length,false,amE hpl,.inr ⟨b,w',rows,r+1,rfl,?_,hbp,hd2,by omega⟩,⟨by simp,fun b' _ hn=>alE (fun e=>hn (by simp[e]))⟩,rfl,fun hqq=>agD hqq p rfl⟩
 rw[alE (fun e=>hbp e.symm)];exact hrb
theorem aUL{H:qR}{p:Nat}{fl w:Bool}{v:AV}{q:List Nat}(x:Nat)(hp:H[p]?=some (.live 1 fl w [[v]]))(hQ:QS v q H p)(hq:q.length≤100000000):
 ShQ om' 60 [.ptr p 0 0,.int .i64 (x:Int)] H fun o G=>o=.ret (.tup [])∧∃v' fl',G[p]?=some (.live 1 fl' true [[v']])∧QS v' (x::q) G p∧auV [p] H G∧(acI H=true→acI G=true)∧∀b∈scB v',H.length≤b:=by
 have hpl:=qS hp
 have hA:=acG hp
 have hS:=ap6 hpl
 have keep:∀c l,auV [p] H (H.set p c++l):=fun c l=>⟨by simp,fun b hb1 hn=>by rw[ak3 (by simpa using hb1),alE (fun e=>hn (by simp[e]))]⟩
 have hg:∀c l,(H.set p c++l)[p]?=some c:=fun c l=>by rw[ak3 (by simpa using hpl),amE hpl]
 refine aHF rfl Tryd.func60 rfl rfl ?_
 simp only[Tryd.f60]
 refine hid (fun KK iN hK=>?_)
 rcases hQ with⟨rfl,rfl⟩|⟨b,w',rows,r,rfl,hrb,hbp,hd,hl⟩
 ·(have hb:=trivial;with_reducible repeat' (first|simp only[hb,Va.down,seval,aL1.down,hp,hA,hS]|refine fsp ?_ ?_<;>intro hb|refine fd ?_|fail))
  refine hK _ ?_
  rw[asK]
  refine awE (vs:=[]) (by simp only[Va.down,seval,aL1.down]) ⟨rfl,_,_,hg _ _,.inr ⟨H.length,false,[nvv x],0,rfl,?_,by omega,rfl,rfl⟩,keep _ _,fun hqq=>ahG (agD hqq p rfl) rfl,fun b hb1=>by simp[scB]at hb1;omega⟩
  rw[aqF];rfl
 ·have hB:=acG hrb
  cases q with
  |nil=>
   simp only[au4]at hl hp hA
   have hrl:(r≤rows.length)=True:=eq_true (by omega)
   (have hb:=trivial;with_reducible repeat' (first|simp only[hb,Va.down,seval,aL1.down,hp,hA,hS,hrb,hB,hrl]|refine fsp ?_ ?_<;>intro hb|refine fd ?_|fail))
   refine hK _ ?_
   rw[asK]
   refine awE (vs:=[]) (by simp only[Va.down,seval,aL1.down]) ⟨rfl,_,_,hg _ _,.inr ⟨H.length,false,[nvv x],0,rfl,?_,by omega,rfl,rfl⟩,keep _ _,fun hqq=>ahG (agD hqq p rfl) rfl,fun b hb1=>by simp[scB]at hb1;omega⟩
   rw[aqF];rfl
  |cons y q=>
   have hq2:(1+(q.length+1)≤549755813888)=True:=eq_true (by simp at hq;omega)
   have hrl:(r+(q.length+1)≤rows.length)=True:=eq_true (by simp at hl;omega)
   have htk:anO q.length (List.map nvv q)=List.map nvv q:=an3 (by simp)
   (have hb:=trivial;with_reducible repeat' (first|simp only[hb,Va.down,seval,aL1.down,hp,hA,hS,hrb,hB,hd,hq2,hrl,htk,aqF,aoZ,arY,akZ]|refine fsp ?_ ?_<;>intro hb|refine fd ?_|fail))
   refine hK _ ?_
   rw[asK]
   refine awE (vs:=[]) (by simp only[Va.down,seval,aL1.down]) ⟨rfl,_,_,hg _ _,.inr ⟨H.length+1,false,(x::y::q).map nvv,0,by simp;omega,?_,by omega,rfl,by simp⟩,keep _ _,fun hqq=>ahG (agD hqq p rfl) rfl,fun b hb1=>by simp[scB]at hb1;omega⟩
   rw[aoZ];rfl
theorem a1C(w:agR)(d r:Int)(wf:Bool):om'.call (.fn 58) [.ptr 0 0 0,.int .i64 r] [.live 4 false wf [[.int .i64 w.rooms,.int .i64 w.need,slv 9 true w.nn (w.parts.map acC.cells),.int .i64 d]]]=some (.ret (.func (.func 71) [] [.ptr 1 0 0,.ptr 2 0 0]),[.live 4 false wf [[.int .i64 w.rooms,.int .i64 w.need,slv 9 true w.nn (w.parts.map acC.cells),.int .i64 d]],.live 1 false false [[.ptr 0 0 0]],.live 1 true false [[.int .i64 r]]]):=by
 (refine ce Tryd.func58 ?_;simp only[Tryd.f58];(have hb:=trivial;with_reducible repeat' (first|simp only[hb,Vc.down,seval]|refine fsp ?_ ?_<;>intro hb|refine fd ?_|fail)))
theorem a2S{w:agR}{N:Nat}(hw:WOk w N){d r:Int}{y:AV}{lb rb kb:Nat}(Inv:Nat→qR→Prop)
 (hL:∀i h,Inv i h→∃w1,h[lb]?=some (.live 1 false w1 [[.ptr kb 0 0]])) (hK:∀i h,Inv i h→∃w2,h[kb]?=some (.live 4 false w2 [[.int .i64 w.rooms,.int .i64 w.need,slv 9 true w.nn (w.parts.map acC.cells),.int .i64 d]])) (hR:∀i h,Inv i h→∃w3,h[rb]?=some (.live 1 true w3 [[.int .i64 r]]))
 (hA:∀i h fl wf (rows:List (List AV)),Inv i h→Inv i (h++[.live 9 fl wf rows]))
 (hS:∀(i:Nat) (p:acC) (u:Int) h,w.parts[i]?=some p→((p.one=r∧u=p.other)∨(p.one≠r∧p.other=r∧u=p.one))→Inv i h→∃es,cl om' h (some y) (some [.int .i64 i,.int .i64 u])=some (.ret (.bool true),es)∧Inv (i+1) (ag5 h es))
 (hN:∀(i:Nat) (p:acC) h,w.parts[i]?=some p→p.one≠r→p.other≠r→Inv i h→Inv (i+1) h)
 {h0:qR} (h0I:Inv 0 h0):ShQ om' 71 [y,.ptr lb 0 0,.ptr rb 0 0] h0 fun o h'=>o=.ret (.tup [])∧Inv w.parts.length h':=by
 obtain⟨w1,hl⟩:=hL _ _ h0I
 obtain⟨w2,hk0⟩:=hK _ _ h0I
 have hlen:=hw.len
 refine aHF rfl Tryd.func71 rfl rfl ?_
 simp only[Tryd.f71]
 (have hb:=trivial;with_reducible repeat' (first|simp only[hb,Vc.down,seval,axB.down,hl,hk0,akZ]|refine fsp ?_ ?_<;>intro hb|refine fd ?_|fail))
 refine atG (lst 41 w.parts (fun i (_:Unit) t h=>t 0=y∧t 1=.ptr lb 0 0∧t 2=.ptr rb 0 0∧t 11=slv 9 true w.nn (w.parts.map acC.cells)∧t 12=.int .i64 (w.parts.length:Nat)∧t 13=.int .i64 (i:Int)∧Inv i h) (fun _ _=>()) (fun _ e t h=>e=.exit 0∧Inv w.parts.length h) ?_ ?_ () _ _ ?_) (fun e t h hk=>?_)
 ·rintro _ t h Q' kQ ⟨g0,g1,g2,g11,g12,g13,hI⟩
  (have hb:=trivial;with_reducible repeat' (first|simp only[hb,Vc.down,seval,axB.down,g12,g13,aoU,decide_false]|refine fsp ?_ ?_<;>intro hb|refine fd ?_|fail))
  exact kQ _ _ _ ⟨rfl,hI⟩
 ·rintro p rest i _ t h J Q' kJ kQ hx hi ⟨g0,g1,g2,g11,g12,g13,hI⟩
  have hdd:decide ((i:Int)<(w.parts.length:Int))=true:=decide_eq_true (by omega)
  have hww:=aoH hi (by unfold maxLen;omega)
  have hpo:=hw.part p (apG hx)
  obtain⟨w3,hr⟩:=hR _ _ hI
  have hr1:=acG hr
  have hv1:=hA _ _ true true [p.cells] hI
  have c1:decide ((0:Int)≤p.other)=true:=decide_eq_true hpo.2.1.1
  have c2:decide ((0:Int)≤p.one)=true:=decide_eq_true hpo.1.1
  have c3:decide ((0:Int)≤ -1)=false:=rfl
  by_cases e1:p.one=r
  ·have q1:(r==p.one)=true:=by simp[e1]
   obtain⟨es,hes,hv2⟩:=hS i p p.other _ hx (.inl ⟨e1,rfl⟩) hv1
   simp only[acC.cells]at hes hv2
   (have hb:=trivial;with_reducible repeat' (first|simp only[hb,Vc.down,seval,axB.down,g0,g1,g2,g11,g12,g13,hdd,hww,hx,hr,hr1,q1,c1,hes,acC.cells]|refine fsp ?_ ?_<;>intro hb|refine fd ?_|fail))
   exact alD (kJ _ _ () ⟨by simp[up,g0],by simp[up,g1],by simp[up,g2],by simp[up,g11],by simp[up,g12],by simp[up],hv2⟩ rfl)
  ·have q1:(r==p.one)=false:=by simp;exact fun e=>e1 e.symm
   by_cases e2:p.other=r
   ·have q2:(r==p.other)=true:=by simp[e2]
    obtain⟨es,hes,hv2⟩:=hS i p p.one _ hx (.inr ⟨e1,e2,rfl⟩) hv1
    simp only[acC.cells]at hes hv2
    (have hb:=trivial;with_reducible repeat' (first|simp only[hb,Vc.down,seval,axB.down,g0,g1,g2,g11,g12,g13,hdd,hww,hx,hr,hr1,q1,q2,c2,hes,acC.cells]|refine fsp ?_ ?_<;>intro hb|refine fd ?_|fail))
    exact alD (kJ _ _ () ⟨by simp[up,g0],by simp[up,g1],by simp[up,g2],by simp[up,g11],by simp[up,g12],by simp[up],hv2⟩ rfl)
   ·have q2:(r==p.other)=false:=by simp;exact fun e=>e2 e.symm
    have hv2:=hN i p _ hx e1 e2 hv1
    simp only[acC.cells]at hv2
    (have hb:=trivial;with_reducible repeat' (first|simp only[hb,Vc.down,seval,axB.down,g0,g1,g2,g11,g12,g13,hdd,hww,hx,hr,hr1,q1,q2,c3,acC.cells]|refine fsp ?_ ?_<;>intro hb|refine fd ?_|fail))
    exact alD (kJ _ _ () ⟨by simp[up,g0],by simp[up,g1],by simp[up,g2],by simp[up,g11],by simp[up,g12],by simp[up],hv2⟩ rfl)
 ·exact⟨by simp[up,ent],by simp[up,ent],by simp[up,ent],by simp[up],by simp[up],by simp[up],h0I⟩
 obtain⟨rfl,hI⟩:=hk
 (have hb:=trivial;with_reducible repeat' (first|simp only[hb,Vc.down,seval,axB.down]|refine fsp ?_ ?_<;>intro hb|refine fd ?_|fail))
 exact hI
theorem QS.cln{v:AV}{q:List Nat}{H:qR}{p:Nat}(h:QS v q H p):QS v q (clH H) p:=by
 rcases h with h|⟨b,w,rows,r,h1,h2,h3,h4,h5⟩
 ·exact .inl h
 ·exact .inr ⟨b,false,rows,r,h1,ajX h2,h3,h4,h5⟩
theorem QS.lt{v:AV}{q:List Nat}{H:qR}{p:Nat}(h:QS v q H p):∀b∈scB v,b<H.length∧∃w rows,H[b]?=some (.live 1 true w rows):=by
 rcases h with⟨rfl,_⟩|⟨b,w,rows,r,rfl,h2,_⟩
 ·intro b hb1;simp[scB]at hb1
 ·intro b' hb1;simp[scB]at hb1;subst hb1;exact⟨qS h2,w,rows,h2⟩
theorem aU7{h:qR}(hq:acI h=true){p:Nat}{fl w:Bool}{v:AV}{q:List Nat}(x:Nat)(hp:h[p]?=some (.live 1 fl w [[v]]))(hQ:QS v q h p)(hl:q.length≤100000000):
 ∃es M,cl om' h (some (.func (.func 56) [] [])) (some [.ptr p 0 0,.int .i64 (x:Int)])=some (.ret (.tup []),es)∧ag5 h es=M∧h.length≤M.length∧acI M=true∧(∃v' fl',M[p]?=some (.live 1 fl' true [[v']])∧QS v' (q++[x]) M p∧∀b∈scB v',h.length≤b)∧(∀b c,b∉p::scB v→h[b]?=some c→M[b]?=some c)∧∀b∈scB v,M[b]?=some .dead:=by
 have hX:∀G:qR,(∃f row,G[p]?=some (.live 1 f true row))→(∀b∈scB v,G[b]?=some .dead)→∀b∈p::scB v,b<h.length∧∀c0 c,h[b]?=some c0→G[b]?=some c→c0.isLive=true∧c0.quiet c=false:=fun G g1 g2 b hb1=>by
  rcases ao5.1 hb1 with rfl|hb1
  ·obtain⟨f,row,g1⟩:=g1
   refine⟨qS hp,fun c0 c k1 k2=>?_⟩
   rw[hp]at k1;rw[g1]at k2;cases k1;cases k2;exact⟨rfl,rfl⟩
  ·obtain⟨h1,w',rows,h2⟩:=hQ.lt b hb1
   refine⟨h1,fun c0 c k1 k2=>?_⟩
   rw[h2]at k1;rw[g2 b hb1]at k2;cases k1;cases k2;exact⟨rfl,rfl⟩
 obtain⟨o,G,es,e1,e2,rfl,v',fl',k1,k2,K,k4,k5,k6⟩:=aAK rfl rfl (aND x (ajX hp) hQ.cln hl) (fun o G hQ=>by
  obtain⟨_,v',fl',k1,k2,K,k4,_⟩:=hQ
  exact(apY hq K (hX G ⟨_,_,k1⟩ k4)).1)
 have X:=hX G ⟨_,_,k1⟩ k4
 obtain⟨_,m1,m2,m3,m4⟩:=apY hq K X
 rw[af4]at k6
 have hle:h.length≤G.length:=by have:=K.len;rwa[af4]at this
 refine⟨es,_,e1,e2,by rw[m1];exact hle,av7 hq K X (k5 (ao0 hq)),⟨v',fl',m4 p (am5 ..) _ k1,?_,k6⟩,fun b c hn hc=>by rw[m3 b (qS hc) hn];exact hc,fun b hb=>m4 b (arZ _ hb) _ (k4 b hb)⟩
 rcases k2 with h1|⟨b,w',rows,r,h1,h2,h3,h4,h5⟩
 ·exact .inl h1
 ·exact .inr ⟨b,w',rows,r,h1,by rw[m2 b (k6 b (by rw[h1];simp[scB]))];exact h2,h3,h4,h5⟩
theorem aJK{h:qR}{p:Nat}{fl w:Bool}{v:AV}(hp:h[p]?=some (.live 1 fl w [[v]]))(G:qR)(g1:∃f row,G[p]?=some (.live 1 f true row)):∀b∈[p],b<h.length∧∀c0 c,h[b]?=some c0→G[b]?=some c→c0.isLive=true∧c0.quiet c=false:=fun b hb1=>by
 simp at hb1;subst hb1
 obtain⟨f,row,g1⟩:=g1
 refine⟨qS hp,fun c0 c k1 k2=>?_⟩
 rw[hp]at k1;rw[g1]at k2;cases k1;cases k2;exact⟨rfl,rfl⟩
theorem a0M{h:qR}(hq:acI h=true){p:Nat}{fl w:Bool}{v:AV}{q:List Nat}(x:Nat)(hp:h[p]?=some (.live 1 fl w [[v]]))(hQ:QS v q h p)(hl:q.length≤100000000):
 ∃es M,cl om' h (some (.func (.func 60) [] [])) (some [.ptr p 0 0,.int .i64 (x:Int)])=some (.ret (.tup []),es)∧ag5 h es=M∧h.length≤M.length∧acI M=true∧(∃v' fl',M[p]?=some (.live 1 fl' true [[v']])∧QS v' (x::q) M p∧∀b∈scB v',h.length≤b)∧∀b c,b≠p→h[b]?=some c→M[b]?=some c:=by
 obtain⟨o,G,es,e1,e2,rfl,v',fl',k1,k2,K,k5,k6⟩:=aAK rfl rfl (aUL x (ajX hp) hQ.cln hl) (fun o G hQ=>by
  obtain⟨_,v',fl',k1,k2,K,_⟩:=hQ
  exact(apY hq K (aJK hp G ⟨_,_,k1⟩)).1)
 have X:=aJK hp G ⟨_,_,k1⟩
 obtain⟨_,m1,m2,m3,m4⟩:=apY hq K X
 rw[af4]at k6
 have hle:h.length≤G.length:=by have:=K.len;rwa[af4]at this
 refine⟨es,_,e1,e2,by rw[m1];exact hle,av7 hq K X (k5 (ao0 hq)),⟨v',fl',m4 p (am5 ..) _ k1,?_,k6⟩,fun b c hn hc=>by rw[m3 b (qS hc) (by simpa using hn)];exact hc⟩
 rcases k2 with h1|⟨b,w',rows,r,h1,h2,h3,h4,h5⟩
 ·exact .inl h1
 ·exact .inr ⟨b,w',rows,r,h1,by rw[m2 b (k6 b (by rw[h1];simp[scB]))];exact h2,h3,h4,h5⟩
theorem a0B{h:qR}(hq:acI h=true){p:Nat}{fl w:Bool}{v:AV}(hp:h[p]?=some (.live 1 fl w [[v]]))(hQ:QS v [] h p):
 cl om' h (some (.func (.func 57) [] [])) (some [.ptr p 0 0])=some (.ret (.tup [.int .i64 0,.bool false]),[]):=
 aUW rfl rfl (aS4 (ajX hp) hQ.cln) hq
theorem aVH{h:qR}(hq:acI h=true){p:Nat}{fl w:Bool}{v:AV}{x:Nat}{q:List Nat}(hp:h[p]?=some (.live 1 fl w [[v]]))(hQ:QS v (x::q) h p)(hl:q.length≤100000000):
 ∃es M,cl om' h (some (.func (.func 57) [] [])) (some [.ptr p 0 0])=some (.ret (.tup [.int .i64 (x:Int),.bool true]),es)∧ag5 h es=M∧h.length≤M.length∧acI M=true∧(∃v' fl',M[p]?=some (.live 1 fl' true [[v']])∧QS v' q M p∧scB v'=scB v)∧∀b c,b≠p→h[b]?=some c→M[b]?=some c:=by
 obtain⟨o,G,es,e1,e2,rfl,v',fl',k1,k2,K,k4,k5⟩:=aAK rfl rfl (aTH (ajX hp) hQ.cln hl) (fun o G hQ=>by
  obtain⟨_,v',fl',k1,k2,K,_⟩:=hQ
  exact(apY hq K (aJK hp G ⟨_,_,k1⟩)).1)
 have X:=aJK hp G ⟨_,_,k1⟩
 obtain⟨_,m1,m2,m3,m4⟩:=apY hq K X
 have hle:h.length≤G.length:=by have:=K.len;rwa[af4]at this
 have same:∀b c,b≠p→h[b]?=some c→(mrg h G)[b]?=some c:=fun b c hn hc=>by rw[m3 b (qS hc) (by simpa using hn)];exact hc
 refine⟨es,_,e1,e2,by rw[m1];exact hle,av7 hq K X (k5 (ao0 hq)),⟨v',fl',m4 p (am5 ..) _ k1,?_,k4⟩,same⟩
 rcases k2 with h1|⟨b,w',rows,r,h1,h2,h3,h4,h5⟩
 ·exact .inl h1
 ·have hbv:b∈scB v:=by rw[←k4,h1];simp[scB]
  obtain⟨_,w0,rows0,hh⟩:=hQ.lt b hbv
  have hr:(hf (mrg h G) b).bind agY=(hf G b).bind agY:=aLZ hq K X b
  have hM:=same b _ h3 hh
  have e3:rows0=rows:=by
   have a1:((mrg h G)[b]?).bind agY=(G[b]?).bind agY:=hr
   rw[hM,h2]at a1
   simp[agY]at a1;exact a1
  subst e3
  exact .inr ⟨b,w0,rows0,r,h1,hM,h3,h4,h5⟩
end Go.Proofs.YtckfcfcmfjfchaaDoor
