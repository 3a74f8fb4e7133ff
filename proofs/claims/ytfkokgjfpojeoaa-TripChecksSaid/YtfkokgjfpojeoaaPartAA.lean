/- The functions of the layer, walked. -/
import Derived.Test.YtfkokgjfpojeoaaLibD
import Derived.Test.YtfkokgjfpojeoaaChecked
import Derived.Test.YtfkokgjfpojeoaaLibE
import Derived.Test.YtfkokgjfpojeoaaRows
import Derived.ProofKit
import Derived.LaidMore
import Derived.OpenShut
open And renaming intro→aaC
open List renaming length_map→aaD,mem_of_getElem?→abM,getElem?_eq_getElem→ae4,take_add_one→afC,all_eq_not_any_not→ag9
open Int renaming lt_irrefl→aaW,le_refl→ab9,natCast_zero→acZ
open Bool renaming eq_false_iff→aa5,not_true→abW,not_false→ab6,true_and→ab8,false_and→acB,and_true→acM,and_false→acT,not_eq_eq_eq_not→afP,and_eq_true→agI
open Nat renaming add_sub_cancel→afB
set_option linter.unusedSimpArgs false
set_option linter.unusedVariables false
namespace Go.Proofs.Ytfkokgjfpojeoaa
open Go.Ev
set_option maxRecDepth 100000
theorem ac7(h:Rr)(b r o:Nat):ld Try.prog 27 h (some (.ptr b r o))=ldR (agH (h[b]?) r) o 7:=aoR ⟨by kernel_rfl,by kernel_rfl⟩ h b r o
theorem aeK(h:Rr)(b r o:Nat):ld Try.prog 25 h (some (.ptr b r o))=ldC (agH (h[b]?) r) o:=anJ ⟨by kernel_rfl,1,by kernel_rfl⟩ h b r o
theorem asK(h:Rr)(c:AV)(cs:List AV):ld Try.prog 25 h (some (.iptr (c::cs)))=some (.ret c,[]):=atI ⟨by kernel_rfl,1,by kernel_rfl⟩ h c cs
theorem acO(fl nn:Bool)(rows:List (List AV)):ln Try.prog 25 (some (slv 1 fl nn rows))=some (.ret (.int .i64 rows.length),[]):=akG ⟨_,Try.underlying25,by kernel_rfl⟩ fl nn rows
theorem afQ(b r o:Nat):fa Try.prog 27 (some (.ptr b r o)) 3=some (.ret (.ptr b r (o+3)),[]):=abH (show abX Try.prog 27 3 3 1 from⟨_,_,Try.underlying27,rfl,rfl,by kernel_rfl,by decide⟩) b r o
theorem abL(h:Rr)(b r o:Nat):ld Try.prog 3 h (some (.ptr b r o))=ldC (agH (h[b]?) r) o:=anJ ⟨by kernel_rfl,1,by kernel_rfl⟩ h b r o
theorem adZ(h:Rr)(c:AV)(cs:List AV):ld Try.prog 3 h (some (.iptr (c::cs)))=some (.ret c,[]):=atI ⟨by kernel_rfl,1,by kernel_rfl⟩ h c cs
theorem acS(b r o:Nat):fa Try.prog 27 (some (.ptr b r o)) 1=some (.ret (.ptr b r (o+1)),[]):=abH (show abX Try.prog 27 1 1 1 from⟨_,_,Try.underlying27,rfl,rfl,by kernel_rfl,by decide⟩) b r o
theorem adF(h:Rr)(b r o:Nat):ld Try.prog 23 h (some (.ptr b r o))=ldC (agH (h[b]?) r) o:=anJ ⟨by kernel_rfl,1,by kernel_rfl⟩ h b r o
theorem ad1(fl nn:Bool)(rows:List (List AV)):ln Try.prog 23 (some (slv 4 fl nn rows))=some (.ret (.int .i64 rows.length),[]):=akG ⟨_,Try.underlying23,by kernel_rfl⟩ fl nn rows
theorem af6(fl nn:Bool)(rows:List (List AV))(k:IntKind)(i:Int):ia Try.prog 23 (some (slv 4 fl nn rows)) (some (.int k i))=if 0≤i then r1 ((rows[i.toNat]?).map .iptr)else none:=akP ⟨_,Try.underlying23,by kernel_rfl⟩ fl nn rows k i
theorem anZ(h:Rr)(b r o:Nat):ld Try.prog 48 h (some (.ptr b r o))=ldR (agH (h[b]?) r) o 4:=aoR ⟨by kernel_rfl,by kernel_rfl⟩ h b r o
theorem agV(h:Rr)(cs:List AV):ld Try.prog 48 h (some (.iptr cs))=if 4≤cs.length then some (.ret (.agg (cs.take 4)),[])else none:=atX ⟨by kernel_rfl,by kernel_rfl⟩ h cs
theorem aq5:aeD Try.prog 48=some (.agg [.nils,.int .i64 0,.int .i64 0,.bool false]):=by kernel_rfl
theorem aqV(h:Rr)(b r o:Nat)(v:AV):st_ Try.prog 48 h (some (.ptr b r o)) (some v)=sv 4 (h[b]?) b r o (aaE v):=anI (by kernel_rfl) h b r o v
theorem afI(b r o:Nat):fa Try.prog 48 (some (.ptr b r o)) 0=some (.ret (.ptr b r (o+0)),[]):=abH (show abX Try.prog 48 0 0 1 from⟨_,_,Try.underlying48,rfl,rfl,by kernel_rfl,by decide⟩) b r o
theorem aq0(cs:List AV):fa Try.prog 48 (some (.iptr cs)) 0=if 0+1≤cs.length then some (.ret (.iptr (cs.drop 0)),[])else none:=apQ (show abX Try.prog 48 0 0 1 from⟨_,_,Try.underlying48,rfl,rfl,by kernel_rfl,by decide⟩) cs
theorem aeE(fl nn:Bool)(rows:List (List AV))(k:IntKind)(i:Int):ia Try.prog 25 (some (slv 1 fl nn rows)) (some (.int k i))=if 0≤i then r1 ((rows[i.toNat]?).map .iptr)else none:=akP ⟨_,Try.underlying25,by kernel_rfl⟩ fl nn rows k i
theorem adB(b r o:Nat):fa Try.prog 27 (some (.ptr b r o)) 0=some (.ret (.ptr b r (o+0)),[]):=abH (show abX Try.prog 27 0 0 1 from⟨_,_,Try.underlying27,rfl,rfl,by kernel_rfl,by decide⟩) b r o
theorem adS(h:Rr)(b r o:Nat):ld Try.prog 22 h (some (.ptr b r o))=ldC (agH (h[b]?) r) o:=anJ ⟨by kernel_rfl,1,by kernel_rfl⟩ h b r o
theorem aiF(fl nn:Bool)(rows:List (List AV))(k:IntKind)(i:Int):ia Try.prog 22 (some (slv 3 fl nn rows)) (some (.int k i))=if 0≤i then r1 ((rows[i.toNat]?).map .iptr)else none:=akP ⟨_,Try.underlying22,by kernel_rfl⟩ fl nn rows k i
theorem agR(h:Rr)(cs:List AV):ld Try.prog 50 h (some (.iptr cs))=if 3≤cs.length then some (.ret (.agg (cs.take 3)),[])else none:=atX ⟨by kernel_rfl,by kernel_rfl⟩ h cs
theorem am5:aeD Try.prog 50=some (.agg [.int .i64 0,.int .i64 0,.bool false]):=by kernel_rfl
theorem anX(h:Rr)(b r o:Nat)(v:AV):st_ Try.prog 50 h (some (.ptr b r o)) (some v)=sv 3 (h[b]?) b r o (aaE v):=anI (by kernel_rfl) h b r o v
theorem alF(b r o:Nat):fa Try.prog 50 (some (.ptr b r o)) 2=some (.ret (.ptr b r (o+2)),[]):=abH (show abX Try.prog 50 2 2 1 from⟨_,_,Try.underlying50,rfl,rfl,by kernel_rfl,by decide⟩) b r o
theorem akU(h:Rr)(b r o:Nat):ld Try.prog 4 h (some (.ptr b r o))=ldC (agH (h[b]?) r) o:=anJ ⟨by kernel_rfl,1,by kernel_rfl⟩ h b r o
theorem avI(h:Rr)(c:AV)(cs:List AV):ld Try.prog 4 h (some (.iptr (c::cs)))=some (.ret c,[]):=atI ⟨by kernel_rfl,1,by kernel_rfl⟩ h c cs
theorem afG(b r o:Nat):fa Try.prog 50 (some (.ptr b r o)) 0=some (.ret (.ptr b r (o+0)),[]):=abH (show abX Try.prog 50 0 0 1 from⟨_,_,Try.underlying50,rfl,rfl,by kernel_rfl,by decide⟩) b r o
theorem afU(b r o:Nat):fa Try.prog 50 (some (.ptr b r o)) 1=some (.ret (.ptr b r (o+1)),[]):=abH (show abX Try.prog 50 1 1 1 from⟨_,_,Try.underlying50,rfl,rfl,by kernel_rfl,by decide⟩) b r o
theorem auR:ln Try.prog 51 (some .nils)=some (.ret (.int .i64 0),[]):=atE (n:=1) ⟨_,Try.underlying51,by kernel_rfl⟩
theorem av0(fl nn:Bool)(rows:List (List AV)):ln Try.prog 51 (some (slv 1 fl nn rows))=some (.ret (.int .i64 rows.length),[]):=akG ⟨_,Try.underlying51,by kernel_rfl⟩ fl nn rows
theorem alE(b r o:Nat):fa Try.prog 48 (some (.ptr b r o)) 3=some (.ret (.ptr b r (o+3)),[]):=abH (show abX Try.prog 48 3 3 1 from⟨_,_,Try.underlying48,rfl,rfl,by kernel_rfl,by decide⟩) b r o
theorem afN(b r o:Nat):fa Try.prog 48 (some (.ptr b r o)) 2=some (.ret (.ptr b r (o+2)),[]):=abH (show abX Try.prog 48 2 2 1 from⟨_,_,Try.underlying48,rfl,rfl,by kernel_rfl,by decide⟩) b r o
theorem awH(fl nn:Bool)(rows:List (List AV))(k:IntKind)(i:Int):ia Try.prog 51 (some (slv 1 fl nn rows)) (some (.int k i))=if 0≤i then r1 ((rows[i.toNat]?).map .iptr)else none:=akP ⟨_,Try.underlying51,by kernel_rfl⟩ fl nn rows k i
theorem afJ(b r o:Nat):fa Try.prog 48 (some (.ptr b r o)) 1=some (.ret (.ptr b r (o+1)),[]):=abH (show abX Try.prog 48 1 1 1 from⟨_,_,Try.underlying48,rfl,rfl,by kernel_rfl,by decide⟩) b r o
theorem agB(fl nn:Bool)(rows:List (List AV)):ln Try.prog 22 (some (slv 3 fl nn rows))=some (.ret (.int .i64 rows.length),[]):=akG ⟨_,Try.underlying22,by kernel_rfl⟩ fl nn rows
theorem afH(b r o:Nat):fa Try.prog 27 (some (.ptr b r o)) 2=some (.ret (.ptr b r (o+2)),[]):=abH (show abX Try.prog 27 2 2 1 from⟨_,_,Try.underlying27,rfl,rfl,by kernel_rfl,by decide⟩) b r o
theorem agN(h:Rr)(b r o:Nat):ld Try.prog 24 h (some (.ptr b r o))=ldC (agH (h[b]?) r) o:=anJ ⟨by kernel_rfl,1,by kernel_rfl⟩ h b r o
theorem agL(fl nn:Bool)(rows:List (List AV)):ln Try.prog 24 (some (slv 5 fl nn rows))=some (.ret (.int .i64 rows.length),[]):=akG ⟨_,Try.underlying24,by kernel_rfl⟩ fl nn rows
theorem aAB:aeD Try.prog 56=some (.agg [.int .i64 0,.bool false]):=by kernel_rfl
theorem awO:aeD Try.prog 59=some (.agg [.int .i64 0,.int .i64 0,.nils,.int .i64 0,.int .i64 0]):=by kernel_rfl
theorem alV(b r o:Nat):fa Try.prog 27 (some (.ptr b r o)) 5=some (.ret (.ptr b r (o+5)),[]):=abH (show abX Try.prog 27 5 5 1 from⟨_,_,Try.underlying27,rfl,rfl,by kernel_rfl,by decide⟩) b r o
theorem ah9(fl nn:Bool)(rows:List (List AV))(k:IntKind)(i:Int):ia Try.prog 24 (some (slv 5 fl nn rows)) (some (.int k i))=if 0≤i then r1 ((rows[i.toNat]?).map .iptr)else none:=akP ⟨_,Try.underlying24,by kernel_rfl⟩ fl nn rows k i
theorem ahS(b r o:Nat):fa Try.prog 59 (some (.ptr b r o)) 2=some (.ret (.ptr b r (o+2)),[]):=abH (show abX Try.prog 59 2 2 1 from⟨_,_,Try.underlying59,rfl,rfl,by kernel_rfl,by decide⟩) b r o
theorem aqL(cs:List AV):fa Try.prog 59 (some (.iptr cs)) 2=if 2+1≤cs.length then some (.ret (.iptr (cs.drop 2)),[])else none:=apQ (show abX Try.prog 59 2 2 1 from⟨_,_,Try.underlying59,rfl,rfl,by kernel_rfl,by decide⟩) cs
theorem ajD(h:Rr)(b r o:Nat):ld Try.prog 57 h (some (.ptr b r o))=ldC (agH (h[b]?) r) o:=anJ ⟨by kernel_rfl,1,by kernel_rfl⟩ h b r o
theorem as3(h:Rr)(c:AV)(cs:List AV):ld Try.prog 57 h (some (.iptr (c::cs)))=some (.ret c,[]):=atI ⟨by kernel_rfl,1,by kernel_rfl⟩ h c cs
theorem aiG(fl nn:Bool)(rows:List (List AV)):ln Try.prog 57 (some (slv 2 fl nn rows))=some (.ret (.int .i64 rows.length),[]):=akG ⟨_,Try.underlying57,by kernel_rfl⟩ fl nn rows
theorem ahQ(b r o:Nat):fa Try.prog 27 (some (.ptr b r o)) 6=some (.ret (.ptr b r (o+6)),[]):=abH (show abX Try.prog 27 6 6 1 from⟨_,_,Try.underlying27,rfl,rfl,by kernel_rfl,by decide⟩) b r o
theorem au9(ps:List (Nat × AV)):ai1 Try.prog 86 ps=(aeU (fun i=>([(0,1),(1,1)]:List (Nat × Nat))[i]?) (aaE (.agg [.int .i64 0,.int .i64 0])) ps).map .agg:=by kernel_rfl
theorem awZ:aeD Try.prog 86=some (.agg [.int .i64 0,.int .i64 0]):=by kernel_rfl
theorem ayX(h:Rr)(b r o:Nat)(v:AV):st_ Try.prog 86 h (some (.ptr b r o)) (some v)=sv 2 (h[b]?) b r o (aaE v):=anI (by kernel_rfl) h b r o v
theorem alL(b r o:Nat):fa Try.prog 86 (some (.ptr b r o)) 0=some (.ret (.ptr b r (o+0)),[]):=abH (show abX Try.prog 86 0 0 1 from⟨_,_,Try.underlying86,rfl,rfl,by kernel_rfl,by decide⟩) b r o
theorem alI(b r o:Nat):fa Try.prog 86 (some (.ptr b r o)) 1=some (.ret (.ptr b r (o+1)),[]):=abH (show abX Try.prog 86 1 1 1 from⟨_,_,Try.underlying86,rfl,rfl,by kernel_rfl,by decide⟩) b r o
theorem afD(b r o:Nat):fa Try.prog 27 (some (.ptr b r o)) 4=some (.ret (.ptr b r (o+4)),[]):=abH (show abX Try.prog 27 4 4 1 from⟨_,_,Try.underlying27,rfl,rfl,by kernel_rfl,by decide⟩) b r o
theorem amN(h:Rr)(b r o:Nat):ld Try.prog 59 h (some (.ptr b r o))=ldR (agH (h[b]?) r) o 5:=aoR ⟨by kernel_rfl,by kernel_rfl⟩ h b r o
theorem ajA(h:Rr)(cs:List AV):ld Try.prog 59 h (some (.iptr cs))=if 5≤cs.length then some (.ret (.agg (cs.take 5)),[])else none:=atX ⟨by kernel_rfl,by kernel_rfl⟩ h cs
theorem ahZ(b r o:Nat):fa Try.prog 59 (some (.ptr b r o)) 1=some (.ret (.ptr b r (o+1)),[]):=abH (show abX Try.prog 59 1 1 1 from⟨_,_,Try.underlying59,rfl,rfl,by kernel_rfl,by decide⟩) b r o
theorem asT(h:Rr)(b r o:Nat):ld Try.prog 86 h (some (.ptr b r o))=ldR (agH (h[b]?) r) o 2:=aoR ⟨by kernel_rfl,by kernel_rfl⟩ h b r o
theorem apB(base len:Nat)(ps:List (Nat × AV)):rD (aa7 Try.prog base 51 len ps)=bsK 1 (.bool false) base len ps:=aKB (e:=4) (by kernel_rfl) (by kernel_rfl) (by kernel_rfl) base len ps
theorem aiS{O:Orc}(t:List AV)(h:Rr)(s x:Operand):abV O Try.prog t h (.call ⟨.builtin .append,#[s,x],#[51,51]⟩)=apO Try.prog 51 h (aaA t s) (aaA t x):=aH6 t h s x 51 51 _ Try.underlying51
theorem aoT(h:Rr)(s:AV)(a b r l:Nat):apO Try.prog 51 h (some s) (some (.slr a b r l))=apK 1 h (some s) (srK 1 h (some (.slr a b r l))):=aHX (e:=4) (b:=1) (z:=.bool false) (by kernel_rfl) (by kernel_rfl) (by kernel_rfl) (by kernel_rfl) (by decide+kernel) h s _ (fun q e=>by cases e)
theorem azO(h:Rr)(b r o:Nat)(v:AV):st_ Try.prog 59 h (some (.ptr b r o)) (some v)=sv 5 (h[b]?) b r o (aaE v):=anI (by kernel_rfl) h b r o v
theorem asJ(h:Rr)(b r o:Nat):ld Try.prog 90 h (some (.ptr b r o))=ldR (agH (h[b]?) r) o 2:=aoR ⟨by kernel_rfl,by kernel_rfl⟩ h b r o
theorem as7(ps:List (Nat × AV)):ai1 Try.prog 126 ps=(aeU (fun i=>([(0,5),(5,2),(7,2)]:List (Nat × Nat))[i]?) (aaE (.agg [.int .i64 0,.int .i64 0,.nils,.int .i64 0,.int .i64 0,.int .i64 0,.int .i64 0,.int .i64 0,.int .i64 0])) ps).map .agg:=by kernel_rfl
theorem ak1(fl nn:Bool)(rows:List (List AV))(k:IntKind)(i:Int):ia Try.prog 57 (some (slv 2 fl nn rows)) (some (.int k i))=if 0≤i then r1 ((rows[i.toNat]?).map .iptr)else none:=akP ⟨_,Try.underlying57,by kernel_rfl⟩ fl nn rows k i
theorem ahK(b r o:Nat):fa Try.prog 56 (some (.ptr b r o)) 0=some (.ret (.ptr b r (o+0)),[]):=abH (show abX Try.prog 56 0 0 1 from⟨_,_,Try.underlying56,rfl,rfl,by kernel_rfl,by decide⟩) b r o
theorem aq7(cs:List AV):fa Try.prog 56 (some (.iptr cs)) 0=if 0+1≤cs.length then some (.ret (.iptr (cs.drop 0)),[])else none:=apQ (show abX Try.prog 56 0 0 1 from⟨_,_,Try.underlying56,rfl,rfl,by kernel_rfl,by decide⟩) cs
theorem ahW(b r o:Nat):fa Try.prog 59 (some (.ptr b r o)) 0=some (.ret (.ptr b r (o+0)),[]):=abH (show abX Try.prog 59 0 0 1 from⟨_,_,Try.underlying59,rfl,rfl,by kernel_rfl,by decide⟩) b r o
theorem ahH(b r o:Nat):fa Try.prog 59 (some (.ptr b r o)) 3=some (.ret (.ptr b r (o+3)),[]):=abH (show abX Try.prog 59 3 3 1 from⟨_,_,Try.underlying59,rfl,rfl,by kernel_rfl,by decide⟩) b r o
theorem ahD(b r o:Nat):fa Try.prog 59 (some (.ptr b r o)) 4=some (.ret (.ptr b r (o+4)),[]):=abH (show abX Try.prog 59 4 4 1 from⟨_,_,Try.underlying59,rfl,rfl,by kernel_rfl,by decide⟩) b r o
theorem ar5(b r o:Nat):fa Try.prog 56 (some (.ptr b r o)) 1=some (.ret (.ptr b r (o+1)),[]):=abH (show abX Try.prog 56 1 1 1 from⟨_,_,Try.underlying56,rfl,rfl,by kernel_rfl,by decide⟩) b r o
theorem arT(b r o:Nat):fa Try.prog 90 (some (.ptr b r o)) 0=some (.ret (.ptr b r (o+0)),[]):=abH (show abX Try.prog 90 0 0 1 from⟨_,_,Try.underlying90,rfl,rfl,by kernel_rfl,by decide⟩) b r o
theorem anD(h:Rr)(cs:List AV):ld Try.prog 56 h (some (.iptr cs))=if 2≤cs.length then some (.ret (.agg (cs.take 2)),[])else none:=atX ⟨by kernel_rfl,by kernel_rfl⟩ h cs
theorem ax7(h:Rr)(b r o:Nat)(v:AV):st_ Try.prog 56 h (some (.ptr b r o)) (some v)=sv 2 (h[b]?) b r o (aaE v):=anI (by kernel_rfl) h b r o v
theorem alA(h:Rr)(b r o:Nat):ld Try.prog 126 h (some (.ptr b r o))=ldR (agH (h[b]?) r) o 9:=aoR ⟨by kernel_rfl,by kernel_rfl⟩ h b r o
theorem aeZ(b r o:Nat):fa Try.prog 126 (some (.ptr b r o)) 0=some (.ret (.ptr b r (o+0)),[]):=abH (show abX Try.prog 126 0 0 5 from⟨_,_,Try.underlying126,rfl,rfl,by kernel_rfl,by decide⟩) b r o
theorem ajG(b r o:Nat):fa Try.prog 126 (some (.ptr b r o)) 1=some (.ret (.ptr b r (o+5)),[]):=abH (show abX Try.prog 126 1 5 2 from⟨_,_,Try.underlying126,rfl,rfl,by kernel_rfl,by decide⟩) b r o
theorem ajU(b r o:Nat):fa Try.prog 126 (some (.ptr b r o)) 2=some (.ret (.ptr b r (o+7)),[]):=abH (show abX Try.prog 126 2 7 2 from⟨_,_,Try.underlying126,rfl,rfl,by kernel_rfl,by decide⟩) b r o
theorem aqT(b r o:Nat):fa Try.prog 90 (some (.ptr b r o)) 1=some (.ret (.ptr b r (o+1)),[]):=abH (show abX Try.prog 90 1 1 1 from⟨_,_,Try.underlying90,rfl,rfl,by kernel_rfl,by decide⟩) b r o
def TY8:=PLift.up (aaC @ac7 (aaC @acO @auR))
def anG:=PLift.up (aaC @acS (aaC @adF (aaC @ad1 (aaC @af6 (aaC @aq0 (aaC @aeK (aaC @asK (aaC @acO (aaC @afH (aaC @agN (aaC @agL (aaC @ah9 (aaC @aqL (aaC @as3 (aaC @aiG (aaC @adB (aaC @adS (aaC @agB @ahQ))))))))))))))))))
def ahC:=PLift.up (aaC @adB (aaC @adS (aaC @agB (aaC @aiF (aaC @agR (aaC @am5 (aaC @anX (aaC @afG (aaC @abL (aaC @adZ (aaC @afU (aaC @acS (aaC @adF (aaC @ad1 (aaC @af6 (aaC @agV (aaC @afQ (aaC @afD (aaC @alV (aaC @ahQ (aaC @aeK (aaC @acO (aaC @afH (aaC @agN (aaC @agL (aaC @aeE (aaC @ac7 (aaC @ah9 @ajA))))))))))))))))))))))))))))
def awN:=PLift.up (aaC @acO (aaC @aeE (aaC @adZ (aaC @adB (aaC @adS @agB)))))
def arW:=PLift.up (aaC @ac7 (aaC @acS (aaC @adF (aaC @ad1 (aaC @apB (aaC @aiS @aoT))))))
def aKP:=PLift.up (aaC @ac7 @ac7)
def aBM:=PLift.up (aaC @av0 (aaC @awH @avI))
def av9:=PLift.up (aaC @acS (aaC @adF (aaC @ad1 (aaC @ac7 (aaC @af6 (aaC @agV (aaC @apB (aaC @aiS @aoT))))))))
def aoC:=PLift.up (aaC @adB (aaC @adS (aaC @agB (aaC @acS (aaC @adF (aaC @ad1 (aaC @afH (aaC @agN (aaC @agL (aaC @afQ (aaC @abL (aaC @afD (aaC @alV (aaC @ahQ (aaC @aeK (aaC @acO (aaC @aiF (aaC @agR (aaC @am5 (aaC @anX (aaC @afG (aaC @afU (aaC @af6 (aaC @agV (aaC @aq5 (aaC @aqV (aaC @afI (aaC @afJ @afN))))))))))))))))))))))))))))
def ayA:=PLift.up (aaC @asT (aaC @awZ (aaC @afH (aaC @agN (aaC @agL (aaC @ah9 (aaC @amN (aaC @ajA (aaC @awO (aaC @azO (aaC @asJ (aaC @as7 (aaC @ahZ (aaC @abL (aaC @au9 (aaC @ayX (aaC @alL @alI)))))))))))))))))
def asM:=PLift.up (aaC @acS (aaC @adF (aaC @ad1 (aaC @af6 (aaC @anZ (aaC @agV (aaC @aq5 (aaC @aqV (aaC @afI (aaC @aeK (aaC @acO (aaC @aeE (aaC @abL (aaC @adZ (aaC @adB (aaC @adS (aaC @aiF (aaC @agR @afJ))))))))))))))))))
def au8:=PLift.up (aaC @afI (aaC @aeK (aaC @acO (aaC @aeE (aaC @abL (aaC @adZ (aaC @afJ @afN)))))))
def amH:=PLift.up (aaC @ahS (aaC @ajD (aaC @aiG (aaC @ak1 (aaC @aq7 (aaC @abL (aaC @adZ (aaC @acS (aaC @adF (aaC @ad1 (aaC @ahW (aaC @afQ (aaC @ahZ (aaC @ahH (aaC @afD @ahD)))))))))))))))
def avN:=PLift.up (aaC @acO (aaC @aeE @adZ))
def aCU:=PLift.up (aaC @afI (aaC @aeK (aaC @acO (aaC @ac7 (aaC @anZ (aaC @aeE (aaC @abL (aaC @adZ @afJ))))))))
def aKC:=PLift.up (aaC @acO (aaC @adB (aaC @adS @agB)))
def aKJ:=PLift.up (aaC @ac7 @amN)
def asL:=PLift.up (aaC @ahS (aaC @ajD (aaC @aiG (aaC @ak1 (aaC @anD (aaC @aAB (aaC @ax7 (aaC @ahK (aaC @abL (aaC @acS (aaC @adF (aaC @ad1 (aaC @ahW (aaC @afQ (aaC @ahZ (aaC @ahH (aaC @afD @ahD)))))))))))))))))
def aHW:=PLift.up (aaC @alA @alA)
def aJ5:=PLift.up (aaC @alF (aaC @akU (aaC @afG (aaC @abL (aaC @afU (aaC @alE @afN))))))
def aKT:=PLift.up (aaC @adB (aaC @adS (aaC @aiF (aaC @agR (aaC @am5 (aaC @anX (aaC @alF (aaC @akU (aaC @afG (aaC @abL (aaC @afU (aaC @alE @afN))))))))))))
def az7:=PLift.up (aaC @agL (aaC @ah9 @ajA))
def aKV:=PLift.up (aaC @ahK @abL)
def azK:=PLift.up (aaC @acO (aaC @aeE @adZ))
def aKL:=PLift.up (aaC @aeZ (aaC @ahW (aaC @abL (aaC @ajG @alL))))
def aKX:=PLift.up (aaC @aeZ (aaC @ahD (aaC @abL (aaC @ajG @alI))))
def aJ6:=PLift.up (aaC @aeZ (aaC @ahS @ajD))
def aK0:=PLift.up (aaC @aeZ (aaC @ahH (aaC @abL (aaC @ajU @aqT))))
def an7:=PLift.up (aaC @aiG (aaC @ak1 @anD))
def aKQ:=PLift.up (aaC @ajU (aaC @arT (aaC @abL (aaC @ahK (aaC @ar5 @akU)))))
end Go.Proofs.Ytfkokgjfpojeoaa
namespace Go.Proofs.Ytfkokgjfpojeoaa
open Go Go.Ev Go.ChangeShapes Go.WideShapes Go.ChangeAt Go.RowKit
set_option maxRecDepth 100000
set_option maxHeartbeats 16000000
def mdL:List Nat:=[96,100,102,83]
def pr:ac4:=⟨fun _=>none,(mdL.contains ·)⟩
noncomputable def om':Orc:=om Try.prog pr
theorem aIP(f:Nat):om'.md f=([96,100,102,83]:List Nat).contains f:=Eq.trans rfl rfl
def Va:=PLift.up (aaC EE.down EE.down)
def Vc:=PLift.up (aaC EG.down (aaC EVu.down @aIP))
theorem aJ7{C:R→Prop}[NoN C]{n:Nat}{k:List aaG}{c:Code}{s:St}(h:Un om' Try.prog n k c C (evM om' Try.prog 5000 c [] s)):C (lpK om' Try.prog n k (om'.loop c s)):=aHO (pr:=pr) h
theorem own:ownKnob Try.prog.godebug=none:=by kernel_rfl
theorem aKS:avM Try.prog:=fun f fn hf=>by
 have h:(Try.prog.funcs.toList.all fun fn=> !(fn.name== "runtime.NumGoroutine"))=true:=by kernel_rfl
 have:=List.all_eq_true.1 h fn (by rw[Array.mem_toList_iff];exact Array.mem_of_getElem? hf)
 simpa using this
theorem aH5:Try.prog.follows .mixedOrders=true:=by kernel_rfl
theorem aB2:laidOutB Try.prog=true:=by kernel_rfl
theorem ayU:acF Try.prog (fun _=>none) om':=aJG aKS (fun f p h=>by cases h) aH5
theorem aEJ{W:World}{S:Nat→Prop}:Inv (fun _=>none) W S:=fun b o h=>by cases h
theorem aKG{f:Nat}{fn:Func}{c:Code}{args:List AV}{h:Rr}{Q:Out→Rr→Prop}(hp:pr f=none)(hf:Try.prog.funcs[f]?=some fn)(hb:fn.body=some c)(hl:Nat.ble args.length fn.ntmps=true)
 (he:FnE Try.prog h.length fn.results.toList Q (evM om' Try.prog 5000 c [] ⟨mk fn.ntmps (ent args),h⟩)):ClQ om' f args h Q:=ClQ.start (pr:=pr) hp hf hb hl he
theorem ce{f:Nat}{fn:Func}{c:Code}{args:List AV}{h:Rr}{o:Out}{h':Rr}(hf:Try.prog.funcs[f]?=some fn)(he:FnE Try.prog h.length fn.results.toList (fun o1 h1=>(o1,h1)=(o,h')) (evM om' Try.prog 5000 c [] ⟨mk fn.ntmps (ent args),h⟩))(hp:pr f=none:=by exact rfl)(hb:fn.body=some c:=by exact rfl)(hl:Nat.ble args.length fn.ntmps=true:=by exact rfl):om'.call (.fn f) args h=some (o,h'):=(aKG hp hf hb hl he).eq
theorem lst{α σ ρ:Type}{c:Code}(N:Nat)(l:List α)(E:Nat→σ→Tm→Rr→Prop)(F:List α→σ→ρ)(Q:ρ→Ex→Tm→Rr→Prop)
 (stop:∀s t h Q',(∀e t h,Q (F [] s) e t h→Q' e ⟨mk N t,h⟩)→E l.length s t h→Rnd N (fun _ _=>False) Q' (evM om' Try.prog 5000 c [] ⟨mk N t,h⟩))
 (go:∀x rest i s t h J Q',(∀t' h' s',E (i+1) s' t' h'→F rest s'=F (x::rest) s→J t' h')→(∀e t h,Q (F (x::rest) s) e t h→Q' e ⟨mk N t,h⟩)→l[i]?=some x→i<l.length→E i s t h→
   Rnd N J Q' (evM om' Try.prog 5000 c [] ⟨mk N t,h⟩)):
 ∀s t h,E 0 s t h→LpQ om' c ⟨mk N t,h⟩ (Ot N (Q (F l s))):=avW (pr:=pr) rfl N l E F Q stop go
def iv(x:Int):List AV:=[.int .i64 x]
theorem aa0{h:Rr}{b:Nat}{c:CB}(h0:h[b]?=some c)(l:Rr):(h++l)[b]?=some c:=by
 rw[List.getElem?_append_left (List.getElem?_eq_some_iff.1 h0).1];exact h0
end Go.Proofs.Ytfkokgjfpojeoaa
namespace Go.Proofs.Ytfkokgjfpojeoaa
open Go.Ev Go
set_option maxRecDepth 100000
set_option maxHeartbeats 16000000
structure aaZ where
 lo:Int
 hi:Int
 byp:Bool
def aaZ.cells(s:aaZ):List AV:=[.int .i64 s.lo,.int .i64 s.hi,.bool s.byp]
structure aaL where
 nn:Bool
 sens:List Int
 need:Int
 level:Int
 above:Bool
def aaL.cells(v:aaL):List AV:=[slv 1 true v.nn (v.sens.map iv),.int .i64 v.need,.int .i64 v.level,.bool v.above]
structure aaO where
 vote:Int
 is:Bool
def aaO.cells(w:aaO):List AV:=[.int .i64 w.vote,.bool w.is]
structure aaM where
 frm:Int
 to:Int
 nn:Bool
 wants:List aaO
 cmd:Int
 after:Int
def aaM.cells(x:aaM):List AV:=[.int .i64 x.frm,.int .i64 x.to,slv 2 true x.nn (x.wants.map aaO.cells),.int .i64 x.cmd,.int .i64 x.after]
structure aa3 where
 nS:Bool
 sens:List aaZ
 nV:Bool
 votes:List aaL
 nM:Bool
 moves:List aaM
 states:Int
 cmds:Int
 bgn:Int
 nO:Bool
 opn:List Int
abbrev aa3.cells(m:aa3):List AV:=[slv 3 true m.nS (m.sens.map aaZ.cells),slv 4 false m.nV (m.votes.map aaL.cells),slv 5 false m.nM (m.moves.map aaM.cells),.int .i64 m.states,.int .i64 m.cmds,.int .i64 m.bgn,slv 1 true m.nO (m.opn.map iv)]
structure aa3.small(m:aa3):Prop where
 sens:m.sens.length≤maxLen
 votes:m.votes.length≤maxLen
 moves:m.moves.length≤maxLen
 opn:m.opn.length≤maxLen
 vs:∀v∈m.votes,v.sens.length≤maxLen
 ws:∀x∈m.moves,x.wants.length≤maxLen
def inB(x lo hi:Int):Bool:=decide (lo≤x)&&decide (x≤hi)
theorem al3(x lo hi:Int):om'.call (.fn 43) [.int .i64 x,.int .i64 lo,.int .i64 hi] []=some (.ret (.bool (inB x lo hi)),[]):=by
 (refine ce Try.func43 ?_;simp only[Try.f43];(have hb:=trivial;with_reducible repeat' (first|simp only[hb,Va.down,seval]|refine fsp ?_ ?_<;>intro hb|refine fd ?_|fail)))
 all_goals simp[inB, *]
theorem an4(x lo hi:Int):om'.call (.fn 48) [.int .i64 x,.int .i64 lo,.int .i64 hi] []=some (.ret (.bool (inB x lo hi)),[]):=by
 (refine ce Try.func48 ?_;simp only[Try.f48];(have hb:=trivial;with_reducible repeat' (first|simp only[hb,Va.down,seval]|refine fsp ?_ ?_<;>intro hb|refine fd ?_|fail)))
 all_goals simp[inB, *]
def akN(x:Int):Bool:=inB x (-10000) 10000
theorem apI(x:Int):om'.call (.fn 69) [.int .i64 x] []=some (.ret (.bool (akN x)),[]):=by
 (refine ce Try.func69 ?_;simp only[Try.f69];(have hb:=trivial;with_reducible repeat' (first|simp only[hb,Va.down,seval,al3]|refine fsp ?_ ?_<;>intro hb|refine fd ?_|fail)))
 all_goals rfl
theorem aBA(x:Int):om'.call (.fn 82) [.int .i64 x] []=some (.ret (.bool (!akN x)),[]):=by
 (refine ce Try.func82 ?_;simp only[Try.f82];(have hb:=trivial;with_reducible repeat' (first|simp only[hb,Va.down,seval,apI]|refine fsp ?_ ?_<;>intro hb|refine fd ?_|fail)))
theorem aw5(x:Int):om'.call (.fn 74) [.int .i64 x] []=some (.ret (.bool (!inB x 0 255)),[]):=by
 (refine ce Try.func74 ?_;simp only[Try.f74];(have hb:=trivial;with_reducible repeat' (first|simp only[hb,Va.down,seval,al3]|refine fsp ?_ ?_<;>intro hb|refine fd ?_|fail)))
def alR(s:aaZ)(v:aaL)(r:Int):Bool:= !s.byp&&(!inB r s.lo s.hi||(if v.above=true then decide (v.level≤r)else decide (r≤v.level)))
theorem aDU(s:aaZ)(v:aaL)(r:Int):om'.call (.fn 76) [.agg [.int .i64 s.lo,.int .i64 s.hi,.bool s.byp],.agg [slv 1 true v.nn (v.sens.map iv),.int .i64 v.need,.int .i64 v.level,.bool v.above],.int .i64 r] []=some (.ret (.bool (alR s v r)),[]):=by
 (refine ce Try.func76 ?_;simp only[Try.f76];(have hb:=trivial;with_reducible repeat' (first|simp only[hb,Va.down,seval,aJ5.down,al3]|refine fsp ?_ ?_<;>intro hb|refine fd ?_|fail)))
 all_goals simp_all[alR]
def idx{α:Type}(p:α→Bool):List α→Int→Int
 | [],_=> -1
 |x::l,i=>if p x=true then i else idx p l (i+1)
theorem ajZ{α:Type}(p:α→Bool):∀(l:List α) (i:Int),0≤i→decide (0≤idx p l i)=l.any p
 | [],i,_=>rfl
 |x::l,i,h=>by
  unfold idx
  split
  ·rename_i hp;simp[h,hp]
  ·rename_i hp;rw[ajZ p l (i+1) (by omega)];simp[hp]
theorem az1{l:List Int}{nn:Bool}{g:Nat}{cap:List AV}{p:Int→Bool}(hc:cap.all (aaP 8)=true)(hc7:cap.all (aaP 7)=true)(hp:∀x∈l,om'.call (.fn g) (.int .i64 x::cap) []=some (.ret (.bool (p x)),[]))(hl:l.length≤maxLen):
 om'.call (.fn 91) [slv 1 true nn (l.map iv),.func (.func g) [] cap] []=some (.ret (.int .i64 (idx p l 0)),[]):=by
 (refine ce Try.func91 ?_;simp only[Try.f91];(have hb:=trivial;with_reducible repeat' (first|simp only[hb,Va.down,seval,azK.down,aaD]|refine fsp ?_ ?_<;>intro hb|refine fd ?_|fail)))
 refine ac3 (lst 19 l (fun i (s:Int) t h=>s=i∧h=[]∧t 0=slv 1 true nn (l.map iv)∧t 1=.func (.func g) [] cap∧t 7=.int .i64 l.length∧t 8=.int .i64 i)
  (fun rest s=>idx p rest s) (fun r e t h=>h=[]∧((e=.exit 0∧r= -1)∨(e=.ret∧t 4=.int .i64 r))) ?_ ?_ 0 _ _ ?_) (fun e t h hk=>?_)
 ·rintro s t h Q' kQ ⟨rfl,rfl,h0,h1,h7,h8⟩
  (have hb:=trivial;with_reducible repeat' (first|simp only[hb,Va.down,seval,azK.down,h0,h1,h7,h8,aaW,decide_false]|refine fsp ?_ ?_<;>intro hb|refine fd ?_|fail))
  exact kQ _ _ _ ⟨rfl,.inl ⟨rfl,rfl⟩⟩
 ·rintro x rest i s t h J Q' kJ kQ hx hi ⟨rfl,rfl,h0,h1,h7,h8⟩
  have hpx:=hp x (abM hx)
  have hd:decide ((i:Int)<(l.length:Int))=true:=by simpa using hi
  (have hb:=trivial;with_reducible repeat' (first|simp only[hb,Va.down,seval,azK.down,h0,h1,h7,h8,hd,hx,iv,hc,hc7,hpx,aaR hi hl]|refine fsp ?_ ?_<;>intro hb|refine fd ?_|fail))
  ·exact kQ _ _ _ ⟨rfl,.inr ⟨rfl,by simp[up,idx,hb]⟩⟩
  ·exact abE (kJ _ _ (i+1) ⟨by simp,rfl,by simp[up,h0],by simp[up,h1],by simp[up,h7],by simp[up]⟩ (by simp[idx,hb]))
 ·exact⟨rfl,rfl,by simp[up,ent],by simp[up,ent],by simp[up],by simp[up]⟩
 ·obtain⟨rfl,⟨rfl,hi⟩|⟨rfl,hi⟩⟩:=hk
  ·(have hb:=trivial;with_reducible repeat' (first|simp only[hb,Va.down,seval,azK.down]|refine fsp ?_ ?_<;>intro hb|refine fd ?_|fail))
   rw[hi]
  ·(have hb:=trivial;with_reducible repeat' (first|simp only[hb,Va.down,seval,azK.down,hi]|refine fsp ?_ ?_<;>intro hb|refine fd ?_|fail))
theorem aoO{l:List Int}{nn:Bool}{g:Nat}{cap:List AV}{p:Int→Bool}(hc:cap.all (aaP 8)=true)(hc7:cap.all (aaP 7)=true)(hp:∀x∈l,om'.call (.fn g) (.int .i64 x::cap) []=some (.ret (.bool (p x)),[]))(hl:l.length≤maxLen):
 om'.call (.fn 73) [slv 1 true nn (l.map iv),.func (.func g) [] cap] []=some (.ret (.bool (l.any p)),[]):=by
 (refine ce Try.func73 ?_;simp only[Try.f73];(have hb:=trivial;with_reducible repeat' (first|simp only[hb,Va.down,seval,az1 hc hc7 hp hl,hc,hc7,ajZ p l 0 (ab9 0)]|refine fsp ?_ ?_<;>intro hb|refine fd ?_|fail)))
def ag6(b:Int):List Int→Option Int→Bool
 | [],_=>true
 |n::l,p=>inB n 0 (IntKind.i64.wrap (b-1))&&(match p with|none=>true|some q=> !decide (n≤q))&&ag6 b l (some n)
theorem apH{l:List Int}{nn:Bool}(b:Int)(hl:l.length≤maxLen):om'.call (.fn 53) [slv 1 true nn (l.map iv),.int .i64 b] []=some (.ret (.bool (ag6 b l none)),[]):=by
 (refine ce Try.func53 ?_;simp only[Try.f53];(have hb:=trivial;with_reducible repeat' (first|simp only[hb,Va.down,seval,avN.down,aaD]|refine fsp ?_ ?_<;>intro hb|refine fd ?_|fail)))
 refine ac3 (lst 33 l (fun i (s:Option Int) t h=>(i=0∧s=none∨0<i∧s=l[i-1]?)∧t 0=slv 1 true nn (l.map iv)∧t 1=.int .i64 b∧t 7=slv 1 true nn (l.map iv)∧t 8=.int .i64 l.length∧t 9=.int .i64 i)
  (fun rest s=>ag6 b rest s) (fun r e t h=>if r=true then e=.exit 0 else e=.ret∧t 4=.bool false) ?_ ?_ none _ _ ?_) (fun e t h hk=>?_)
 ·rintro s t h Q' kQ ⟨hs,h0,h1,h7,h8,h9⟩
  (have hb:=trivial;with_reducible repeat' (first|simp only[hb,Va.down,seval,avN.down,h0,h1,h7,h8,h9,aaW,decide_false]|refine fsp ?_ ?_<;>intro hb|refine fd ?_|fail))
  exact kQ _ _ _ (by simp[ag6])
 ·rintro x rest i s t h J Q' kJ kQ hx hi ⟨hs,h0,h1,h7,h8,h9⟩
  have hd:decide ((i:Int)<(l.length:Int))=true:=by simpa using hi
  have kF:∀{p:Option Int},(inB x 0 (IntKind.i64.wrap (b-1))&&(match p with|none=>true|some q=> !decide (x≤q)))=false→ag6 b (x::rest) p=false:=fun h=>by simp[ag6,h]
  have kT:∀{p:Option Int},(inB x 0 (IntKind.i64.wrap (b-1))&&(match p with|none=>true|some q=> !decide (x≤q)))=true→ag6 b rest (some x)=ag6 b (x::rest) p:=fun h=>by simp[ag6,h]
  have hw:=aaR hi hl
  rcases hs with⟨rfl,rfl⟩|⟨hpos,rfl⟩
  ·simp only[acZ,Int.zero_add]at hd h9 hw
   (have hb:=trivial;with_reducible repeat' (first|simp only[hb,Va.down,seval,avN.down,h0,h1,h7,h8,h9,hd,hx,iv,al3,hw,Int.toNat_zero,ab9,aaW,decide_false]|refine fsp ?_ ?_<;>intro hb|refine fd ?_|fail))
   all_goals first
    |exact kQ _ _ _ (by rw[if_neg (by rw[kF (by simp_all)];simp)];exact⟨rfl,rfl⟩)
    |exact abE (kJ _ _ (some x) ⟨.inr ⟨by omega,by simp[hx]⟩,by simp[up,h0],by simp[up,h1],by simp[up,h7],by simp[up,h8],by simp[up]<;>omega⟩ (kT (by simp_all)))
  ·obtain⟨j,rfl⟩:∃j,i=j+1:=⟨i-1,by omega⟩
   obtain⟨q,hq⟩:∃q,l[j]?=some q:=⟨l[j],ae4 (by omega)⟩
   have hj:IntKind.i64.wrap (((j+1:Nat):Int)-1)=(j:Int):=by unfold maxLen at hl;rw[amA (by omega) (by omega)];omega
   have hg:decide (0<((j+1:Nat):Int))=true:=by rw[decide_eq_true_eq];omega
   simp only[afB,hq]at kJ kQ
   (have hb:=trivial;with_reducible repeat' (first|simp only[hb,Va.down,seval,avN.down,h0,h1,h7,h8,h9,hd,hx,iv,al3,hw,hj,hg,hq]|refine fsp ?_ ?_<;>intro hb|refine fd ?_|fail))
   all_goals first
    |exact kQ _ _ _ (by rw[if_neg (by rw[kF (by simp_all)];simp)];exact⟨rfl,rfl⟩)
    |exact abE (kJ _ _ (some x) ⟨.inr ⟨by omega,by simp[hx]⟩,by simp[up,h0],by simp[up,h1],by simp[up,h7],by simp[up,h8],by simp[up]<;>omega⟩ (kT (by simp_all)))
 ·exact⟨.inl ⟨rfl,rfl⟩,by simp[up,ent],by simp[up,ent],by simp[up,ent],by simp[up],by simp[up]⟩
 ·split at hk
  ·subst hk
   rename_i hr
   (have hb:=trivial;with_reducible repeat' (first|simp only[hb,Va.down,seval,avN.down]|refine fsp ?_ ?_<;>intro hb|refine fd ?_|fail))
   all_goals simp[hr]
  ·obtain⟨rfl,h2⟩:=hk
   rename_i hr
   (have hb:=trivial;with_reducible repeat' (first|simp only[hb,Va.down,seval,avN.down,h2]|refine fsp ?_ ?_<;>intro hb|refine fd ?_|fail))
   all_goals simp[hr]
def akA(ns:Int)(v:aaL):Bool:=ag6 ns v.sens none&&inB v.need 1 v.sens.length&&akN v.level
theorem aE7(v:aaL)(ns:Int)(hl:v.sens.length≤maxLen):om'.call (.fn 47) [.agg [slv 1 true v.nn (v.sens.map iv),.int .i64 v.need,.int .i64 v.level,.bool v.above],.int .i64 ns] []=some (.ret (.bool (akA ns v)),[]):=by
 (refine ce Try.func47 ?_;simp only[Try.f47];(have hb:=trivial;with_reducible repeat' (first|simp only[hb,Va.down,seval,au8.down,aaD]|refine fsp ?_ ?_<;>intro hb|refine fd ?_|fail)))
 refine ac3 (lst 51 v.sens (fun i (s:Option Int) t h=>(i=0∧s=none∨0<i∧s=v.sens[i-1]?)∧h[0]?=some (.live 4 false false [[slv 1 true v.nn (v.sens.map iv),.int .i64 v.need,.int .i64 v.level,.bool v.above]])∧t 1=.int .i64 ns∧t 2=.ptr 0 0 0∧t 5=.int .i64 i)
  (fun rest s=>ag6 ns rest s) (fun r e t h=>if r=true then e=.exit 0∧h[0]?=some (.live 4 false false [[slv 1 true v.nn (v.sens.map iv),.int .i64 v.need,.int .i64 v.level,.bool v.above]])∧t 2=.ptr 0 0 0 else e=.ret∧t 4=.bool false) ?_ ?_ none _ _ ?_) (fun e t h hk=>?_)
 ·rintro s t h Q' kQ ⟨hs,hh,h1,h2,h5⟩
  (have hb:=trivial;with_reducible repeat' (first|simp only[hb,Va.down,seval,au8.down,hh,h1,h2,h5,aaD,aaW,decide_false]|refine fsp ?_ ?_<;>intro hb|refine fd ?_|fail))
  exact kQ _ _ _ (by simp[ag6,up,h2,hh])
 ·rintro x rest i s t h J Q' kJ kQ hx hi ⟨hs,hh,h1,h2,h5⟩
  have hd:decide ((i:Int)<(v.sens.length:Int))=true:=by simpa using hi
  have hA:=aa0 hh
  have kF:∀{p:Option Int},(inB x 0 (IntKind.i64.wrap (ns-1))&&(match p with|none=>true|some q=> !decide (x≤q)))=false→ag6 ns (x::rest) p=false:=fun h=>by simp[ag6,h]
  have kT:∀{p:Option Int},(inB x 0 (IntKind.i64.wrap (ns-1))&&(match p with|none=>true|some q=> !decide (x≤q)))=true→ag6 ns rest (some x)=ag6 ns (x::rest) p:=fun h=>by simp[ag6,h]
  have hw:=aaR hi hl
  rcases hs with⟨rfl,rfl⟩|⟨hpos,rfl⟩
  ·simp only[acZ,Int.zero_add]at hd h5 hw
   (have hb:=trivial;with_reducible repeat' (first|simp only[hb,Va.down,seval,au8.down,hA,hh,h1,h2,h5,hd,hx,aaD,iv,an4,hw,Int.toNat_zero,ab9,aaW,decide_false]|refine fsp ?_ ?_<;>intro hb|refine fd ?_|fail))
   all_goals first
    |exact kQ _ _ _ (by rw[if_neg (by rw[kF (by simp_all)];simp)];exact⟨rfl,rfl⟩)
    |exact abE (kJ _ _ (some x) ⟨.inr ⟨by omega,by simp[hx]⟩,by simp[hh],by simp[up,h1],by simp[up,h2],by simp[up]<;>omega⟩ (kT (by simp_all)))
  ·obtain⟨j,rfl⟩:∃j,i=j+1:=⟨i-1,by omega⟩
   obtain⟨q,hq⟩:∃q,v.sens[j]?=some q:=⟨v.sens[j],ae4 (by omega)⟩
   have hj:IntKind.i64.wrap (((j+1:Nat):Int)-1)=(j:Int):=by unfold maxLen at hl;rw[amA (by omega) (by omega)];omega
   have hg:decide (0<((j+1:Nat):Int))=true:=by rw[decide_eq_true_eq];omega
   simp only[afB,hq]at kJ kQ
   (have hb:=trivial;with_reducible repeat' (first|simp only[hb,Va.down,seval,au8.down,hA,hh,h1,h2,h5,hd,hx,aaD,iv,an4,hw,hj,hg,hq]|refine fsp ?_ ?_<;>intro hb|refine fd ?_|fail))
   all_goals first
    |exact kQ _ _ _ (by rw[if_neg (by rw[kF (by simp_all)];simp)];exact⟨rfl,rfl⟩)
    |exact abE (kJ _ _ (some x) ⟨.inr ⟨by omega,by simp[hx]⟩,by simp[hh],by simp[up,h1],by simp[up,h2],by simp[up]<;>omega⟩ (kT (by simp_all)))
 ·exact⟨.inl ⟨rfl,rfl⟩,rfl,by simp[up,ent],by simp[up],by simp[up]⟩
 ·split at hk
  ·obtain⟨rfl,hh,h2⟩:=hk
   have hA:=aa0 hh
   rename_i hr
   (have hb:=trivial;with_reducible repeat' (first|simp only[hb,Va.down,seval,au8.down,hA,hh,h2,aaD,an4]|refine fsp ?_ ?_<;>intro hb|refine fd ?_|fail))
   all_goals simp_all[akA,akN]
  ·obtain⟨rfl,h2⟩:=hk
   rename_i hr
   (have hb:=trivial;with_reducible repeat' (first|simp only[hb,Va.down,seval,au8.down,h2]|refine fsp ?_ ?_<;>intro hb|refine fd ?_|fail))
   all_goals simp[akA,hr]
theorem aBQ(o w:aaO):om'.call (.fn 90) [.agg [.int .i64 o.vote,.bool o.is],.ptr 0 0 0] [.live 2 true false [[.int .i64 w.vote,.bool w.is]]]=some (.ret (.bool (o.vote==w.vote)),[.live 2 true false [[.int .i64 w.vote,.bool w.is]]]):=by
 (refine ce Try.func90 ?_;simp only[Try.f90];(have hb:=trivial;with_reducible repeat' (first|simp only[hb,Vc.down,seval,aKV.down]|refine fsp ?_ ?_<;>intro hb|refine fd ?_|fail)))
theorem auP{l:List aaO}{nn:Bool}{g:Nat}{ww:aaO}{p:aaO→Bool}(hp:∀x∈l,om'.call (.fn g) (.agg [.int .i64 x.vote,.bool x.is]::[.ptr 0 0 0]) [.live 2 true false [[.int .i64 ww.vote,.bool ww.is]]]=some (.ret (.bool (p x)),[.live 2 true false [[.int .i64 ww.vote,.bool ww.is]]]))(hl:l.length≤maxLen):
 om'.call (.fn 98) [slv 2 true nn (l.map aaO.cells),.func (.func g) [] [.ptr 0 0 0]] [.live 2 true false [[.int .i64 ww.vote,.bool ww.is]]]=some (.ret (.int .i64 (idx p l 0)),[.live 2 true false [[.int .i64 ww.vote,.bool ww.is]]]):=by
 (refine ce Try.func98 ?_;simp only[Try.f98];(have hb:=trivial;with_reducible repeat' (first|simp only[hb,Vc.down,seval,an7.down,aaD]|refine fsp ?_ ?_<;>intro hb|refine fd ?_|fail)))
 refine ac3 (lst 19 l (fun i (s:Int) t h=>s=i∧h=[.live 2 true false [[.int .i64 ww.vote,.bool ww.is]]]∧t 0=slv 2 true nn (l.map aaO.cells)∧t 1=.func (.func g) [] [.ptr 0 0 0]∧t 7=.int .i64 l.length∧t 8=.int .i64 i)
  (fun rest s=>idx p rest s) (fun r e t h=>h=[.live 2 true false [[.int .i64 ww.vote,.bool ww.is]]]∧((e=.exit 0∧r= -1)∨(e=.ret∧t 4=.int .i64 r))) ?_ ?_ 0 _ _ ?_) (fun e t h hk=>?_)
 ·rintro s t h Q' kQ ⟨rfl,rfl,h0,h1,h7,h8⟩
  (have hb:=trivial;with_reducible repeat' (first|simp only[hb,Vc.down,seval,an7.down,h0,h1,h7,h8,aaW,decide_false]|refine fsp ?_ ?_<;>intro hb|refine fd ?_|fail))
  exact kQ _ _ _ ⟨rfl,.inl ⟨rfl,rfl⟩⟩
 ·rintro x rest i s t h J Q' kJ kQ hx hi ⟨rfl,rfl,h0,h1,h7,h8⟩
  have hpx:=hp x (abM hx)
  have hd:decide ((i:Int)<(l.length:Int))=true:=by simpa using hi
  (have hb:=trivial;with_reducible repeat' (first|simp only[hb,Vc.down,seval,an7.down,h0,h1,h7,h8,hd,hx,aaO.cells,hpx,aaR hi hl]|refine fsp ?_ ?_<;>intro hb|refine fd ?_|fail))
  ·exact kQ _ _ _ ⟨rfl,.inr ⟨rfl,by simp[up,idx,hb]⟩⟩
  ·exact abE (kJ _ _ (i+1) ⟨by simp,rfl,by simp[up,h0],by simp[up,h1],by simp[up,h7],by simp[up]⟩ (by simp[idx,hb]))
 ·exact⟨rfl,rfl,by simp[up,ent],by simp[up,ent],by simp[up],by simp[up]⟩
 ·obtain⟨rfl,⟨rfl,hi⟩|⟨rfl,hi⟩⟩:=hk
  ·(have hb:=trivial;with_reducible repeat' (first|simp only[hb,Vc.down,seval,an7.down]|refine fsp ?_ ?_<;>intro hb|refine fd ?_|fail))
   rw[hi]
  ·(have hb:=trivial;with_reducible repeat' (first|simp only[hb,Vc.down,seval,an7.down,hi]|refine fsp ?_ ?_<;>intro hb|refine fd ?_|fail))
theorem asZ{l:List aaO}{nn:Bool}{g:Nat}{ww:aaO}{p:aaO→Bool}(hp:∀x∈l,om'.call (.fn g) (.agg [.int .i64 x.vote,.bool x.is]::[.ptr 0 0 0]) [.live 2 true false [[.int .i64 ww.vote,.bool ww.is]]]=some (.ret (.bool (p x)),[.live 2 true false [[.int .i64 ww.vote,.bool ww.is]]]))(hl:l.length≤maxLen):
 om'.call (.fn 89) [slv 2 true nn (l.map aaO.cells),.func (.func g) [] [.ptr 0 0 0]] [.live 2 true false [[.int .i64 ww.vote,.bool ww.is]]]=some (.ret (.bool (l.any p)),[.live 2 true false [[.int .i64 ww.vote,.bool ww.is]]]):=by
 (refine ce Try.func89 ?_;simp only[Try.f89];(have hb:=trivial;with_reducible repeat' (first|simp only[hb,Vc.down,seval,auP hp hl,ajZ p l 0 (ab9 0)]|refine fsp ?_ ?_<;>intro hb|refine fd ?_|fail)))
def afY(nv:Int):List aaO→List aaO→Bool
 |_,[]=>true
 |pre,w::l=>inB w.vote 0 (IntKind.i64.wrap (nv-1))&& !(pre.any fun o=>o.vote==w.vote)&&afY nv (pre++[w]) l
def ahA(m:aa3)(x:aaM):Bool:=afY m.votes.length [] x.wants&&inB x.frm 0 (IntKind.i64.wrap (m.states-1))&&inB x.to 0 (IntKind.i64.wrap (m.states-1))&&decide (x.wants.length≤6)&&inB x.cmd (-1) (IntKind.i64.wrap (m.cmds-1))&&inB x.after 0 10
theorem aDM(m:aa3)(y:aaM)(hl:y.wants.length≤maxLen):om'.call (.fn 72) [.agg [slv 3 true m.nS (m.sens.map aaZ.cells),slv 4 false m.nV (m.votes.map aaL.cells),slv 5 false m.nM (m.moves.map aaM.cells),.int .i64 m.states,.int .i64 m.cmds,.int .i64 m.bgn,slv 1 true m.nO (m.opn.map iv)],.agg [.int .i64 y.frm,.int .i64 y.to,slv 2 true y.nn (y.wants.map aaO.cells),.int .i64 y.cmd,.int .i64 y.after]] []=some (.ret (.bool (ahA m y)),[]):=by
 have l6:decide ((y.wants.length:Int)≤6)=decide (y.wants.length≤6):=by rw[decide_eq_decide];omega
 (refine ce Try.func72 ?_;simp only[Try.f72];(have hb:=trivial;with_reducible repeat' (first|simp only[hb,Vc.down,seval,asL.down,aaD]|refine fsp ?_ ?_<;>intro hb|refine fd ?_|fail)))
 refine ac3 (lst 65 y.wants (fun i (zz:List aaO) t h=>t 2=.ptr 0 0 0∧t 3=.ptr 1 0 0∧t 8=slv 2 true y.nn (y.wants.map aaO.cells)∧t 9=.int .i64 y.wants.length∧t 10=.int .i64 i∧(h[0]?=some (.live 7 false false [[slv 3 true m.nS (m.sens.map aaZ.cells),slv 4 false m.nV (m.votes.map aaL.cells),slv 5 false m.nM (m.moves.map aaM.cells),.int .i64 m.states,.int .i64 m.cmds,.int .i64 m.bgn,slv 1 true m.nO (m.opn.map iv)]])∧h[1]?=some (.live 5 false false [[.int .i64 y.frm,.int .i64 y.to,slv 2 true y.nn (y.wants.map aaO.cells),.int .i64 y.cmd,.int .i64 y.after]])∧zz=y.wants.take i)) (fun rest zz=>afY m.votes.length zz rest) (fun r e t h=>(if r=true then e=.exit 0∧t 2=.ptr 0 0 0∧t 3=.ptr 1 0 0∧h[0]?=some (.live 7 false false [[slv 3 true m.nS (m.sens.map aaZ.cells),slv 4 false m.nV (m.votes.map aaL.cells),slv 5 false m.nM (m.moves.map aaM.cells),.int .i64 m.states,.int .i64 m.cmds,.int .i64 m.bgn,slv 1 true m.nO (m.opn.map iv)]])∧h[1]?=some (.live 5 false false [[.int .i64 y.frm,.int .i64 y.to,slv 2 true y.nn (y.wants.map aaO.cells),.int .i64 y.cmd,.int .i64 y.after]])else e=.ret∧t 4=.bool false)) ?_ ?_ ([]) _ _ ?_) (fun e t h hk=>?_)
 ·rintro p t h Q' kQ ⟨h2,h3,h8,h9,h10,⟨hA,hB,hp⟩⟩
  (have hb:=trivial;with_reducible repeat' (first|simp only[hb,Vc.down,seval,asL.down,h2,h3,h8,h9,h10,aaW,decide_false]|refine fsp ?_ ?_<;>intro hb|refine fd ?_|fail))
  exact kQ _ _ _ (by rw[if_pos (by rfl)];exact⟨rfl,by simp[up,h2],by simp[up,h3],hA,hB⟩)
 ·rintro x rest i p t h J Q' kJ kQ hx hi ⟨h2,h3,h8,h9,h10,⟨hA,hB,hp⟩⟩
  have hd:decide ((i:Int)<(y.wants.length:Int))=true:=decide_eq_true (by omega)
  have hw:=aaR hi hl
  have hA1:=aa0 hA
  have hB1:=aa0 hB
  have hcW:=asZ (l:=y.wants.take i) (nn:=true) (ww:=x) (g:=90) (p:=fun o=>o.vote==x.vote) (fun o _=>aBQ o x) (by simp;omega)
  have hsl:=aGQ (P:=Try.prog) (ty:=57) (n:=2) ⟨_,Try.underlying57,by kernel_rfl⟩ true y.nn (rows:=y.wants.map aaO.cells) (i:=i) (by simpa using hi)
  rw[ar9,List.map_take]at hcW
  subst hp
  cases c1:inB x.vote 0 (IntKind.i64.wrap ((m.votes.length:Int)-1))with
  |false=>
   (have hb:=trivial;with_reducible repeat' (first|simp only[hb,Vc.down,seval,asL.down,h2,h3,h8,h9,h10,hd,hx,hw,hA1,hB1,al3,aaO.cells,aaD,hcW,hsl,c1]|refine fsp ?_ ?_<;>intro hb|refine fd ?_|fail))
   exact kQ _ _ _ (by rw[if_neg (by simp[afY,c1])];exact⟨rfl,by simp[up]⟩)
  |true=>
   cases c2:(y.wants.take i).any (fun o=>o.vote==x.vote)with
   |true=>
    rw[c2]at hcW
    (have hb:=trivial;with_reducible repeat' (first|simp only[hb,Vc.down,seval,asL.down,h2,h3,h8,h9,h10,hd,hx,hw,hA1,hB1,al3,aaO.cells,aaD,hcW,hsl,c1]|refine fsp ?_ ?_<;>intro hb|refine fd ?_|fail))
    exact kQ _ _ _ (by rw[if_neg (by simp only[afY,c1,c2,abW,acT,acB];simp)];exact⟨rfl,by simp[up]⟩)
   |false=>
    rw[c2]at hcW
    (have hb:=trivial;with_reducible repeat' (first|simp only[hb,Vc.down,seval,asL.down,h2,h3,h8,h9,h10,hd,hx,hw,hA1,hB1,al3,aaO.cells,aaD,hcW,hsl,c1]|refine fsp ?_ ?_<;>intro hb|refine fd ?_|fail))
    (refine abE (kJ _ _ (y.wants.take i++[x]) ⟨?_,?_,?_,?_,?_,⟨hA1 _,hB1 _,by rw[afC,hx];rfl⟩⟩ ?_);(simp[up,h2]);(simp[up,h3]);(simp[up,h8]);(simp[up,h9]);(simp[up]);(simp only[afY,c1,c2,ab6,acM,ab8]))
 ·exact⟨by simp[up,ent],by simp[up,ent],by simp[up,ent],by simp[up,ent],by simp[up],⟨rfl,rfl,rfl⟩⟩
 ·split at hk
  ·obtain⟨rfl,h2,h3,hA,hB⟩:=hk
   rename_i hr
   have hA1:=aa0 hA
   have hB1:=aa0 hB
   (have hb:=trivial;with_reducible repeat' (first|simp only[hb,Vc.down,seval,asL.down,h2,h3,hA,hB,hA1,hB1,al3,aaD,l6]|refine fsp ?_ ?_<;>intro hb|refine fd ?_|fail))
   all_goals (refine congrArg (fun b=>(Out.ret (AV.bool b),([]:Rr))) ?_;symm;((try simp only[afP,abW,ab6]at *);simp only[ahA, *,acT,acB,acM,ab8,Bool.and_self,Bool.not_not,abW,ab6,List.all_cons,List.all_nil]))
  ·obtain⟨rfl,h4⟩:=hk
   rename_i hr
   (have hb:=trivial;with_reducible repeat' (first|simp only[hb,Vc.down,seval,asL.down,h4]|refine fsp ?_ ?_<;>intro hb|refine fd ?_|fail))
   all_goals simp_all[ahA]
def av5(w:aaO):List aaO→Bool
 | []=>true
 |o::l=> !(o.vote==w.vote)&&av5 w l
theorem apD(w:aaO):∀l,av5 w l= !(l.any fun o=>o.vote==w.vote)
 | []=>rfl
 |o::l=>by simp[av5,apD w l]
theorem aGF(m:aa3)(y:aaM)(hl:y.wants.length≤maxLen):om'.call (.fn 49) [.agg [slv 3 true m.nS (m.sens.map aaZ.cells),slv 4 false m.nV (m.votes.map aaL.cells),slv 5 false m.nM (m.moves.map aaM.cells),.int .i64 m.states,.int .i64 m.cmds,.int .i64 m.bgn,slv 1 true m.nO (m.opn.map iv)],.agg [.int .i64 y.frm,.int .i64 y.to,slv 2 true y.nn (y.wants.map aaO.cells),.int .i64 y.cmd,.int .i64 y.after]] []=some (.ret (.bool (ahA m y)),[]):=by
 have l6:decide ((y.wants.length:Int)≤6)=decide (y.wants.length≤6):=by rw[decide_eq_decide];omega
 (refine ce Try.func49 ?_;simp only[Try.f49];(have hb:=trivial;with_reducible repeat' (first|simp only[hb,Vc.down,seval,amH.down,aaD]|refine fsp ?_ ?_<;>intro hb|refine fd ?_|fail)))
 refine ac3 (lst 77 y.wants (fun i (zz:List aaO) t h=>t 2=.ptr 0 0 0∧t 3=.ptr 1 0 0∧t 5=.int .i64 i∧(h=[.live 7 false false [[slv 3 true m.nS (m.sens.map aaZ.cells),slv 4 false m.nV (m.votes.map aaL.cells),slv 5 false m.nM (m.moves.map aaM.cells),.int .i64 m.states,.int .i64 m.cmds,.int .i64 m.bgn,slv 1 true m.nO (m.opn.map iv)]],.live 5 false false [[.int .i64 y.frm,.int .i64 y.to,slv 2 true y.nn (y.wants.map aaO.cells),.int .i64 y.cmd,.int .i64 y.after]]]∧zz=y.wants.take i)) (fun rest zz=>afY m.votes.length zz rest) (fun r e t h=>(if r=true then e=.exit 0∧t 2=.ptr 0 0 0∧t 3=.ptr 1 0 0∧h=[.live 7 false false [[slv 3 true m.nS (m.sens.map aaZ.cells),slv 4 false m.nV (m.votes.map aaL.cells),slv 5 false m.nM (m.moves.map aaM.cells),.int .i64 m.states,.int .i64 m.cmds,.int .i64 m.bgn,slv 1 true m.nO (m.opn.map iv)]],.live 5 false false [[.int .i64 y.frm,.int .i64 y.to,slv 2 true y.nn (y.wants.map aaO.cells),.int .i64 y.cmd,.int .i64 y.after]]]else e=.ret∧t 4=.bool false)) ?_ ?_ ([]) _ _ ?_) (fun e t h hk=>?_)
 ·rintro p t h Q' kQ ⟨h2,h3,h5,⟨rfl,hp⟩⟩
  (have hb:=trivial;with_reducible repeat' (first|simp only[hb,Vc.down,seval,amH.down,h2,h3,h5,aaW,decide_false,aaD]|refine fsp ?_ ?_<;>intro hb|refine fd ?_|fail))
  exact kQ _ _ _ (by rw[if_pos (by rfl)];exact⟨rfl,by simp[up,h2],by simp[up,h3],rfl⟩)
 ·rintro x rest i p t h J Q' kJ kQ hx hi ⟨h2,h3,h5,⟨rfl,hp⟩⟩
  have hd:decide ((i:Int)<(y.wants.length:Int))=true:=decide_eq_true (by omega)
  have hw:=aaR hi hl
  subst hp
  cases c1:inB x.vote 0 (IntKind.i64.wrap ((m.votes.length:Int)-1))with
  |false=>
   (have hb:=trivial;with_reducible repeat' (first|simp only[hb,Vc.down,seval,amH.down,h2,h3,h5,hd,hx,hw,an4,c1,aaO.cells,aaD]|refine fsp ?_ ?_<;>intro hb|refine fd ?_|fail))
   exact kQ _ _ _ (by rw[if_neg (by simp[afY,c1])];exact⟨rfl,by simp[up]⟩)
  |true=>
   obtain⟨w,rfl⟩:∃w,w=x:=⟨_,rfl⟩
   obtain⟨k,rfl⟩:∃k,k=i:=⟨_,rfl⟩
   have hlen:(y.wants.take k).length=k:=by simp;omega
   have hxk:=hx
   (have hb:=trivial;with_reducible repeat' (first|simp only[hb,Vc.down,seval,amH.down,h2,h3,h5,hd,hx,hw,an4,c1,aaO.cells,aaD]|refine fsp ?_ ?_<;>intro hb|refine fd ?_|fail))
   refine ac3 (lst 77 (y.wants.take k) (fun i (zz:Unit) t h=>t 2=.ptr 0 0 0∧t 3=.ptr 1 0 0∧t 5=.int .i64 (k:Int)∧t 6=.int .i64 i∧h=[.live 7 false false [[slv 3 true m.nS (m.sens.map aaZ.cells),slv 4 false m.nV (m.votes.map aaL.cells),slv 5 false m.nM (m.moves.map aaM.cells),.int .i64 m.states,.int .i64 m.cmds,.int .i64 m.bgn,slv 1 true m.nO (m.opn.map iv)]],.live 5 false false [[.int .i64 y.frm,.int .i64 y.to,slv 2 true y.nn (y.wants.map aaO.cells),.int .i64 y.cmd,.int .i64 y.after]]]) (fun rest zz=>av5 w rest) (fun r e t h=>(if r=true then e=.exit 2∧t 2=.ptr 0 0 0∧t 3=.ptr 1 0 0∧t 5=.int .i64 (k:Int)∧h=[.live 7 false false [[slv 3 true m.nS (m.sens.map aaZ.cells),slv 4 false m.nV (m.votes.map aaL.cells),slv 5 false m.nM (m.moves.map aaM.cells),.int .i64 m.states,.int .i64 m.cmds,.int .i64 m.bgn,slv 1 true m.nO (m.opn.map iv)]],.live 5 false false [[.int .i64 y.frm,.int .i64 y.to,slv 2 true y.nn (y.wants.map aaO.cells),.int .i64 y.cmd,.int .i64 y.after]]]else e=.ret∧t 4=.bool false)) ?_ ?_ () _ _ ?_) (fun e tC hC hk=>?_)
   ·rintro _ t h Q' kQ ⟨h2,h3,h5,h6,rfl⟩
    (have hb:=trivial;with_reducible repeat' (first|simp only[hb,Vc.down,seval,amH.down,h2,h3,h5,h6,aaW,decide_false,hlen]|refine fsp ?_ ?_<;>intro hb|refine fd ?_|fail))
    exact kQ _ _ _ (by rw[if_pos (by rfl)];exact⟨rfl,by simp[up,h2],by simp[up,h3],by simp[up,h5],rfl⟩)
   ·rintro x rest i _ t h J Q' kJ kQ hx hi ⟨h2,h3,h5,h6,rfl⟩
    have hd:decide ((i:Int)<((y.wants.take k).length:Int))=true:=decide_eq_true (by omega)
    have hw:=aaR hi (by simp;omega)
    rw[hlen]at hd
    have hxi:y.wants[i]?=some x:=by rw[List.getElem?_take]at hx;split at hx;exact hx;cases hx
    cases c3:(x.vote==w.vote)with
    |true=>
     (have hb:=trivial;with_reducible repeat' (first|simp only[hb,Vc.down,seval,amH.down,h2,h3,h5,h6,hd,hxi,hxk,hw,c3,aaO.cells]|refine fsp ?_ ?_<;>intro hb|refine fd ?_|fail))
     exact kQ _ _ _ (by rw[if_neg (by simp[av5,c3])];exact⟨rfl,by simp[up]⟩)
    |false=>
     (have hb:=trivial;with_reducible repeat' (first|simp only[hb,Vc.down,seval,amH.down,h2,h3,h5,h6,hd,hxi,hxk,hw,c3,aaO.cells]|refine fsp ?_ ?_<;>intro hb|refine fd ?_|fail))
     (refine abE (kJ _ _ () ⟨?_,?_,?_,?_,rfl⟩ ?_);(simp[up,h2]);(simp[up,h3]);(simp[up,h5]);(simp[up]);(simp[av5,c3]))
   ·exact⟨by simp[up,ent,h2,h3,h5],by simp[up,ent,h2,h3,h5],by simp[up,ent,h2,h3,h5],by simp[up],rfl⟩
   ·split at hk
    ·rename_i hdup
     obtain⟨rfl,h2,h3,h5,rfl⟩:=hk
     (have hb:=trivial;with_reducible repeat' (first|simp only[hb,Vc.down,seval,amH.down,h2,h3,h5,hw]|refine fsp ?_ ?_<;>intro hb|refine fd ?_|fail))
     rw[apD]at hdup
     (refine abE (kJ _ _ (y.wants.take k++[w]) ⟨?_,?_,?_,⟨rfl,by rw[afC,hxk];rfl⟩⟩ ?_);(simp[up,h2]);(simp[up,h3]);(simp[up]);(simp only[afY,c1,hdup,ab8]))
    ·rename_i hdup
     obtain⟨rfl,h4⟩:=hk
     (have hb:=trivial;with_reducible repeat' (first|simp only[hb,Vc.down,seval,amH.down,h4]|refine fsp ?_ ?_<;>intro hb|refine fd ?_|fail))
     rw[apD]at hdup
     exact kQ _ _ _ (by rw[if_neg (by simp only[afY,c1,ab8,aa5.2 hdup,acB];simp)];exact⟨rfl,by simp[up,h4]⟩)
 ·exact⟨by simp[up,ent],by simp[up,ent],by simp[up],⟨rfl,rfl⟩⟩
 ·split at hk
  ·obtain⟨rfl,h2,h3,rfl⟩:=hk
   rename_i hr
   (have hb:=trivial;with_reducible repeat' (first|simp only[hb,Vc.down,seval,amH.down,h2,h3,an4,aaD,l6]|refine fsp ?_ ?_<;>intro hb|refine fd ?_|fail))
   all_goals (refine congrArg (fun b=>(Out.ret (AV.bool b),([]:Rr))) ?_;symm;((try simp only[afP,abW,ab6]at *);simp only[ahA, *,acT,acB,acM,ab8,Bool.and_self,Bool.not_not,abW,ab6,List.all_cons,List.all_nil]))
  ·obtain⟨rfl,h4⟩:=hk
   rename_i hr
   (have hb:=trivial;with_reducible repeat' (first|simp only[hb,Vc.down,seval,amH.down,h4]|refine fsp ?_ ?_<;>intro hb|refine fd ?_|fail))
   all_goals simp_all[ahA]
def asV(s:aaZ):Bool:=akN s.lo&&akN s.hi&& !decide (s.hi<s.lo)
def aj3(m:aa3):Bool:=decide (m.sens.length≤6)&&decide (m.votes.length≤6)&&decide (m.moves.length≤20)&&inB m.states 1 8&&inB m.cmds 0 4&&inB m.bgn 0 (IntKind.i64.wrap (m.states-1))&&((m.opn.length:Int)==m.states)
def ac6(m:aa3):Bool:=aj3 m&&m.sens.all asV&&m.votes.all (akA m.sens.length)&&m.moves.all (ahA m)&&m.opn.all (fun n=>inB n 0 255)
theorem aw3(m:aa3)(x:aaM)(hl:x.wants.length≤maxLen):om'.call (.fn 71) [.agg [.int .i64 x.frm,.int .i64 x.to,slv 2 true x.nn (x.wants.map aaO.cells),.int .i64 x.cmd,.int .i64 x.after],.ptr 0 0 0] [.live 7 false false [[slv 3 true m.nS (m.sens.map aaZ.cells),slv 4 false m.nV (m.votes.map aaL.cells),slv 5 false m.nM (m.moves.map aaM.cells),.int .i64 m.states,.int .i64 m.cmds,.int .i64 m.bgn,slv 1 true m.nO (m.opn.map iv)]]]=some (.ret (.bool (!ahA m x)),[.live 7 false false [[slv 3 true m.nS (m.sens.map aaZ.cells),slv 4 false m.nV (m.votes.map aaL.cells),slv 5 false m.nM (m.moves.map aaM.cells),.int .i64 m.states,.int .i64 m.cmds,.int .i64 m.bgn,slv 1 true m.nO (m.opn.map iv)]]]):=by
 have hm:=aDM m x hl
 (refine ce Try.func71 ?_;simp only[Try.f71];(have hb:=trivial;with_reducible repeat' (first|simp only[hb,Vc.down,seval,aKJ.down,hm]|refine fsp ?_ ?_<;>intro hb|refine fd ?_|fail)))
theorem avX{l:List aaM}{nn:Bool}{g:Nat}{mm:aa3}{p:aaM→Bool}(hp:∀x∈l,om'.call (.fn g) (.agg [.int .i64 x.frm,.int .i64 x.to,slv 2 true x.nn (x.wants.map aaO.cells),.int .i64 x.cmd,.int .i64 x.after]::[.ptr 0 0 0]) [.live 7 false false [[slv 3 true mm.nS (mm.sens.map aaZ.cells),slv 4 false mm.nV (mm.votes.map aaL.cells),slv 5 false mm.nM (mm.moves.map aaM.cells),.int .i64 mm.states,.int .i64 mm.cmds,.int .i64 mm.bgn,slv 1 true mm.nO (mm.opn.map iv)]]]=some (.ret (.bool (p x)),[.live 7 false false [[slv 3 true mm.nS (mm.sens.map aaZ.cells),slv 4 false mm.nV (mm.votes.map aaL.cells),slv 5 false mm.nM (mm.moves.map aaM.cells),.int .i64 mm.states,.int .i64 mm.cmds,.int .i64 mm.bgn,slv 1 true mm.nO (mm.opn.map iv)]]]))(hl:l.length≤maxLen):
 om'.call (.fn 88) [slv 5 false nn (l.map aaM.cells),.func (.func g) [] [.ptr 0 0 0]] [.live 7 false false [[slv 3 true mm.nS (mm.sens.map aaZ.cells),slv 4 false mm.nV (mm.votes.map aaL.cells),slv 5 false mm.nM (mm.moves.map aaM.cells),.int .i64 mm.states,.int .i64 mm.cmds,.int .i64 mm.bgn,slv 1 true mm.nO (mm.opn.map iv)]]]=some (.ret (.int .i64 (idx p l 0)),[.live 7 false false [[slv 3 true mm.nS (mm.sens.map aaZ.cells),slv 4 false mm.nV (mm.votes.map aaL.cells),slv 5 false mm.nM (mm.moves.map aaM.cells),.int .i64 mm.states,.int .i64 mm.cmds,.int .i64 mm.bgn,slv 1 true mm.nO (mm.opn.map iv)]]]):=by
 (refine ce Try.func88 ?_;simp only[Try.f88];(have hb:=trivial;with_reducible repeat' (first|simp only[hb,Vc.down,seval,az7.down,aaD]|refine fsp ?_ ?_<;>intro hb|refine fd ?_|fail)))
 refine ac3 (lst 19 l (fun i (s:Int) t h=>s=i∧h=[.live 7 false false [[slv 3 true mm.nS (mm.sens.map aaZ.cells),slv 4 false mm.nV (mm.votes.map aaL.cells),slv 5 false mm.nM (mm.moves.map aaM.cells),.int .i64 mm.states,.int .i64 mm.cmds,.int .i64 mm.bgn,slv 1 true mm.nO (mm.opn.map iv)]]]∧t 0=slv 5 false nn (l.map aaM.cells)∧t 1=.func (.func g) [] [.ptr 0 0 0]∧t 7=.int .i64 l.length∧t 8=.int .i64 i)
  (fun rest s=>idx p rest s) (fun r e t h=>h=[.live 7 false false [[slv 3 true mm.nS (mm.sens.map aaZ.cells),slv 4 false mm.nV (mm.votes.map aaL.cells),slv 5 false mm.nM (mm.moves.map aaM.cells),.int .i64 mm.states,.int .i64 mm.cmds,.int .i64 mm.bgn,slv 1 true mm.nO (mm.opn.map iv)]]]∧((e=.exit 0∧r= -1)∨(e=.ret∧t 4=.int .i64 r))) ?_ ?_ 0 _ _ ?_) (fun e t h hk=>?_)
 ·rintro s t h Q' kQ ⟨rfl,rfl,h0,h1,h7,h8⟩
  (have hb:=trivial;with_reducible repeat' (first|simp only[hb,Vc.down,seval,az7.down,h0,h1,h7,h8,aaW,decide_false]|refine fsp ?_ ?_<;>intro hb|refine fd ?_|fail))
  exact kQ _ _ _ ⟨rfl,.inl ⟨rfl,rfl⟩⟩
 ·rintro x rest i s t h J Q' kJ kQ hx hi ⟨rfl,rfl,h0,h1,h7,h8⟩
  have hpx:=hp x (abM hx)
  have hd:decide ((i:Int)<(l.length:Int))=true:=by simpa using hi
  (have hb:=trivial;with_reducible repeat' (first|simp only[hb,Vc.down,seval,az7.down,h0,h1,h7,h8,hd,hx,aaM.cells,hpx,aaR hi hl]|refine fsp ?_ ?_<;>intro hb|refine fd ?_|fail))
  ·exact kQ _ _ _ ⟨rfl,.inr ⟨rfl,by simp[up,idx,hb]⟩⟩
  ·exact abE (kJ _ _ (i+1) ⟨by simp,rfl,by simp[up,h0],by simp[up,h1],by simp[up,h7],by simp[up]⟩ (by simp[idx,hb]))
 ·exact⟨rfl,rfl,by simp[up,ent],by simp[up,ent],by simp[up],by simp[up]⟩
 ·obtain⟨rfl,⟨rfl,hi⟩|⟨rfl,hi⟩⟩:=hk
  ·(have hb:=trivial;with_reducible repeat' (first|simp only[hb,Vc.down,seval,az7.down]|refine fsp ?_ ?_<;>intro hb|refine fd ?_|fail))
   rw[hi]
  ·(have hb:=trivial;with_reducible repeat' (first|simp only[hb,Vc.down,seval,az7.down,hi]|refine fsp ?_ ?_<;>intro hb|refine fd ?_|fail))
theorem asH{l:List aaM}{nn:Bool}{g:Nat}{mm:aa3}{p:aaM→Bool}(hp:∀x∈l,om'.call (.fn g) (.agg [.int .i64 x.frm,.int .i64 x.to,slv 2 true x.nn (x.wants.map aaO.cells),.int .i64 x.cmd,.int .i64 x.after]::[.ptr 0 0 0]) [.live 7 false false [[slv 3 true mm.nS (mm.sens.map aaZ.cells),slv 4 false mm.nV (mm.votes.map aaL.cells),slv 5 false mm.nM (mm.moves.map aaM.cells),.int .i64 mm.states,.int .i64 mm.cmds,.int .i64 mm.bgn,slv 1 true mm.nO (mm.opn.map iv)]]]=some (.ret (.bool (p x)),[.live 7 false false [[slv 3 true mm.nS (mm.sens.map aaZ.cells),slv 4 false mm.nV (mm.votes.map aaL.cells),slv 5 false mm.nM (mm.moves.map aaM.cells),.int .i64 mm.states,.int .i64 mm.cmds,.int .i64 mm.bgn,slv 1 true mm.nO (mm.opn.map iv)]]]))(hl:l.length≤maxLen):
 om'.call (.fn 70) [slv 5 false nn (l.map aaM.cells),.func (.func g) [] [.ptr 0 0 0]] [.live 7 false false [[slv 3 true mm.nS (mm.sens.map aaZ.cells),slv 4 false mm.nV (mm.votes.map aaL.cells),slv 5 false mm.nM (mm.moves.map aaM.cells),.int .i64 mm.states,.int .i64 mm.cmds,.int .i64 mm.bgn,slv 1 true mm.nO (mm.opn.map iv)]]]=some (.ret (.bool (l.any p)),[.live 7 false false [[slv 3 true mm.nS (mm.sens.map aaZ.cells),slv 4 false mm.nV (mm.votes.map aaL.cells),slv 5 false mm.nM (mm.moves.map aaM.cells),.int .i64 mm.states,.int .i64 mm.cmds,.int .i64 mm.bgn,slv 1 true mm.nO (mm.opn.map iv)]]]):=by
 (refine ce Try.func70 ?_;simp only[Try.f70];(have hb:=trivial;with_reducible repeat' (first|simp only[hb,Vc.down,seval,avX hp hl,ajZ p l 0 (ab9 0)]|refine fsp ?_ ?_<;>intro hb|refine fd ?_|fail)))
theorem al9(m:aa3)(hs:m.small):om'.call (.fn 42) [.agg [slv 3 true m.nS (m.sens.map aaZ.cells),slv 4 false m.nV (m.votes.map aaL.cells),slv 5 false m.nM (m.moves.map aaM.cells),.int .i64 m.states,.int .i64 m.cmds,.int .i64 m.bgn,slv 1 true m.nO (m.opn.map iv)]] []=some (.ret (.bool (ac6 m)),[]):=by
 have l1:decide ((6:Int)<(m.sens.length:Int))= !decide (m.sens.length≤6):=by rw[←decide_not,decide_eq_decide];omega
 have l2:decide ((6:Int)<(m.votes.length:Int))= !decide (m.votes.length≤6):=by rw[←decide_not,decide_eq_decide];omega
 have l3:decide ((20:Int)<(m.moves.length:Int))= !decide (m.moves.length≤20):=by rw[←decide_not,decide_eq_decide];omega
 cases hp:aj3 m with
 |false=>
  have hp':ac6 m=false:=by simp[ac6,hp]
  rw[hp']
  (refine ce Try.func42 ?_;simp only[Try.f42];(have hb:=trivial;with_reducible repeat' (first|simp only[hb,Vc.down,seval,aoC.down,aaD,al3,l1,l2,l3]|refine fsp ?_ ?_<;>intro hb|refine fd ?_|fail)))
  all_goals first
   |rfl
   |(exfalso;simp_all[aj3];done)
 |true=>
  have hp':=hp
  simp only[aj3,agI]at hp'
  obtain⟨⟨⟨⟨⟨⟨p1,p2⟩,p3⟩,p4⟩,p5⟩,p6⟩,p7⟩:=hp'
  (refine ce Try.func42 ?_;simp only[Try.f42];(have hb:=trivial;with_reducible repeat' (first|simp only[hb,Vc.down,seval,aoC.down,aaD,al3,l1,l2,l3,p1,p2,p3,p4,p5,p6,p7]|refine fsp ?_ ?_<;>intro hb|refine fd ?_|fail)))
  refine ac3 (lst 118 m.sens (fun i (zz:Unit) t h=>t 1=.ptr 0 0 0∧t 53=slv 3 true m.nS (m.sens.map aaZ.cells)∧t 54=.int .i64 m.sens.length∧t 55=.int .i64 i∧(h[0]?=some (.live 7 false false [[slv 3 true m.nS (m.sens.map aaZ.cells),slv 4 false m.nV (m.votes.map aaL.cells),slv 5 false m.nM (m.moves.map aaM.cells),.int .i64 m.states,.int .i64 m.cmds,.int .i64 m.bgn,slv 1 true m.nO (m.opn.map iv)]]))) (fun rest zz=>rest.all asV) (fun r e t h=>(if r=true then e=.exit 0∧t 1=.ptr 0 0 0∧h[0]?=some (.live 7 false false [[slv 3 true m.nS (m.sens.map aaZ.cells),slv 4 false m.nV (m.votes.map aaL.cells),slv 5 false m.nM (m.moves.map aaM.cells),.int .i64 m.states,.int .i64 m.cmds,.int .i64 m.bgn,slv 1 true m.nO (m.opn.map iv)]])else e=.ret∧t 2=.bool false)) ?_ ?_ () _ _ ?_) (fun e t h hk=>?_)
  ·rintro _ t h Q' kQ ⟨h1,h53,h54,h55,hA⟩
   (have hb:=trivial;with_reducible repeat' (first|simp only[hb,Vc.down,seval,aoC.down,h1,h53,h54,h55,aaW,decide_false]|refine fsp ?_ ?_<;>intro hb|refine fd ?_|fail))
   exact kQ _ _ _ (by rw[if_pos (by rfl)];exact⟨rfl,by simp[up,h1],hA⟩)
  ·rintro x rest i _ t h J Q' kJ kQ hx hi ⟨h1,h53,h54,h55,hA⟩
   have hd:decide ((i:Int)<(m.sens.length:Int))=true:=decide_eq_true (by omega)
   have hw:=aaR hi hs.sens
   have hA1:=aa0 hA
   (have hb:=trivial;with_reducible repeat' (first|simp only[hb,Vc.down,seval,aoC.down,h1,h53,h54,h55,hd,hx,hw,apI,aaZ.cells,aaD]|refine fsp ?_ ?_<;>intro hb|refine fd ?_|fail))
   all_goals first
    |exact kQ _ _ _ (by rw[if_neg (by simp_all[asV])];exact⟨rfl,by simp[up]⟩)
    |(refine abE (kJ _ _ () ⟨?_,?_,?_,?_,hA1 _⟩ ?_);(simp[up,h1]);(simp[up,h53]);(simp[up,h54]);(simp[up]);(simp_all[asV]))
  ·exact⟨by simp[up,ent],by simp[up,ent],by simp[up,ent],by simp[up],rfl⟩
  ·split at hk
   ·obtain⟨rfl,h1,hA⟩:=hk
    rename_i hr1
    have hA1:=aa0 hA
    (have hb:=trivial;with_reducible repeat' (first|simp only[hb,Vc.down,seval,aoC.down,h1,hA,hA1,aaD]|refine fsp ?_ ?_<;>intro hb|refine fd ?_|fail))
    refine ac3 (lst 118 m.votes (fun i (zz:Unit) t h=>t 1=.ptr 0 0 0∧t 78=slv 4 false m.nV (m.votes.map aaL.cells)∧t 79=.int .i64 m.votes.length∧t 80=.int .i64 i∧(h[0]?=some (.live 7 false false [[slv 3 true m.nS (m.sens.map aaZ.cells),slv 4 false m.nV (m.votes.map aaL.cells),slv 5 false m.nM (m.moves.map aaM.cells),.int .i64 m.states,.int .i64 m.cmds,.int .i64 m.bgn,slv 1 true m.nO (m.opn.map iv)]]))) (fun rest zz=>rest.all (akA m.sens.length)) (fun r e t h=>(if r=true then e=.exit 2∧t 1=.ptr 0 0 0∧h[0]?=some (.live 7 false false [[slv 3 true m.nS (m.sens.map aaZ.cells),slv 4 false m.nV (m.votes.map aaL.cells),slv 5 false m.nM (m.moves.map aaM.cells),.int .i64 m.states,.int .i64 m.cmds,.int .i64 m.bgn,slv 1 true m.nO (m.opn.map iv)]])else e=.ret∧t 2=.bool false)) ?_ ?_ () _ _ ?_) (fun e t h hk=>?_)
    ·rintro _ t h Q' kQ ⟨h1,h78,h79,h80,hA⟩
     (have hb:=trivial;with_reducible repeat' (first|simp only[hb,Vc.down,seval,aoC.down,h1,h78,h79,h80,aaW,decide_false]|refine fsp ?_ ?_<;>intro hb|refine fd ?_|fail))
     exact kQ _ _ _ (by rw[if_pos (by rfl)];exact⟨rfl,by simp[up,h1],hA⟩)
    ·rintro x rest i _ t h J Q' kJ kQ hx hi ⟨h1,h78,h79,h80,hA⟩
     have hd:decide ((i:Int)<(m.votes.length:Int))=true:=decide_eq_true (by omega)
     have hw:=aaR hi hs.votes
     have hA1:=aa0 hA
     have hin:=apH (nn:=x.nn) m.sens.length (hs.vs x (abM hx))
     (have hb:=trivial;with_reducible repeat' (first|simp only[hb,Vc.down,seval,aoC.down,h1,h78,h79,h80,hd,hx,hw,hA1,apI,al3,hin,aaL.cells,aaD]|refine fsp ?_ ?_<;>intro hb|refine fd ?_|fail))
     all_goals first
      |exact kQ _ _ _ (by rw[if_neg (by simp_all[akA])];exact⟨rfl,by simp[up]⟩)
      |(refine abE (kJ _ _ () ⟨?_,?_,?_,?_,hA1 _⟩ ?_);(simp[up,h1]);(simp[up,h78]);(simp[up,h79]);(simp[up]);(simp_all[akA]))
    ·exact⟨by simp[up,ent,h1],by simp[up,ent,h1],by simp[up,ent,h1],by simp[up],hA⟩
    ·split at hk
     ·obtain⟨rfl,h1,hA⟩:=hk
      rename_i hr2
      have hA1:=aa0 hA
      have hcM:=asH (mm:=m) (l:=m.moves) (nn:=m.nM) (g:=71) (p:=fun x=> !ahA m x) (fun x hx=>aw3 m x (hs.ws x hx)) hs.moves
      have hcI:=aoO (l:=m.opn) (nn:=m.nO) (g:=74) (cap:=[]) (p:=fun x=> !inB x 0 255) rfl rfl (fun x _=>aw5 x) hs.opn
      (have hb:=trivial;with_reducible repeat' (first|simp only[hb,Vc.down,seval,aoC.down,h1,hA,hA1,aaD,hcM,hcI]|refine fsp ?_ ?_<;>intro hb|refine fd ?_|fail))
      all_goals
       have q1:m.moves.all (ahA m)= !(m.moves.any fun x=> !ahA m x):=ag9
       have q2:m.opn.all (fun n=>inB n 0 255)= !(m.opn.any fun x=> !inB x 0 255):=ag9
       simp only[ac6,hp,hr1,hr2,q1,q2,hb,abW,ab6,ab8,acB,acM]
       try rfl
     ·obtain⟨rfl,h2⟩:=hk
      rename_i hr2
      (have hb:=trivial;with_reducible repeat' (first|simp only[hb,Vc.down,seval,aoC.down,h2]|refine fsp ?_ ?_<;>intro hb|refine fd ?_|fail))
      all_goals simp[ac6,hp,aa5.2 hr2]
   ·obtain⟨rfl,h2⟩:=hk
    rename_i hr1
    (have hb:=trivial;with_reducible repeat' (first|simp only[hb,Vc.down,seval,aoC.down,h2]|refine fsp ?_ ?_<;>intro hb|refine fd ?_|fail))
    all_goals simp[ac6,hp,aa5.2 hr1]
theorem aCR(m:aa3)(hs:m.small):om'.call (.fn 26) [.agg [slv 3 true m.nS (m.sens.map aaZ.cells),slv 4 false m.nV (m.votes.map aaL.cells),slv 5 false m.nM (m.moves.map aaM.cells),.int .i64 m.states,.int .i64 m.cmds,.int .i64 m.bgn,slv 1 true m.nO (m.opn.map iv)]] []=some (.ret (.int .i64 (if ac6 m=true then 0 else 2)),[]):=by
 have hv:=al9 m hs
 (refine ce Try.func26 ?_;simp only[Try.f26];(have hb:=trivial;with_reducible repeat' (first|simp only[hb,Vc.down,seval,aKP.down,hv]|refine fsp ?_ ?_<;>intro hb|refine fd ?_|fail)))
 all_goals simp_all
theorem awA(m:aa3)(hs:m.small):om'.call (.fn 15) [.agg [slv 3 true m.nS (m.sens.map aaZ.cells),slv 4 false m.nV (m.votes.map aaL.cells),slv 5 false m.nM (m.moves.map aaM.cells),.int .i64 m.states,.int .i64 m.cmds,.int .i64 m.bgn,slv 1 true m.nO (m.opn.map iv)]] []=some (.ret (.bool (ac6 m)),[]):=by
 have l1:decide ((6:Int)<(m.sens.length:Int))= !decide (m.sens.length≤6):=by rw[←decide_not,decide_eq_decide];omega
 have l2:decide ((6:Int)<(m.votes.length:Int))= !decide (m.votes.length≤6):=by rw[←decide_not,decide_eq_decide];omega
 have l3:decide ((20:Int)<(m.moves.length:Int))= !decide (m.moves.length≤20):=by rw[←decide_not,decide_eq_decide];omega
 have sen:∀x:aaZ,asV x=(!decide (x.lo < -10000)&& !decide (x.hi<x.lo)&& !decide (10000<x.hi)):=fun x=>by
  rw[Bool.eq_iff_iff];simp[asV,akN,inB];omega
 (refine ce Try.func15 ?_;simp only[Try.f15];(have hb:=trivial;with_reducible repeat' (first|simp only[hb,Vc.down,seval,ahC.down,aaD]|refine fsp ?_ ?_<;>intro hb|refine fd ?_|fail)))
 refine ac3 (lst 126 m.sens (fun i (zz:Unit) t h=>t 1=.ptr 0 0 0∧t 3=.int .i64 i∧(h[0]?=some (.live 7 false false [[slv 3 true m.nS (m.sens.map aaZ.cells),slv 4 false m.nV (m.votes.map aaL.cells),slv 5 false m.nM (m.moves.map aaM.cells),.int .i64 m.states,.int .i64 m.cmds,.int .i64 m.bgn,slv 1 true m.nO (m.opn.map iv)]]))) (fun rest zz=>rest.all asV) (fun r e t h=>(if r=true then e=.exit 0∧t 1=.ptr 0 0 0∧h[0]?=some (.live 7 false false [[slv 3 true m.nS (m.sens.map aaZ.cells),slv 4 false m.nV (m.votes.map aaL.cells),slv 5 false m.nM (m.moves.map aaM.cells),.int .i64 m.states,.int .i64 m.cmds,.int .i64 m.bgn,slv 1 true m.nO (m.opn.map iv)]])else e=.ret∧t 2=.bool false)) ?_ ?_ () _ _ ?_) (fun e t h hk=>?_)
 ·rintro _ t h Q' kQ ⟨h1,h3,hA⟩
  (have hb:=trivial;with_reducible repeat' (first|simp only[hb,Vc.down,seval,ahC.down,h1,h3,aaW,decide_false,hA,aaD]|refine fsp ?_ ?_<;>intro hb|refine fd ?_|fail))
  exact kQ _ _ _ (by rw[if_pos (by rfl)];exact⟨rfl,by simp[up,h1],hA⟩)
 ·rintro x rest i _ t h J Q' kJ kQ hx hi ⟨h1,h3,hA⟩
  have hd:decide ((i:Int)<(m.sens.length:Int))=true:=decide_eq_true (by omega)
  have hw:=aaR hi hs.sens
  have hA1:=aa0 hA
  (have hb:=trivial;with_reducible repeat' (first|simp only[hb,Vc.down,seval,ahC.down,h1,h3,hd,hx,hw,hA,hA1,aaZ.cells,aaD]|refine fsp ?_ ?_<;>intro hb|refine fd ?_|fail))
  all_goals first
   |exact kQ _ _ _ (by rw[if_neg (by simp_all)];exact⟨rfl,by simp[up]⟩)
   |(refine abE (kJ _ _ () ⟨?_,?_,hA1 _⟩ ?_);(simp[up,h1]);(simp[up]);(simp_all))
 ·exact⟨by simp[up,ent],by simp[up],rfl⟩
 split at hk
 rotate_left
 ·obtain⟨rfl,h2⟩:=hk
  rename_i hr1
  (have hb:=trivial;with_reducible repeat' (first|simp only[hb,Vc.down,seval,ahC.down,h2]|refine fsp ?_ ?_<;>intro hb|refine fd ?_|fail))
  all_goals simp[ac6,aa5.2 hr1]
 obtain⟨rfl,h1,hA⟩:=hk
 rename_i hr1
 have hA1:=aa0 hA
 (have hb:=trivial;with_reducible repeat' (first|simp only[hb,Vc.down,seval,ahC.down,h1,hA,hA1,aaD]|refine fsp ?_ ?_<;>intro hb|refine fd ?_|fail))
 refine ac3 (lst 126 m.votes (fun i (zz:Unit) t h=>t 1=.ptr 0 0 0∧t 5=.int .i64 i∧(h[0]?=some (.live 7 false false [[slv 3 true m.nS (m.sens.map aaZ.cells),slv 4 false m.nV (m.votes.map aaL.cells),slv 5 false m.nM (m.moves.map aaM.cells),.int .i64 m.states,.int .i64 m.cmds,.int .i64 m.bgn,slv 1 true m.nO (m.opn.map iv)]]))) (fun rest zz=>rest.all (akA m.sens.length)) (fun r e t h=>(if r=true then e=.exit 2∧t 1=.ptr 0 0 0∧h[0]?=some (.live 7 false false [[slv 3 true m.nS (m.sens.map aaZ.cells),slv 4 false m.nV (m.votes.map aaL.cells),slv 5 false m.nM (m.moves.map aaM.cells),.int .i64 m.states,.int .i64 m.cmds,.int .i64 m.bgn,slv 1 true m.nO (m.opn.map iv)]])else e=.ret∧t 2=.bool false)) ?_ ?_ () _ _ ?_) (fun e t h hk=>?_)
 ·rintro _ t h Q' kQ ⟨h1,h5,hA⟩
  (have hb:=trivial;with_reducible repeat' (first|simp only[hb,Vc.down,seval,ahC.down,h1,h5,aaW,decide_false,hA,aaD]|refine fsp ?_ ?_<;>intro hb|refine fd ?_|fail))
  exact kQ _ _ _ (by rw[if_pos (by rfl)];exact⟨rfl,by simp[up,h1],hA⟩)
 ·rintro x rest i _ t h J Q' kJ kQ hx hi ⟨h1,h5,hA⟩
  have hd:decide ((i:Int)<(m.votes.length:Int))=true:=decide_eq_true (by omega)
  have hw:=aaR hi hs.votes
  have hA1:=aa0 hA
  have hV:=aE7 x m.sens.length (hs.vs x (abM hx))
  (have hb:=trivial;with_reducible repeat' (first|simp only[hb,Vc.down,seval,ahC.down,h1,h5,hd,hx,hw,hA,hA1,hV,aaL.cells,aaD]|refine fsp ?_ ?_<;>intro hb|refine fd ?_|fail))
  all_goals first
   |exact kQ _ _ _ (by rw[if_neg (by simp_all)];exact⟨rfl,by simp[up]⟩)
   |(refine abE (kJ _ _ () ⟨?_,?_,hA⟩ ?_);(simp[up,h1]);(simp[up]);(simp_all))
 ·exact⟨by simp[up,ent,h1],by simp[up],hA⟩
 split at hk
 rotate_left
 ·obtain⟨rfl,h2⟩:=hk
  rename_i hr2
  (have hb:=trivial;with_reducible repeat' (first|simp only[hb,Vc.down,seval,ahC.down,h2]|refine fsp ?_ ?_<;>intro hb|refine fd ?_|fail))
  all_goals simp[ac6,aa5.2 hr2]
 obtain⟨rfl,h1,hA⟩:=hk
 rename_i hr2
 have hA1:=aa0 hA
 cases hp:aj3 m with
 |false=>
  have hp':ac6 m=false:=by simp[ac6,hp]
  rw[hp']
  (have hb:=trivial;with_reducible repeat' (first|simp only[hb,Vc.down,seval,ahC.down,h1,hA,hA1,aaD,an4,l1,l2,l3]|refine fsp ?_ ?_<;>intro hb|refine fd ?_|fail))
  all_goals first
   |rfl
   |(exfalso;simp_all[aj3];done)
 |true=>
  have hp':=hp
  simp only[aj3,agI]at hp'
  obtain⟨⟨⟨⟨⟨⟨p1,p2⟩,p3⟩,p4⟩,p5⟩,p6⟩,p7⟩:=hp'
  (have hb:=trivial;with_reducible repeat' (first|simp only[hb,Vc.down,seval,ahC.down,h1,hA,hA1,aaD,an4,l1,l2,l3,p1,p2,p3,p4,p5,p6,p7]|refine fsp ?_ ?_<;>intro hb|refine fd ?_|fail))
  refine ac3 (lst 126 m.opn (fun i (zz:Unit) t h=>t 1=.ptr 0 0 0∧t 6=.int .i64 i∧(h[0]?=some (.live 7 false false [[slv 3 true m.nS (m.sens.map aaZ.cells),slv 4 false m.nV (m.votes.map aaL.cells),slv 5 false m.nM (m.moves.map aaM.cells),.int .i64 m.states,.int .i64 m.cmds,.int .i64 m.bgn,slv 1 true m.nO (m.opn.map iv)]]))) (fun rest zz=>rest.all (fun n=>inB n 0 255)) (fun r e t h=>(if r=true then e=.exit 4∧t 1=.ptr 0 0 0∧h[0]?=some (.live 7 false false [[slv 3 true m.nS (m.sens.map aaZ.cells),slv 4 false m.nV (m.votes.map aaL.cells),slv 5 false m.nM (m.moves.map aaM.cells),.int .i64 m.states,.int .i64 m.cmds,.int .i64 m.bgn,slv 1 true m.nO (m.opn.map iv)]])else e=.ret∧t 2=.bool false)) ?_ ?_ () _ _ ?_) (fun e t h hk=>?_)
  ·rintro _ t h Q' kQ ⟨h1,h6,hA⟩
   (have hb:=trivial;with_reducible repeat' (first|simp only[hb,Vc.down,seval,ahC.down,h1,h6,aaW,decide_false,hA,aaD]|refine fsp ?_ ?_<;>intro hb|refine fd ?_|fail))
   exact kQ _ _ _ (by rw[if_pos (by rfl)];exact⟨rfl,by simp[up,h1],hA⟩)
  ·rintro x rest i _ t h J Q' kJ kQ hx hi ⟨h1,h6,hA⟩
   have hd:decide ((i:Int)<(m.opn.length:Int))=true:=decide_eq_true (by omega)
   have hw:=aaR hi hs.opn
   have hA1:=aa0 hA
   (have hb:=trivial;with_reducible repeat' (first|simp only[hb,Vc.down,seval,ahC.down,h1,h6,hd,hx,hw,hA,hA1,an4,iv,aaD]|refine fsp ?_ ?_<;>intro hb|refine fd ?_|fail))
   all_goals first
    |exact kQ _ _ _ (by rw[if_neg (by simp_all)];exact⟨rfl,by simp[up]⟩)
    |(refine abE (kJ _ _ () ⟨?_,?_,hA⟩ ?_);(simp[up,h1]);(simp[up]);(simp_all))
  ·exact⟨by simp[up,ent,h1],by simp[up],hA⟩
  split at hk
  rotate_left
  ·obtain⟨rfl,h2⟩:=hk
   rename_i hr3
   (have hb:=trivial;with_reducible repeat' (first|simp only[hb,Vc.down,seval,ahC.down,h2]|refine fsp ?_ ?_<;>intro hb|refine fd ?_|fail))
   all_goals simp[ac6,aa5.2 hr3]
  obtain⟨rfl,h1,hA⟩:=hk
  rename_i hr3
  have hA1:=aa0 hA
  (have hb:=trivial;with_reducible repeat' (first|simp only[hb,Vc.down,seval,ahC.down,h1,hA,hA1,aaD]|refine fsp ?_ ?_<;>intro hb|refine fd ?_|fail))
  refine ac3 (lst 126 m.moves (fun i (zz:Unit) t h=>t 1=.ptr 0 0 0∧t 7=.int .i64 i∧(h[0]?=some (.live 7 false false [[slv 3 true m.nS (m.sens.map aaZ.cells),slv 4 false m.nV (m.votes.map aaL.cells),slv 5 false m.nM (m.moves.map aaM.cells),.int .i64 m.states,.int .i64 m.cmds,.int .i64 m.bgn,slv 1 true m.nO (m.opn.map iv)]]))) (fun rest zz=>rest.all (ahA m)) (fun r e t h=>(if r=true then e=.exit 6 else e=.ret∧t 2=.bool false)) ?_ ?_ () _ _ ?_) (fun e t h hk=>?_)
  ·rintro _ t h Q' kQ ⟨h1,h7,hA⟩
   (have hb:=trivial;with_reducible repeat' (first|simp only[hb,Vc.down,seval,ahC.down,h1,h7,aaW,decide_false,hA,aaD]|refine fsp ?_ ?_<;>intro hb|refine fd ?_|fail))
   exact kQ _ _ _ (by rw[if_pos (by rfl)])
  ·rintro x rest i _ t h J Q' kJ kQ hx hi ⟨h1,h7,hA⟩
   have hd:decide ((i:Int)<(m.moves.length:Int))=true:=decide_eq_true (by omega)
   have hw:=aaR hi hs.moves
   have hA1:=aa0 hA
   have hM:=aGF m x (hs.ws x (abM hx))
   (have hb:=trivial;with_reducible repeat' (first|simp only[hb,Vc.down,seval,ahC.down,h1,h7,hd,hx,hw,hA,hA1,hM,aaM.cells,aaD]|refine fsp ?_ ?_<;>intro hb|refine fd ?_|fail))
   all_goals first
    |exact kQ _ _ _ (by rw[if_neg (by simp_all)];exact⟨rfl,by simp[up]⟩)
    |(refine abE (kJ _ _ () ⟨?_,?_,hA⟩ ?_);(simp[up,h1]);(simp[up]);(simp_all))
  ·exact⟨by simp[up,ent,h1],by simp[up],hA⟩
  split at hk
  ·subst hk
   rename_i hr4
   (have hb:=trivial;with_reducible repeat' (first|simp only[hb,Vc.down,seval,ahC.down]|refine fsp ?_ ?_<;>intro hb|refine fd ?_|fail))
   all_goals simp[ac6,hp,hr1,hr2,hr3,hr4]
  ·obtain⟨rfl,h2⟩:=hk
   rename_i hr4
   (have hb:=trivial;with_reducible repeat' (first|simp only[hb,Vc.down,seval,ahC.down,h2]|refine fsp ?_ ?_<;>intro hb|refine fd ?_|fail))
   all_goals simp[ac6,aa5.2 hr4]
end Go.Proofs.Ytfkokgjfpojeoaa
