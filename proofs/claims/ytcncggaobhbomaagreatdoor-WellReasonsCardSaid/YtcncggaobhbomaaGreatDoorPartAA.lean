/- The functions of the layer, walked. -/
import Derived.Test.YtcncggaobhbomaaGreatDoorLibE
import Derived.Test.YtcncggaobhbomaaGreatDoorChecked
import Derived.Test.YtcncggaobhbomaaGreatDoorLibD
import Derived.Test.YtcncggaobhbomaaGreatDoorRows
import Derived.Test.YtcncggaobhbomaaGreatDoorTie
import Derived.Test.YtcncggaobhbomaaGreatDoorCards
import Derived.Test.YtcncggaobhbomaaGreatDoorShelf
import Derived.ProofKit
import Derived.LaidMore
import Derived.OpenShut
import Derived.Stop.Joined
open And renaming intro→agX
open List renaming getElem?_append_left→ao8,length_map→aqM,getElem?_set_ne→aqT,getElem?_set_self→awX,replicate→aAR,take→aC4,getElem?_eq_some_iff→aC5,take_of_length_le→aC6,getElem?_append_right→aC8,all_eq_true→aEY,mem_cons_self→aE6,drop→aFD,flatMap_cons→aHS,cons_append→aH6,nil_append→aIF,length_set→aJY,mem_of_getElem?→aJ1,getElem?_eq_getElem→aJ9,take_succ_cons→aLK,drop_succ_cons→aM0,set_cons_succ→aM7,length_take→aNT,length_nil→aNV
open Nat renaming ble→aC7
open Int renaming lt_irrefl→aIS
open Option renaming bind_some→aKY
open Bool renaming and_eq_true→aNU
set_option linter.unusedSimpArgs false
set_option linter.unusedVariables false
namespace Go.Proofs.YtcncggaobhbomaaGreatDoor
open Go.Ev
set_option maxRecDepth 100000
theorem Jh(h:Aa)(b r o:Nat):ld Tryz.prog 24 h (some (.ptr b r o))=ldR (Iu (h[b]?) r) o 3:=aEE ⟨by kernel_rfl,by kernel_rfl⟩ h b r o
theorem aI4(b r o:Nat):ftL Tryz.prog 24 (some (.ptr b r o))=some [.cells b o 3]:=Jr (isA:=true) (n:=3) (by kernel_rfl) (by kernel_rfl) b r o
theorem azP(fl nn:Bool)(rows:List (List AV)):ln Tryz.prog 25 (some (Bo 3 fl nn rows))=some (.ret (.int .i64 rows.length),[]):=aKX ⟨_,Tryz.underlying25,by kernel_rfl⟩ fl nn rows
theorem Df(b r o:Nat):fa Tryz.prog 24 (some (.ptr b r o)) 2=some (.ret (.ptr b r (o+2)),[]):=Du (show Ew Tryz.prog 24 2 2 1 from⟨_,_,Tryz.underlying24,rfl,rfl,by kernel_rfl,by decide⟩) b r o
theorem Dt(h:Aa)(b r o:Nat):ld Tryz.prog 22 h (some (.ptr b r o))=ldC (Iu (h[b]?) r) o:=aAD ⟨by kernel_rfl,1,by kernel_rfl⟩ h b r o
theorem Ed(fl nn:Bool)(rows:List (List AV)):ln Tryz.prog 22 (some (Bo 9 fl nn rows))=some (.ret (.int .i64 rows.length),[]):=aKX ⟨_,Tryz.underlying22,by kernel_rfl⟩ fl nn rows
theorem aGZ:Es Tryz.prog 36=some (.agg [.int .i64 0,.int .i64 0]):=by kernel_rfl
theorem aHA(h:Aa)(b r o:Nat)(v:AV):st_ Tryz.prog 36 h (some (.ptr b r o)) (some v)=sv 2 (h[b]?) b r o (Ad v):=Ig (by kernel_rfl) h b r o v
theorem aJO(b r o:Nat):ftS Tryz.prog 36 (some (.ptr b r o))=some [.cells b o 2]:=aFE (by kernel_rfl) b r o
theorem aBA(h:Aa)(b r o:Nat):ld Tryz.prog 36 h (some (.ptr b r o))=ldR (Iu (h[b]?) r) o 2:=aEE ⟨by kernel_rfl,by kernel_rfl⟩ h b r o
theorem aI5(b r o:Nat):ftL Tryz.prog 36 (some (.ptr b r o))=some [.cells b o 2]:=Jr (isA:=true) (n:=2) (by kernel_rfl) (by kernel_rfl) b r o
theorem aI8(ps:List (Nat × AV)):Ol Tryz.prog 36 ps=(Il (fun i=>([(0,1),(1,1)]:List (Nat × Nat))[i]?) (Ad (.agg [.int .i64 0,.int .i64 0])) ps).map .agg:=by kernel_rfl
theorem Ph(fl nn:Bool)(rows:List (List AV))(k:IntKind)(i:Int):ia Tryz.prog 22 (some (Bo 9 fl nn rows)) (some (.int k i))=if 0≤i then r1 ((rows[i.toNat]?).map .iptr)else none:=aJR ⟨_,Tryz.underlying22,by kernel_rfl⟩ fl nn rows k i
theorem aHM(h:Aa)(b r o:Nat):ld Tryz.prog 46 h (some (.ptr b r o))=ldR (Iu (h[b]?) r) o 9:=aEE ⟨by kernel_rfl,by kernel_rfl⟩ h b r o
theorem Nh(h:Aa)(cs:List AV):ld Tryz.prog 46 h (some (.iptr cs))=if 9≤cs.length then some (.ret (.agg (cs.take 9)),[])else none:=aPV ⟨by kernel_rfl,by kernel_rfl⟩ h cs
theorem aTR(b r o:Nat):ftL Tryz.prog 46 (some (.ptr b r o))=some [.cells b o 9]:=Jr (isA:=true) (n:=9) (by kernel_rfl) (by kernel_rfl) b r o
theorem aBY:Es Tryz.prog 46=some (.agg [.int .i64 0,.int .i64 0,.bool false,.bool false,.int .i64 0,.int .i64 0,.bool false,.int .i64 0,.int .i64 0]):=by kernel_rfl
theorem aB9(h:Aa)(b r o:Nat)(v:AV):st_ Tryz.prog 46 h (some (.ptr b r o)) (some v)=sv 9 (h[b]?) b r o (Ad v):=Ig (by kernel_rfl) h b r o v
theorem axF(b r o:Nat):fa Tryz.prog 46 (some (.ptr b r o)) 5=some (.ret (.ptr b r (o+5)),[]):=Du (show Ew Tryz.prog 46 5 5 1 from⟨_,_,Tryz.underlying46,rfl,rfl,by kernel_rfl,by decide⟩) b r o
theorem Dl(h:Aa)(b r o:Nat):ld Tryz.prog 3 h (some (.ptr b r o))=ldC (Iu (h[b]?) r) o:=aAD ⟨by kernel_rfl,1,by kernel_rfl⟩ h b r o
theorem aJL(h:Aa)(c:AV)(cs:List AV):ld Tryz.prog 3 h (some (.iptr (c::cs)))=some (.ret c,[]):=a9Q ⟨by kernel_rfl,1,by kernel_rfl⟩ h c cs
theorem aMJ(b r o:Nat):ftL Tryz.prog 3 (some (.ptr b r o))=some [.cells b o 1]:=Jr (isA:=false) (n:=1) (by kernel_rfl) (by kernel_rfl) b r o
theorem a0Z(h:Aa)(b r o:Nat)(v:AV):st_ Tryz.prog 3 h (some (.ptr b r o)) (some v)=sv 1 (h[b]?) b r o (Ad v):=Ig (by kernel_rfl) h b r o v
theorem auA(b r o:Nat):fa Tryz.prog 46 (some (.ptr b r o)) 3=some (.ret (.ptr b r (o+3)),[]):=Du (show Ew Tryz.prog 46 3 3 1 from⟨_,_,Tryz.underlying46,rfl,rfl,by kernel_rfl,by decide⟩) b r o
theorem a2T(h:Aa)(b r o:Nat)(v:AV):st_ Tryz.prog 4 h (some (.ptr b r o)) (some v)=sv 1 (h[b]?) b r o (Ad v):=Ig (by kernel_rfl) h b r o v
theorem aUP:Es Tryz.prog 75=some (.agg [.int .i64 0,.bool false,.bool false]):=by kernel_rfl
theorem aEF(b r o:Nat):fa Tryz.prog 36 (some (.ptr b r o)) 0=some (.ret (.ptr b r (o+0)),[]):=Du (show Ew Tryz.prog 36 0 0 1 from⟨_,_,Tryz.underlying36,rfl,rfl,by kernel_rfl,by decide⟩) b r o
theorem aHH(h:Aa)(b r o:Nat):ld Tryz.prog 34 h (some (.ptr b r o))=ldC (Iu (h[b]?) r) o:=aAD ⟨by kernel_rfl,1,by kernel_rfl⟩ h b r o
theorem aRU(b r o:Nat):ftL Tryz.prog 34 (some (.ptr b r o))=some [.cells b o 1]:=Jr (isA:=false) (n:=1) (by kernel_rfl) (by kernel_rfl) b r o
theorem Iq(h:Aa)(b r o:Nat):ld Tryz.prog 4 h (some (.ptr b r o))=ldC (Iu (h[b]?) r) o:=aAD ⟨by kernel_rfl,1,by kernel_rfl⟩ h b r o
theorem arN(b r o:Nat):fa Tryz.prog 24 (some (.ptr b r o)) 1=some (.ret (.ptr b r (o+1)),[]):=Du (show Ew Tryz.prog 24 1 1 1 from⟨_,_,Tryz.underlying24,rfl,rfl,by kernel_rfl,by decide⟩) b r o
theorem aEN(b r o:Nat):fa Tryz.prog 36 (some (.ptr b r o)) 1=some (.ret (.ptr b r (o+1)),[]):=Du (show Ew Tryz.prog 36 1 1 1 from⟨_,_,Tryz.underlying36,rfl,rfl,by kernel_rfl,by decide⟩) b r o
theorem am5(h:Aa)(b r o:Nat):ld Tryz.prog 50 h (some (.ptr b r o))=ldC (Iu (h[b]?) r) o:=aAD ⟨by kernel_rfl,1,by kernel_rfl⟩ h b r o
theorem aZN:Es Tryz.prog 3=some (.int .i64 0):=by kernel_rfl
theorem aIY(base len:Nat)(ps:List (Nat × AV)):rD (Bi Tryz.prog base 50 len ps)=bsK 1 (.int .i64 0) base len ps:=a1U (e:=3) (by kernel_rfl) (by kernel_rfl) (by kernel_rfl) base len ps
theorem aUT:Es Tryz.prog 69=some (.nilp):=by kernel_rfl
theorem aUX(h:Aa)(b r o:Nat)(v:AV):st_ Tryz.prog 69 h (some (.ptr b r o)) (some v)=sv 1 (h[b]?) b r o (Ad v):=Ig (by kernel_rfl) h b r o v
theorem aA4(h:Aa)(b r o:Nat):ld Tryz.prog 69 h (some (.ptr b r o))=ldC (Iu (h[b]?) r) o:=aAD ⟨by kernel_rfl,1,by kernel_rfl⟩ h b r o
theorem aDS(ps:List (Nat × AV)):Ol Tryz.prog 85 ps=(Il (fun i=>([(0,24),(24,1)]:List (Nat × Nat))[i]?) (Ad (.agg [.int .i64 0,.bool false,.int .i64 0,.bool false,.int .i64 0,.bool false,.int .i64 0,.bool false,.int .i64 0,.bool false,.int .i64 0,.bool false,.int .i64 0,.bool false,.int .i64 0,.bool false,.int .i64 0,.bool false,.int .i64 0,.bool false,.int .i64 0,.bool false,.int .i64 0,.bool false,.int .i64 0])) ps).map .agg:=by kernel_rfl
theorem aBN:Es Tryz.prog 85=some (.agg [.int .i64 0,.bool false,.int .i64 0,.bool false,.int .i64 0,.bool false,.int .i64 0,.bool false,.int .i64 0,.bool false,.int .i64 0,.bool false,.int .i64 0,.bool false,.int .i64 0,.bool false,.int .i64 0,.bool false,.int .i64 0,.bool false,.int .i64 0,.bool false,.int .i64 0,.bool false,.int .i64 0]):=by kernel_rfl
theorem aC1(h:Aa)(b r o:Nat)(v:AV):st_ Tryz.prog 85 h (some (.ptr b r o)) (some v)=sv 25 (h[b]?) b r o (Ad v):=Ig (by kernel_rfl) h b r o v
theorem Ls(h:Aa)(b r o:Nat):ld Tryz.prog 85 h (some (.ptr b r o))=ldR (Iu (h[b]?) r) o 25:=aEE ⟨by kernel_rfl,by kernel_rfl⟩ h b r o
theorem aN4(h:Aa)(cs:List AV):ld Tryz.prog 85 h (some (.iptr cs))=if 25≤cs.length then some (.ret (.agg (cs.take 25)),[])else none:=aPV ⟨by kernel_rfl,by kernel_rfl⟩ h cs
theorem aIK(b r o:Nat):ftL Tryz.prog 85 (some (.ptr b r o))=some [.cells b o 25]:=Jr (isA:=true) (n:=25) (by kernel_rfl) (by kernel_rfl) b r o
theorem aLZ:Es Tryz.prog 86=some (.nilm):=by kernel_rfl
theorem aMP(h:Aa)(b r o:Nat)(v:AV):st_ Tryz.prog 86 h (some (.ptr b r o)) (some v)=sv 1 (h[b]?) b r o (Ad v):=Ig (by kernel_rfl) h b r o v
theorem abU(h:Aa)(b r o:Nat):ld Tryz.prog 86 h (some (.ptr b r o))=ldC (Iu (h[b]?) r) o:=aAD ⟨by kernel_rfl,1,by kernel_rfl⟩ h b r o
theorem aIW(b r o:Nat):ftL Tryz.prog 86 (some (.ptr b r o))=some [.cells b o 1]:=Jr (isA:=false) (n:=1) (by kernel_rfl) (by kernel_rfl) b r o
theorem aI0(b r len:Nat)(k:IntKind)(i:Int):ia Tryz.prog 91 (some (.slr 4 b r len)) (some (.int k i))=if 0≤i∧i<len then some (.ret (.ptr b (r+i.toNat) 0),[])else none:=aPC ⟨_,Tryz.underlying91,by kernel_rfl⟩ b r len k i
theorem aIT(fl nn:Bool)(rows:List (List AV))(k:IntKind)(i:Int):ia Tryz.prog 91 (some (Bo 4 fl nn rows)) (some (.int k i))=if 0≤i then r1 ((rows[i.toNat]?).map .iptr)else none:=aJR ⟨_,Tryz.underlying91,by kernel_rfl⟩ fl nn rows k i
theorem aLF(b r o:Nat):fa Tryz.prog 94 (some (.ptr b r o)) 0=some (.ret (.ptr b r (o+0)),[]):=Du (show Ew Tryz.prog 94 0 0 2 from⟨_,_,Tryz.underlying94,rfl,rfl,by kernel_rfl,by decide⟩) b r o
theorem aDD(b r len:Nat)(k:IntKind)(i:Int):ia Tryz.prog 50 (some (.slr 1 b r len)) (some (.int k i))=if 0≤i∧i<len then some (.ret (.ptr b (r+i.toNat) 0),[])else none:=aPC ⟨_,Tryz.underlying50,by kernel_rfl⟩ b r len k i
theorem Nx(b r o:Nat):fa Tryz.prog 24 (some (.ptr b r o)) 0=some (.ret (.ptr b r (o+0)),[]):=Du (show Ew Tryz.prog 24 0 0 1 from⟨_,_,Tryz.underlying24,rfl,rfl,by kernel_rfl,by decide⟩) b r o
theorem aw9(b r o:Nat):fa Tryz.prog 46 (some (.ptr b r o)) 0=some (.ret (.ptr b r (o+0)),[]):=Du (show Ew Tryz.prog 46 0 0 1 from⟨_,_,Tryz.underlying46,rfl,rfl,by kernel_rfl,by decide⟩) b r o
theorem ax5(b r o:Nat):fa Tryz.prog 46 (some (.ptr b r o)) 1=some (.ret (.ptr b r (o+1)),[]):=Du (show Ew Tryz.prog 46 1 1 1 from⟨_,_,Tryz.underlying46,rfl,rfl,by kernel_rfl,by decide⟩) b r o
theorem awG(b r o:Nat):fa Tryz.prog 46 (some (.ptr b r o)) 2=some (.ret (.ptr b r (o+2)),[]):=Du (show Ew Tryz.prog 46 2 2 1 from⟨_,_,Tryz.underlying46,rfl,rfl,by kernel_rfl,by decide⟩) b r o
theorem awO(b r o:Nat):fa Tryz.prog 46 (some (.ptr b r o)) 4=some (.ret (.ptr b r (o+4)),[]):=Du (show Ew Tryz.prog 46 4 4 1 from⟨_,_,Tryz.underlying46,rfl,rfl,by kernel_rfl,by decide⟩) b r o
theorem awP(b r o:Nat):fa Tryz.prog 46 (some (.ptr b r o)) 7=some (.ret (.ptr b r (o+7)),[]):=Du (show Ew Tryz.prog 46 7 7 1 from⟨_,_,Tryz.underlying46,rfl,rfl,by kernel_rfl,by decide⟩) b r o
theorem arY(b r o:Nat):fa Tryz.prog 46 (some (.ptr b r o)) 8=some (.ret (.ptr b r (o+8)),[]):=Du (show Ew Tryz.prog 46 8 8 1 from⟨_,_,Tryz.underlying46,rfl,rfl,by kernel_rfl,by decide⟩) b r o
theorem aC9(fl nn:Bool)(rows:List (List AV))(k:IntKind)(i:Int):ia Tryz.prog 25 (some (Bo 3 fl nn rows)) (some (.int k i))=if 0≤i then r1 ((rows[i.toNat]?).map .iptr)else none:=aJR ⟨_,Tryz.underlying25,by kernel_rfl⟩ fl nn rows k i
theorem aED(b r o:Nat):fa Tryz.prog 75 (some (.ptr b r o)) 0=some (.ret (.ptr b r (o+0)),[]):=Du (show Ew Tryz.prog 75 0 0 1 from⟨_,_,Tryz.underlying75,rfl,rfl,by kernel_rfl,by decide⟩) b r o
theorem aD4(cs:List AV):fa Tryz.prog 75 (some (.iptr cs)) 0=if 0+1≤cs.length then some (.ret (.iptr (cs.drop 0)),[])else none:=a15 (show Ew Tryz.prog 75 0 0 1 from⟨_,_,Tryz.underlying75,rfl,rfl,by kernel_rfl,by decide⟩) cs
theorem aK7(b r o:Nat):fa Tryz.prog 75 (some (.ptr b r o)) 1=some (.ret (.ptr b r (o+1)),[]):=Du (show Ew Tryz.prog 75 1 1 1 from⟨_,_,Tryz.underlying75,rfl,rfl,by kernel_rfl,by decide⟩) b r o
theorem aL8(b r o:Nat):fa Tryz.prog 75 (some (.ptr b r o)) 2=some (.ret (.ptr b r (o+2)),[]):=Du (show Ew Tryz.prog 75 2 2 1 from⟨_,_,Tryz.underlying75,rfl,rfl,by kernel_rfl,by decide⟩) b r o
theorem aGF:Es Tryz.prog 82=some (.agg [.int .i64 0,.bool false,.int .i64 0,.bool false,.int .i64 0,.bool false,.int .i64 0,.bool false,.int .i64 0,.bool false,.int .i64 0,.bool false,.int .i64 0,.bool false,.int .i64 0,.bool false,.int .i64 0,.bool false,.int .i64 0,.bool false,.int .i64 0,.bool false,.int .i64 0,.bool false]):=by kernel_rfl
theorem aGY(h:Aa)(b r o:Nat)(v:AV):st_ Tryz.prog 82 h (some (.ptr b r o)) (some v)=sv 24 (h[b]?) b r o (Ad v):=Ig (by kernel_rfl) h b r o v
theorem Hi(b r o:Nat):fa Tryz.prog 106 (some (.ptr b r o)) 0=some (.ret (.ptr b r (o+0)),[]):=Du (show Ew Tryz.prog 106 0 0 3 from⟨_,_,Tryz.underlying106,rfl,rfl,by kernel_rfl,by decide⟩) b r o
theorem Jg(h:Aa)(b r o:Nat):ld Tryz.prog 82 h (some (.ptr b r o))=ldR (Iu (h[b]?) r) o 24:=aEE ⟨by kernel_rfl,by kernel_rfl⟩ h b r o
theorem aS0(b r o:Nat):ftL Tryz.prog 82 (some (.ptr b r o))=some [.cells b o 24]:=Jr (isA:=true) (n:=24) (by kernel_rfl) (by kernel_rfl) b r o
theorem Ha(b r o:Nat):fa Tryz.prog 80 (some (.ptr b r o)) 0=some (.ret (.ptr b r (o+0)),[]):=Du (show Ew Tryz.prog 80 0 0 1 from⟨_,_,Tryz.underlying80,rfl,rfl,by kernel_rfl,by decide⟩) b r o
theorem aMB(h:Aa)(b r o:Nat)(v:AV):st_ Tryz.prog 78 h (some (.ptr b r o)) (some v)=sv 1 (h[b]?) b r o (Ad v):=Ig (by kernel_rfl) h b r o v
theorem Gu(h:Aa)(b r o:Nat):ld Tryz.prog 80 h (some (.ptr b r o))=ldR (Iu (h[b]?) r) o 2:=aEE ⟨by kernel_rfl,by kernel_rfl⟩ h b r o
theorem aRO(b r o:Nat):ftL Tryz.prog 80 (some (.ptr b r o))=some [.cells b o 2]:=Jr (isA:=true) (n:=2) (by kernel_rfl) (by kernel_rfl) b r o
theorem aAN{O:Dx}(t:List AV)(h:Aa)(s x:Operand):Dc O Tryz.prog t h (.call ⟨.builtin .append,#[s,x],#[50,50]⟩)=apO Tryz.prog 50 h (Ac t s) (Ac t x):=aWI t h s x 50 50 _ Tryz.underlying50
theorem aJP(h:Aa)(s:AV)(a b r l:Nat):apO Tryz.prog 50 h (some s) (some (.slr a b r l))=apK 1 h (some s) (srK 1 h (some (.slr a b r l))):=aQQ (e:=3) (b:=8) (z:=.int .i64 0) (by kernel_rfl) (by kernel_rfl) (by kernel_rfl) (by kernel_rfl) (by decide+kernel) h s _ (fun q e=>by cases e)
theorem aTK(h:Aa)(s:AV)  :apO Tryz.prog 50 h (some s) (some .nils)=apK 1 h (some s) (srK 1 h (some .nils)):=aQQ (e:=3) (b:=8) (z:=.int .i64 0) (by kernel_rfl) (by kernel_rfl) (by kernel_rfl) (by kernel_rfl) (by decide+kernel) h s _ (fun q e=>by cases e)
theorem aLD(b r o:Nat):fa Tryz.prog 46 (some (.ptr b r o)) 6=some (.ret (.ptr b r (o+6)),[]):=Du (show Ew Tryz.prog 46 6 6 1 from⟨_,_,Tryz.underlying46,rfl,rfl,by kernel_rfl,by decide⟩) b r o
theorem aIQ(st b r len:Nat):ln Tryz.prog 50 (some (.slr st b r len))=some (.ret (.int .i64 len),[]):=aPB (n:=1) ⟨_,Tryz.underlying50,by kernel_rfl⟩ st b r len
theorem aRY:ln Tryz.prog 50 (some .nils)=some (.ret (.int .i64 0),[]):=aJ6 (n:=1) ⟨_,Tryz.underlying50,by kernel_rfl⟩
theorem aYH:Es Tryz.prog 50=some (.nils):=by kernel_rfl
theorem aKK(b r o:Nat):fa Tryz.prog 106 (some (.ptr b r o)) 1=some (.ret (.ptr b r (o+3)),[]):=Du (show Ew Tryz.prog 106 1 3 1 from⟨_,_,Tryz.underlying106,rfl,rfl,by kernel_rfl,by decide⟩) b r o
theorem aPQ(ps:List (Nat × AV)):Ol Tryz.prog 106 ps=(Il (fun i=>([(0,3),(3,1)]:List (Nat × Nat))[i]?) (Ad (.agg [.int .i64 0,.int .i64 0,.nils,.int .i64 0])) ps).map .agg:=by kernel_rfl
theorem aPS(h:Aa)(b r o:Nat):ld Tryz.prog 75 h (some (.ptr b r o))=ldR (Iu (h[b]?) r) o 3:=aEE ⟨by kernel_rfl,by kernel_rfl⟩ h b r o
theorem aF9(h:Aa)(cs:List AV):ld Tryz.prog 75 h (some (.iptr cs))=if 3≤cs.length then some (.ret (.agg (cs.take 3)),[])else none:=aPV ⟨by kernel_rfl,by kernel_rfl⟩ h cs
theorem aUA(h:Aa)(b r o:Nat)(v:AV):st_ Tryz.prog 75 h (some (.ptr b r o)) (some v)=sv 3 (h[b]?) b r o (Ad v):=Ig (by kernel_rfl) h b r o v
theorem aR5(base len:Nat)(ps:List (Nat × AV)):rD (Bi Tryz.prog base 25 len ps)=bsK 3 (.agg [.int .i64 0,.bool false,.bool false]) base len ps:=a1U (e:=75) (by kernel_rfl) (by kernel_rfl) (by kernel_rfl) base len ps
theorem Ip(b r o:Nat):fa Tryz.prog 80 (some (.ptr b r o)) 1=some (.ret (.ptr b r (o+1)),[]):=Du (show Ew Tryz.prog 80 1 1 1 from⟨_,_,Tryz.underlying80,rfl,rfl,by kernel_rfl,by decide⟩) b r o
theorem aJK(base len:Nat)(ps:List (Nat × AV)):rD (Bi Tryz.prog base 92 len ps)=bsK 25 (.agg [.int .i64 0,.bool false,.int .i64 0,.bool false,.int .i64 0,.bool false,.int .i64 0,.bool false,.int .i64 0,.bool false,.int .i64 0,.bool false,.int .i64 0,.bool false,.int .i64 0,.bool false,.int .i64 0,.bool false,.int .i64 0,.bool false,.int .i64 0,.bool false,.int .i64 0,.bool false,.int .i64 0]) base len ps:=a1U (e:=85) (by kernel_rfl) (by kernel_rfl) (by kernel_rfl) base len ps
theorem aSA(st b r len:Nat):ln Tryz.prog 92 (some (.slr st b r len))=some (.ret (.int .i64 len),[]):=aPB (n:=25) ⟨_,Tryz.underlying92,by kernel_rfl⟩ st b r len
theorem aRD(fl nn:Bool)(rows:List (List AV)):ln Tryz.prog 92 (some (Bo 25 fl nn rows))=some (.ret (.int .i64 rows.length),[]):=aKX ⟨_,Tryz.underlying92,by kernel_rfl⟩ fl nn rows
theorem aTJ(b r len:Nat)(k:IntKind)(i:Int):ia Tryz.prog 92 (some (.slr 25 b r len)) (some (.int k i))=if 0≤i∧i<len then some (.ret (.ptr b (r+i.toNat) 0),[])else none:=aPC ⟨_,Tryz.underlying92,by kernel_rfl⟩ b r len k i
theorem aTX(fl nn:Bool)(rows:List (List AV))(k:IntKind)(i:Int):ia Tryz.prog 92 (some (Bo 25 fl nn rows)) (some (.int k i))=if 0≤i then r1 ((rows[i.toNat]?).map .iptr)else none:=aJR ⟨_,Tryz.underlying92,by kernel_rfl⟩ fl nn rows k i
theorem aTM(st b r len:Nat):ln Tryz.prog 91 (some (.slr st b r len))=some (.ret (.int .i64 len),[]):=aPB (n:=4) ⟨_,Tryz.underlying91,by kernel_rfl⟩ st b r len
theorem aS2:ln Tryz.prog 91 (some .nils)=some (.ret (.int .i64 0),[]):=aJ6 (n:=4) ⟨_,Tryz.underlying91,by kernel_rfl⟩
theorem aIL(fl nn:Bool)(rows:List (List AV)):ln Tryz.prog 91 (some (Bo 4 fl nn rows))=some (.ret (.int .i64 rows.length),[]):=aKX ⟨_,Tryz.underlying91,by kernel_rfl⟩ fl nn rows
theorem Ly(h:Aa)(b r o:Nat):ld Tryz.prog 94 h (some (.ptr b r o))=ldR (Iu (h[b]?) r) o 4:=aEE ⟨by kernel_rfl,by kernel_rfl⟩ h b r o
theorem aHL(h:Aa)(cs:List AV):ld Tryz.prog 94 h (some (.iptr cs))=if 4≤cs.length then some (.ret (.agg (cs.take 4)),[])else none:=aPV ⟨by kernel_rfl,by kernel_rfl⟩ h cs
theorem aFK:Es Tryz.prog 94=some (.agg [.int .i64 0,.int .i64 0,.int .i64 0,.nils]):=by kernel_rfl
theorem aGI(h:Aa)(b r o:Nat)(v:AV):st_ Tryz.prog 94 h (some (.ptr b r o)) (some v)=sv 4 (h[b]?) b r o (Ad v):=Ig (by kernel_rfl) h b r o v
theorem aTG(b r o:Nat):ftS Tryz.prog 94 (some (.ptr b r o))=some [.cells b o 4]:=aFE (by kernel_rfl) b r o
theorem arZ(b r o:Nat):fa Tryz.prog 94 (some (.ptr b r o)) 2=some (.ret (.ptr b r (o+3)),[]):=Du (show Ew Tryz.prog 94 2 3 1 from⟨_,_,Tryz.underlying94,rfl,rfl,by kernel_rfl,by decide⟩) b r o
theorem aBC(h:Aa)(b r o:Nat):ld Tryz.prog 92 h (some (.ptr b r o))=ldC (Iu (h[b]?) r) o:=aAD ⟨by kernel_rfl,1,by kernel_rfl⟩ h b r o
theorem aTP(b r o:Nat):ftL Tryz.prog 92 (some (.ptr b r o))=some [.cells b o 1]:=Jr (isA:=false) (n:=1) (by kernel_rfl) (by kernel_rfl) b r o
theorem aAB{O:Dx}(t:List AV)(h:Aa)(s x:Operand):Dc O Tryz.prog t h (.call ⟨.builtin .append,#[s,x],#[92,92]⟩)=apO Tryz.prog 92 h (Ac t s) (Ac t x):=aWI t h s x 92 92 _ Tryz.underlying92
theorem aIV(h:Aa)(s:AV)(a b r l:Nat):apO Tryz.prog 92 h (some s) (some (.slr a b r l))=apK 25 h (some s) (srK 25 h (some (.slr a b r l))):=aQQ (e:=85) (b:=200) (z:=.agg [.int .i64 0,.bool false,.int .i64 0,.bool false,.int .i64 0,.bool false,.int .i64 0,.bool false,.int .i64 0,.bool false,.int .i64 0,.bool false,.int .i64 0,.bool false,.int .i64 0,.bool false,.int .i64 0,.bool false,.int .i64 0,.bool false,.int .i64 0,.bool false,.int .i64 0,.bool false,.int .i64 0]) (by kernel_rfl) (by kernel_rfl) (by kernel_rfl) (by kernel_rfl) (by decide+kernel) h s _ (fun q e=>by cases e)
theorem aD9(b r o:Nat):fa Tryz.prog 85 (some (.ptr b r o)) 0=some (.ret (.ptr b r (o+0)),[]):=Du (show Ew Tryz.prog 85 0 0 24 from⟨_,_,Tryz.underlying85,rfl,rfl,by kernel_rfl,by decide⟩) b r o
theorem aMU(b r o:Nat):fa Tryz.prog 94 (some (.ptr b r o)) 1=some (.ret (.ptr b r (o+2)),[]):=Du (show Ew Tryz.prog 94 1 2 1 from⟨_,_,Tryz.underlying94,rfl,rfl,by kernel_rfl,by decide⟩) b r o
theorem aSD(base:Nat)(l c:Option AV):msO Tryz.prog 50 base l c=msK 1 (.int .i64 0) base l c:=baN (e:=3) (n:=1) (b:=8) (by kernel_rfl) (by kernel_rfl) (by kernel_rfl) (by kernel_rfl) (by decide+kernel) base l c
theorem Md(h:Aa)(b r o:Nat):ld Tryz.prog 78 h (some (.ptr b r o))=ldC (Iu (h[b]?) r) o:=aAD ⟨by kernel_rfl,1,by kernel_rfl⟩ h b r o
theorem aCS(h:Aa)(b r o:Nat)(v:AV):st_ Tryz.prog 50 h (some (.ptr b r o)) (some v)=sv 1 (h[b]?) b r o (Ad v):=Ig (by kernel_rfl) h b r o v
theorem aN5(ps:List (Nat × AV)):Ol Tryz.prog 128 ps=(Il (fun i=>([(0,1)]:List (Nat × Nat))[i]?) (Ad (.agg [.nils])) ps).map .agg:=by kernel_rfl
theorem aTD:Es Tryz.prog 126=some (.nilp):=by kernel_rfl
theorem aRV(h:Aa)(b r o:Nat)(v:AV):st_ Tryz.prog 126 h (some (.ptr b r o)) (some v)=sv 1 (h[b]?) b r o (Ad v):=Ig (by kernel_rfl) h b r o v
theorem aNK(h:Aa)(b r o:Nat):ld Tryz.prog 126 h (some (.ptr b r o))=ldC (Iu (h[b]?) r) o:=aAD ⟨by kernel_rfl,1,by kernel_rfl⟩ h b r o
theorem aNE(b r o:Nat):fa Tryz.prog 85 (some (.ptr b r o)) 1=some (.ret (.ptr b r (o+24)),[]):=Du (show Ew Tryz.prog 85 1 24 1 from⟨_,_,Tryz.underlying85,rfl,rfl,by kernel_rfl,by decide⟩) b r o
theorem aSU(ps:List (Nat × AV)):Ol Tryz.prog 94 ps=(Il (fun i=>([(0,2),(2,1),(3,1)]:List (Nat × Nat))[i]?) (Ad (.agg [.int .i64 0,.int .i64 0,.int .i64 0,.nils])) ps).map .agg:=by kernel_rfl
theorem aXJ(h:Aa)(b r o:Nat)(v:AV):st_ Tryz.prog 92 h (some (.ptr b r o)) (some v)=sv 1 (h[b]?) b r o (Ad v):=Ig (by kernel_rfl) h b r o v
theorem aRQ(b r o:Nat):ftS Tryz.prog 92 (some (.ptr b r o))=some [.cells b o 1]:=aFE (by kernel_rfl) b r o
theorem aRW(base len:Nat)(ps:List (Nat × AV)):rD (Bi Tryz.prog base 91 len ps)=bsK 4 (.agg [.int .i64 0,.int .i64 0,.int .i64 0,.nils]) base len ps:=a1U (e:=94) (by kernel_rfl) (by kernel_rfl) (by kernel_rfl) base len ps
theorem aHU{O:Dx}(t:List AV)(h:Aa)(s x:Operand):Dc O Tryz.prog t h (.call ⟨.builtin .append,#[s,x],#[91,91]⟩)=apO Tryz.prog 91 h (Ac t s) (Ac t x):=aWI t h s x 91 91 _ Tryz.underlying91
theorem aRI(h:Aa)(s:AV)(a b r l:Nat):apO Tryz.prog 91 h (some s) (some (.slr a b r l))=apK 4 h (some s) (srK 4 h (some (.slr a b r l))):=aQQ (e:=94) (b:=48) (z:=.agg [.int .i64 0,.int .i64 0,.int .i64 0,.nils]) (by kernel_rfl) (by kernel_rfl) (by kernel_rfl) (by kernel_rfl) (by decide+kernel) h s _ (fun q e=>by cases e)
theorem Pn(h:Aa)(b r o:Nat)(v:AV):st_ Tryz.prog 80 h (some (.ptr b r o)) (some v)=sv 2 (h[b]?) b r o (Ad v):=Ig (by kernel_rfl) h b r o v
theorem aSB(b r o:Nat):ftS Tryz.prog 80 (some (.ptr b r o))=some [.cells b o 2]:=aFE (by kernel_rfl) b r o
theorem ahW(b r o:Nat):fa Tryz.prog 128 (some (.ptr b r o)) 0=some (.ret (.ptr b r (o+0)),[]):=Du (show Ew Tryz.prog 128 0 0 1 from⟨_,_,Tryz.underlying128,rfl,rfl,by kernel_rfl,by decide⟩) b r o
theorem azK:Es Tryz.prog 80=some (.agg [.int .i64 0,.bool false]):=by kernel_rfl
theorem azV(ps:List (Nat × AV)):Ol Tryz.prog 80 ps=(Il (fun i=>([(0,1),(1,1)]:List (Nat × Nat))[i]?) (Ad (.agg [.int .i64 0,.bool false])) ps).map .agg:=by kernel_rfl
def TY6:=PLift.up (agX @Jh (agX @aI4 (agX @azP (agX @Df (agX @Dt (agX @Ed (agX @aGZ (agX @aHA @aJO))))))))
def TY9:=PLift.up (agX @Df (agX @Dt @Ed))
def aN1:=PLift.up (agX @Df (agX @Dt (agX @Ed @Jh)))
def a9O:=PLift.up (agX @Df (agX @Dt (agX @Ed (agX @Jh (agX @aUT (agX @aUX @aA4))))))
def aXE:=PLift.up (agX @aBA (agX @aI5 (agX @aGZ (agX @Df (agX @Dt (agX @Ed (agX @aI8 (agX @aHA (agX @aJO (agX @Jh (agX @aDS (agX @aBN (agX @aC1 (agX @Ls (agX @aIK (agX @aLZ (agX @aMP (agX @abU (agX @aIW (agX @aI0 @aLF))))))))))))))))))))
def aMQ:=PLift.up (agX @Nx (agX @Dl (agX @arN (agX @Df (agX @Dt (agX @Ed (agX @Ph (agX @Nh (agX @aBY (agX @aB9 (agX @aw9 (agX @ax5 (agX @auA (agX @Iq (agX @awG (agX @awO (agX @axF (agX @awP @arY))))))))))))))))))
def bcR:=PLift.up (agX @Df (agX @Dt @Ed))
def aMG:=PLift.up (agX @azP (agX @Jh (agX @aC9 (agX @aD4 @aJL))))
def baD:=PLift.up (agX @Jh (agX @aI4 @aPQ))
def aMS:=PLift.up (agX @azP (agX @aC9 (agX @aF9 (agX @aUP (agX @aUA (agX @aED (agX @aD4 (agX @Dl (agX @aJL (agX @Df (agX @Dt @Ed)))))))))))
def ba2:=PLift.up (agX @aDS (agX @aBN (agX @aC1 @Ls)))
def aH3:=PLift.up (agX @azP (agX @aC9 @aF9))
def bcS:=PLift.up (agX @aA4 (agX @aPS @aR5))
def a3J:=PLift.up (agX @Jg (agX @aGF (agX @Hi (agX @Df (agX @Dt (agX @Ed (agX @Ph (agX @Nh (agX @aBY (agX @aB9 (agX @auA (agX @Iq (agX @Ip (agX @a2T (agX @aLD (agX @Ha (agX @aMB (agX @aKK (agX @Dl (agX @awO (agX @axF @aGY)))))))))))))))))))))
def Is:=PLift.up (agX @Ls (agX @aIK (agX @aBN (agX @aJK (agX @aLZ (agX @aMP (agX @aSA (agX @aTJ (agX @aC1 (agX @aTM (agX @aS2 (agX @aI0 (agX @Ly (agX @aFK (agX @aGI (agX @arZ (agX @aBC (agX @abU (agX @aIW (agX @aAB (agX @aIV (agX @aD9 @Jg))))))))))))))))))))))
def aT0:=PLift.up (agX @aIL (agX @aIT @aHL))
def bcW:=PLift.up (agX @Ly (agX @abU @Ls))
def a1Q:=PLift.up (agX @arZ (agX @aBC (agX @aRD (agX @aTX (agX @Ls (agX @aN4 (agX @aBN (agX @aC1 (agX @aMU @Dl)))))))))
def a8W:=PLift.up (agX @Jg (agX @aDD (agX @Dl (agX @Hi (agX @Df (agX @Dt @Ed))))))
def bcC:=PLift.up (agX @Ha (agX @Md (agX @Ip @Iq)))
def aZU:=PLift.up (agX @awG (agX @Iq (agX @Ip (agX @Ha @Md))))
def a6F:=PLift.up (agX @Hi (agX @arN (agX @Dl (agX @Jg (agX @aEF (agX @aHH (agX @aGF (agX @aGY (agX @aEN (agX @Ha (agX @aMB @aBA)))))))))))
def bcD:=PLift.up (agX @awP (agX @Dl @arY))
def ap6:=PLift.up (agX @Hi (agX @Nx (agX @Dl (agX @aZN (agX @aSD (agX @aYH (agX @aCS (agX @am5 (agX @aIQ (agX @aDD (agX @a0Z (agX @aN5 (agX @aTD (agX @aRV (agX @aNK @Gu)))))))))))))))
def bcZ:=PLift.up (agX @Nx (agX @Dl (agX @arN (agX @Df (agX @Dt @Ed)))))
def aHB:=PLift.up (agX @Hi (agX @Df (agX @Dt (agX @Ed (agX @Ph (agX @aHM (agX @Nh (agX @aTR (agX @aBY (agX @aB9 (agX @aI8 (agX @aGZ (agX @aHA (agX @aD9 (agX @Gu (agX @Jg (agX @aS0 (agX @aBA (agX @aI5 (agX @aNE (agX @Dl (agX @aMJ (agX @aDS (agX @aJK (agX @aSU (agX @aFK (agX @aGI (agX @aTG (agX @arZ (agX @aBC (agX @aTP (agX @aAB (agX @aIV (agX @aXJ (agX @aRQ (agX @Ly (agX @aRW (agX @aHU @aRI))))))))))))))))))))))))))))))))))))))
def a2H:=PLift.up (agX @aIL (agX @aIT (agX @Ly (agX @aHL (agX @aFK @aGI)))))
def bb8:=PLift.up (agX @Ly @abU)
def aZK:=PLift.up (agX @Jg (agX @aGF (agX @aEN (agX @Dl (agX @aMJ (agX @aEF (agX @aHH (agX @aRU (agX @Gu (agX @aRO (agX @Pn (agX @aSB @aGY))))))))))))
def a3N:=PLift.up (agX @ahW (agX @am5 (agX @aIY (agX @aAN (agX @aJP @aCS)))))
def a3I:=PLift.up (agX @ahW (agX @am5 (agX @aIQ (agX @aRY (agX @aDD (agX @Dl @aCS))))))
def aR2:=PLift.up (agX @aIY (agX @ahW (agX @am5 (agX @aAN (agX @aJP (agX @aTK @aCS))))))
def bbX:=PLift.up (agX @aHM (agX @Nx @Dl))
def bcV:=PLift.up (agX @aw9 (agX @Dl (agX @ax5 (agX @awG (agX @Iq (agX @auA (agX @awO (agX @axF (agX @awP @arY)))))))))
def aZQ:=PLift.up (agX @aED (agX @Dl (agX @Gu (agX @azK (agX @Pn (agX @Ip (agX @Iq (agX @aK7 (agX @aL8 (agX @Ha @Md))))))))))
def aTQ:=PLift.up (agX @aA4 (agX @Hi (agX @Df (agX @Dt (agX @Ed (agX @Ph (agX @Nh (agX @aBY (agX @aB9 (agX @Dl (agX @aw9 @ax5)))))))))))
def aK1:=PLift.up (agX @Ed (agX @Ph @Nh))
def baF:=PLift.up (agX @Gu (agX @azK (agX @Ha (agX @Md (agX @azV @Pn)))))
def a9P:=PLift.up (agX @Gu (agX @azK (agX @Ha (agX @Md (agX @azV @Pn)))))
def a9D:=PLift.up (agX @Gu (agX @azK (agX @Ip (agX @Iq (agX @azV @Pn)))))
def a9U:=PLift.up (agX @Gu (agX @azK (agX @Ip (agX @Iq (agX @azV @Pn)))))
end Go.Proofs.YtcncggaobhbomaaGreatDoor
namespace Go.Proofs.YtcncggaobhbomaaGreatDoor
open Go Go.Ev Go.ChangeShapes Go.WideShapes Go.ChangeAt Go.RowKit
set_option maxRecDepth 100000
set_option maxHeartbeats 16000000
def mdL:List Nat:=[60,75,79,76,80,65,41]
def pr:Kr:=aKG 63 86 60 (mdL.contains ·)
noncomputable def Ei:Dx:=om Tryz.prog pr
theorem baT(f:Nat):Ei.md f=([60,75,79,76,80,65,41]:List Nat).contains f:=Eq.trans rfl rfl
def Va:=PLift.up (agX EE.down EVu.down)
def Vc:=PLift.up (agX EG.down (agX EVu.down @baT))
theorem own:ownKnob Tryz.prog.godebug=none:=by kernel_rfl
theorem a22:aTT Tryz.prog:=fun f fn hf=>by
 have h:(Tryz.prog.funcs.toList.all fun fn=> !(fn.name== "runtime.NumGoroutine"))=true:=by kernel_rfl
 have:=aEY.1 h fn (by rw[Array.mem_toList_iff];exact Array.mem_of_getElem? hf)
 simpa using this
theorem mixed:Tryz.prog.follows .mixedOrders=true:=by kernel_rfl
theorem a02:laidOutB Tryz.prog=true:=by kernel_rfl
def laid:List (String × DataW Unit):=[("math/bits.deBruijn32tab",Rows.laid_math_bits_deBruijn32tab),("math/bits.deBruijn64tab",Rows.laid_math_bits_deBruijn64tab),("internal/strconv.uint64pow10",Rows.laid_internal_strconv_uint64pow10)]
theorem baS:Tryz.prog.globalNamed "internal/strconv.uint64pow10" =some 0:=by kernel_rfl
theorem tab{W:World}(h:laidMetH Tryz.prog laid W):Lib.TabIs Tryz.prog W "internal/strconv.uint64pow10" .u64 Lib.pow10Tab:=by
 rw[MakeChecks.laidMetH_plain _ _ _ (by kernel_rfl)]at h
 obtain⟨ps,h,_⟩:=h
 exact aCD (t:=192) (e:=158) (n:=20) baS (by kernel_rfl) (by kernel_rfl) (by kernel_rfl) (by kernel_rfl) (by kernel_rfl) h (by
  have e:(Lib.tabData .u64 Lib.pow10Tab:DataW Unit)=Rows.laid_internal_strconv_uint64pow10:=rfl
  rw[e];simp[laid])
theorem aYX{W:World}(h:laidMetH Tryz.prog laid W):Fo Tryz.prog (aWV W 0) Ei:=
 a9E a22 (aTS (a03 (aG8 a22 Tryz.func63 rfl) (aYM baS (tab h)) (fun n w h0 h1 ht=>Tryz.strconv_Itoa n h0 h1 w ht)) (aZP (aG8 a22 Tryz.func86 rfl) Tryz.strings_Join_none Tryz.strings_Join) (a12 (aG8 a22 Tryz.func60 rfl) Tryz.slices_Sort_int)) mixed
theorem aWW(os:Os)(args:Array Value):laidMetH Tryz.prog laid ((World.doorLaid Tryz.prog 400 os).forCall (fun _ _=>0) ⟨#[],args,[]⟩).memory:=
 laidMetH_of_parts3 (fuel:=8) (laidMet_of_run' 8 (by kernel_rfl) (by kernel_rfl)) (by kernel_rfl) (by kernel_rfl)
theorem a89{f:Nat}{fn:Func}{c:Code}{args:List AV}{h:Aa}{Q:Dm→Aa→Prop}(hp:pr f=none)(hf:Tryz.prog.funcs[f]?=some fn)(hb:fn.body=some c)(hl:aC7 args.length fn.ntmps=true)
 (he:FnE Tryz.prog h.length fn.results.toList Q (Bl Ei Tryz.prog 5000 c [] ⟨mk fn.ntmps (Oc args),h⟩)):ClQ Ei f args h Q:=ClQ.start (pr:=pr) hp hf hb hl he
theorem aPE{f:Nat}{fn:Func}{c:Code}{args:List AV}{h:Aa}{Q:Dm→Aa→Prop}(hp:pr f=none)(hf:Tryz.prog.funcs[f]?=some fn)(hb:fn.body=some c)(hl:aC7 args.length fn.ntmps=true)
 (he:FnS Tryz.prog fn.results.toList Q (Bl Ei Tryz.prog 5000 c [] ⟨mk fn.ntmps (Oc args),h⟩))  (hs:pr.sh f=none:=by exact rfl):ShQ Ei f args h Q:=ShQ.start (pr:=pr) hp hf hb hl he hs
theorem ce{f:Nat}{fn:Func}{c:Code}{args:List AV}{h:Aa}{o:Dm}{h':Aa}(hf:Tryz.prog.funcs[f]?=some fn)(he:FnE Tryz.prog h.length fn.results.toList (fun o1 h1=>(o1,h1)=(o,h')) (Bl Ei Tryz.prog 5000 c [] ⟨mk fn.ntmps (Oc args),h⟩))(hp:pr f=none:=by exact rfl)(hb:fn.body=some c:=by exact rfl)(hl:aC7 args.length fn.ntmps=true:=by exact rfl):Ei.call (.fn f) args h=some (o,h'):=(a89 hp hf hb hl he).eq
theorem csh{f:Nat}{fn:Func}{c:Code}{args:List AV}{h:Aa}{o:Dm}{h':Aa}(hf:Tryz.prog.funcs[f]?=some fn)(he:FnS Tryz.prog fn.results.toList (fun o1 h1=>(o1,h1)=(o,h')) (Bl Ei Tryz.prog 5000 c [] ⟨mk fn.ntmps (Oc args),h⟩))(hp:pr f=none:=by exact rfl)(hb:fn.body=some c:=by exact rfl)(hl:aC7 args.length fn.ntmps=true:=by exact rfl)(hs:pr.sh f=none:=by exact rfl):Ei.call (.sh f) args h=some (o,h'):=(aPE hp hf hb hl he hs).eq
theorem lst{α σ ρ:Type}{c:Code}(N:Nat)(l:List α)(E:Nat→σ→Tm→Aa→Prop)(F:List α→σ→ρ)(Q:ρ→Ex→Tm→Aa→Prop)
 (stop:∀s t h Q',(∀e t h,Q (F [] s) e t h→Q' e ⟨mk N t,h⟩)→E l.length s t h→Rnd N (fun _ _=>False) Q' (Bl Ei Tryz.prog 5000 c [] ⟨mk N t,h⟩))
 (go:∀x rest i s t h J Q',(∀t' h' s',E (i+1) s' t' h'→F rest s'=F (x::rest) s→J t' h')→(∀e t h,Q (F (x::rest) s) e t h→Q' e ⟨mk N t,h⟩)→l[i]?=some x→i<l.length→E i s t h→
   Rnd N J Q' (Bl Ei Tryz.prog 5000 c [] ⟨mk N t,h⟩)):
 ∀s t h,E 0 s t h→LpQ Ei c ⟨mk N t,h⟩ (Ot N (Q (F l s))):=aS8 (pr:=pr) rfl N l E F Q stop go
theorem cnt{σ ρ:Type}{c:Code}(N:Nat)(E:Nat→σ→Tm→Aa→Prop)(F:Nat→σ→ρ)(Q:ρ→Ex→Tm→Aa→Prop)
 (stop:∀s t h Q',(∀e t h,Q (F 0 s) e t h→Q' e ⟨mk N t,h⟩)→E 0 s t h→Rnd N (fun _ _=>False) Q' (Bl Ei Tryz.prog 5000 c [] ⟨mk N t,h⟩))
 (go:∀n s t h J Q',(∀t' h' s',E n s' t' h'→F n s'=F (n+1) s→J t' h')→(∀e t h,Q (F (n+1) s) e t h→Q' e ⟨mk N t,h⟩)→E (n+1) s t h→Rnd N J Q' (Bl Ei Tryz.prog 5000 c [] ⟨mk N t,h⟩)):
 ∀n s t h,E n s t h→LpQ Ei c ⟨mk N t,h⟩ (Ot N (Q (F n s))):=aUR (pr:=pr) rfl N E F Q stop go
theorem Ah{h:Aa}{b:Nat}{c:CB}(h0:h[b]?=some c)(l:Aa):(h++l)[b]?=some c:=by
 rw[ao8 (aC5.1 h0).1];exact h0
end Go.Proofs.YtcncggaobhbomaaGreatDoor
namespace Go.Proofs.YtcncggaobhbomaaGreatDoor
open Go.Ev Go
set_option maxRecDepth 100000
set_option maxHeartbeats 16000000
structure Ai where
 one:Int
 other:Int
 valve:Bool
 opn:Bool
 tested:Int
 valid:Int
 bad:Bool
 test:Int
 change:Int
def Ai.cells(p:Ai):List AV:=[.int .i64 p.one,.int .i64 p.other,.bool p.valve,.bool p.opn,.int .i64 p.tested,.int .i64 p.valid,.bool p.bad,.int .i64 p.test,.int .i64 p.change]
structure Am where
 rooms:Int
 need:Int
 nn:Bool
 parts:List Ai
abbrev Am.cells(w:Am):List AV:=[.int .i64 w.rooms,.int .i64 w.need,Bo 9 true w.nn (w.parts.map Ai.cells)]
theorem aJ0{α:Type}{f:α→List AV}{p:List AV→Prop}{q:α→Prop}(hf:∀r,p r→∃x,r=f x∧q x):∀{rows:List (List AV)},(∀r∈rows,p r)→∃l:List α,rows=l.map f∧∀x∈l,q x
 | [],_=>⟨[],rfl,fun x hx=>by simp at hx⟩
 |r::rows,h=>by
  obtain⟨x,rfl,hx⟩:=hf r (h r (aE6 ..))
  obtain⟨l,rfl,hl⟩:=aJ0 hf (fun r hr=>h r (List.mem_cons_of_mem _ hr))
  exact⟨x::l,rfl,fun y hy=>by
   rcases List.mem_cons.1 hy with rfl|hy
   ·exact hx
   ·exact hl y hy⟩
def i64(n:Int):Prop:= -9223372036854775808≤n∧n≤9223372036854775807
theorem Og{n:Nat}{r:List AV}(h:Ty Tryz.prog (n+1) 3 r):∃x,r=[.int .i64 x]∧i64 x:=by
 simp only[Ty,Tryz.underlying3]at h
 obtain⟨x,rfl,h1,h2⟩:=h
 exact⟨x,rfl,h1,h2⟩
theorem aB2{n:Nat}{r:List AV}(h:Ty Tryz.prog (n+1) 4 r):∃x,r=[.bool x]:=by
 simp only[Ty,Tryz.underlying4]at h
 exact h
def Ai.fits(p:Ai):Prop:=i64 p.one∧i64 p.other∧i64 p.tested∧i64 p.valid∧i64 p.test∧i64 p.change
theorem a0S{n:Nat}{r:List AV}(h:Ty Tryz.prog (n+2) 46 r):∃x:Ai,r=x.cells∧x.fits:=by
 unfold Ty at h
 simp only[Tryz.underlying46,aS5]at h
 obtain⟨a0,b0,rfl,h0,a1,b1,rfl,h1,a2,b2,rfl,h2,a3,b3,rfl,h3,a4,b4,rfl,h4,a5,b5,rfl,h5,a6,b6,rfl,h6,a7,b7,rfl,h7,a8,b8,rfl,h8,rfl⟩:=h
 obtain⟨x0,rfl,k0⟩:=Og h0
 obtain⟨x1,rfl,k1⟩:=Og h1
 obtain⟨x2,rfl⟩:=aB2 h2
 obtain⟨x3,rfl⟩:=aB2 h3
 obtain⟨x4,rfl,k4⟩:=Og h4
 obtain⟨x5,rfl,k5⟩:=Og h5
 obtain⟨x6,rfl⟩:=aB2 h6
 obtain⟨x7,rfl,k7⟩:=Og h7
 obtain⟨x8,rfl,k8⟩:=Og h8
 exact⟨⟨x0,x1,x2,x3,x4,x5,x6,x7,x8⟩,rfl,k0,k1,k4,k5,k7,k8⟩
structure Am.small(w:Am):Prop where
 parts:w.parts.length≤maxLen
 fits:∀p∈w.parts,p.fits
 rooms:i64 w.rooms
 need:i64 w.need
theorem aZ2{n:Nat}{r:List AV}(h:Ty Tryz.prog (n+4) 24 r):∃w:Am,r=w.cells∧w.small:=by
 unfold Ty at h
 simp only[Tryz.underlying24,aS5]at h
 obtain⟨a0,b0,rfl,h0,a1,b1,rfl,h1,a2,b2,rfl,h2,rfl⟩:=h
 obtain⟨x0,rfl,k0⟩:=Og h0
 obtain⟨x1,rfl,k1⟩:=Og h1
 unfold Ty at h2
 simp only[Tryz.underlying22]at h2
 obtain⟨n2,rows2,rfl,hl2,hrows2⟩:=h2
 obtain⟨l2,rfl,hm⟩:=aJ0 (fun r hr=>a0S hr) hrows2
 have e2:Tryz.prog.cellsOf 46=9:=by kernel_rfl
 have f2:flT Tryz.prog (n+2) 46=true:=by
  simp only[flT,Tryz.underlying46,Tryz.underlying3,Tryz.underlying4];rfl
 rw[e2,f2]
 exact⟨⟨x0,x1,n2,l2⟩,rfl,by simpa using hl2,hm,k0,k1⟩
theorem a1X{av:AV}(h:TyV Tryz.prog 7 24 av):∃w:Am,av=.agg w.cells∧w.small:=by
 unfold TyV at h
 simp only[Tryz.underlying24]at h
 obtain⟨cs,rfl,h⟩:=h
 obtain⟨s,rfl,hs⟩:=aZ2 h
 exact⟨s,rfl,hs⟩
theorem aWT{av:AV}(h:TyV Tryz.prog 7 3 av):∃x,av=.int .i64 x∧i64 x:=by
 unfold TyV at h
 simp only[Tryz.underlying3]at h
 obtain⟨x,hx,hi⟩:=Og h
 simp only[List.cons.injEq,and_true]at hx
 exact⟨x,hx,hi⟩
end Go.Proofs.YtcncggaobhbomaaGreatDoor
namespace Go.Proofs.YtcncggaobhbomaaGreatDoor
open Go.Ev Go Go.Ev.Net
set_option maxRecDepth 100000
set_option maxHeartbeats 16000000
def Jd(x lo hi:Int):Bool:=decide (lo≤x)&&decide (x≤hi)
theorem aKH(x lo hi:Int):Ei.call (.fn 50) [.int .i64 x,.int .i64 lo,.int .i64 hi] []=some (.ret (.bool (Jd x lo hi)),[]):=by
 (refine ce Tryz.func50 ?_;simp only[Tryz.f50];(have hb:=trivial;with_reducible repeat' (first|simp only[hb,Va.down,seval]|refine Av ?_ ?_<;>intro hb|refine fd ?_|fail)))
 all_goals simp[Jd, *]
theorem aET(x lo hi:Int):Ei.call (.fn 39) [.int .i64 x,.int .i64 lo,.int .i64 hi] []=some (.ret (.bool (Jd x lo hi)),[]):=by
 (refine ce Tryz.func39 ?_;simp only[Tryz.f39];(have hb:=trivial;with_reducible repeat' (first|simp only[hb,Va.down,seval]|refine Av ?_ ?_<;>intro hb|refine fd ?_|fail)))
 all_goals simp[Jd, *]
def aDP(d:Int):Bool:=Jd d 0 5000
theorem aYR(d:Int):Ei.call (.fn 18) [.int .i64 d] []=some (.ret (.bool (aDP d)),[]):=by
 (refine ce Tryz.func18 ?_;simp only[Tryz.f18];(have hb:=trivial;with_reducible repeat' (first|simp only[hb,Va.down,seval,aKH]|refine Av ?_ ?_<;>intro hb|refine fd ?_|fail)))
 rfl
def anV(p:Ai)(d:Int):Int:=if p.bad=true then 2 else if IntKind.i64.wrap (p.tested+p.valid)<d then 1 else 0
def nvv(n:Nat):List AV:=[.int .i64 (n:Int)]
theorem Jq{h:Aa}{b:Nat}(hb:b<h.length)(l:Aa)(c:CB):(h++l).set b c=h.set b c++l:=List.set_append_left _ _ hb
theorem Ap{h:Aa}{b:Nat}{c:CB}(e:h[b]?=some c):b<h.length:=(aC5.1 e).1
theorem Pm{h:Aa}{b:Nat}(c:CB)(l:Aa):(h.set b c++l)[h.length]?=l[0]?:=by
 rw[aC8 (by simp)];simp
theorem Pl{h:Aa}{b:Nat}(c:CB)(l:Aa)(k:Nat):(h.set b c++l)[h.length+k]?=l[k]?:=by
 rw[aC8 (by simp)];simp
theorem aQZ{h:Aa}{b b':Nat}{x:CB}(c:CB)(hne:b≠b')(hb:h[b']?=some x)(l:Aa):(h.set b c++l)[b']?=some x:=by
 have hlt:b'<h.length:=(aC5.1 hb).1
 rw[ao8 (by simpa using hlt),aqT hne];exact hb
def edg(w:Am)(ts:List Bool):List Net.Edge:=List.zipWith (fun p t=>(p.one.toNat,p.other.toNat,if t=true then 1 else 0)) w.parts ts
structure WOk(w:Am)(N:Nat):Prop where
 rooms:w.rooms=(N:Int)
 n2:2≤N
 n8:N≤8
 len:w.parts.length≤1000
 ne:w.parts≠[]
 part:∀p∈w.parts,(0≤p.one∧p.one<(N:Int))∧(0≤p.other∧p.other<(N:Int))∧p.one≠p.other
theorem aZM{w:Am}{ts:List Bool}{i:Nat}{e:Net.Edge}(h:(edg w ts)[i]?=some e):∃p t,w.parts[i]?=some p∧ts[i]?=some t∧e=(p.one.toNat,p.other.toNat,if t=true then 1 else 0):=by
 unfold edg at h
 rw[List.getElem?_zipWith]at h
 cases h1:w.parts[i]? with
 |none=>simp[h1]at h
 |some p=>
  cases h2:ts[i]? with
  |none=>simp[h1,h2]at h
  |some t=>simp[h1,h2]at h;exact⟨p,t,rfl,rfl,h.symm⟩
theorem aFN{w:Am}{N:Nat}(hw:WOk w N)(ts:List Bool):EOk (edg w ts) N:=fun a b c h=>by
 obtain⟨i,hi⟩:=List.getElem?_of_mem h
 obtain⟨p,t,h1,_,he⟩:=aZM hi
 cases he
 have:=hw.part p (aJ1 h1)
 refine⟨by omega,by omega,by omega,?_⟩
 split<;>omega
theorem aJ4{d:List Nat}{a:Nat}(h:a<d.length):(d.map nvv)[a]?=some [.int .i64 (d.getD a 0:Nat)]:=by
 rw[List.getElem?_map,aJ9 h,List.getD_eq_getElem?_getD,aJ9 h];rfl
theorem a9F(b:Bool):Ei.call (.fn 78) [.bool b] []=some (.ret (.int .i64 (if b=true then 1 else 0)),[]):=by
 cases b<;>(refine ce Tryz.func78 ?_;simp only[Tryz.f78];(have hb:=trivial;with_reducible repeat' (first|simp only[hb,Va.down,seval]|refine Av ?_ ?_<;>intro hb|refine fd ?_|fail)))
theorem aZF(c:Int)(o:Bool):Ei.call (.fn 53) [.agg [.int .i64 c,.bool o]] []=some (.ret (.bool (c==0&& !o)),[]):=by
 cases hc:(c==0)<;>(refine ce Tryz.func53 ?_;simp only[Tryz.f53];(have hb:=trivial;with_reducible repeat' (first|simp only[hb,Va.down,seval,bcC.down,hc]|refine Av ?_ ?_<;>intro hb|refine fd ?_|fail)))
theorem Gg(b r o:Nat)(i:Int):ia Tryz.prog 82 (some (.ptr b r o)) (some (.int .i64 i))=if 0≤i∧i<12 then some (.ret (.ptr b r (o+i.toNat*2)),[])else none:=by
 have h:Gl Tryz.prog 82 (.ptr b r o) (.int .i64 i)=if 0≤i∧i<12 then some (.ptr b r (o+i.toNat*2))else none:=by
  unfold Gl
  simp only[Tryz.underlying82]
  have hz:Ji Tryz.prog 80=some 2:=by kernel_rfl
  rw[hz]
  simp
 simp only[ia,aKY,h]
 split<;>rfl
def Af(w:Am)(d:Int):List (Int × Bool):=w.parts.map (fun p=>(anV p d,p.opn))++aAR (12-w.parts.length) (0,false)
def Cf(l:List (Int × Bool)):List AV:=l.flatMap fun x=>[.int .i64 x.1,.bool x.2]
theorem Bd(l:List (Int × Bool)):(Cf l).length=2*l.length:=by
 induction l with
 |nil=>rfl
 |cons x l ih=>simp[Cf]at ih ⊢;omega
theorem aK8:∀(L:List (Int × Bool)) (i:Nat) (a:Int) (b b':Bool),L[i]?=some (a,b)→aC4 (i*2+1) (Cf L)++([.bool b']++aFD (i*2+2) (Cf L))=Cf (L.set i (a,b'))
 | [],i,a,b,b',h=>by simp at h
 |x::L,0,a,b,b',h=>by simp at h;subst h;simp[Cf]
 |x::L,i+1,a,b,b',h=>by
  have ih:=aK8 L i a b b' (by simpa using h)
  rw[show(i+1)*2+1=(i*2+1)+1+1 by omega,show(i+1)*2+2=(i*2+2)+1+1 by omega]
  simp only[Cf,aHS,aH6,aIF,aLK,aM0,aM7]at ih ⊢
  rw[←ih]
theorem aHJ:∀(L:List (Int × Bool)) (i:Nat) (a a':Int) (b:Bool),L[i]?=some (a,b)→aC4 (i*2) (Cf L)++([.int .i64 a']++aFD (i*2+1) (Cf L))=Cf (L.set i (a',b))
 | [],i,a,a',b,h=>by simp at h
 |x::L,0,a,a',b,h=>by simp at h;subst h;simp[Cf]
 |x::L,i+1,a,a',b,h=>by
  have ih:=aHJ L i a a' b (by simpa using h)
  rw[show(i+1)*2=(i*2)+1+1 by omega,show(i*2)+1+1+1=(i*2+1)+1+1 by omega]
  simp only[Cf,aHS,aH6,aIF,aLK,aM0,aM7]at ih ⊢
  rw[←ih]
def pcI(w:Am)(d:Int)(i:Nat):List (Int × Bool):=(w.parts.take i).map (fun p=>(anV p d,p.opn))++aAR (12-i) (0,false)
theorem a6S{w:Am}{d:Int}{i:Nat}(hi:i<w.parts.length)(h12:w.parts.length≤12):(pcI w d i)[i]?=some (0,false):=by
 have hl:((w.parts.take i).map fun p=>(anV p d,p.opn)).length=i:=by rw[aqM,aNT];omega
 unfold pcI
 rw[aC8 (by omega),hl,Nat.sub_self,List.getElem?_replicate,if_pos (by omega)]
theorem aUZ{w:Am}{d:Int}{i:Nat}{p:Ai}(hx:w.parts[i]?=some p)(h12:w.parts.length≤12):(pcI w d i).set i (anV p d,p.opn)=pcI w d (i+1):=by
 have hi:i<w.parts.length:=(aC5.1 hx).1
 have hl:((w.parts.take i).map fun p=>(anV p d,p.opn)).length=i:=by rw[aqM,aNT];omega
 unfold pcI
 rw[List.set_append_right _ _ (by omega),hl,Nat.sub_self,List.take_add_one,hx]
 have e:12-i=(12-(i+1))+1:=by omega
 rw[e,List.replicate_succ]
 simp
theorem aL5(w:Am)(d:Int)(wf:Bool)(h12:w.parts.length≤12):Ei.call (.fn 40) [.ptr 0 0 0] [.live 4 false wf [[.int .i64 w.rooms,.int .i64 w.need,Bo 9 true w.nn (w.parts.map Ai.cells),.int .i64 d]]]=some (.ret (.agg (Cf (Af w d))),[.live 4 false wf [[.int .i64 w.rooms,.int .i64 w.need,Bo 9 true w.nn (w.parts.map Ai.cells),.int .i64 d]]]):=by
 refine ce Tryz.func40 ?_
 simp only[Tryz.f40]
 (have hb:=trivial;with_reducible repeat' (first|simp only[hb,Va.down,seval,a3J.down,aqM]|refine Av ?_ ?_<;>intro hb|refine fd ?_|fail))
 refine Hn (lst 44 w.parts (fun i (_:Unit) t h=>t 0=.ptr 0 0 0∧t 2=.ptr 1 0 0∧t 3=.ptr 2 0 0∧t 10=Bo 9 true w.nn (w.parts.map Ai.cells)∧t 11=.int .i64 (w.parts.length:Nat)∧t 12=.int .i64 (i:Int)∧h[0]?=some (.live 4 false wf [[.int .i64 w.rooms,.int .i64 w.need,Bo 9 true w.nn (w.parts.map Ai.cells),.int .i64 d]])∧h[1]?=some (.live 24 true false [Cf (aAR 12 (0,false))])∧∃f,h[2]?=some (.live 24 true f [Cf (pcI w d i)])) (fun _ _=>())
  (fun _ e t h=>e=.exit 0∧t 2=.ptr 1 0 0∧t 3=.ptr 2 0 0∧h[0]?=some (.live 4 false wf [[.int .i64 w.rooms,.int .i64 w.need,Bo 9 true w.nn (w.parts.map Ai.cells),.int .i64 d]])∧h[1]?=some (.live 24 true false [Cf (aAR 12 (0,false))])∧∃f,h[2]?=some (.live 24 true f [Cf (pcI w d w.parts.length)])) ?_ ?_ () _ _ ?_) (fun e t h hk=>?_)
 ·rintro _ t h Q' kQ ⟨h0,h2,h3,h10,h11,h12',hA,hB,f,hC⟩
  (have hb:=trivial;with_reducible repeat' (first|simp only[hb,Va.down,seval,a3J.down,h11,h12',aIS,decide_false]|refine Av ?_ ?_<;>intro hb|refine fd ?_|fail))
  exact kQ _ _ _ ⟨rfl,by simp[up,h2],by simp[up,h3],hA,hB,f,hC⟩
 ·rintro p rest i _ t h J Q' kJ kQ hx hi ⟨h0,h2,h3,h10,h11,h12',hA,hB,f,hC⟩
  have hdd:decide ((i:Int)<(w.parts.length:Int))=true:=decide_eq_true (by omega)
  have hww:=Ci hi (by unfold maxLen;omega)
  have hA1:=Ah hA
  have hC1:=Ah hC
  have hl2:=Ap hC
  have i1:((i:Int)<12)=True:=eq_true (by omega)
  have hpl:(Cf (pcI w d i)).length=24:=by rw[Bd];simp[pcI];omega
  have hS:=Jq hl2
  have i2:(i*2≤22)=True:=eq_true (by omega)
  have i3:(i*2≤23)=True:=eq_true (by omega)
  have hat:=a6S (d:=d) hi h12
  have hnx:=aUZ (d:=d) hx h12
  generalize hL:pcI w d i=L at *
  have s1:=aK8 L i 0 false p.opn hat
  have tk1:aC4 (23-i*2) [AV.bool p.opn]=[AV.bool p.opn]:=aC6 (by simp;omega)
  have hat2:(L.set i (0,p.opn))[i]?=some (0,p.opn):=awX (by have:=(aC5.1 hat).1;exact this)
  have s2:=fun v=>aHJ (L.set i (0,p.opn)) i 0 v p.opn hat2
  have tk2:∀v,aC4 (24-i*2) [AV.int .i64 v]=[AV.int .i64 v]:=fun v=>aC6 (by simp;omega)
  simp only[aH6,aIF]at s1 s2
  have hpl2:(Cf (L.set i (0,p.opn))).length=24:=by rw[Bd]at hpl ⊢;simpa using hpl
  have hg2:∀c l,(h.set 2 c++l)[2]?=some c:=fun c l=>by rw[ao8 (by simpa using hl2),awX hl2]
  have hg0:∀c l,(h.set 2 c++l)[0]?=h[0]?:=fun c l=>by rw[ao8 (by simp;omega),aqT (by omega)]
  have hg1:∀c l,(h.set 2 c++l)[1]?=h[1]?:=fun c l=>by rw[ao8 (by simp;omega),aqT (by omega)]
  have hgs:∀c l c',(h.set 2 c++l).set 2 c'=h.set 2 c'++l:=fun c l c'=>by rw[Jq (by simpa using hl2),List.set_set]
  have ss2:∀v:Int,(L.set i (0,p.opn)).set i (v,p.opn)=L.set i (v,p.opn):=fun v=>List.set_set ..
  have nx:∀(v:Int) (t':Tm) (l':Aa),anV p d=v→t' 0=.ptr 0 0 0∧t' 2=.ptr 1 0 0∧t' 3=.ptr 2 0 0∧t' 10=Bo 9 true w.nn (w.parts.map Ai.cells)∧t' 11=.int .i64 (w.parts.length:Nat)∧t' 12=.int .i64 ((i+1:Nat):Int)→J t' (h.set 2 (.live 24 true true [Cf (L.set i (v,p.opn))])++l'):=fun v t' l' hv ht=>by
   rw[←hv,hnx]
   exact kJ _ _ () ⟨ht.1,ht.2.1,ht.2.2.1,ht.2.2.2.1,ht.2.2.2.2.1,ht.2.2.2.2.2,by rw[hg0];exact hA,by rw[hg1];exact hB,true,hg2 _ _⟩ rfl
  (have hb:=trivial;with_reducible repeat' (first|simp only[hb,Va.down,seval,a3J.down,h0,h2,h3,h10,h11,h12',hdd,hww,hx,hA,hA1,hC,hC1,hS,Gg,i1,i2,i3,hpl,hpl2,s1,s2,tk1,tk2,ss2,hg2,hg0,hg1,hgs,Pm,Pl,aJY,Ai.cells]|refine Av ?_ ?_<;>intro hb|refine fd ?_|fail))
  ·refine Bh (nx 2 _ _ (by simp[anV, *]) ⟨by simp[up,h0],by simp[up,h2],by simp[up,h3],by simp[up,h10],by simp[up,h11],by simp[up]⟩)
  ·refine Bh (nx 1 _ _ (by simp[anV];simp_all) ⟨by simp[up,h0],by simp[up,h2],by simp[up,h3],by simp[up,h10],by simp[up,h11],by simp[up]⟩)
  ·refine Bh (nx 0 _ _ (by simp[anV];simp_all) ⟨by simp[up,h0],by simp[up,h2],by simp[up,h3],by simp[up,h10],by simp[up,h11],by simp[up]⟩)
 ·exact⟨by simp[up,Oc],by simp[up],by simp[up],by simp[up],by simp[up],by simp[up],rfl,rfl,false,rfl⟩
 obtain⟨rfl,h2,h3,hA,hB,f,hC⟩:=hk
 have hL:pcI w d w.parts.length=Af w d:=by unfold pcI Af;rw[aC6 (Nat.le_refl _)]
 rw[hL]at hC
 have hpl:(Cf (Af w d)).length=24:=by rw[Bd];simp[Af];omega
 have hpz:(Cf (aAR 12 (0,false))).length=24:=by rw[Bd];simp
 have htk:aC4 24 (Cf (Af w d))=Cf (Af w d):=aC6 (by omega)
 have hl1:=Ap hB
 generalize Cf (aAR 12 (0,false))=zs at *
 have hdz:aFD 24 zs=[]:=List.drop_eq_nil_iff.2 (by omega)
 have hcell:(Cf (Af w d)).all AV.isCell=true:=by
  have:∀l:List (Int × Bool),(Cf l).all AV.isCell=true:=fun l=>by
   induction l with
   |nil=>rfl
   |cons x l ih=>simp only[Cf,aHS,List.all_append]at ih ⊢;rw[ih];rfl
  exact this _
 have hform:∀x∈Cf (Af w d),(∃n,x=.int .i64 n)∨∃b,x=.bool b:=fun x hx=>by
  simp only[Cf,List.mem_flatMap,List.mem_cons,List.not_mem_nil,or_false]at hx
  obtain⟨y,_,rfl|rfl⟩:=hx
  ·exact .inl ⟨_,rfl⟩
  ·exact .inr ⟨_,rfl⟩
 have hflat:(Cf (Af w d)).all AV.flat=true:=aEY.2 fun x hx=>by rcases hform x hx with⟨n,rfl⟩|⟨b,rfl⟩<;>rfl
 have hrf:Bc.refL (Bc 7) [0] (Cf (Af w d))=some (Cf (Af w d),[0]):=Fb fun x hx=>by rcases hform x hx with⟨n,rfl⟩|⟨b,rfl⟩<;>rfl
 have hg1:∀c,(h.set 1 c)[1]?=some c:=fun c=>awX hl1
 have hg0:∀c,(h.set 1 c)[0]?=h[0]?:=fun c=>aqT (by omega)
 generalize Cf (Af w d)=ps at *
 (have hb:=trivial;with_reducible repeat' (first|simp only[hb,Va.down,seval,a3J.down,h2,h3,hA,hB,hC,hpl,hpz,htk,hdz,hcell,hflat,hrf,hg1,hg0]|refine Av ?_ ?_<;>intro hb|refine fd ?_|fail))
def aaH(N:Int)(p:Ai):Bool:=Jd p.one 0 (IntKind.i64.wrap (N-1))&&Jd p.other 0 (IntKind.i64.wrap (N-1))&& !(p.one==p.other)&& !(p.opn&& !p.valve)&&aDP p.tested&&aDP p.valid&&Jd p.test 1 1000&&Jd p.change 1 1000
def aP6(w:Am):Bool:=Jd w.rooms 2 8&&Jd w.need 0 12&&Jd (w.parts.length:Int) 1 12
def Hz(w:Am):Bool:=aP6 w&&w.parts.all (aaH w.rooms)
theorem a4F(w:Am)(hs:w.small):Ei.call (.fn 17) [.agg [.int .i64 w.rooms,.int .i64 w.need,Bo 9 true w.nn (w.parts.map Ai.cells)]] []=some (.ret (.bool (Hz w)),[]):=by
 have k1:=aKH w.rooms 2 8
 have k2:=aKH w.need 0 12
 have k3:=aKH (w.parts.length:Int) 1 12
 have hh:aP6 w=(Jd w.rooms 2 8&&Jd w.need 0 12&&Jd (w.parts.length:Int) 1 12):=rfl
 unfold Hz
 generalize Jd w.rooms 2 8=c1 at *
 generalize Jd w.need 0 12=c2 at *
 generalize Jd (w.parts.length:Int) 1 12=c3 at *
 cases c1
 ·rw[hh]
  (refine ce Tryz.func17 ?_;simp only[Tryz.f17];(have hb:=trivial;with_reducible repeat' (first|simp only[hb,Va.down,seval,aMQ.down,k1,k2,k3,aqM]|refine Av ?_ ?_<;>intro hb|refine fd ?_|fail)))
 cases c2
 ·rw[hh]
  (refine ce Tryz.func17 ?_;simp only[Tryz.f17];(have hb:=trivial;with_reducible repeat' (first|simp only[hb,Va.down,seval,aMQ.down,k1,k2,k3,aqM]|refine Av ?_ ?_<;>intro hb|refine fd ?_|fail)))
 cases c3
 ·rw[hh]
  (refine ce Tryz.func17 ?_;simp only[Tryz.f17];(have hb:=trivial;with_reducible repeat' (first|simp only[hb,Va.down,seval,aMQ.down,k1,k2,k3,aqM]|refine Av ?_ ?_<;>intro hb|refine fd ?_|fail)))
 rw[hh]
 simp only[Bool.and_self,Bool.true_and]
 (refine ce Tryz.func17 ?_;simp only[Tryz.f17];(have hb:=trivial;with_reducible repeat' (first|simp only[hb,Va.down,seval,aMQ.down,k1,k2,k3,aqM]|refine Av ?_ ?_<;>intro hb|refine fd ?_|fail)))
 refine Hn (lst 90 w.parts (fun i (zz:Unit) t h=>t 1=.ptr 0 0 0∧t 3=.int .i64 i∧(h[0]?=some (.live 3 false false [[.int .i64 w.rooms,.int .i64 w.need,Bo 9 true w.nn (w.parts.map Ai.cells)]]))) (fun rest zz=>rest.all (aaH w.rooms)) (fun r e t h=>(e=.exit 0∧r=true)∨(e=.ret∧t 2=.bool false∧r=false)) ?_ ?_ () _ _ ?_) (fun e t h hk=>?_)
 ·rintro _ t h Q' kQ ⟨h1,h3,hA⟩
  (have hb:=trivial;with_reducible repeat' (first|simp only[hb,Va.down,seval,aMQ.down,h1,h3,aIS,decide_false,hA,aqM]|refine Av ?_ ?_<;>intro hb|refine fd ?_|fail))
  exact kQ _ _ _ (.inl ⟨rfl,rfl⟩)
 ·rintro x rest i _ t h J Q' kJ kQ hx hi ⟨h1,h3,hA⟩
  have hd:decide ((i:Int)<(w.parts.length:Int))=true:=decide_eq_true (by omega)
  have hw:=Ci hi hs.parts
  have q1:=aKH x.one 0 (IntKind.i64.wrap (w.rooms-1))
  have q2:=aKH x.other 0 (IntKind.i64.wrap (w.rooms-1))
  have q4:=aYR x.tested
  have q5:=aYR x.valid
  have q6:=aKH x.test 1 1000
  have q7:=aKH x.change 1 1000
  have hp:aaH w.rooms x=(Jd x.one 0 (IntKind.i64.wrap (w.rooms-1))&&Jd x.other 0 (IntKind.i64.wrap (w.rooms-1))&& !(x.one==x.other)&& !(x.opn&& !x.valve)&&aDP x.tested&&aDP x.valid&&Jd x.test 1 1000&&Jd x.change 1 1000):=rfl
  have hA1:=Ah hA
  generalize Jd x.one 0 (IntKind.i64.wrap (w.rooms-1))=d1 at *
  generalize Jd x.other 0 (IntKind.i64.wrap (w.rooms-1))=d2 at *
  cases hq3:(x.one==x.other)
  all_goals rw[hq3]at hp
  all_goals generalize aDP x.tested=d4 at *
  all_goals generalize aDP x.valid=d5 at *
  all_goals generalize Jd x.test 1 1000=d6 at *
  all_goals generalize Jd x.change 1 1000=d7 at *
  all_goals (have hb:=trivial;with_reducible repeat' (first|simp only[hb,Va.down,seval,aMQ.down,h1,h3,hd,hx,hw,hA,hA1,q1,q2,hq3,q4,q5,q6,q7,Ai.cells,aqM]|refine Av ?_ ?_<;>intro hb|refine fd ?_|fail))
  all_goals first|(refine kQ _ _ _ (.inr ⟨rfl,by simp[up],?_⟩);simp_all;done)|(refine Bh (kJ _ _ () ⟨?_,?_,hA1 _⟩ ?_);(simp[up,h1]);(simp[up]);(simp_all))
 ·exact⟨by simp[up,Oc],by simp[up],rfl⟩
 rcases hk with⟨rfl,hr⟩|⟨rfl,h2,hr⟩
 ·rw[hr]
  (have hb:=trivial;with_reducible repeat' (first|simp only[hb,Va.down,seval,aMQ.down]|refine Av ?_ ?_<;>intro hb|refine fd ?_|fail))
 ·rw[hr]
  (have hb:=trivial;with_reducible repeat' (first|simp only[hb,Va.down,seval,aMQ.down,h2]|refine Av ?_ ?_<;>intro hb|refine fd ?_|fail))
theorem aQ0{w:Am}(h:Hz w=true):∃N,WOk w N∧w.parts.length≤12:=by
 simp only[Hz,aP6,Jd,aNU,decide_eq_true_eq,aEY]at h
 obtain⟨⟨⟨⟨h1,h2⟩,h3,h4⟩,h5,h6⟩,h7⟩:=h
 refine⟨w.rooms.toNat,⟨by omega,by omega,by omega,by omega,fun e=>by rw[e]at h5;simp at h5,fun p hp=>?_⟩,by omega⟩
 have:=h7 p hp
 simp only[aaH,Jd,aNU,decide_eq_true_eq,Bool.not_eq_true',beq_eq_false_iff_ne]at this
 obtain⟨⟨⟨⟨⟨⟨⟨a1,a2⟩,a3⟩,_⟩,_⟩,_⟩,_⟩,_⟩:=this
 rw[It (by omega) (by omega)]at a1 a2
 refine⟨by omega,by omega,a3⟩
def idx{α:Type}(p:α→Bool):List α→Int→Int
 | [],_=> -1
 |x::l,i=>if p x=true then i else idx p l (i+1)
theorem aJ7{α:Type}(p:α→Bool):∀(l:List α) (i:Int),0≤i→decide (0≤idx p l i)=l.any p
 | [],i,_=>rfl
 |x::l,i,h=>by
  unfold idx
  split
  ·rename_i hp;simp[h,hp]
  ·rename_i hp;rw[aJ7 p l (i+1) (by omega)];simp[hp]
theorem a7F(p:Ai)(N:Int):Ei.call (.fn 85) [.agg [.int .i64 p.one,.int .i64 p.other,.bool p.valve,.bool p.opn,.int .i64 p.tested,.int .i64 p.valid,.bool p.bad,.int .i64 p.test,.int .i64 p.change],.int .i64 N] []=some (.ret (.bool (aaH N p)),[]):=by
 have q1:=aET p.one 0 (IntKind.i64.wrap (N-1))
 have q2:=aET p.other 0 (IntKind.i64.wrap (N-1))
 have q4:=aET p.tested 0 5000
 have q5:=aET p.valid 0 5000
 have q6:=aET p.test 1 1000
 have q7:=aET p.change 1 1000
 have hp:aaH N p=(Jd p.one 0 (IntKind.i64.wrap (N-1))&&Jd p.other 0 (IntKind.i64.wrap (N-1))&& !(p.one==p.other)&& !(p.opn&& !p.valve)&&Jd p.tested 0 5000&&Jd p.valid 0 5000&&Jd p.test 1 1000&&Jd p.change 1 1000):=rfl
 generalize Jd p.one 0 (IntKind.i64.wrap (N-1))=d1 at *
 generalize Jd p.other 0 (IntKind.i64.wrap (N-1))=d2 at *
 generalize Jd p.tested 0 5000=d4 at *
 generalize Jd p.valid 0 5000=d5 at *
 generalize Jd p.test 1 1000=d6 at *
 generalize Jd p.change 1 1000=d7 at *
 cases hq3:(p.one==p.other)
 all_goals rw[hq3]at hp
 all_goals rw[hp]
 all_goals (refine ce Tryz.func85 ?_;simp only[Tryz.f85];(have hb:=trivial;with_reducible repeat' (first|simp only[hb,Va.down,seval,bcV.down,q1,q2,hq3,q4,q5,q6,q7]|refine Av ?_ ?_<;>intro hb|refine fd ?_|fail)))
 all_goals simp_all
theorem a3L(w:Am)(x:Ai):Ei.call (.fn 84) [.agg [.int .i64 x.one,.int .i64 x.other,.bool x.valve,.bool x.opn,.int .i64 x.tested,.int .i64 x.valid,.bool x.bad,.int .i64 x.test,.int .i64 x.change],.ptr 0 0 0] [.live 3 false false [[.int .i64 w.rooms,.int .i64 w.need,Bo 9 true w.nn (w.parts.map Ai.cells)]]]=some (.ret (.bool (!aaH w.rooms x)),[.live 3 false false [[.int .i64 w.rooms,.int .i64 w.need,Bo 9 true w.nn (w.parts.map Ai.cells)]]]):=by
 have h:=a7F x w.rooms
 (refine ce Tryz.func84 ?_;simp only[Tryz.f84];(have hb:=trivial;with_reducible repeat' (first|simp only[hb,Va.down,seval,bbX.down,h]|refine Av ?_ ?_<;>intro hb|refine fd ?_|fail)))
theorem aTH{l:List Ai}{nn:Bool}{g:Nat}{mm:Am}{p:Ai→Bool}(hp:∀x∈l,Ei.call (.fn g) (.agg [.int .i64 x.one,.int .i64 x.other,.bool x.valve,.bool x.opn,.int .i64 x.tested,.int .i64 x.valid,.bool x.bad,.int .i64 x.test,.int .i64 x.change]::[.ptr 0 0 0]) [.live 3 false false [[.int .i64 mm.rooms,.int .i64 mm.need,Bo 9 true mm.nn (mm.parts.map Ai.cells)]]]=some (.ret (.bool (p x)),[.live 3 false false [[.int .i64 mm.rooms,.int .i64 mm.need,Bo 9 true mm.nn (mm.parts.map Ai.cells)]]]))(hl:l.length≤maxLen):
 Ei.call (.fn 105) [Bo 9 true nn (l.map Ai.cells),.func (.func g) [] [.ptr 0 0 0]] [.live 3 false false [[.int .i64 mm.rooms,.int .i64 mm.need,Bo 9 true mm.nn (mm.parts.map Ai.cells)]]]=some (.ret (.int .i64 (idx p l 0)),[.live 3 false false [[.int .i64 mm.rooms,.int .i64 mm.need,Bo 9 true mm.nn (mm.parts.map Ai.cells)]]]):=by
 (refine ce Tryz.func105 ?_;simp only[Tryz.f105];(have hb:=trivial;with_reducible repeat' (first|simp only[hb,Va.down,seval,aK1.down,aqM]|refine Av ?_ ?_<;>intro hb|refine fd ?_|fail)))
 refine Hn (lst 19 l (fun i (s:Int) t h=>s=i∧h=[.live 3 false false [[.int .i64 mm.rooms,.int .i64 mm.need,Bo 9 true mm.nn (mm.parts.map Ai.cells)]]]∧t 0=Bo 9 true nn (l.map Ai.cells)∧t 1=.func (.func g) [] [.ptr 0 0 0]∧t 7=.int .i64 l.length∧t 8=.int .i64 i)
  (fun rest s=>idx p rest s) (fun r e t h=>h=[.live 3 false false [[.int .i64 mm.rooms,.int .i64 mm.need,Bo 9 true mm.nn (mm.parts.map Ai.cells)]]]∧((e=.exit 0∧r= -1)∨(e=.ret∧t 4=.int .i64 r))) ?_ ?_ 0 _ _ ?_) (fun e t h hk=>?_)
 ·rintro s t h Q' kQ ⟨rfl,rfl,h0,h1,h7,h8⟩
  (have hb:=trivial;with_reducible repeat' (first|simp only[hb,Va.down,seval,aK1.down,h0,h1,h7,h8,aIS,decide_false]|refine Av ?_ ?_<;>intro hb|refine fd ?_|fail))
  exact kQ _ _ _ ⟨rfl,.inl ⟨rfl,rfl⟩⟩
 ·rintro x rest i s t h J Q' kJ kQ hx hi ⟨rfl,rfl,h0,h1,h7,h8⟩
  have hpx:=hp x (aJ1 hx)
  have hd:decide ((i:Int)<(l.length:Int))=true:=by simpa using hi
  (have hb:=trivial;with_reducible repeat' (first|simp only[hb,Va.down,seval,aK1.down,h0,h1,h7,h8,hd,hx,Ai.cells,hpx,Ci hi hl]|refine Av ?_ ?_<;>intro hb|refine fd ?_|fail))
  ·exact kQ _ _ _ ⟨rfl,.inr ⟨rfl,by simp[up,idx,hb]⟩⟩
  ·exact Bh (kJ _ _ (i+1) ⟨by simp,rfl,by simp[up,h0],by simp[up,h1],by simp[up,h7],by simp[up]⟩ (by simp[idx,hb]))
 ·exact⟨rfl,rfl,by simp[up,Oc],by simp[up,Oc],by simp[up],by simp[up]⟩
 ·obtain⟨rfl,⟨rfl,hi⟩|⟨rfl,hi⟩⟩:=hk
  ·(have hb:=trivial;with_reducible repeat' (first|simp only[hb,Va.down,seval,aK1.down]|refine Av ?_ ?_<;>intro hb|refine fd ?_|fail))
   rw[hi]
  ·(have hb:=trivial;with_reducible repeat' (first|simp only[hb,Va.down,seval,aK1.down,hi]|refine Av ?_ ?_<;>intro hb|refine fd ?_|fail))
theorem aN2{l:List Ai}{nn:Bool}{g:Nat}{mm:Am}{p:Ai→Bool}(hp:∀x∈l,Ei.call (.fn g) (.agg [.int .i64 x.one,.int .i64 x.other,.bool x.valve,.bool x.opn,.int .i64 x.tested,.int .i64 x.valid,.bool x.bad,.int .i64 x.test,.int .i64 x.change]::[.ptr 0 0 0]) [.live 3 false false [[.int .i64 mm.rooms,.int .i64 mm.need,Bo 9 true mm.nn (mm.parts.map Ai.cells)]]]=some (.ret (.bool (p x)),[.live 3 false false [[.int .i64 mm.rooms,.int .i64 mm.need,Bo 9 true mm.nn (mm.parts.map Ai.cells)]]]))(hl:l.length≤maxLen):
 Ei.call (.fn 83) [Bo 9 true nn (l.map Ai.cells),.func (.func g) [] [.ptr 0 0 0]] [.live 3 false false [[.int .i64 mm.rooms,.int .i64 mm.need,Bo 9 true mm.nn (mm.parts.map Ai.cells)]]]=some (.ret (.bool (l.any p)),[.live 3 false false [[.int .i64 mm.rooms,.int .i64 mm.need,Bo 9 true mm.nn (mm.parts.map Ai.cells)]]]):=by
 (refine ce Tryz.func83 ?_;simp only[Tryz.f83];(have hb:=trivial;with_reducible repeat' (first|simp only[hb,Va.down,seval,aTH hp hl,aJ7 p l 0 (Int.le_refl 0)]|refine Av ?_ ?_<;>intro hb|refine fd ?_|fail)))
theorem a66(w:Am)(hs:w.small):Ei.call (.fn 61) [.agg [.int .i64 w.rooms,.int .i64 w.need,Bo 9 true w.nn (w.parts.map Ai.cells)]] []=some (.ret (.bool (Hz w)),[]):=by
 have k1:=aET w.rooms 2 8
 have k2:=aET w.need 0 12
 have k3:=aET (w.parts.length:Int) 1 12
 have hcM:=aN2 (mm:=w) (l:=w.parts) (nn:=w.nn) (g:=84) (p:=fun x=> !aaH w.rooms x) (fun x _=>a3L w x) hs.parts
 have q1:w.parts.all (aaH w.rooms)= !(w.parts.any fun x=> !aaH w.rooms x):=List.all_eq_not_any_not
 have hh:aP6 w=(Jd w.rooms 2 8&&Jd w.need 0 12&&Jd (w.parts.length:Int) 1 12):=rfl
 unfold Hz
 rw[hh,q1]
 generalize Jd w.rooms 2 8=c1 at *
 generalize Jd w.need 0 12=c2 at *
 generalize Jd (w.parts.length:Int) 1 12=c3 at *
 generalize(w.parts.any fun x=> !aaH w.rooms x)=c4 at *
 cases c1<;>cases c2<;>cases c3
 all_goals (refine ce Tryz.func61 ?_;simp only[Tryz.f61];(have hb:=trivial;with_reducible repeat' (first|simp only[hb,Va.down,seval,bcZ.down,k1,k2,k3,hcM,aqM]|refine Av ?_ ?_<;>intro hb|refine fd ?_|fail)))
 all_goals simp
theorem aQK(w:Am)(hs:w.small)(d:Int):Ei.call (.fn 34) [.agg [.int .i64 w.rooms,.int .i64 w.need,Bo 9 true w.nn (w.parts.map Ai.cells)],.int .i64 d] []=some (.ret (.tup [.ptr 0 0 0,.bool (Hz w&&aDP d)]),[.live 4 false false [[.int .i64 w.rooms,.int .i64 w.need,Bo 9 true w.nn (w.parts.map Ai.cells),.int .i64 d]]]):=by
 have h:=a66 w hs
 have hd:=aET d 0 5000
 rw[show Jd d 0 5000=aDP d from rfl]at hd
 generalize Hz w=c at *
 generalize aDP d=e at *
 cases c
 ·(refine ce Tryz.func34 ?_;simp only[Tryz.f34];(have hb:=trivial;with_reducible repeat' (first|simp only[hb,Va.down,seval,baD.down,h,hd]|refine Av ?_ ?_<;>intro hb|refine fd ?_|fail)))
 ·(refine ce Tryz.func34 ?_;simp only[Tryz.f34];(have hb:=trivial;with_reducible repeat' (first|simp only[hb,Va.down,seval,baD.down,h,hd]|refine Av ?_ ?_<;>intro hb|refine fd ?_|fail)))
def QS(v:AV)(q:List Nat)(H:Aa)(p:Nat):Prop:=
 (v=.nils∧q=[])∨∃b w rows r,v=.slr 1 b r q.length∧H[b]?=some (.live 1 true w rows)∧b≠p∧rows.drop r=q.map nvv∧r+q.length=rows.length
def Nk:AV→List Nat
 | .slr _ b _ _=>[b]
 |_=>[]
theorem az1{x:Option (List AV)}{vs:List AV}{h:Aa}{Q:Dm→Aa→Prop}(hx:x=some vs)(k:Q (.ret (Mc vs)) h):RtS x h Q:=by subst hx;exact k
theorem aXW{H:Aa}{p:Nat}{fl w:Bool}{v:AV}{q:List Nat}(x:Nat)(hp:H[p]?=some (.live 1 fl w [[v]]))(hQ:QS v q H p)(hq:q.length≤100000000):
 ShQ Ei 75 [.ptr p 0 0,.int .i64 (x:Int)] H fun o G=>o=.ret (.tup [])∧∃v' fl',G[p]?=some (.live 1 fl' true [[v']])∧QS v' (q++[x]) G p∧Hv (p::Nk v) H G∧(∀b∈Nk v,G[b]?=some .dead)∧(Ar H=true→Ar G=true)∧∀b∈Nk v',H.length≤b:=by
 have hpl:=Ap hp
 refine aPE rfl Tryz.func75 rfl rfl ?_
 simp only[Tryz.f75]
 refine Do (fun KK iN hK=>?_)
 have hA:=Ah hp
 have hS:=Jq hpl
 rcases hQ with⟨rfl,rfl⟩|⟨b,w',rows,r,rfl,hrb,hbp,hd,hl⟩
 ·(have hb:=trivial;with_reducible repeat' (first|simp only[hb,Va.down,seval,a3N.down,hp,hA,hS]|refine Av ?_ ?_<;>intro hb|refine fd ?_|fail))
  refine hK _ ?_
  rw[Lp]
  refine az1 (vs:=[]) (by simp only[Va.down,seval,a3N.down]) ⟨rfl,.slr 1 (H.length+1) 0 1,false,?_,.inr ⟨H.length+1,false,[nvv x],0,rfl,?_,by omega,rfl,rfl⟩,⟨by simp,fun b hb1 hn=>?_⟩,fun b hb1=>by simp[Nk]at hb1,fun hqq=>Ef (Eh hqq p rfl) rfl,fun b hb1=>by simp[Nk]at hb1;omega⟩
  ·rw[ao8 (by simpa using hpl),awX hpl]
  ·rw[Pl];rfl
  ·rw[ao8 (by simpa using hb1),aqT (fun e=>hn (by rw[e];exact aE6 ..))]
 ·have hbl:=Ap hrb
  have hB:=Ah hrb
  have hSb:=Jq hbl
  have h39:(q.length+1≤549755813888)=True:=eq_true (by omega)
  have hg:∀l,(H.set b .dead++l)[p]?=some (.live 1 fl w [[.slr 1 b r q.length]]):=fun l=>by
   rw[ao8 (by simpa using hpl),aqT hbp];exact hp
  have hg2:∀l c,(H.set b .dead++l).set p c=(H.set b .dead).set p c++l:=fun l c=>Jq (by simpa using hpl) l c
  (have hb:=trivial;with_reducible repeat' (first|simp only[hb,Va.down,seval,a3N.down,hp,hA,hS,hrb,hB,hSb,hd,hl,h39,hg,hg2,Pm,Pl,aJY,aqM]|refine Av ?_ ?_<;>intro hb|refine fd ?_|fail))
  have hsl:((H.set b .dead).set p (CB.live 1 false true [[AV.slr 1 (H.length+1) 0 (q.length+1)]])).length=H.length:=by simp
  refine hK _ ?_
  rw[Lp]
  refine az1 (vs:=[]) (by simp only[Va.down,seval,a3N.down]) ⟨rfl,.slr 1 (H.length+1) 0 (q.length+1),false,?_,.inr ⟨H.length+1,false,(q++[x]).map nvv,0,by simp,?_,by omega,rfl,by simp⟩,⟨by simp,fun c hc hn=>?_⟩,fun c hc=>?_,fun hqq=>Ef (Eh (Eh hqq b rfl) p rfl) rfl,fun c hc=>by simp[Nk]at hc;omega⟩
  ·rw[ao8 (by omega),awX (by simpa using hpl)]
  ·rw[aC8 (by omega),hsl,Nat.add_sub_cancel_left];simp[nvv]
  ·have n1:c≠p:=fun e=>hn (by rw[e];exact aE6 ..)
   have n2:c≠b:=fun e=>hn (by rw[e];simp[Nk])
   rw[ao8 (by omega),aqT (fun e=>n1 e.symm),aqT (fun e=>n2 e.symm)]
  ·simp[Nk]at hc;subst hc
   rw[ao8 (by omega),aqT (fun e=>hbp e.symm),awX hbl]
theorem a6N(b r k:Nat):slx Tryz.prog 50 (some (.slr 1 b r (k+1))) (some (some (.int .i64 1))) (some none)=some (.ret (.slr 1 b (r+1) k),[]):=by
 have hz:Ji Tryz.prog 3=some 1:=by kernel_rfl
 simp only[slx,aKY,aDK,Tryz.underlying50,hz,Gs]
 simp[Gs,r1]
 omega
theorem aZH{H:Aa}{p:Nat}{fl w:Bool}{v:AV}(hp:H[p]?=some (.live 1 fl w [[v]]))(hQ:QS v [] H p):
 Ei.call (.sh 76) [.ptr p 0 0] H=some (.ret (.tup [.int .i64 0,.bool false]),H):=by
 rcases hQ with⟨rfl,_⟩|⟨b,w',rows,r,rfl,hrb,hbp,hd,hl⟩
 ·(refine csh Tryz.func76 ?_;simp only[Tryz.f76];(have hb:=trivial;with_reducible repeat' (first|simp only[hb,Va.down,seval,a3I.down,hp]|refine Av ?_ ?_<;>intro hb|refine fd ?_|fail)))
 ·simp only[aNV]at hp
  (refine csh Tryz.func76 ?_;simp only[Tryz.f76];(have hb:=trivial;with_reducible repeat' (first|simp only[hb,Va.down,seval,a3I.down,hp]|refine Av ?_ ?_<;>intro hb|refine fd ?_|fail)))
theorem a2N{H:Aa}{p:Nat}{fl w:Bool}{v:AV}{x:Nat}{q:List Nat}(hp:H[p]?=some (.live 1 fl w [[v]]))(hQ:QS v (x::q) H p)(hq:q.length≤100000000):
 ShQ Ei 76 [.ptr p 0 0] H fun o G=>o=.ret (.tup [.int .i64 (x:Int),.bool true])∧∃v' fl',G[p]?=some (.live 1 fl' true [[v']])∧QS v' q G p∧Hv [p] H G∧Nk v'=Nk v∧(Ar H=true→Ar G=true):=by
 have hpl:=Ap hp
 rcases hQ with⟨_,h⟩|⟨b,w',rows,r,rfl,hrb,hbp,hd,hl⟩
 ·cases h
 have hr0:rows[r]?=some [.int .i64 (x:Nat)]:=by
  have:=congrArg (·[0]?) hd
  simpa [nvv]using this
 have hd2:rows.drop (r+1)=q.map nvv:=by
  have:=congrArg (·.drop 1) hd
  simpa [List.drop_drop]using this
 simp only[List.length_cons]at hl hp
 have h1:decide (((q.length+1:Nat):Int)=0)=false:=decide_eq_false (by omega)
 have h2:((((q.length+1:Nat):Int))==0)=false:=by simp;omega
 have h3:((0:Int)<((q.length+1:Nat):Int))=True:=eq_true (by omega)
 have h4:((1:Int)≤((q.length+1:Nat):Int))=True:=eq_true (by omega)
 refine aPE rfl Tryz.func76 rfl rfl ?_
 simp only[Tryz.f76]
 refine Do (fun KK iN hK=>?_)
 (have hb:=trivial;with_reducible repeat' (first|simp only[hb,Va.down,seval,a3I.down,hp,hrb,hr0,h1,h2,h3,h4,a6N]|refine Av ?_ ?_<;>intro hb|refine fd ?_|fail))
 refine hK _ ?_
 rw[aOS]
 refine az1 (vs:=[.int .i64 (x:Int),.bool true]) (by simp only[Va.down,seval,a3I.down]) ⟨rfl,.slr 1 b (r+1) q.length,false,awX hpl,.inr ⟨b,w',rows,r+1,rfl,?_,hbp,hd2,by omega⟩,⟨by simp,fun b' _ hn=>aqT (fun e=>hn (by simp[e]))⟩,rfl,fun hqq=>Eh hqq p rfl⟩
 rw[aqT (fun e=>hbp e.symm)];exact hrb
theorem a2E{H:Aa}{p:Nat}{fl w:Bool}{v:AV}{q:List Nat}(x:Nat)(hp:H[p]?=some (.live 1 fl w [[v]]))(hQ:QS v q H p)(hq:q.length≤100000000):
 ShQ Ei 79 [.ptr p 0 0,.int .i64 (x:Int)] H fun o G=>o=.ret (.tup [])∧∃v' fl',G[p]?=some (.live 1 fl' true [[v']])∧QS v' (x::q) G p∧Hv [p] H G∧(Ar H=true→Ar G=true)∧∀b∈Nk v',H.length≤b:=by
 have hpl:=Ap hp
 have hA:=Ah hp
 have hS:=Jq hpl
 have keep:∀c l,Hv [p] H (H.set p c++l):=fun c l=>⟨by simp,fun b hb1 hn=>by rw[ao8 (by simpa using hb1),aqT (fun e=>hn (by simp[e]))]⟩
 have hg:∀c l,(H.set p c++l)[p]?=some c:=fun c l=>by rw[ao8 (by simpa using hpl),awX hpl]
 refine aPE rfl Tryz.func79 rfl rfl ?_
 simp only[Tryz.f79]
 refine Do (fun KK iN hK=>?_)
 rcases hQ with⟨rfl,rfl⟩|⟨b,w',rows,r,rfl,hrb,hbp,hd,hl⟩
 ·(have hb:=trivial;with_reducible repeat' (first|simp only[hb,Va.down,seval,aR2.down,hp,hA,hS]|refine Av ?_ ?_<;>intro hb|refine fd ?_|fail))
  refine hK _ ?_
  rw[Lp]
  refine az1 (vs:=[]) (by simp only[Va.down,seval,aR2.down]) ⟨rfl,_,_,hg _ _,.inr ⟨H.length,false,[nvv x],0,rfl,?_,by omega,rfl,rfl⟩,keep _ _,fun hqq=>Ef (Eh hqq p rfl) rfl,fun b hb1=>by simp[Nk]at hb1;omega⟩
  rw[Pm];rfl
 ·have hB:=Ah hrb
  cases q with
  |nil=>
   simp only[aNV]at hl hp hA
   have hrl:(r≤rows.length)=True:=eq_true (by omega)
   (have hb:=trivial;with_reducible repeat' (first|simp only[hb,Va.down,seval,aR2.down,hp,hA,hS,hrb,hB,hrl]|refine Av ?_ ?_<;>intro hb|refine fd ?_|fail))
   refine hK _ ?_
   rw[Lp]
   refine az1 (vs:=[]) (by simp only[Va.down,seval,aR2.down]) ⟨rfl,_,_,hg _ _,.inr ⟨H.length,false,[nvv x],0,rfl,?_,by omega,rfl,rfl⟩,keep _ _,fun hqq=>Ef (Eh hqq p rfl) rfl,fun b hb1=>by simp[Nk]at hb1;omega⟩
   rw[Pm];rfl
  |cons y q=>
   have hq2:(1+(q.length+1)≤549755813888)=True:=eq_true (by simp at hq;omega)
   have hrl:(r+(q.length+1)≤rows.length)=True:=eq_true (by simp at hl;omega)
   have htk:aC4 q.length (List.map nvv q)=List.map nvv q:=aC6 (by simp)
   (have hb:=trivial;with_reducible repeat' (first|simp only[hb,Va.down,seval,aR2.down,hp,hA,hS,hrb,hB,hd,hq2,hrl,htk,Pm,Pl,aJY,aqM]|refine Av ?_ ?_<;>intro hb|refine fd ?_|fail))
   refine hK _ ?_
   rw[Lp]
   refine az1 (vs:=[]) (by simp only[Va.down,seval,aR2.down]) ⟨rfl,_,_,hg _ _,.inr ⟨H.length+1,false,(x::y::q).map nvv,0,by simp;omega,?_,by omega,rfl,by simp⟩,keep _ _,fun hqq=>Ef (Eh hqq p rfl) rfl,fun b hb1=>by simp[Nk]at hb1;omega⟩
   rw[Pl];rfl
end Go.Proofs.YtcncggaobhbomaaGreatDoor
