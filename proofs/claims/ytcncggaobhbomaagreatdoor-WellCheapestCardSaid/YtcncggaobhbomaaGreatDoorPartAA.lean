/- The functions of the layer, walked. -/
import Derived.Test.YtcncggaobhbomaaGreatDoorLibE
import Derived.Test.YtcncggaobhbomaaGreatDoorChecked
import Derived.Test.YtcncggaobhbomaaGreatDoorLibD
import Derived.Test.YtcncggaobhbomaaGreatDoorRows
import Derived.Test.YtcncggaobhbomaaGreatDoorTie
import Derived.Test.YtcncggaobhbomaaGreatDoorCards
import Derived.Test.YtcncggaobhbomaaGreatDoorShelf
import Derived.ProofKit
import Derived.LaidMore
import Derived.OpenShut
import Derived.Stop.Joined
open And renaming intro→ad8
open List renaming length_map→ahF,replicate→aoR,getElem?_append_left→aoS,getElem?_eq_some_iff→apA,take→awL,getElem?_set_ne→azO,take_of_length_le→azV,all_eq_true→aAO,getElem?_append_right→aA5,drop→aCG,flatMap_cons→aCH,cons_append→aD5,nil_append→aEG,getElem?_set_self→aEX,mem_of_getElem?→aG2,getElem?_eq_getElem→aHA,take_succ_cons→aHN,drop_succ_cons→aHP,set_cons_succ→aHR,length_take→aI5
open Nat renaming ble→ay8
open Int renaming lt_irrefl→aEM
open Bool renaming and_eq_true→aJ8
set_option linter.unusedSimpArgs false
set_option linter.unusedVariables false
namespace Go.Proofs.YtcncggaobhbomaaGreatDoor
open Go.Ev
set_option maxRecDepth 100000
theorem Ha(h:Aa)(b r o:Nat):ld Tryz.prog 24 h (some (.ptr b r o))=ldR (Jo (h[b]?) r) o 3:=aFF ⟨by kernel_rfl,by kernel_rfl⟩ h b r o
theorem aIC(b r o:Nat):ftL Tryz.prog 24 (some (.ptr b r o))=some [.cells b o 3]:=Jh (isA:=true) (n:=3) (by kernel_rfl) (by kernel_rfl) b r o
theorem adL(fl nn:Bool)(rows:List (List AV)):ln Tryz.prog 25 (some (Bt 3 fl nn rows))=some (.ret (.int .i64 rows.length),[]):=aJJ ⟨_,Tryz.underlying25,by kernel_rfl⟩ fl nn rows
theorem Cc(b r o:Nat):fa Tryz.prog 24 (some (.ptr b r o)) 2=some (.ret (.ptr b r (o+2)),[]):=Dz (show Eo Tryz.prog 24 2 2 1 from⟨_,_,Tryz.underlying24,rfl,rfl,by kernel_rfl,by decide⟩) b r o
theorem Dh(h:Aa)(b r o:Nat):ld Tryz.prog 22 h (some (.ptr b r o))=ldC (Jo (h[b]?) r) o:=azR ⟨by kernel_rfl,1,by kernel_rfl⟩ h b r o
theorem aS6(b r o:Nat):ftL Tryz.prog 22 (some (.ptr b r o))=some [.cells b o 1]:=Jh (isA:=false) (n:=1) (by kernel_rfl) (by kernel_rfl) b r o
theorem aUD(st b r len:Nat):ln Tryz.prog 22 (some (.slr st b r len))=some (.ret (.int .i64 len),[]):=aI4 (n:=9) ⟨_,Tryz.underlying22,by kernel_rfl⟩ st b r len
theorem Dy(fl nn:Bool)(rows:List (List AV)):ln Tryz.prog 22 (some (Bt 9 fl nn rows))=some (.ret (.int .i64 rows.length),[]):=aJJ ⟨_,Tryz.underlying22,by kernel_rfl⟩ fl nn rows
theorem aBY:Ew Tryz.prog 36=some (.agg [.int .i64 0,.int .i64 0]):=by kernel_rfl
theorem aCD(h:Aa)(b r o:Nat)(v:AV):st_ Tryz.prog 36 h (some (.ptr b r o)) (some v)=sv 2 (h[b]?) b r o (Af v):=Ic (by kernel_rfl) h b r o v
theorem aSN(b r o:Nat):ftS Tryz.prog 36 (some (.ptr b r o))=some [.cells b o 2]:=ayX (by kernel_rfl) b r o
theorem Jv(h:Aa)(b r o:Nat):ld Tryz.prog 36 h (some (.ptr b r o))=ldR (Jo (h[b]?) r) o 2:=aFF ⟨by kernel_rfl,by kernel_rfl⟩ h b r o
theorem aHK(b r o:Nat):ftL Tryz.prog 36 (some (.ptr b r o))=some [.cells b o 2]:=Jh (isA:=true) (n:=2) (by kernel_rfl) (by kernel_rfl) b r o
theorem aIR(ps:List (Nat × AV)):Nn Tryz.prog 36 ps=(Ig (fun i=>([(0,1),(1,1)]:List (Nat × Nat))[i]?) (Af (.agg [.int .i64 0,.int .i64 0])) ps).map .agg:=by kernel_rfl
theorem aT0(b r len:Nat)(k:IntKind)(i:Int):ia Tryz.prog 22 (some (.slr 9 b r len)) (some (.int k i))=if 0≤i∧i<len then some (.ret (.ptr b (r+i.toNat) 0),[])else none:=aJ6 ⟨_,Tryz.underlying22,by kernel_rfl⟩ b r len k i
theorem Jt(fl nn:Bool)(rows:List (List AV))(k:IntKind)(i:Int):ia Tryz.prog 22 (some (Bt 9 fl nn rows)) (some (.int k i))=if 0≤i then r1 ((rows[i.toNat]?).map .iptr)else none:=aJB ⟨_,Tryz.underlying22,by kernel_rfl⟩ fl nn rows k i
theorem aeG(h:Aa)(b r o:Nat):ld Tryz.prog 46 h (some (.ptr b r o))=ldR (Jo (h[b]?) r) o 9:=aFF ⟨by kernel_rfl,by kernel_rfl⟩ h b r o
theorem It(h:Aa)(cs:List AV):ld Tryz.prog 46 h (some (.iptr cs))=if 9≤cs.length then some (.ret (.agg (cs.take 9)),[])else none:=aQ7 ⟨by kernel_rfl,by kernel_rfl⟩ h cs
theorem aIA(b r o:Nat):ftL Tryz.prog 46 (some (.ptr b r o))=some [.cells b o 9]:=Jh (isA:=true) (n:=9) (by kernel_rfl) (by kernel_rfl) b r o
theorem av0:Ew Tryz.prog 46=some (.agg [.int .i64 0,.int .i64 0,.bool false,.bool false,.int .i64 0,.int .i64 0,.bool false,.int .i64 0,.int .i64 0]):=by kernel_rfl
theorem atB(h:Aa)(b r o:Nat)(v:AV):st_ Tryz.prog 46 h (some (.ptr b r o)) (some v)=sv 9 (h[b]?) b r o (Af v):=Ic (by kernel_rfl) h b r o v
theorem aTH(b r o:Nat):ftS Tryz.prog 46 (some (.ptr b r o))=some [.cells b o 9]:=ayX (by kernel_rfl) b r o
theorem Ou(b r o:Nat):fa Tryz.prog 46 (some (.ptr b r o)) 5=some (.ret (.ptr b r (o+5)),[]):=Dz (show Eo Tryz.prog 46 5 5 1 from⟨_,_,Tryz.underlying46,rfl,rfl,by kernel_rfl,by decide⟩) b r o
theorem Bw(h:Aa)(b r o:Nat):ld Tryz.prog 3 h (some (.ptr b r o))=ldC (Jo (h[b]?) r) o:=azR ⟨by kernel_rfl,1,by kernel_rfl⟩ h b r o
theorem aC9(h:Aa)(c:AV)(cs:List AV):ld Tryz.prog 3 h (some (.iptr (c::cs)))=some (.ret c,[]):=a5Y ⟨by kernel_rfl,1,by kernel_rfl⟩ h c cs
theorem aLE(b r o:Nat):ftL Tryz.prog 3 (some (.ptr b r o))=some [.cells b o 1]:=Jh (isA:=false) (n:=1) (by kernel_rfl) (by kernel_rfl) b r o
theorem aRH(h:Aa)(b r o:Nat)(v:AV):st_ Tryz.prog 3 h (some (.ptr b r o)) (some v)=sv 1 (h[b]?) b r o (Af v):=Ic (by kernel_rfl) h b r o v
theorem Lj(b r o:Nat):fa Tryz.prog 46 (some (.ptr b r o)) 3=some (.ret (.ptr b r (o+3)),[]):=Dz (show Eo Tryz.prog 46 3 3 1 from⟨_,_,Tryz.underlying46,rfl,rfl,by kernel_rfl,by decide⟩) b r o
theorem aQG(h:Aa)(b r o:Nat)(v:AV):st_ Tryz.prog 4 h (some (.ptr b r o)) (some v)=sv 1 (h[b]?) b r o (Af v):=Ic (by kernel_rfl) h b r o v
theorem aZJ:Ew Tryz.prog 75=some (.agg [.int .i64 0,.bool false,.bool false]):=by kernel_rfl
theorem Iz(b r o:Nat):fa Tryz.prog 36 (some (.ptr b r o)) 0=some (.ret (.ptr b r (o+0)),[]):=Dz (show Eo Tryz.prog 36 0 0 1 from⟨_,_,Tryz.underlying36,rfl,rfl,by kernel_rfl,by decide⟩) b r o
theorem Ju(h:Aa)(b r o:Nat):ld Tryz.prog 34 h (some (.ptr b r o))=ldC (Jo (h[b]?) r) o:=azR ⟨by kernel_rfl,1,by kernel_rfl⟩ h b r o
theorem aI1(b r o:Nat):ftL Tryz.prog 34 (some (.ptr b r o))=some [.cells b o 1]:=Jh (isA:=false) (n:=1) (by kernel_rfl) (by kernel_rfl) b r o
theorem Gw(h:Aa)(b r o:Nat):ld Tryz.prog 4 h (some (.ptr b r o))=ldC (Jo (h[b]?) r) o:=azR ⟨by kernel_rfl,1,by kernel_rfl⟩ h b r o
theorem aT6(h:Aa)(c:AV)(cs:List AV):ld Tryz.prog 4 h (some (.iptr (c::cs)))=some (.ret c,[]):=a5Y ⟨by kernel_rfl,1,by kernel_rfl⟩ h c cs
theorem aKR:Ew Tryz.prog 24=some (.agg [.int .i64 0,.int .i64 0,.nils]):=by kernel_rfl
theorem aMX(h:Aa)(b r o:Nat)(v:AV):st_ Tryz.prog 24 h (some (.ptr b r o)) (some v)=sv 3 (h[b]?) b r o (Af v):=Ic (by kernel_rfl) h b r o v
theorem aUL(b r o:Nat):ftS Tryz.prog 24 (some (.ptr b r o))=some [.cells b o 3]:=ayX (by kernel_rfl) b r o
theorem arN(b r o:Nat):fa Tryz.prog 24 (some (.ptr b r o)) 1=some (.ret (.ptr b r (o+1)),[]):=Dz (show Eo Tryz.prog 24 1 1 1 from⟨_,_,Tryz.underlying24,rfl,rfl,by kernel_rfl,by decide⟩) b r o
theorem Lm(b r o:Nat):fa Tryz.prog 36 (some (.ptr b r o)) 1=some (.ret (.ptr b r (o+1)),[]):=Dz (show Eo Tryz.prog 36 1 1 1 from⟨_,_,Tryz.underlying36,rfl,rfl,by kernel_rfl,by decide⟩) b r o
theorem aTO(ps:List (Nat × AV)):Nn Tryz.prog 24 ps=(Ig (fun i=>([(0,1),(1,1),(2,1)]:List (Nat × Nat))[i]?) (Af (.agg [.int .i64 0,.int .i64 0,.nils])) ps).map .agg:=by kernel_rfl
theorem am6(h:Aa)(b r o:Nat):ld Tryz.prog 50 h (some (.ptr b r o))=ldC (Jo (h[b]?) r) o:=azR ⟨by kernel_rfl,1,by kernel_rfl⟩ h b r o
theorem a3U:Ew Tryz.prog 3=some (.int .i64 0):=by kernel_rfl
theorem aHU(base len:Nat)(ps:List (Nat × AV)):rD (Bj Tryz.prog base 50 len ps)=bsK 1 (.int .i64 0) base len ps:=a3G (e:=3) (by kernel_rfl) (by kernel_rfl) (by kernel_rfl) base len ps
theorem aOV(h:Aa)(b r o:Nat):ld Tryz.prog 69 h (some (.ptr b r o))=ldC (Jo (h[b]?) r) o:=azR ⟨by kernel_rfl,1,by kernel_rfl⟩ h b r o
theorem aHY(ps:List (Nat × AV)):Nn Tryz.prog 85 ps=(Ig (fun i=>([(0,24),(24,1)]:List (Nat × Nat))[i]?) (Af (.agg [.int .i64 0,.bool false,.int .i64 0,.bool false,.int .i64 0,.bool false,.int .i64 0,.bool false,.int .i64 0,.bool false,.int .i64 0,.bool false,.int .i64 0,.bool false,.int .i64 0,.bool false,.int .i64 0,.bool false,.int .i64 0,.bool false,.int .i64 0,.bool false,.int .i64 0,.bool false,.int .i64 0])) ps).map .agg:=by kernel_rfl
theorem aFR:Ew Tryz.prog 85=some (.agg [.int .i64 0,.bool false,.int .i64 0,.bool false,.int .i64 0,.bool false,.int .i64 0,.bool false,.int .i64 0,.bool false,.int .i64 0,.bool false,.int .i64 0,.bool false,.int .i64 0,.bool false,.int .i64 0,.bool false,.int .i64 0,.bool false,.int .i64 0,.bool false,.int .i64 0,.bool false,.int .i64 0]):=by kernel_rfl
theorem aFT(h:Aa)(b r o:Nat)(v:AV):st_ Tryz.prog 85 h (some (.ptr b r o)) (some v)=sv 25 (h[b]?) b r o (Af v):=Ic (by kernel_rfl) h b r o v
theorem am8(h:Aa)(b r o:Nat):ld Tryz.prog 85 h (some (.ptr b r o))=ldR (Jo (h[b]?) r) o 25:=aFF ⟨by kernel_rfl,by kernel_rfl⟩ h b r o
theorem aPK(h:Aa)(cs:List AV):ld Tryz.prog 85 h (some (.iptr cs))=if 25≤cs.length then some (.ret (.agg (cs.take 25)),[])else none:=aQ7 ⟨by kernel_rfl,by kernel_rfl⟩ h cs
theorem aIH(b r o:Nat):ftL Tryz.prog 85 (some (.ptr b r o))=some [.cells b o 25]:=Jh (isA:=true) (n:=25) (by kernel_rfl) (by kernel_rfl) b r o
theorem aLY:Ew Tryz.prog 86=some (.nilm):=by kernel_rfl
theorem aLT(h:Aa)(b r o:Nat)(v:AV):st_ Tryz.prog 86 h (some (.ptr b r o)) (some v)=sv 1 (h[b]?) b r o (Af v):=Ic (by kernel_rfl) h b r o v
theorem ahX(h:Aa)(b r o:Nat):ld Tryz.prog 86 h (some (.ptr b r o))=ldC (Jo (h[b]?) r) o:=azR ⟨by kernel_rfl,1,by kernel_rfl⟩ h b r o
theorem aIL(b r o:Nat):ftL Tryz.prog 86 (some (.ptr b r o))=some [.cells b o 1]:=Jh (isA:=false) (n:=1) (by kernel_rfl) (by kernel_rfl) b r o
theorem aHO(b r len:Nat)(k:IntKind)(i:Int):ia Tryz.prog 91 (some (.slr 4 b r len)) (some (.int k i))=if 0≤i∧i<len then some (.ret (.ptr b (r+i.toNat) 0),[])else none:=aJ6 ⟨_,Tryz.underlying91,by kernel_rfl⟩ b r len k i
theorem aIZ(fl nn:Bool)(rows:List (List AV))(k:IntKind)(i:Int):ia Tryz.prog 91 (some (Bt 4 fl nn rows)) (some (.int k i))=if 0≤i then r1 ((rows[i.toNat]?).map .iptr)else none:=aJB ⟨_,Tryz.underlying91,by kernel_rfl⟩ fl nn rows k i
theorem aK5(b r o:Nat):fa Tryz.prog 94 (some (.ptr b r o)) 0=some (.ret (.ptr b r (o+0)),[]):=Dz (show Eo Tryz.prog 94 0 0 2 from⟨_,_,Tryz.underlying94,rfl,rfl,by kernel_rfl,by decide⟩) b r o
theorem aCZ(b r len:Nat)(k:IntKind)(i:Int):ia Tryz.prog 50 (some (.slr 1 b r len)) (some (.int k i))=if 0≤i∧i<len then some (.ret (.ptr b (r+i.toNat) 0),[])else none:=aJ6 ⟨_,Tryz.underlying50,by kernel_rfl⟩ b r len k i
theorem Oq(b r o:Nat):fa Tryz.prog 24 (some (.ptr b r o)) 0=some (.ret (.ptr b r (o+0)),[]):=Dz (show Eo Tryz.prog 24 0 0 1 from⟨_,_,Tryz.underlying24,rfl,rfl,by kernel_rfl,by decide⟩) b r o
theorem awM(b r o:Nat):fa Tryz.prog 46 (some (.ptr b r o)) 0=some (.ret (.ptr b r (o+0)),[]):=Dz (show Eo Tryz.prog 46 0 0 1 from⟨_,_,Tryz.underlying46,rfl,rfl,by kernel_rfl,by decide⟩) b r o
theorem av6(b r o:Nat):fa Tryz.prog 46 (some (.ptr b r o)) 1=some (.ret (.ptr b r (o+1)),[]):=Dz (show Eo Tryz.prog 46 1 1 1 from⟨_,_,Tryz.underlying46,rfl,rfl,by kernel_rfl,by decide⟩) b r o
theorem awF(b r o:Nat):fa Tryz.prog 46 (some (.ptr b r o)) 2=some (.ret (.ptr b r (o+2)),[]):=Dz (show Eo Tryz.prog 46 2 2 1 from⟨_,_,Tryz.underlying46,rfl,rfl,by kernel_rfl,by decide⟩) b r o
theorem Kw(b r o:Nat):fa Tryz.prog 46 (some (.ptr b r o)) 4=some (.ret (.ptr b r (o+4)),[]):=Dz (show Eo Tryz.prog 46 4 4 1 from⟨_,_,Tryz.underlying46,rfl,rfl,by kernel_rfl,by decide⟩) b r o
theorem arR(b r o:Nat):fa Tryz.prog 46 (some (.ptr b r o)) 7=some (.ret (.ptr b r (o+7)),[]):=Dz (show Eo Tryz.prog 46 7 7 1 from⟨_,_,Tryz.underlying46,rfl,rfl,by kernel_rfl,by decide⟩) b r o
theorem atC(b r o:Nat):fa Tryz.prog 46 (some (.ptr b r o)) 8=some (.ret (.ptr b r (o+8)),[]):=Dz (show Eo Tryz.prog 46 8 8 1 from⟨_,_,Tryz.underlying46,rfl,rfl,by kernel_rfl,by decide⟩) b r o
theorem aG4{O:Ea}(t:List AV)(h:Aa)(s x:Operand):Df O Tryz.prog t h (.call ⟨.builtin .append,#[s,x],#[22,22]⟩)=apO Tryz.prog 22 h (Ae t s) (Ae t x):=aRG t h s x 22 22 _ Tryz.underlying22
theorem aTN(h:Aa)(s:AV)(st:Nat)(fl:Bool)(rows:List (List AV)):apO Tryz.prog 22 h (some s) (some (.imm st fl rows))=apK 9 h (some s) (srK 9 h (some (.imm st fl rows))):=aLN (e:=46) (b:=64) (z:=.agg [.int .i64 0,.int .i64 0,.bool false,.bool false,.int .i64 0,.int .i64 0,.bool false,.int .i64 0,.int .i64 0]) (by kernel_rfl) (by kernel_rfl) (by kernel_rfl) (by kernel_rfl) (by decide+kernel) h s _ (fun q e=>by cases e)
theorem aW6(h:Aa)(b r o:Nat)(v:AV):st_ Tryz.prog 22 h (some (.ptr b r o)) (some v)=sv 1 (h[b]?) b r o (Af v):=Ic (by kernel_rfl) h b r o v
theorem aw9(fl nn:Bool)(rows:List (List AV))(k:IntKind)(i:Int):ia Tryz.prog 25 (some (Bt 3 fl nn rows)) (some (.int k i))=if 0≤i then r1 ((rows[i.toNat]?).map .iptr)else none:=aJB ⟨_,Tryz.underlying25,by kernel_rfl⟩ fl nn rows k i
theorem aDJ(b r o:Nat):fa Tryz.prog 75 (some (.ptr b r o)) 0=some (.ret (.ptr b r (o+0)),[]):=Dz (show Eo Tryz.prog 75 0 0 1 from⟨_,_,Tryz.underlying75,rfl,rfl,by kernel_rfl,by decide⟩) b r o
theorem awG(cs:List AV):fa Tryz.prog 75 (some (.iptr cs)) 0=if 0+1≤cs.length then some (.ret (.iptr (cs.drop 0)),[])else none:=aKD (show Eo Tryz.prog 75 0 0 1 from⟨_,_,Tryz.underlying75,rfl,rfl,by kernel_rfl,by decide⟩) cs
theorem aMY(b r o:Nat):fa Tryz.prog 75 (some (.ptr b r o)) 1=some (.ret (.ptr b r (o+1)),[]):=Dz (show Eo Tryz.prog 75 1 1 1 from⟨_,_,Tryz.underlying75,rfl,rfl,by kernel_rfl,by decide⟩) b r o
theorem aNB(cs:List AV):fa Tryz.prog 75 (some (.iptr cs)) 1=if 1+1≤cs.length then some (.ret (.iptr (cs.drop 1)),[])else none:=aKD (show Eo Tryz.prog 75 1 1 1 from⟨_,_,Tryz.underlying75,rfl,rfl,by kernel_rfl,by decide⟩) cs
theorem aMH(b r o:Nat):fa Tryz.prog 75 (some (.ptr b r o)) 2=some (.ret (.ptr b r (o+2)),[]):=Dz (show Eo Tryz.prog 75 2 2 1 from⟨_,_,Tryz.underlying75,rfl,rfl,by kernel_rfl,by decide⟩) b r o
theorem aNE(cs:List AV):fa Tryz.prog 75 (some (.iptr cs)) 2=if 2+1≤cs.length then some (.ret (.iptr (cs.drop 2)),[])else none:=aKD (show Eo Tryz.prog 75 2 2 1 from⟨_,_,Tryz.underlying75,rfl,rfl,by kernel_rfl,by decide⟩) cs
theorem aB8:Ew Tryz.prog 82=some (.agg [.int .i64 0,.bool false,.int .i64 0,.bool false,.int .i64 0,.bool false,.int .i64 0,.bool false,.int .i64 0,.bool false,.int .i64 0,.bool false,.int .i64 0,.bool false,.int .i64 0,.bool false,.int .i64 0,.bool false,.int .i64 0,.bool false,.int .i64 0,.bool false,.int .i64 0,.bool false]):=by kernel_rfl
theorem aA7(h:Aa)(b r o:Nat)(v:AV):st_ Tryz.prog 82 h (some (.ptr b r o)) (some v)=sv 24 (h[b]?) b r o (Af v):=Ic (by kernel_rfl) h b r o v
theorem Hq(b r o:Nat):fa Tryz.prog 106 (some (.ptr b r o)) 0=some (.ret (.ptr b r (o+0)),[]):=Dz (show Eo Tryz.prog 106 0 0 3 from⟨_,_,Tryz.underlying106,rfl,rfl,by kernel_rfl,by decide⟩) b r o
theorem Im(h:Aa)(b r o:Nat):ld Tryz.prog 82 h (some (.ptr b r o))=ldR (Jo (h[b]?) r) o 24:=aFF ⟨by kernel_rfl,by kernel_rfl⟩ h b r o
theorem aUT(b r o:Nat):ftL Tryz.prog 82 (some (.ptr b r o))=some [.cells b o 24]:=Jh (isA:=true) (n:=24) (by kernel_rfl) (by kernel_rfl) b r o
theorem Hi(b r o:Nat):fa Tryz.prog 80 (some (.ptr b r o)) 0=some (.ret (.ptr b r (o+0)),[]):=Dz (show Eo Tryz.prog 80 0 0 1 from⟨_,_,Tryz.underlying80,rfl,rfl,by kernel_rfl,by decide⟩) b r o
theorem aMB(h:Aa)(b r o:Nat)(v:AV):st_ Tryz.prog 78 h (some (.ptr b r o)) (some v)=sv 1 (h[b]?) b r o (Af v):=Ic (by kernel_rfl) h b r o v
theorem Gs(h:Aa)(b r o:Nat):ld Tryz.prog 80 h (some (.ptr b r o))=ldR (Jo (h[b]?) r) o 2:=aFF ⟨by kernel_rfl,by kernel_rfl⟩ h b r o
theorem aRU(b r o:Nat):ftL Tryz.prog 80 (some (.ptr b r o))=some [.cells b o 2]:=Jh (isA:=true) (n:=2) (by kernel_rfl) (by kernel_rfl) b r o
theorem azL{O:Ea}(t:List AV)(h:Aa)(s x:Operand):Df O Tryz.prog t h (.call ⟨.builtin .append,#[s,x],#[50,50]⟩)=apO Tryz.prog 50 h (Ae t s) (Ae t x):=aRG t h s x 50 50 _ Tryz.underlying50
theorem aIB(h:Aa)(s:AV)(a b r l:Nat):apO Tryz.prog 50 h (some s) (some (.slr a b r l))=apK 1 h (some s) (srK 1 h (some (.slr a b r l))):=aLN (e:=3) (b:=8) (z:=.int .i64 0) (by kernel_rfl) (by kernel_rfl) (by kernel_rfl) (by kernel_rfl) (by decide+kernel) h s _ (fun q e=>by cases e)
theorem aR8(h:Aa)(s:AV)  :apO Tryz.prog 50 h (some s) (some .nils)=apK 1 h (some s) (srK 1 h (some .nils)):=aLN (e:=3) (b:=8) (z:=.int .i64 0) (by kernel_rfl) (by kernel_rfl) (by kernel_rfl) (by kernel_rfl) (by decide+kernel) h s _ (fun q e=>by cases e)
theorem arY(b r o:Nat):fa Tryz.prog 46 (some (.ptr b r o)) 6=some (.ret (.ptr b r (o+6)),[]):=Dz (show Eo Tryz.prog 46 6 6 1 from⟨_,_,Tryz.underlying46,rfl,rfl,by kernel_rfl,by decide⟩) b r o
theorem aHV(st b r len:Nat):ln Tryz.prog 50 (some (.slr st b r len))=some (.ret (.int .i64 len),[]):=aI4 (n:=1) ⟨_,Tryz.underlying50,by kernel_rfl⟩ st b r len
theorem aSB:ln Tryz.prog 50 (some .nils)=some (.ret (.int .i64 0),[]):=aKC (n:=1) ⟨_,Tryz.underlying50,by kernel_rfl⟩
theorem aSH(base len:Nat)(ps:List (Nat × AV)):rD (Bj Tryz.prog base 22 len ps)=bsK 9 (.agg [.int .i64 0,.int .i64 0,.bool false,.bool false,.int .i64 0,.int .i64 0,.bool false,.int .i64 0,.int .i64 0]) base len ps:=a3G (e:=46) (by kernel_rfl) (by kernel_rfl) (by kernel_rfl) base len ps
theorem aWZ:Ew Tryz.prog 50=some (.nils):=by kernel_rfl
theorem aJD(b r o:Nat):fa Tryz.prog 106 (some (.ptr b r o)) 1=some (.ret (.ptr b r (o+3)),[]):=Dz (show Eo Tryz.prog 106 1 3 1 from⟨_,_,Tryz.underlying106,rfl,rfl,by kernel_rfl,by decide⟩) b r o
theorem aPV(ps:List (Nat × AV)):Nn Tryz.prog 106 ps=(Ig (fun i=>([(0,3),(3,1)]:List (Nat × Nat))[i]?) (Af (.agg [.int .i64 0,.int .i64 0,.nils,.int .i64 0])) ps).map .agg:=by kernel_rfl
theorem aEO(h:Aa)(cs:List AV):ld Tryz.prog 75 h (some (.iptr cs))=if 3≤cs.length then some (.ret (.agg (cs.take 3)),[])else none:=aQ7 ⟨by kernel_rfl,by kernel_rfl⟩ h cs
theorem aZ7(h:Aa)(b r o:Nat)(v:AV):st_ Tryz.prog 75 h (some (.ptr b r o)) (some v)=sv 3 (h[b]?) b r o (Af v):=Ic (by kernel_rfl) h b r o v
theorem Ja(b r o:Nat):fa Tryz.prog 80 (some (.ptr b r o)) 1=some (.ret (.ptr b r (o+1)),[]):=Dz (show Eo Tryz.prog 80 1 1 1 from⟨_,_,Tryz.underlying80,rfl,rfl,by kernel_rfl,by decide⟩) b r o
theorem aH1(base len:Nat)(ps:List (Nat × AV)):rD (Bj Tryz.prog base 92 len ps)=bsK 25 (.agg [.int .i64 0,.bool false,.int .i64 0,.bool false,.int .i64 0,.bool false,.int .i64 0,.bool false,.int .i64 0,.bool false,.int .i64 0,.bool false,.int .i64 0,.bool false,.int .i64 0,.bool false,.int .i64 0,.bool false,.int .i64 0,.bool false,.int .i64 0,.bool false,.int .i64 0,.bool false,.int .i64 0]) base len ps:=a3G (e:=85) (by kernel_rfl) (by kernel_rfl) (by kernel_rfl) base len ps
theorem aSE(st b r len:Nat):ln Tryz.prog 92 (some (.slr st b r len))=some (.ret (.int .i64 len),[]):=aI4 (n:=25) ⟨_,Tryz.underlying92,by kernel_rfl⟩ st b r len
theorem aSK(fl nn:Bool)(rows:List (List AV)):ln Tryz.prog 92 (some (Bt 25 fl nn rows))=some (.ret (.int .i64 rows.length),[]):=aJJ ⟨_,Tryz.underlying92,by kernel_rfl⟩ fl nn rows
theorem aUM(b r len:Nat)(k:IntKind)(i:Int):ia Tryz.prog 92 (some (.slr 25 b r len)) (some (.int k i))=if 0≤i∧i<len then some (.ret (.ptr b (r+i.toNat) 0),[])else none:=aJ6 ⟨_,Tryz.underlying92,by kernel_rfl⟩ b r len k i
theorem aS0(fl nn:Bool)(rows:List (List AV))(k:IntKind)(i:Int):ia Tryz.prog 92 (some (Bt 25 fl nn rows)) (some (.int k i))=if 0≤i then r1 ((rows[i.toNat]?).map .iptr)else none:=aJB ⟨_,Tryz.underlying92,by kernel_rfl⟩ fl nn rows k i
theorem aTI(st b r len:Nat):ln Tryz.prog 91 (some (.slr st b r len))=some (.ret (.int .i64 len),[]):=aI4 (n:=4) ⟨_,Tryz.underlying91,by kernel_rfl⟩ st b r len
theorem aUA:ln Tryz.prog 91 (some .nils)=some (.ret (.int .i64 0),[]):=aKC (n:=4) ⟨_,Tryz.underlying91,by kernel_rfl⟩
theorem aH9(fl nn:Bool)(rows:List (List AV)):ln Tryz.prog 91 (some (Bt 4 fl nn rows))=some (.ret (.int .i64 rows.length),[]):=aJJ ⟨_,Tryz.underlying91,by kernel_rfl⟩ fl nn rows
theorem Nr(h:Aa)(b r o:Nat):ld Tryz.prog 94 h (some (.ptr b r o))=ldR (Jo (h[b]?) r) o 4:=aFF ⟨by kernel_rfl,by kernel_rfl⟩ h b r o
theorem aFU(h:Aa)(cs:List AV):ld Tryz.prog 94 h (some (.iptr cs))=if 4≤cs.length then some (.ret (.agg (cs.take 4)),[])else none:=aQ7 ⟨by kernel_rfl,by kernel_rfl⟩ h cs
theorem aGX:Ew Tryz.prog 94=some (.agg [.int .i64 0,.int .i64 0,.int .i64 0,.nils]):=by kernel_rfl
theorem aEZ(h:Aa)(b r o:Nat)(v:AV):st_ Tryz.prog 94 h (some (.ptr b r o)) (some v)=sv 4 (h[b]?) b r o (Af v):=Ic (by kernel_rfl) h b r o v
theorem aTL(b r o:Nat):ftS Tryz.prog 94 (some (.ptr b r o))=some [.cells b o 4]:=ayX (by kernel_rfl) b r o
theorem awE(b r o:Nat):fa Tryz.prog 94 (some (.ptr b r o)) 2=some (.ret (.ptr b r (o+3)),[]):=Dz (show Eo Tryz.prog 94 2 3 1 from⟨_,_,Tryz.underlying94,rfl,rfl,by kernel_rfl,by decide⟩) b r o
theorem aAJ(h:Aa)(b r o:Nat):ld Tryz.prog 92 h (some (.ptr b r o))=ldC (Jo (h[b]?) r) o:=azR ⟨by kernel_rfl,1,by kernel_rfl⟩ h b r o
theorem aTK(b r o:Nat):ftL Tryz.prog 92 (some (.ptr b r o))=some [.cells b o 1]:=Jh (isA:=false) (n:=1) (by kernel_rfl) (by kernel_rfl) b r o
theorem azJ{O:Ea}(t:List AV)(h:Aa)(s x:Operand):Df O Tryz.prog t h (.call ⟨.builtin .append,#[s,x],#[92,92]⟩)=apO Tryz.prog 92 h (Ae t s) (Ae t x):=aRG t h s x 92 92 _ Tryz.underlying92
theorem aIO(h:Aa)(s:AV)(a b r l:Nat):apO Tryz.prog 92 h (some s) (some (.slr a b r l))=apK 25 h (some s) (srK 25 h (some (.slr a b r l))):=aLN (e:=85) (b:=200) (z:=.agg [.int .i64 0,.bool false,.int .i64 0,.bool false,.int .i64 0,.bool false,.int .i64 0,.bool false,.int .i64 0,.bool false,.int .i64 0,.bool false,.int .i64 0,.bool false,.int .i64 0,.bool false,.int .i64 0,.bool false,.int .i64 0,.bool false,.int .i64 0,.bool false,.int .i64 0,.bool false,.int .i64 0]) (by kernel_rfl) (by kernel_rfl) (by kernel_rfl) (by kernel_rfl) (by decide+kernel) h s _ (fun q e=>by cases e)
theorem aDG(b r o:Nat):fa Tryz.prog 85 (some (.ptr b r o)) 0=some (.ret (.ptr b r (o+0)),[]):=Dz (show Eo Tryz.prog 85 0 0 24 from⟨_,_,Tryz.underlying85,rfl,rfl,by kernel_rfl,by decide⟩) b r o
theorem aLP(b r o:Nat):fa Tryz.prog 94 (some (.ptr b r o)) 1=some (.ret (.ptr b r (o+2)),[]):=Dz (show Eo Tryz.prog 94 1 2 1 from⟨_,_,Tryz.underlying94,rfl,rfl,by kernel_rfl,by decide⟩) b r o
theorem aSM(base:Nat)(l c:Option AV):msO Tryz.prog 50 base l c=msK 1 (.int .i64 0) base l c:=bb9 (e:=3) (n:=1) (b:=8) (by kernel_rfl) (by kernel_rfl) (by kernel_rfl) (by kernel_rfl) (by decide+kernel) base l c
theorem Oa(h:Aa)(b r o:Nat):ld Tryz.prog 78 h (some (.ptr b r o))=ldC (Jo (h[b]?) r) o:=azR ⟨by kernel_rfl,1,by kernel_rfl⟩ h b r o
theorem aTB(n:Nat)(fl:Bool)(rows:List (List AV)):Kz Tryz.prog .eql 22 (.imm n fl rows) .nils=some (.bool false):=aME Tryz.underlying22 n fl rows
theorem aA4(h:Aa)(b r o:Nat)(v:AV):st_ Tryz.prog 50 h (some (.ptr b r o)) (some v)=sv 1 (h[b]?) b r o (Af v):=Ic (by kernel_rfl) h b r o v
theorem aO7(ps:List (Nat × AV)):Nn Tryz.prog 128 ps=(Ig (fun i=>([(0,1)]:List (Nat × Nat))[i]?) (Af (.agg [.nils])) ps).map .agg:=by kernel_rfl
theorem aTD:Ew Tryz.prog 126=some (.nilp):=by kernel_rfl
theorem aUV(h:Aa)(b r o:Nat)(v:AV):st_ Tryz.prog 126 h (some (.ptr b r o)) (some v)=sv 1 (h[b]?) b r o (Af v):=Ic (by kernel_rfl) h b r o v
theorem aM2(h:Aa)(b r o:Nat):ld Tryz.prog 126 h (some (.ptr b r o))=ldC (Jo (h[b]?) r) o:=azR ⟨by kernel_rfl,1,by kernel_rfl⟩ h b r o
theorem aKT(b r o:Nat):fa Tryz.prog 85 (some (.ptr b r o)) 1=some (.ret (.ptr b r (o+24)),[]):=Dz (show Eo Tryz.prog 85 1 24 1 from⟨_,_,Tryz.underlying85,rfl,rfl,by kernel_rfl,by decide⟩) b r o
theorem aR5(ps:List (Nat × AV)):Nn Tryz.prog 94 ps=(Ig (fun i=>([(0,2),(2,1),(3,1)]:List (Nat × Nat))[i]?) (Af (.agg [.int .i64 0,.int .i64 0,.int .i64 0,.nils])) ps).map .agg:=by kernel_rfl
theorem aXN(h:Aa)(b r o:Nat)(v:AV):st_ Tryz.prog 92 h (some (.ptr b r o)) (some v)=sv 1 (h[b]?) b r o (Af v):=Ic (by kernel_rfl) h b r o v
theorem aR9(b r o:Nat):ftS Tryz.prog 92 (some (.ptr b r o))=some [.cells b o 1]:=ayX (by kernel_rfl) b r o
theorem aSS(base len:Nat)(ps:List (Nat × AV)):rD (Bj Tryz.prog base 91 len ps)=bsK 4 (.agg [.int .i64 0,.int .i64 0,.int .i64 0,.nils]) base len ps:=a3G (e:=94) (by kernel_rfl) (by kernel_rfl) (by kernel_rfl) base len ps
theorem aG6{O:Ea}(t:List AV)(h:Aa)(s x:Operand):Df O Tryz.prog t h (.call ⟨.builtin .append,#[s,x],#[91,91]⟩)=apO Tryz.prog 91 h (Ae t s) (Ae t x):=aRG t h s x 91 91 _ Tryz.underlying91
theorem aSY(h:Aa)(s:AV)(a b r l:Nat):apO Tryz.prog 91 h (some s) (some (.slr a b r l))=apK 4 h (some s) (srK 4 h (some (.slr a b r l))):=aLN (e:=94) (b:=48) (z:=.agg [.int .i64 0,.int .i64 0,.int .i64 0,.nils]) (by kernel_rfl) (by kernel_rfl) (by kernel_rfl) (by kernel_rfl) (by decide+kernel) h s _ (fun q e=>by cases e)
theorem abU(h:Aa)(b r o:Nat)(v:AV):st_ Tryz.prog 80 h (some (.ptr b r o)) (some v)=sv 2 (h[b]?) b r o (Af v):=Ic (by kernel_rfl) h b r o v
theorem aUB(b r o:Nat):ftS Tryz.prog 80 (some (.ptr b r o))=some [.cells b o 2]:=ayX (by kernel_rfl) b r o
theorem am4(b r o:Nat):fa Tryz.prog 128 (some (.ptr b r o)) 0=some (.ret (.ptr b r (o+0)),[]):=Dz (show Eo Tryz.prog 128 0 0 1 from⟨_,_,Tryz.underlying128,rfl,rfl,by kernel_rfl,by decide⟩) b r o
theorem aoU:Ew Tryz.prog 80=some (.agg [.int .i64 0,.bool false]):=by kernel_rfl
theorem ay0(ps:List (Nat × AV)):Nn Tryz.prog 80 ps=(Ig (fun i=>([(0,1),(1,1)]:List (Nat × Nat))[i]?) (Af (.agg [.int .i64 0,.bool false])) ps).map .agg:=by kernel_rfl
def TY8:=PLift.up (ad8 @Ha (ad8 @adL (ad8 @Cc (ad8 @Dh (ad8 @Dy (ad8 @Jv (ad8 @aBY (ad8 @aCD (ad8 @Iz (ad8 @Ju (ad8 @Lm @Bw)))))))))))
def TY9:=PLift.up (ad8 @Cc (ad8 @Dh @Dy))
def aOB:=PLift.up (ad8 @Cc (ad8 @Dh (ad8 @Dy @Ha)))
def aYQ:=PLift.up (ad8 @Jv (ad8 @aHK (ad8 @aBY (ad8 @Cc (ad8 @Dh (ad8 @Dy (ad8 @aIR (ad8 @aCD (ad8 @aSN (ad8 @Ha (ad8 @aHY (ad8 @aFR (ad8 @aFT (ad8 @am8 (ad8 @aIH (ad8 @aLY (ad8 @aLT (ad8 @ahX (ad8 @aIL (ad8 @aHO @aK5))))))))))))))))))))
def aNA:=PLift.up (ad8 @Oq (ad8 @Bw (ad8 @arN (ad8 @Cc (ad8 @Dh (ad8 @Dy (ad8 @Jt (ad8 @It (ad8 @av0 (ad8 @atB (ad8 @awM (ad8 @av6 (ad8 @Lj (ad8 @Gw (ad8 @awF (ad8 @Kw (ad8 @Ou (ad8 @arR @atC))))))))))))))))))
def bfZ:=PLift.up (ad8 @Cc (ad8 @Dh @Dy))
def aMW:=PLift.up (ad8 @adL (ad8 @Cc (ad8 @Dh (ad8 @aS6 (ad8 @aw9 (ad8 @awG (ad8 @aC9 (ad8 @Jt (ad8 @aeG (ad8 @It (ad8 @av0 (ad8 @atB (ad8 @aTH (ad8 @Lj (ad8 @Gw (ad8 @aT6 (ad8 @aNB @aNE)))))))))))))))))
def aOI:=PLift.up (ad8 @Ha (ad8 @aIC (ad8 @aKR (ad8 @Iz (ad8 @Ju (ad8 @aI1 (ad8 @Lm (ad8 @Bw (ad8 @Cc (ad8 @Dh (ad8 @Dy (ad8 @aTO (ad8 @aMX (ad8 @aUL (ad8 @aB8 (ad8 @aA7 (ad8 @aT0 (ad8 @Jt (ad8 @aeG (ad8 @It (ad8 @aIA (ad8 @Gs (ad8 @Im (ad8 @Jv (ad8 @aW6 (ad8 @Lj (ad8 @aQG (ad8 @arY (ad8 @Kw @aRH)))))))))))))))))))))))))))))
def a9D:=PLift.up (ad8 @Ha (ad8 @Lm (ad8 @Bw (ad8 @Iz @Ju))))
def aPU:=PLift.up (ad8 @Ha (ad8 @Jv (ad8 @aKR (ad8 @aMX (ad8 @Cc (ad8 @Dh (ad8 @aUD (ad8 @Dy (ad8 @aBY (ad8 @aCD (ad8 @Iz @Ju)))))))))))
def aLW:=PLift.up (ad8 @adL (ad8 @Ha (ad8 @aw9 (ad8 @awG @aC9))))
def ba3:=PLift.up (ad8 @Ha (ad8 @aIC @aPV))
def aN1:=PLift.up (ad8 @adL (ad8 @aw9 (ad8 @aEO (ad8 @aZJ (ad8 @aZ7 (ad8 @aDJ (ad8 @awG (ad8 @Bw (ad8 @aC9 (ad8 @Cc (ad8 @Dh @Dy)))))))))))
def aZR:=PLift.up (ad8 @adL (ad8 @aw9 @aEO))
def a12:=PLift.up (ad8 @Im (ad8 @aB8 (ad8 @Hq (ad8 @Cc (ad8 @Dh (ad8 @Dy (ad8 @Jt (ad8 @It (ad8 @av0 (ad8 @atB (ad8 @Lj (ad8 @Gw (ad8 @Ja (ad8 @aQG (ad8 @arY (ad8 @Hi (ad8 @aMB (ad8 @aJD (ad8 @Bw (ad8 @Kw (ad8 @Ou @aA7)))))))))))))))))))))
def Je:=PLift.up (ad8 @am8 (ad8 @aIH (ad8 @aFR (ad8 @aH1 (ad8 @aLY (ad8 @aLT (ad8 @aSE (ad8 @aUM (ad8 @aFT (ad8 @aTI (ad8 @aUA (ad8 @aHO (ad8 @Nr (ad8 @aGX (ad8 @aEZ (ad8 @awE (ad8 @aAJ (ad8 @ahX (ad8 @aIL (ad8 @azJ (ad8 @aIO (ad8 @aDG @Im))))))))))))))))))))))
def aTT:=PLift.up (ad8 @aH9 (ad8 @aIZ @aFU))
def bfQ:=PLift.up (ad8 @Nr (ad8 @ahX @am8))
def a1U:=PLift.up (ad8 @awE (ad8 @aAJ (ad8 @aSK (ad8 @aS0 (ad8 @am8 (ad8 @aPK (ad8 @aFR (ad8 @aFT (ad8 @aLP @Bw)))))))))
def bbD:=PLift.up (ad8 @Im (ad8 @aCZ (ad8 @Bw (ad8 @Hq (ad8 @Cc (ad8 @Dh @Dy))))))
def beW:=PLift.up (ad8 @arY (ad8 @Gw (ad8 @Kw (ad8 @Bw @Ou))))
def bfV:=PLift.up (ad8 @Hi (ad8 @Oa (ad8 @Ja @Gw)))
def a1J:=PLift.up (ad8 @awF (ad8 @Gw (ad8 @Ja (ad8 @Hi @Oa))))
def a7V:=PLift.up (ad8 @Hq (ad8 @arN (ad8 @Bw (ad8 @Im (ad8 @Iz (ad8 @Ju (ad8 @aB8 (ad8 @aA7 (ad8 @Lm (ad8 @Hi (ad8 @aMB @Jv)))))))))))
def be8:=PLift.up (ad8 @aTB (ad8 @aSH (ad8 @aG4 @aTN)))
def bfP:=PLift.up (ad8 @arR (ad8 @Bw @atC))
def aoQ:=PLift.up (ad8 @Hq (ad8 @Oq (ad8 @Bw (ad8 @a3U (ad8 @aSM (ad8 @aWZ (ad8 @aA4 (ad8 @am6 (ad8 @aHV (ad8 @aCZ (ad8 @aRH (ad8 @aO7 (ad8 @aTD (ad8 @aUV (ad8 @aM2 @Gs)))))))))))))))
def bfR:=PLift.up (ad8 @Oq (ad8 @Bw (ad8 @arN (ad8 @Cc (ad8 @Dh @Dy)))))
def aFM:=PLift.up (ad8 @Hq (ad8 @Cc (ad8 @Dh (ad8 @Dy (ad8 @Jt (ad8 @aeG (ad8 @It (ad8 @aIA (ad8 @av0 (ad8 @atB (ad8 @aIR (ad8 @aBY (ad8 @aCD (ad8 @aDG (ad8 @Gs (ad8 @Im (ad8 @aUT (ad8 @Jv (ad8 @aHK (ad8 @aKT (ad8 @Bw (ad8 @aLE (ad8 @aHY (ad8 @aH1 (ad8 @aR5 (ad8 @aGX (ad8 @aEZ (ad8 @aTL (ad8 @awE (ad8 @aAJ (ad8 @aTK (ad8 @azJ (ad8 @aIO (ad8 @aXN (ad8 @aR9 (ad8 @Nr (ad8 @aSS (ad8 @aG6 @aSY))))))))))))))))))))))))))))))))))))))
def a1R:=PLift.up (ad8 @aH9 (ad8 @aIZ (ad8 @Nr (ad8 @aFU (ad8 @aGX @aEZ)))))
def beS:=PLift.up (ad8 @Nr @ahX)
def a2K:=PLift.up (ad8 @Im (ad8 @aB8 (ad8 @Lm (ad8 @Bw (ad8 @aLE (ad8 @Iz (ad8 @Ju (ad8 @aI1 (ad8 @Gs (ad8 @aRU (ad8 @abU (ad8 @aUB @aA7))))))))))))
def a4J:=PLift.up (ad8 @am4 (ad8 @am6 (ad8 @aHU (ad8 @azL (ad8 @aIB @aA4)))))
def a0X:=PLift.up (ad8 @am4 (ad8 @am6 (ad8 @aHV (ad8 @aSB (ad8 @aCZ (ad8 @Bw @aA4))))))
def aT3:=PLift.up (ad8 @aHU (ad8 @am4 (ad8 @am6 (ad8 @azL (ad8 @aIB (ad8 @aR8 @aA4))))))
def bfA:=PLift.up (ad8 @aeG (ad8 @Oq @Bw))
def be3:=PLift.up (ad8 @awM (ad8 @Bw (ad8 @av6 (ad8 @awF (ad8 @Gw (ad8 @Lj (ad8 @Kw (ad8 @Ou (ad8 @arR @atC)))))))))
def a05:=PLift.up (ad8 @aDJ (ad8 @Bw (ad8 @Gs (ad8 @aoU (ad8 @abU (ad8 @Ja (ad8 @Gw (ad8 @aMY (ad8 @aMH (ad8 @Hi @Oa))))))))))
def aTJ:=PLift.up (ad8 @aOV (ad8 @Hq (ad8 @Cc (ad8 @Dh (ad8 @Dy (ad8 @Jt (ad8 @It (ad8 @av0 (ad8 @atB (ad8 @Bw (ad8 @awM @av6)))))))))))
def aMA:=PLift.up (ad8 @Dy (ad8 @Jt @It))
def bd4:=PLift.up (ad8 @Gs (ad8 @aoU (ad8 @Hi (ad8 @Oa (ad8 @ay0 @abU)))))
def bcV:=PLift.up (ad8 @Gs (ad8 @aoU (ad8 @Hi (ad8 @Oa (ad8 @ay0 @abU)))))
def bbS:=PLift.up (ad8 @Gs (ad8 @aoU (ad8 @Ja (ad8 @Gw (ad8 @ay0 @abU)))))
def bdE:=PLift.up (ad8 @Gs (ad8 @aoU (ad8 @Ja (ad8 @Gw (ad8 @ay0 @abU)))))
end Go.Proofs.YtcncggaobhbomaaGreatDoor
namespace Go.Proofs.YtcncggaobhbomaaGreatDoor
open Go Go.Ev Go.ChangeShapes Go.WideShapes Go.ChangeAt Go.RowKit
set_option maxRecDepth 100000
set_option maxHeartbeats 16000000
def mdL:List Nat:=[60,75,79,76,80,65,41]
def pr:Kt:=aJO 63 86 60 (mdL.contains ·)
noncomputable def Ef:Ea:=om Tryz.prog pr
theorem bdI(f:Nat):Ef.md f=([60,75,79,76,80,65,41]:List Nat).contains f:=Eq.trans rfl rfl
def Va:=PLift.up (ad8 EE.down EVu.down)
def Vc:=PLift.up (ad8 EG.down (ad8 EVu.down @bdI))
theorem own:ownKnob Tryz.prog.godebug=none:=by kernel_rfl
theorem a3L:aSG Tryz.prog:=fun f fn hf=>by
 have h:(Tryz.prog.funcs.toList.all fun fn=> !(fn.name== "runtime.NumGoroutine"))=true:=by kernel_rfl
 have:=aAO.1 h fn (by rw[Array.mem_toList_iff];exact Array.mem_of_getElem? hf)
 simpa using this
theorem mixed:Tryz.prog.follows .mixedOrders=true:=by kernel_rfl
theorem a4T:laidOutB Tryz.prog=true:=by kernel_rfl
def laid:List (String × DataW Unit):=[("math/bits.deBruijn32tab",Rows.laid_math_bits_deBruijn32tab),("math/bits.deBruijn64tab",Rows.laid_math_bits_deBruijn64tab),("internal/strconv.uint64pow10",Rows.laid_internal_strconv_uint64pow10)]
theorem bdD:Tryz.prog.globalNamed "internal/strconv.uint64pow10" =some 0:=by kernel_rfl
theorem tab{W:World}(h:laidMetH Tryz.prog laid W):Lib.TabIs Tryz.prog W "internal/strconv.uint64pow10" .u64 Lib.pow10Tab:=by
 rw[MakeChecks.laidMetH_plain _ _ _ (by kernel_rfl)]at h
 obtain⟨ps,h,_⟩:=h
 exact aBP (t:=192) (e:=158) (n:=20) bdD (by kernel_rfl) (by kernel_rfl) (by kernel_rfl) (by kernel_rfl) (by kernel_rfl) h (by
  have e:(Lib.tabData .u64 Lib.pow10Tab:DataW Unit)=Rows.laid_internal_strconv_uint64pow10:=rfl
  rw[e];simp[laid])
theorem aZO{W:World}(h:laidMetH Tryz.prog laid W):Fh Tryz.prog (aYT W 0) Ef:=
 bdS a3L (aSO (a3Y (aFO a3L Tryz.func63 rfl) (aWE bdD (tab h)) (fun n w h0 h1 ht=>Tryz.strconv_Itoa n h0 h1 w ht)) (a49 (aFO a3L Tryz.func86 rfl) Tryz.strings_Join_none Tryz.strings_Join) (a09 (aFO a3L Tryz.func60 rfl) Tryz.slices_Sort_int)) mixed
theorem aV6(os:Os)(args:Array Value):laidMetH Tryz.prog laid ((World.doorLaid Tryz.prog 400 os).forCall (fun _ _=>0) ⟨#[],args,[]⟩).memory:=
 laidMetH_of_parts3 (fuel:=8) (laidMet_of_run' 8 (by kernel_rfl) (by kernel_rfl)) (by kernel_rfl) (by kernel_rfl)
theorem bbI{f:Nat}{fn:Func}{c:Code}{args:List AV}{h:Aa}{Q:Do→Aa→Prop}(hp:pr f=none)(hf:Tryz.prog.funcs[f]?=some fn)(hb:fn.body=some c)(hl:ay8 args.length fn.ntmps=true)
 (he:FnE Tryz.prog h.length fn.results.toList Q (Bl Ef Tryz.prog 5000 c [] ⟨mk fn.ntmps (ent args),h⟩)):ClQ Ef f args h Q:=ClQ.start (pr:=pr) hp hf hb hl he
theorem aPP{f:Nat}{fn:Func}{c:Code}{args:List AV}{h:Aa}{Q:Do→Aa→Prop}(hp:pr f=none)(hf:Tryz.prog.funcs[f]?=some fn)(hb:fn.body=some c)(hl:ay8 args.length fn.ntmps=true)
 (he:FnS Tryz.prog fn.results.toList Q (Bl Ef Tryz.prog 5000 c [] ⟨mk fn.ntmps (ent args),h⟩))  (hs:pr.sh f=none:=by exact rfl):ShQ Ef f args h Q:=ShQ.start (pr:=pr) hp hf hb hl he hs
theorem ce{f:Nat}{fn:Func}{c:Code}{args:List AV}{h:Aa}{o:Do}{h':Aa}(hf:Tryz.prog.funcs[f]?=some fn)(he:FnE Tryz.prog h.length fn.results.toList (fun o1 h1=>(o1,h1)=(o,h')) (Bl Ef Tryz.prog 5000 c [] ⟨mk fn.ntmps (ent args),h⟩))(hp:pr f=none:=by exact rfl)(hb:fn.body=some c:=by exact rfl)(hl:ay8 args.length fn.ntmps=true:=by exact rfl):Ef.call (.fn f) args h=some (o,h'):=(bbI hp hf hb hl he).eq
theorem csh{f:Nat}{fn:Func}{c:Code}{args:List AV}{h:Aa}{o:Do}{h':Aa}(hf:Tryz.prog.funcs[f]?=some fn)(he:FnS Tryz.prog fn.results.toList (fun o1 h1=>(o1,h1)=(o,h')) (Bl Ef Tryz.prog 5000 c [] ⟨mk fn.ntmps (ent args),h⟩))(hp:pr f=none:=by exact rfl)(hb:fn.body=some c:=by exact rfl)(hl:ay8 args.length fn.ntmps=true:=by exact rfl)(hs:pr.sh f=none:=by exact rfl):Ef.call (.sh f) args h=some (o,h'):=(aPP hp hf hb hl he hs).eq
theorem lst{α σ ρ:Type}{c:Code}(N:Nat)(l:List α)(E:Nat→σ→Tm→Aa→Prop)(F:List α→σ→ρ)(Q:ρ→Ex→Tm→Aa→Prop)
 (stop:∀s t h Q',(∀e t h,Q (F [] s) e t h→Q' e ⟨mk N t,h⟩)→E l.length s t h→Rnd N (fun _ _=>False) Q' (Bl Ef Tryz.prog 5000 c [] ⟨mk N t,h⟩))
 (go:∀x rest i s t h J Q',(∀t' h' s',E (i+1) s' t' h'→F rest s'=F (x::rest) s→J t' h')→(∀e t h,Q (F (x::rest) s) e t h→Q' e ⟨mk N t,h⟩)→l[i]?=some x→i<l.length→E i s t h→
   Rnd N J Q' (Bl Ef Tryz.prog 5000 c [] ⟨mk N t,h⟩)):
 ∀s t h,E 0 s t h→LpQ Ef c ⟨mk N t,h⟩ (Ot N (Q (F l s))):=aR6 (pr:=pr) rfl N l E F Q stop go
theorem cnt{σ ρ:Type}{c:Code}(N:Nat)(E:Nat→σ→Tm→Aa→Prop)(F:Nat→σ→ρ)(Q:ρ→Ex→Tm→Aa→Prop)
 (stop:∀s t h Q',(∀e t h,Q (F 0 s) e t h→Q' e ⟨mk N t,h⟩)→E 0 s t h→Rnd N (fun _ _=>False) Q' (Bl Ef Tryz.prog 5000 c [] ⟨mk N t,h⟩))
 (go:∀n s t h J Q',(∀t' h' s',E n s' t' h'→F n s'=F (n+1) s→J t' h')→(∀e t h,Q (F (n+1) s) e t h→Q' e ⟨mk N t,h⟩)→E (n+1) s t h→Rnd N J Q' (Bl Ef Tryz.prog 5000 c [] ⟨mk N t,h⟩)):
 ∀n s t h,E n s t h→LpQ Ef c ⟨mk N t,h⟩ (Ot N (Q (F n s))):=aWD (pr:=pr) rfl N E F Q stop go
theorem Aj{h:Aa}{b:Nat}{c:CB}(h0:h[b]?=some c)(l:Aa):(h++l)[b]?=some c:=by
 rw[aoS (apA.1 h0).1];exact h0
end Go.Proofs.YtcncggaobhbomaaGreatDoor
namespace Go.Proofs.YtcncggaobhbomaaGreatDoor
open Go.Ev Go
set_option maxRecDepth 100000
set_option maxHeartbeats 16000000
structure Ac where
 one:Int
 other:Int
 valve:Bool
 opn:Bool
 tested:Int
 valid:Int
 bad:Bool
 test:Int
 change:Int
def Ac.cells(p:Ac):List AV:=[.int .i64 p.one,.int .i64 p.other,.bool p.valve,.bool p.opn,.int .i64 p.tested,.int .i64 p.valid,.bool p.bad,.int .i64 p.test,.int .i64 p.change]
structure Ah where
 rooms:Int
 need:Int
 nn:Bool
 parts:List Ac
abbrev Ah.cells(w:Ah):List AV:=[.int .i64 w.rooms,.int .i64 w.need,Bt 9 true w.nn (w.parts.map Ac.cells)]
theorem aKA{α:Type}{f:α→List AV}{p:List AV→Prop}{q:α→Prop}(hf:∀r,p r→∃x,r=f x∧q x):∀{rows:List (List AV)},(∀r∈rows,p r)→∃l:List α,rows=l.map f∧∀x∈l,q x
 | [],_=>⟨[],rfl,fun x hx=>by simp at hx⟩
 |r::rows,h=>by
  obtain⟨x,rfl,hx⟩:=hf r (h r (List.mem_cons_self ..))
  obtain⟨l,rfl,hl⟩:=aKA hf (fun r hr=>h r (List.mem_cons_of_mem _ hr))
  exact⟨x::l,rfl,fun y hy=>by
   rcases List.mem_cons.1 hy with rfl|hy
   ·exact hx
   ·exact hl y hy⟩
def i64(n:Int):Prop:= -9223372036854775808≤n∧n≤9223372036854775807
theorem Np{n:Nat}{r:List AV}(h:Ty Tryz.prog (n+1) 3 r):∃x,r=[.int .i64 x]∧i64 x:=by
 simp only[Ty,Tryz.underlying3]at h
 obtain⟨x,rfl,h1,h2⟩:=h
 exact⟨x,rfl,h1,h2⟩
theorem aCA{n:Nat}{r:List AV}(h:Ty Tryz.prog (n+1) 4 r):∃x,r=[.bool x]:=by
 simp only[Ty,Tryz.underlying4]at h
 exact h
def Ac.fits(p:Ac):Prop:=i64 p.one∧i64 p.other∧i64 p.tested∧i64 p.valid∧i64 p.test∧i64 p.change
theorem a15{n:Nat}{r:List AV}(h:Ty Tryz.prog (n+2) 46 r):∃x:Ac,r=x.cells∧x.fits:=by
 unfold Ty at h
 simp only[Tryz.underlying46,aOC]at h
 obtain⟨a0,b0,rfl,h0,a1,b1,rfl,h1,a2,b2,rfl,h2,a3,b3,rfl,h3,a4,b4,rfl,h4,a5,b5,rfl,h5,a6,b6,rfl,h6,a7,b7,rfl,h7,a8,b8,rfl,h8,rfl⟩:=h
 obtain⟨x0,rfl,k0⟩:=Np h0
 obtain⟨x1,rfl,k1⟩:=Np h1
 obtain⟨x2,rfl⟩:=aCA h2
 obtain⟨x3,rfl⟩:=aCA h3
 obtain⟨x4,rfl,k4⟩:=Np h4
 obtain⟨x5,rfl,k5⟩:=Np h5
 obtain⟨x6,rfl⟩:=aCA h6
 obtain⟨x7,rfl,k7⟩:=Np h7
 obtain⟨x8,rfl,k8⟩:=Np h8
 exact⟨⟨x0,x1,x2,x3,x4,x5,x6,x7,x8⟩,rfl,k0,k1,k4,k5,k7,k8⟩
structure Ah.small(w:Ah):Prop where
 parts:w.parts.length≤maxLen
 fits:∀p∈w.parts,p.fits
 rooms:i64 w.rooms
 need:i64 w.need
theorem a5F{n:Nat}{r:List AV}(h:Ty Tryz.prog (n+4) 24 r):∃w:Ah,r=w.cells∧w.small:=by
 unfold Ty at h
 simp only[Tryz.underlying24,aOC]at h
 obtain⟨a0,b0,rfl,h0,a1,b1,rfl,h1,a2,b2,rfl,h2,rfl⟩:=h
 obtain⟨x0,rfl,k0⟩:=Np h0
 obtain⟨x1,rfl,k1⟩:=Np h1
 unfold Ty at h2
 simp only[Tryz.underlying22]at h2
 obtain⟨n2,rows2,rfl,hl2,hrows2⟩:=h2
 obtain⟨l2,rfl,hm⟩:=aKA (fun r hr=>a15 hr) hrows2
 have e2:Tryz.prog.cellsOf 46=9:=by kernel_rfl
 have f2:flT Tryz.prog (n+2) 46=true:=by
  simp only[flT,Tryz.underlying46,Tryz.underlying3,Tryz.underlying4];rfl
 rw[e2,f2]
 exact⟨⟨x0,x1,n2,l2⟩,rfl,by simpa using hl2,hm,k0,k1⟩
theorem a2A{av:AV}(h:TyV Tryz.prog 7 24 av):∃w:Ah,av=.agg w.cells∧w.small:=by
 unfold TyV at h
 simp only[Tryz.underlying24]at h
 obtain⟨cs,rfl,h⟩:=h
 obtain⟨s,rfl,hs⟩:=a5F h
 exact⟨s,rfl,hs⟩
theorem aYF{av:AV}(h:TyV Tryz.prog 7 3 av):∃x,av=.int .i64 x∧i64 x:=by
 unfold TyV at h
 simp only[Tryz.underlying3]at h
 obtain⟨x,hx,hi⟩:=Np h
 simp only[List.cons.injEq,and_true]at hx
 exact⟨x,hx,hi⟩
end Go.Proofs.YtcncggaobhbomaaGreatDoor
namespace Go.Proofs.YtcncggaobhbomaaGreatDoor
open Go.Ev Go Go.Ev.Net
set_option maxRecDepth 100000
set_option maxHeartbeats 16000000
def Ht(x lo hi:Int):Bool:=decide (lo≤x)&&decide (x≤hi)
theorem aJZ(x lo hi:Int):Ef.call (.fn 50) [.int .i64 x,.int .i64 lo,.int .i64 hi] []=some (.ret (.bool (Ht x lo hi)),[]):=by
 (refine ce Tryz.func50 ?_;simp only[Tryz.f50];(have hb:=trivial;with_reducible repeat' (first|simp only[hb,Va.down,seval]|refine Au ?_ ?_<;>intro hb|refine fd ?_|fail)))
 all_goals simp[Ht, *]
theorem aC1(x lo hi:Int):Ef.call (.fn 39) [.int .i64 x,.int .i64 lo,.int .i64 hi] []=some (.ret (.bool (Ht x lo hi)),[]):=by
 (refine ce Tryz.func39 ?_;simp only[Tryz.f39];(have hb:=trivial;with_reducible repeat' (first|simp only[hb,Va.down,seval]|refine Au ?_ ?_<;>intro hb|refine fd ?_|fail)))
 all_goals simp[Ht, *]
def Nl(d:Int):Bool:=Ht d 0 5000
theorem aWU(d:Int):Ef.call (.fn 18) [.int .i64 d] []=some (.ret (.bool (Nl d)),[]):=by
 (refine ce Tryz.func18 ?_;simp only[Tryz.f18];(have hb:=trivial;with_reducible repeat' (first|simp only[hb,Va.down,seval,aJZ]|refine Au ?_ ?_<;>intro hb|refine fd ?_|fail)))
 rfl
def Av(p:Ac)(d:Int):Int:=if p.bad=true then 2 else if IntKind.i64.wrap (p.tested+p.valid)<d then 1 else 0
def aO0(p:Ac)(d:Int):Bool:=Av p d==0&& !p.opn
theorem aNP(p:Ac)(d:Int):Ef.call (.fn 52) [.agg [.int .i64 p.one,.int .i64 p.other,.bool p.valve,.bool p.opn,.int .i64 p.tested,.int .i64 p.valid,.bool p.bad,.int .i64 p.test,.int .i64 p.change],.int .i64 d] []=some (.ret (.int .i64 (Av p d)),[]):=by
 (refine ce Tryz.func52 ?_;simp only[Tryz.f52];(have hb:=trivial;with_reducible repeat' (first|simp only[hb,Va.down,seval,beW.down]|refine Au ?_ ?_<;>intro hb|refine fd ?_|fail)))
 all_goals simp_all[Av]
def nvv(n:Nat):List AV:=[.int .i64 (n:Int)]
def aOG(w:Ah)(d:Int):List Bool:=w.parts.map fun p=>aO0 p d
theorem Kr{h:Aa}{b:Nat}(hb:b<h.length)(l:Aa)(c:CB):(h++l).set b c=h.set b c++l:=List.set_append_left _ _ hb
theorem Ap{h:Aa}{b:Nat}{c:CB}(e:h[b]?=some c):b<h.length:=(apA.1 e).1
theorem ac4{h:Aa}{b:Nat}(c:CB)(l:Aa):(h.set b c++l)[h.length]?=l[0]?:=by
 rw[aA5 (by simp)];simp
theorem abL{h:Aa}{b:Nat}(c:CB)(l:Aa)(k:Nat):(h.set b c++l)[h.length+k]?=l[k]?:=by
 rw[aA5 (by simp)];simp
theorem aQ1{h:Aa}{b b':Nat}{x:CB}(c:CB)(hne:b≠b')(hb:h[b']?=some x)(l:Aa):(h.set b c++l)[b']?=some x:=by
 have hlt:b'<h.length:=(apA.1 hb).1
 rw[aoS (by simpa using hlt),azO hne];exact hb
def edg(w:Ah)(ts:List Bool):List Net.Edge:=List.zipWith (fun p t=>(p.one.toNat,p.other.toNat,if t=true then 1 else 0)) w.parts ts
structure WOk(w:Ah)(N:Nat):Prop where
 rooms:w.rooms=(N:Int)
 n2:2≤N
 n8:N≤8
 len:w.parts.length≤1000
 ne:w.parts≠[]
 part:∀p∈w.parts,(0≤p.one∧p.one<(N:Int))∧(0≤p.other∧p.other<(N:Int))∧p.one≠p.other
theorem a1D{w:Ah}{ts:List Bool}{i:Nat}{e:Net.Edge}(h:(edg w ts)[i]?=some e):∃p t,w.parts[i]?=some p∧ts[i]?=some t∧e=(p.one.toNat,p.other.toNat,if t=true then 1 else 0):=by
 unfold edg at h
 rw[List.getElem?_zipWith]at h
 cases h1:w.parts[i]? with
 |none=>simp[h1]at h
 |some p=>
  cases h2:ts[i]? with
  |none=>simp[h1,h2]at h
  |some t=>simp[h1,h2]at h;exact⟨p,t,rfl,rfl,h.symm⟩
theorem aGC{w:Ah}{N:Nat}(hw:WOk w N)(ts:List Bool):EOk (edg w ts) N:=fun a b c h=>by
 obtain⟨i,hi⟩:=List.getElem?_of_mem h
 obtain⟨p,t,h1,_,he⟩:=a1D hi
 cases he
 have:=hw.part p (aG2 h1)
 refine⟨by omega,by omega,by omega,?_⟩
 split<;>omega
theorem aJ4{d:List Nat}{a:Nat}(h:a<d.length):(d.map nvv)[a]?=some [.int .i64 (d.getD a 0:Nat)]:=by
 rw[List.getElem?_map,aHA h,List.getD_eq_getElem?_getD,aHA h];rfl
def aVM(w:Ah)(N:Nat)(d:Int):Nat:=aG8 (edg w (aOG w d)) N w.parts.length
theorem bbK(b:Bool):Ef.call (.fn 78) [.bool b] []=some (.ret (.int .i64 (if b=true then 1 else 0)),[]):=by
 cases b<;>(refine ce Tryz.func78 ?_;simp only[Tryz.f78];(have hb:=trivial;with_reducible repeat' (first|simp only[hb,Va.down,seval]|refine Au ?_ ?_<;>intro hb|refine fd ?_|fail)))
theorem a1P(c:Int)(o:Bool):Ef.call (.fn 53) [.agg [.int .i64 c,.bool o]] []=some (.ret (.bool (c==0&& !o)),[]):=by
 cases hc:(c==0)<;>(refine ce Tryz.func53 ?_;simp only[Tryz.f53];(have hb:=trivial;with_reducible repeat' (first|simp only[hb,Va.down,seval,bfV.down,hc]|refine Au ?_ ?_<;>intro hb|refine fd ?_|fail)))
theorem Dx(b r o:Nat)(i:Int):ia Tryz.prog 82 (some (.ptr b r o)) (some (.int .i64 i))=if 0≤i∧i<12 then some (.ret (.ptr b r (o+i.toNat*2)),[])else none:=by
 have h:Gn Tryz.prog 82 (.ptr b r o) (.int .i64 i)=if 0≤i∧i<12 then some (.ptr b r (o+i.toNat*2))else none:=by
  unfold Gn
  simp only[Tryz.underlying82]
  have hz:Ks Tryz.prog 80=some 2:=by kernel_rfl
  rw[hz]
  simp
 simp only[ia,Option.bind_some,h]
 split<;>rfl
def Ab(w:Ah)(d:Int):List (Int × Bool):=w.parts.map (fun p=>(Av p d,p.opn))++aoR (12-w.parts.length) (0,false)
def Cj(l:List (Int × Bool)):List AV:=l.flatMap fun x=>[.int .i64 x.1,.bool x.2]
theorem Be(l:List (Int × Bool)):(Cj l).length=2*l.length:=by
 induction l with
 |nil=>rfl
 |cons x l ih=>simp[Cj]at ih ⊢;omega
theorem aLB:∀(L:List (Int × Bool)) (i:Nat) (a:Int) (b b':Bool),L[i]?=some (a,b)→awL (i*2+1) (Cj L)++([.bool b']++aCG (i*2+2) (Cj L))=Cj (L.set i (a,b'))
 | [],i,a,b,b',h=>by simp at h
 |x::L,0,a,b,b',h=>by simp at h;subst h;simp[Cj]
 |x::L,i+1,a,b,b',h=>by
  have ih:=aLB L i a b b' (by simpa using h)
  rw[show(i+1)*2+1=(i*2+1)+1+1 by omega,show(i+1)*2+2=(i*2+2)+1+1 by omega]
  simp only[Cj,aCH,aD5,aEG,aHN,aHP,aHR]at ih ⊢
  rw[←ih]
theorem aGA:∀(L:List (Int × Bool)) (i:Nat) (a a':Int) (b:Bool),L[i]?=some (a,b)→awL (i*2) (Cj L)++([.int .i64 a']++aCG (i*2+1) (Cj L))=Cj (L.set i (a',b))
 | [],i,a,a',b,h=>by simp at h
 |x::L,0,a,a',b,h=>by simp at h;subst h;simp[Cj]
 |x::L,i+1,a,a',b,h=>by
  have ih:=aGA L i a a' b (by simpa using h)
  rw[show(i+1)*2=(i*2)+1+1 by omega,show(i*2)+1+1+1=(i*2+1)+1+1 by omega]
  simp only[Cj,aCH,aD5,aEG,aHN,aHP,aHR]at ih ⊢
  rw[←ih]
def pcI(w:Ah)(d:Int)(i:Nat):List (Int × Bool):=(w.parts.take i).map (fun p=>(Av p d,p.opn))++aoR (12-i) (0,false)
theorem a6I{w:Ah}{d:Int}{i:Nat}(hi:i<w.parts.length)(h12:w.parts.length≤12):(pcI w d i)[i]?=some (0,false):=by
 have hl:((w.parts.take i).map fun p=>(Av p d,p.opn)).length=i:=by rw[ahF,aI5];omega
 unfold pcI
 rw[aA5 (by omega),hl,Nat.sub_self,List.getElem?_replicate,if_pos (by omega)]
theorem aYI{w:Ah}{d:Int}{i:Nat}{p:Ac}(hx:w.parts[i]?=some p)(h12:w.parts.length≤12):(pcI w d i).set i (Av p d,p.opn)=pcI w d (i+1):=by
 have hi:i<w.parts.length:=(apA.1 hx).1
 have hl:((w.parts.take i).map fun p=>(Av p d,p.opn)).length=i:=by rw[ahF,aI5];omega
 unfold pcI
 rw[List.set_append_right _ _ (by omega),hl,Nat.sub_self,List.take_add_one,hx]
 have e:12-i=(12-(i+1))+1:=by omega
 rw[e,List.replicate_succ]
 simp
theorem aKN(w:Ah)(d:Int)(wf:Bool)(h12:w.parts.length≤12):Ef.call (.fn 40) [.ptr 0 0 0] [.live 4 false wf [[.int .i64 w.rooms,.int .i64 w.need,Bt 9 true w.nn (w.parts.map Ac.cells),.int .i64 d]]]=some (.ret (.agg (Cj (Ab w d))),[.live 4 false wf [[.int .i64 w.rooms,.int .i64 w.need,Bt 9 true w.nn (w.parts.map Ac.cells),.int .i64 d]]]):=by
 refine ce Tryz.func40 ?_
 simp only[Tryz.f40]
 (have hb:=trivial;with_reducible repeat' (first|simp only[hb,Va.down,seval,a12.down,ahF]|refine Au ?_ ?_<;>intro hb|refine fd ?_|fail))
 refine Ie (lst 44 w.parts (fun i (_:Unit) t h=>t 0=.ptr 0 0 0∧t 2=.ptr 1 0 0∧t 3=.ptr 2 0 0∧t 10=Bt 9 true w.nn (w.parts.map Ac.cells)∧t 11=.int .i64 (w.parts.length:Nat)∧t 12=.int .i64 (i:Int)∧h[0]?=some (.live 4 false wf [[.int .i64 w.rooms,.int .i64 w.need,Bt 9 true w.nn (w.parts.map Ac.cells),.int .i64 d]])∧h[1]?=some (.live 24 true false [Cj (aoR 12 (0,false))])∧∃f,h[2]?=some (.live 24 true f [Cj (pcI w d i)])) (fun _ _=>())
  (fun _ e t h=>e=.exit 0∧t 2=.ptr 1 0 0∧t 3=.ptr 2 0 0∧h[0]?=some (.live 4 false wf [[.int .i64 w.rooms,.int .i64 w.need,Bt 9 true w.nn (w.parts.map Ac.cells),.int .i64 d]])∧h[1]?=some (.live 24 true false [Cj (aoR 12 (0,false))])∧∃f,h[2]?=some (.live 24 true f [Cj (pcI w d w.parts.length)])) ?_ ?_ () _ _ ?_) (fun e t h hk=>?_)
 ·rintro _ t h Q' kQ ⟨h0,h2,h3,h10,h11,h12',hA,hB,f,hC⟩
  (have hb:=trivial;with_reducible repeat' (first|simp only[hb,Va.down,seval,a12.down,h11,h12',aEM,decide_false]|refine Au ?_ ?_<;>intro hb|refine fd ?_|fail))
  exact kQ _ _ _ ⟨rfl,by simp[up,h2],by simp[up,h3],hA,hB,f,hC⟩
 ·rintro p rest i _ t h J Q' kJ kQ hx hi ⟨h0,h2,h3,h10,h11,h12',hA,hB,f,hC⟩
  have hdd:decide ((i:Int)<(w.parts.length:Int))=true:=decide_eq_true (by omega)
  have hww:=Dj hi (by unfold maxLen;omega)
  have hA1:=Aj hA
  have hC1:=Aj hC
  have hl2:=Ap hC
  have i1:((i:Int)<12)=True:=eq_true (by omega)
  have hpl:(Cj (pcI w d i)).length=24:=by rw[Be];simp[pcI];omega
  have hS:=Kr hl2
  have i2:(i*2≤22)=True:=eq_true (by omega)
  have i3:(i*2≤23)=True:=eq_true (by omega)
  have hat:=a6I (d:=d) hi h12
  have hnx:=aYI (d:=d) hx h12
  generalize hL:pcI w d i=L at *
  have s1:=aLB L i 0 false p.opn hat
  have tk1:awL (23-i*2) [AV.bool p.opn]=[AV.bool p.opn]:=azV (by simp;omega)
  have hat2:(L.set i (0,p.opn))[i]?=some (0,p.opn):=aEX (by have:=(apA.1 hat).1;exact this)
  have s2:=fun v=>aGA (L.set i (0,p.opn)) i 0 v p.opn hat2
  have tk2:∀v,awL (24-i*2) [AV.int .i64 v]=[AV.int .i64 v]:=fun v=>azV (by simp;omega)
  simp only[aD5,aEG]at s1 s2
  have hpl2:(Cj (L.set i (0,p.opn))).length=24:=by rw[Be]at hpl ⊢;simpa using hpl
  have hg2:∀c l,(h.set 2 c++l)[2]?=some c:=fun c l=>by rw[aoS (by simpa using hl2),aEX hl2]
  have hg0:∀c l,(h.set 2 c++l)[0]?=h[0]?:=fun c l=>by rw[aoS (by simp;omega),azO (by omega)]
  have hg1:∀c l,(h.set 2 c++l)[1]?=h[1]?:=fun c l=>by rw[aoS (by simp;omega),azO (by omega)]
  have hgs:∀c l c',(h.set 2 c++l).set 2 c'=h.set 2 c'++l:=fun c l c'=>by rw[Kr (by simpa using hl2),List.set_set]
  have ss2:∀v:Int,(L.set i (0,p.opn)).set i (v,p.opn)=L.set i (v,p.opn):=fun v=>List.set_set ..
  have nx:∀(v:Int) (t':Tm) (l':Aa),Av p d=v→t' 0=.ptr 0 0 0∧t' 2=.ptr 1 0 0∧t' 3=.ptr 2 0 0∧t' 10=Bt 9 true w.nn (w.parts.map Ac.cells)∧t' 11=.int .i64 (w.parts.length:Nat)∧t' 12=.int .i64 ((i+1:Nat):Int)→J t' (h.set 2 (.live 24 true true [Cj (L.set i (v,p.opn))])++l'):=fun v t' l' hv ht=>by
   rw[←hv,hnx]
   exact kJ _ _ () ⟨ht.1,ht.2.1,ht.2.2.1,ht.2.2.2.1,ht.2.2.2.2.1,ht.2.2.2.2.2,by rw[hg0];exact hA,by rw[hg1];exact hB,true,hg2 _ _⟩ rfl
  (have hb:=trivial;with_reducible repeat' (first|simp only[hb,Va.down,seval,a12.down,h0,h2,h3,h10,h11,h12',hdd,hww,hx,hA,hA1,hC,hC1,hS,Dx,i1,i2,i3,hpl,hpl2,s1,s2,tk1,tk2,ss2,hg2,hg0,hg1,hgs,ac4,abL,List.length_set,Ac.cells]|refine Au ?_ ?_<;>intro hb|refine fd ?_|fail))
  ·refine Bn (nx 2 _ _ (by simp[Av, *]) ⟨by simp[up,h0],by simp[up,h2],by simp[up,h3],by simp[up,h10],by simp[up,h11],by simp[up]⟩)
  ·refine Bn (nx 1 _ _ (by simp[Av];simp_all) ⟨by simp[up,h0],by simp[up,h2],by simp[up,h3],by simp[up,h10],by simp[up,h11],by simp[up]⟩)
  ·refine Bn (nx 0 _ _ (by simp[Av];simp_all) ⟨by simp[up,h0],by simp[up,h2],by simp[up,h3],by simp[up,h10],by simp[up,h11],by simp[up]⟩)
 ·exact⟨by simp[up,ent],by simp[up],by simp[up],by simp[up],by simp[up],by simp[up],rfl,rfl,false,rfl⟩
 obtain⟨rfl,h2,h3,hA,hB,f,hC⟩:=hk
 have hL:pcI w d w.parts.length=Ab w d:=by unfold pcI Ab;rw[azV (Nat.le_refl _)]
 rw[hL]at hC
 have hpl:(Cj (Ab w d)).length=24:=by rw[Be];simp[Ab];omega
 have hpz:(Cj (aoR 12 (0,false))).length=24:=by rw[Be];simp
 have htk:awL 24 (Cj (Ab w d))=Cj (Ab w d):=azV (by omega)
 have hl1:=Ap hB
 generalize Cj (aoR 12 (0,false))=zs at *
 have hdz:aCG 24 zs=[]:=List.drop_eq_nil_iff.2 (by omega)
 have hcell:(Cj (Ab w d)).all AV.isCell=true:=by
  have:∀l:List (Int × Bool),(Cj l).all AV.isCell=true:=fun l=>by
   induction l with
   |nil=>rfl
   |cons x l ih=>simp only[Cj,aCH,List.all_append]at ih ⊢;rw[ih];rfl
  exact this _
 have hform:∀x∈Cj (Ab w d),(∃n,x=.int .i64 n)∨∃b,x=.bool b:=fun x hx=>by
  simp only[Cj,List.mem_flatMap,List.mem_cons,List.not_mem_nil,or_false]at hx
  obtain⟨y,_,rfl|rfl⟩:=hx
  ·exact .inl ⟨_,rfl⟩
  ·exact .inr ⟨_,rfl⟩
 have hflat:(Cj (Ab w d)).all AV.flat=true:=aAO.2 fun x hx=>by rcases hform x hx with⟨n,rfl⟩|⟨b,rfl⟩<;>rfl
 have hrf:Bd.refL (Bd 7) [0] (Cj (Ab w d))=some (Cj (Ab w d),[0]):=Fg fun x hx=>by rcases hform x hx with⟨n,rfl⟩|⟨b,rfl⟩<;>rfl
 have hg1:∀c,(h.set 1 c)[1]?=some c:=fun c=>aEX hl1
 have hg0:∀c,(h.set 1 c)[0]?=h[0]?:=fun c=>azO (by omega)
 generalize Cj (Ab w d)=ps at *
 (have hb:=trivial;with_reducible repeat' (first|simp only[hb,Va.down,seval,a12.down,h2,h3,hA,hB,hC,hpl,hpz,htk,hdz,hcell,hflat,hrf,hg1,hg0]|refine Au ?_ ?_<;>intro hb|refine fd ?_|fail))
def Gx(N:Int)(p:Ac):Bool:=Ht p.one 0 (IntKind.i64.wrap (N-1))&&Ht p.other 0 (IntKind.i64.wrap (N-1))&& !(p.one==p.other)&& !(p.opn&& !p.valve)&&Nl p.tested&&Nl p.valid&&Ht p.test 1 1000&&Ht p.change 1 1000
def aNW(w:Ah):Bool:=Ht w.rooms 2 8&&Ht w.need 0 12&&Ht (w.parts.length:Int) 1 12
def Gl(w:Ah):Bool:=aNW w&&w.parts.all (Gx w.rooms)
theorem aYV(w:Ah)(hs:w.small):Ef.call (.fn 17) [.agg [.int .i64 w.rooms,.int .i64 w.need,Bt 9 true w.nn (w.parts.map Ac.cells)]] []=some (.ret (.bool (Gl w)),[]):=by
 have k1:=aJZ w.rooms 2 8
 have k2:=aJZ w.need 0 12
 have k3:=aJZ (w.parts.length:Int) 1 12
 have hh:aNW w=(Ht w.rooms 2 8&&Ht w.need 0 12&&Ht (w.parts.length:Int) 1 12):=rfl
 unfold Gl
 generalize Ht w.rooms 2 8=c1 at *
 generalize Ht w.need 0 12=c2 at *
 generalize Ht (w.parts.length:Int) 1 12=c3 at *
 cases c1
 ·rw[hh]
  (refine ce Tryz.func17 ?_;simp only[Tryz.f17];(have hb:=trivial;with_reducible repeat' (first|simp only[hb,Va.down,seval,aNA.down,k1,k2,k3,ahF]|refine Au ?_ ?_<;>intro hb|refine fd ?_|fail)))
 cases c2
 ·rw[hh]
  (refine ce Tryz.func17 ?_;simp only[Tryz.f17];(have hb:=trivial;with_reducible repeat' (first|simp only[hb,Va.down,seval,aNA.down,k1,k2,k3,ahF]|refine Au ?_ ?_<;>intro hb|refine fd ?_|fail)))
 cases c3
 ·rw[hh]
  (refine ce Tryz.func17 ?_;simp only[Tryz.f17];(have hb:=trivial;with_reducible repeat' (first|simp only[hb,Va.down,seval,aNA.down,k1,k2,k3,ahF]|refine Au ?_ ?_<;>intro hb|refine fd ?_|fail)))
 rw[hh]
 simp only[Bool.and_self,Bool.true_and]
 (refine ce Tryz.func17 ?_;simp only[Tryz.f17];(have hb:=trivial;with_reducible repeat' (first|simp only[hb,Va.down,seval,aNA.down,k1,k2,k3,ahF]|refine Au ?_ ?_<;>intro hb|refine fd ?_|fail)))
 refine Ie (lst 90 w.parts (fun i (zz:Unit) t h=>t 1=.ptr 0 0 0∧t 3=.int .i64 i∧(h[0]?=some (.live 3 false false [[.int .i64 w.rooms,.int .i64 w.need,Bt 9 true w.nn (w.parts.map Ac.cells)]]))) (fun rest zz=>rest.all (Gx w.rooms)) (fun r e t h=>(e=.exit 0∧r=true)∨(e=.ret∧t 2=.bool false∧r=false)) ?_ ?_ () _ _ ?_) (fun e t h hk=>?_)
 ·rintro _ t h Q' kQ ⟨h1,h3,hA⟩
  (have hb:=trivial;with_reducible repeat' (first|simp only[hb,Va.down,seval,aNA.down,h1,h3,aEM,decide_false,hA,ahF]|refine Au ?_ ?_<;>intro hb|refine fd ?_|fail))
  exact kQ _ _ _ (.inl ⟨rfl,rfl⟩)
 ·rintro x rest i _ t h J Q' kJ kQ hx hi ⟨h1,h3,hA⟩
  have hd:decide ((i:Int)<(w.parts.length:Int))=true:=decide_eq_true (by omega)
  have hw:=Dj hi hs.parts
  have q1:=aJZ x.one 0 (IntKind.i64.wrap (w.rooms-1))
  have q2:=aJZ x.other 0 (IntKind.i64.wrap (w.rooms-1))
  have q4:=aWU x.tested
  have q5:=aWU x.valid
  have q6:=aJZ x.test 1 1000
  have q7:=aJZ x.change 1 1000
  have hp:Gx w.rooms x=(Ht x.one 0 (IntKind.i64.wrap (w.rooms-1))&&Ht x.other 0 (IntKind.i64.wrap (w.rooms-1))&& !(x.one==x.other)&& !(x.opn&& !x.valve)&&Nl x.tested&&Nl x.valid&&Ht x.test 1 1000&&Ht x.change 1 1000):=rfl
  have hA1:=Aj hA
  generalize Ht x.one 0 (IntKind.i64.wrap (w.rooms-1))=d1 at *
  generalize Ht x.other 0 (IntKind.i64.wrap (w.rooms-1))=d2 at *
  cases hq3:(x.one==x.other)
  all_goals rw[hq3]at hp
  all_goals generalize Nl x.tested=d4 at *
  all_goals generalize Nl x.valid=d5 at *
  all_goals generalize Ht x.test 1 1000=d6 at *
  all_goals generalize Ht x.change 1 1000=d7 at *
  all_goals (have hb:=trivial;with_reducible repeat' (first|simp only[hb,Va.down,seval,aNA.down,h1,h3,hd,hx,hw,hA,hA1,q1,q2,hq3,q4,q5,q6,q7,Ac.cells,ahF]|refine Au ?_ ?_<;>intro hb|refine fd ?_|fail))
  all_goals first|(refine kQ _ _ _ (.inr ⟨rfl,by simp[up],?_⟩);simp_all;done)|(refine Bn (kJ _ _ () ⟨?_,?_,hA1 _⟩ ?_);(simp[up,h1]);(simp[up]);(simp_all))
 ·exact⟨by simp[up,ent],by simp[up],rfl⟩
 rcases hk with⟨rfl,hr⟩|⟨rfl,h2,hr⟩
 ·rw[hr]
  (have hb:=trivial;with_reducible repeat' (first|simp only[hb,Va.down,seval,aNA.down]|refine Au ?_ ?_<;>intro hb|refine fd ?_|fail))
 ·rw[hr]
  (have hb:=trivial;with_reducible repeat' (first|simp only[hb,Va.down,seval,aNA.down,h2]|refine Au ?_ ?_<;>intro hb|refine fd ?_|fail))
theorem aQO{w:Ah}(h:Gl w=true):∃N,WOk w N∧w.parts.length≤12:=by
 simp only[Gl,aNW,Ht,aJ8,decide_eq_true_eq,aAO]at h
 obtain⟨⟨⟨⟨h1,h2⟩,h3,h4⟩,h5,h6⟩,h7⟩:=h
 refine⟨w.rooms.toNat,⟨by omega,by omega,by omega,by omega,fun e=>by rw[e]at h5;simp at h5,fun p hp=>?_⟩,by omega⟩
 have:=h7 p hp
 simp only[Gx,Ht,aJ8,decide_eq_true_eq,Bool.not_eq_true',beq_eq_false_iff_ne]at this
 obtain⟨⟨⟨⟨⟨⟨⟨a1,a2⟩,a3⟩,_⟩,_⟩,_⟩,_⟩,_⟩:=this
 rw[Ez (by omega) (by omega)]at a1 a2
 refine⟨by omega,by omega,a3⟩
def idx{α:Type}(p:α→Bool):List α→Int→Int
 | [],_=> -1
 |x::l,i=>if p x=true then i else idx p l (i+1)
theorem aJP{α:Type}(p:α→Bool):∀(l:List α) (i:Int),0≤i→decide (0≤idx p l i)=l.any p
 | [],i,_=>rfl
 |x::l,i,h=>by
  unfold idx
  split
  ·rename_i hp;simp[h,hp]
  ·rename_i hp;rw[aJP p l (i+1) (by omega)];simp[hp]
theorem a91(p:Ac)(N:Int):Ef.call (.fn 85) [.agg [.int .i64 p.one,.int .i64 p.other,.bool p.valve,.bool p.opn,.int .i64 p.tested,.int .i64 p.valid,.bool p.bad,.int .i64 p.test,.int .i64 p.change],.int .i64 N] []=some (.ret (.bool (Gx N p)),[]):=by
 have q1:=aC1 p.one 0 (IntKind.i64.wrap (N-1))
 have q2:=aC1 p.other 0 (IntKind.i64.wrap (N-1))
 have q4:=aC1 p.tested 0 5000
 have q5:=aC1 p.valid 0 5000
 have q6:=aC1 p.test 1 1000
 have q7:=aC1 p.change 1 1000
 have hp:Gx N p=(Ht p.one 0 (IntKind.i64.wrap (N-1))&&Ht p.other 0 (IntKind.i64.wrap (N-1))&& !(p.one==p.other)&& !(p.opn&& !p.valve)&&Ht p.tested 0 5000&&Ht p.valid 0 5000&&Ht p.test 1 1000&&Ht p.change 1 1000):=rfl
 generalize Ht p.one 0 (IntKind.i64.wrap (N-1))=d1 at *
 generalize Ht p.other 0 (IntKind.i64.wrap (N-1))=d2 at *
 generalize Ht p.tested 0 5000=d4 at *
 generalize Ht p.valid 0 5000=d5 at *
 generalize Ht p.test 1 1000=d6 at *
 generalize Ht p.change 1 1000=d7 at *
 cases hq3:(p.one==p.other)
 all_goals rw[hq3]at hp
 all_goals rw[hp]
 all_goals (refine ce Tryz.func85 ?_;simp only[Tryz.f85];(have hb:=trivial;with_reducible repeat' (first|simp only[hb,Va.down,seval,be3.down,q1,q2,hq3,q4,q5,q6,q7]|refine Au ?_ ?_<;>intro hb|refine fd ?_|fail)))
 all_goals simp_all
theorem a2Q(w:Ah)(x:Ac):Ef.call (.fn 84) [.agg [.int .i64 x.one,.int .i64 x.other,.bool x.valve,.bool x.opn,.int .i64 x.tested,.int .i64 x.valid,.bool x.bad,.int .i64 x.test,.int .i64 x.change],.ptr 0 0 0] [.live 3 false false [[.int .i64 w.rooms,.int .i64 w.need,Bt 9 true w.nn (w.parts.map Ac.cells)]]]=some (.ret (.bool (!Gx w.rooms x)),[.live 3 false false [[.int .i64 w.rooms,.int .i64 w.need,Bt 9 true w.nn (w.parts.map Ac.cells)]]]):=by
 have h:=a91 x w.rooms
 (refine ce Tryz.func84 ?_;simp only[Tryz.f84];(have hb:=trivial;with_reducible repeat' (first|simp only[hb,Va.down,seval,bfA.down,h]|refine Au ?_ ?_<;>intro hb|refine fd ?_|fail)))
theorem aUW{l:List Ac}{nn:Bool}{g:Nat}{mm:Ah}{p:Ac→Bool}(hp:∀x∈l,Ef.call (.fn g) (.agg [.int .i64 x.one,.int .i64 x.other,.bool x.valve,.bool x.opn,.int .i64 x.tested,.int .i64 x.valid,.bool x.bad,.int .i64 x.test,.int .i64 x.change]::[.ptr 0 0 0]) [.live 3 false false [[.int .i64 mm.rooms,.int .i64 mm.need,Bt 9 true mm.nn (mm.parts.map Ac.cells)]]]=some (.ret (.bool (p x)),[.live 3 false false [[.int .i64 mm.rooms,.int .i64 mm.need,Bt 9 true mm.nn (mm.parts.map Ac.cells)]]]))(hl:l.length≤maxLen):
 Ef.call (.fn 105) [Bt 9 true nn (l.map Ac.cells),.func (.func g) [] [.ptr 0 0 0]] [.live 3 false false [[.int .i64 mm.rooms,.int .i64 mm.need,Bt 9 true mm.nn (mm.parts.map Ac.cells)]]]=some (.ret (.int .i64 (idx p l 0)),[.live 3 false false [[.int .i64 mm.rooms,.int .i64 mm.need,Bt 9 true mm.nn (mm.parts.map Ac.cells)]]]):=by
 (refine ce Tryz.func105 ?_;simp only[Tryz.f105];(have hb:=trivial;with_reducible repeat' (first|simp only[hb,Va.down,seval,aMA.down,ahF]|refine Au ?_ ?_<;>intro hb|refine fd ?_|fail)))
 refine Ie (lst 19 l (fun i (s:Int) t h=>s=i∧h=[.live 3 false false [[.int .i64 mm.rooms,.int .i64 mm.need,Bt 9 true mm.nn (mm.parts.map Ac.cells)]]]∧t 0=Bt 9 true nn (l.map Ac.cells)∧t 1=.func (.func g) [] [.ptr 0 0 0]∧t 7=.int .i64 l.length∧t 8=.int .i64 i)
  (fun rest s=>idx p rest s) (fun r e t h=>h=[.live 3 false false [[.int .i64 mm.rooms,.int .i64 mm.need,Bt 9 true mm.nn (mm.parts.map Ac.cells)]]]∧((e=.exit 0∧r= -1)∨(e=.ret∧t 4=.int .i64 r))) ?_ ?_ 0 _ _ ?_) (fun e t h hk=>?_)
 ·rintro s t h Q' kQ ⟨rfl,rfl,h0,h1,h7,h8⟩
  (have hb:=trivial;with_reducible repeat' (first|simp only[hb,Va.down,seval,aMA.down,h0,h1,h7,h8,aEM,decide_false]|refine Au ?_ ?_<;>intro hb|refine fd ?_|fail))
  exact kQ _ _ _ ⟨rfl,.inl ⟨rfl,rfl⟩⟩
 ·rintro x rest i s t h J Q' kJ kQ hx hi ⟨rfl,rfl,h0,h1,h7,h8⟩
  have hpx:=hp x (aG2 hx)
  have hd:decide ((i:Int)<(l.length:Int))=true:=by simpa using hi
  (have hb:=trivial;with_reducible repeat' (first|simp only[hb,Va.down,seval,aMA.down,h0,h1,h7,h8,hd,hx,Ac.cells,hpx,Dj hi hl]|refine Au ?_ ?_<;>intro hb|refine fd ?_|fail))
  ·exact kQ _ _ _ ⟨rfl,.inr ⟨rfl,by simp[up,idx,hb]⟩⟩
  ·exact Bn (kJ _ _ (i+1) ⟨by simp,rfl,by simp[up,h0],by simp[up,h1],by simp[up,h7],by simp[up]⟩ (by simp[idx,hb]))
 ·exact⟨rfl,rfl,by simp[up,ent],by simp[up,ent],by simp[up],by simp[up]⟩
 ·obtain⟨rfl,⟨rfl,hi⟩|⟨rfl,hi⟩⟩:=hk
  ·(have hb:=trivial;with_reducible repeat' (first|simp only[hb,Va.down,seval,aMA.down]|refine Au ?_ ?_<;>intro hb|refine fd ?_|fail))
   rw[hi]
  ·(have hb:=trivial;with_reducible repeat' (first|simp only[hb,Va.down,seval,aMA.down,hi]|refine Au ?_ ?_<;>intro hb|refine fd ?_|fail))
theorem aOT{l:List Ac}{nn:Bool}{g:Nat}{mm:Ah}{p:Ac→Bool}(hp:∀x∈l,Ef.call (.fn g) (.agg [.int .i64 x.one,.int .i64 x.other,.bool x.valve,.bool x.opn,.int .i64 x.tested,.int .i64 x.valid,.bool x.bad,.int .i64 x.test,.int .i64 x.change]::[.ptr 0 0 0]) [.live 3 false false [[.int .i64 mm.rooms,.int .i64 mm.need,Bt 9 true mm.nn (mm.parts.map Ac.cells)]]]=some (.ret (.bool (p x)),[.live 3 false false [[.int .i64 mm.rooms,.int .i64 mm.need,Bt 9 true mm.nn (mm.parts.map Ac.cells)]]]))(hl:l.length≤maxLen):
 Ef.call (.fn 83) [Bt 9 true nn (l.map Ac.cells),.func (.func g) [] [.ptr 0 0 0]] [.live 3 false false [[.int .i64 mm.rooms,.int .i64 mm.need,Bt 9 true mm.nn (mm.parts.map Ac.cells)]]]=some (.ret (.bool (l.any p)),[.live 3 false false [[.int .i64 mm.rooms,.int .i64 mm.need,Bt 9 true mm.nn (mm.parts.map Ac.cells)]]]):=by
 (refine ce Tryz.func83 ?_;simp only[Tryz.f83];(have hb:=trivial;with_reducible repeat' (first|simp only[hb,Va.down,seval,aUW hp hl,aJP p l 0 (Int.le_refl 0)]|refine Au ?_ ?_<;>intro hb|refine fd ?_|fail)))
theorem a57(w:Ah)(hs:w.small):Ef.call (.fn 61) [.agg [.int .i64 w.rooms,.int .i64 w.need,Bt 9 true w.nn (w.parts.map Ac.cells)]] []=some (.ret (.bool (Gl w)),[]):=by
 have k1:=aC1 w.rooms 2 8
 have k2:=aC1 w.need 0 12
 have k3:=aC1 (w.parts.length:Int) 1 12
 have hcM:=aOT (mm:=w) (l:=w.parts) (nn:=w.nn) (g:=84) (p:=fun x=> !Gx w.rooms x) (fun x _=>a2Q w x) hs.parts
 have q1:w.parts.all (Gx w.rooms)= !(w.parts.any fun x=> !Gx w.rooms x):=List.all_eq_not_any_not
 have hh:aNW w=(Ht w.rooms 2 8&&Ht w.need 0 12&&Ht (w.parts.length:Int) 1 12):=rfl
 unfold Gl
 rw[hh,q1]
 generalize Ht w.rooms 2 8=c1 at *
 generalize Ht w.need 0 12=c2 at *
 generalize Ht (w.parts.length:Int) 1 12=c3 at *
 generalize(w.parts.any fun x=> !Gx w.rooms x)=c4 at *
 cases c1<;>cases c2<;>cases c3
 all_goals (refine ce Tryz.func61 ?_;simp only[Tryz.f61];(have hb:=trivial;with_reducible repeat' (first|simp only[hb,Va.down,seval,bfR.down,k1,k2,k3,hcM,ahF]|refine Au ?_ ?_<;>intro hb|refine fd ?_|fail)))
 all_goals simp
theorem aQ3(w:Ah)(hs:w.small)(d:Int):Ef.call (.fn 34) [.agg [.int .i64 w.rooms,.int .i64 w.need,Bt 9 true w.nn (w.parts.map Ac.cells)],.int .i64 d] []=some (.ret (.tup [.ptr 0 0 0,.bool (Gl w&&Nl d)]),[.live 4 false false [[.int .i64 w.rooms,.int .i64 w.need,Bt 9 true w.nn (w.parts.map Ac.cells),.int .i64 d]]]):=by
 have h:=a57 w hs
 have hd:=aC1 d 0 5000
 rw[show Ht d 0 5000=Nl d from rfl]at hd
 generalize Gl w=c at *
 generalize Nl d=e at *
 cases c
 ·(refine ce Tryz.func34 ?_;simp only[Tryz.f34];(have hb:=trivial;with_reducible repeat' (first|simp only[hb,Va.down,seval,ba3.down,h,hd]|refine Au ?_ ?_<;>intro hb|refine fd ?_|fail)))
 ·(refine ce Tryz.func34 ?_;simp only[Tryz.f34];(have hb:=trivial;with_reducible repeat' (first|simp only[hb,Va.down,seval,ba3.down,h,hd]|refine Au ?_ ?_<;>intro hb|refine fd ?_|fail)))
end Go.Proofs.YtcncggaobhbomaaGreatDoor
