/- The functions of the layer, walked. -/
import Derived.Test.YtcncggaobhbomaaGreatDoorLibE
import Derived.Test.YtcncggaobhbomaaGreatDoorChecked
import Derived.Test.YtcncggaobhbomaaGreatDoorLibF
import Derived.Test.YtcncggaobhbomaaGreatDoorLibD
import Derived.Test.YtcncggaobhbomaaGreatDoorRows
import Derived.Test.YtcncggaobhbomaaGreatDoorTie
import Derived.Test.YtcncggaobhbomaaGreatDoorCards
import Derived.Test.YtcncggaobhbomaaGreatDoorShelf
import Derived.ProofKit
import Derived.LaidMore
import Derived.OpenShut
import Derived.Stop.Joined
open And renaming intro→abK
open List renaming length_map→abL,getElem?_eq_some_iff→abX,getElem?_eq_getElem→adC,replicate→adD,length_replicate→af5,getElem?_set_ne→ah1,getD_eq_getElem?_getD→aoS,map_set→aoT,getElem?_set_self→aoV,getElem?_append_left→aoW,getElem?_append_right→awN,length_eq_zero_iff→azY,length_set→az0,mem_of_getElem?→aA3,getElem?_map→aBU,take_of_length_le→aBV
open Nat renaming ble→agI
open Int renaming lt_irrefl→ai5
open Bool renaming false_eq_true→aDD
set_option linter.unusedSimpArgs false
set_option linter.unusedVariables false
namespace Go.Proofs.YtcncggaobhbomaaGreatDoor
open Go.Ev
set_option maxRecDepth 100000
theorem Dj(h:Aa)(b r o:Nat):ld Tryz.prog 24 h (some (.ptr b r o))=ldR (Jk (h[b]?) r) o 3:=aCZ ⟨by kernel_rfl,by kernel_rfl⟩ h b r o
theorem awK(b r o:Nat):ftL Tryz.prog 24 (some (.ptr b r o))=some [.cells b o 3]:=Kt (isA:=true) (n:=3) (by kernel_rfl) (by kernel_rfl) b r o
theorem Pe(fl nn:Bool)(rows:List (List AV)):ln Tryz.prog 25 (some (Be 3 fl nn rows))=some (.ret (.int .i64 rows.length),[]):=aK3 ⟨_,Tryz.underlying25,by kernel_rfl⟩ fl nn rows
theorem Av(b r o:Nat):fa Tryz.prog 24 (some (.ptr b r o)) 2=some (.ret (.ptr b r (o+2)),[]):=Em (show Ef Tryz.prog 24 2 2 1 from⟨_,_,Tryz.underlying24,rfl,rfl,by kernel_rfl,by decide⟩) b r o
theorem Bd(h:Aa)(b r o:Nat):ld Tryz.prog 22 h (some (.ptr b r o))=ldC (Jk (h[b]?) r) o:=axN ⟨by kernel_rfl,1,by kernel_rfl⟩ h b r o
theorem aJZ(b r o:Nat):ftL Tryz.prog 22 (some (.ptr b r o))=some [.cells b o 1]:=Kt (isA:=false) (n:=1) (by kernel_rfl) (by kernel_rfl) b r o
theorem aVZ(st:Nat)(fl:Bool)(rows:List (List AV)):ln Tryz.prog 22 (some (.imm st fl rows))=some (.ret (.int .i64 rows.length),[]):=aQE (n:=9) ⟨_,Tryz.underlying22,by kernel_rfl⟩ st fl rows
theorem aXZ(st b r len:Nat):ln Tryz.prog 22 (some (.slr st b r len))=some (.ret (.int .i64 len),[]):=aFJ (n:=9) ⟨_,Tryz.underlying22,by kernel_rfl⟩ st b r len
theorem Df(fl nn:Bool)(rows:List (List AV)):ln Tryz.prog 22 (some (Be 9 fl nn rows))=some (.ret (.int .i64 rows.length),[]):=aK3 ⟨_,Tryz.underlying22,by kernel_rfl⟩ fl nn rows
theorem aGS:Eu Tryz.prog 36=some (.agg [.int .i64 0,.int .i64 0]):=by kernel_rfl
theorem aFR(h:Aa)(b r o:Nat)(v:AV):st_ Tryz.prog 36 h (some (.ptr b r o)) (some v)=sv 2 (h[b]?) b r o (Ag v):=Ib (by kernel_rfl) h b r o v
theorem Lt(h:Aa)(b r o:Nat):ld Tryz.prog 36 h (some (.ptr b r o))=ldR (Jk (h[b]?) r) o 2:=aCZ ⟨by kernel_rfl,by kernel_rfl⟩ h b r o
theorem aJ6(b r o:Nat):ftL Tryz.prog 36 (some (.ptr b r o))=some [.cells b o 2]:=Kt (isA:=true) (n:=2) (by kernel_rfl) (by kernel_rfl) b r o
theorem aCI(ps:List (Nat × AV)):agQ Tryz.prog 36 ps=(Jq (fun i=>([(0,1),(1,1)]:List (Nat × Nat))[i]?) (Ag (.agg [.int .i64 0,.int .i64 0])) ps).map .agg:=by kernel_rfl
theorem aXT(fl:Bool)(rows:List (List AV))(k:IntKind)(i:Int):ia Tryz.prog 22 (some (.imm 9 fl rows)) (some (.int k i))=if 0≤i then r1 ((rows[i.toNat]?).map .iptr)else none:=aF6 ⟨_,Tryz.underlying22,by kernel_rfl⟩ fl rows k i
theorem aJT(b r len:Nat)(k:IntKind)(i:Int):ia Tryz.prog 22 (some (.slr 9 b r len)) (some (.int k i))=if 0≤i∧i<len then some (.ret (.ptr b (r+i.toNat) 0),[])else none:=aB4 ⟨_,Tryz.underlying22,by kernel_rfl⟩ b r len k i
theorem Ez(fl nn:Bool)(rows:List (List AV))(k:IntKind)(i:Int):ia Tryz.prog 22 (some (Be 9 fl nn rows)) (some (.int k i))=if 0≤i then r1 ((rows[i.toNat]?).map .iptr)else none:=aHH ⟨_,Tryz.underlying22,by kernel_rfl⟩ fl nn rows k i
theorem Jf(h:Aa)(b r o:Nat):ld Tryz.prog 46 h (some (.ptr b r o))=ldR (Jk (h[b]?) r) o 9:=aCZ ⟨by kernel_rfl,by kernel_rfl⟩ h b r o
theorem Fh(h:Aa)(cs:List AV):ld Tryz.prog 46 h (some (.iptr cs))=if 9≤cs.length then some (.ret (.agg (cs.take 9)),[])else none:=aS6 ⟨by kernel_rfl,by kernel_rfl⟩ h cs
theorem aWB(b r o:Nat):ftL Tryz.prog 46 (some (.ptr b r o))=some [.cells b o 9]:=Kt (isA:=true) (n:=9) (by kernel_rfl) (by kernel_rfl) b r o
theorem Nh:Eu Tryz.prog 46=some (.agg [.int .i64 0,.int .i64 0,.bool false,.bool false,.int .i64 0,.int .i64 0,.bool false,.int .i64 0,.int .i64 0]):=by kernel_rfl
theorem Kq(h:Aa)(b r o:Nat)(v:AV):st_ Tryz.prog 46 h (some (.ptr b r o)) (some v)=sv 9 (h[b]?) b r o (Ag v):=Ib (by kernel_rfl) h b r o v
theorem aWC(b r o:Nat):ftS Tryz.prog 46 (some (.ptr b r o))=some [.cells b o 9]:=av5 (by kernel_rfl) b r o
theorem Nl(b r o:Nat):fa Tryz.prog 46 (some (.ptr b r o)) 5=some (.ret (.ptr b r (o+5)),[]):=Em (show Ef Tryz.prog 46 5 5 1 from⟨_,_,Tryz.underlying46,rfl,rfl,by kernel_rfl,by decide⟩) b r o
theorem Bn(h:Aa)(b r o:Nat):ld Tryz.prog 3 h (some (.ptr b r o))=ldC (Jk (h[b]?) r) o:=axN ⟨by kernel_rfl,1,by kernel_rfl⟩ h b r o
theorem Pg(h:Aa)(c:AV)(cs:List AV):ld Tryz.prog 3 h (some (.iptr (c::cs)))=some (.ret c,[]):=a2W ⟨by kernel_rfl,1,by kernel_rfl⟩ h c cs
theorem aNX(b r o:Nat):ftL Tryz.prog 3 (some (.ptr b r o))=some [.cells b o 1]:=Kt (isA:=false) (n:=1) (by kernel_rfl) (by kernel_rfl) b r o
theorem aAX(h:Aa)(b r o:Nat)(v:AV):st_ Tryz.prog 3 h (some (.ptr b r o)) (some v)=sv 1 (h[b]?) b r o (Ag v):=Ib (by kernel_rfl) h b r o v
theorem a4H(b r o:Nat):ftS Tryz.prog 3 (some (.ptr b r o))=some [.cells b o 1]:=av5 (by kernel_rfl) b r o
theorem Hv(b r o:Nat):fa Tryz.prog 46 (some (.ptr b r o)) 3=some (.ret (.ptr b r (o+3)),[]):=Em (show Ef Tryz.prog 46 3 3 1 from⟨_,_,Tryz.underlying46,rfl,rfl,by kernel_rfl,by decide⟩) b r o
theorem aq7(cs:List AV):fa Tryz.prog 46 (some (.iptr cs)) 3=if 3+1≤cs.length then some (.ret (.iptr (cs.drop 3)),[])else none:=Ov (show Ef Tryz.prog 46 3 3 1 from⟨_,_,Tryz.underlying46,rfl,rfl,by kernel_rfl,by decide⟩) cs
theorem aEC(h:Aa)(b r o:Nat)(v:AV):st_ Tryz.prog 4 h (some (.ptr b r o)) (some v)=sv 1 (h[b]?) b r o (Ag v):=Ib (by kernel_rfl) h b r o v
theorem a4Q:Eu Tryz.prog 75=some (.agg [.int .i64 0,.bool false,.bool false]):=by kernel_rfl
theorem Hw(b r o:Nat):fa Tryz.prog 36 (some (.ptr b r o)) 0=some (.ret (.ptr b r (o+0)),[]):=Em (show Ef Tryz.prog 36 0 0 1 from⟨_,_,Tryz.underlying36,rfl,rfl,by kernel_rfl,by decide⟩) b r o
theorem Jj(h:Aa)(b r o:Nat):ld Tryz.prog 34 h (some (.ptr b r o))=ldC (Jk (h[b]?) r) o:=axN ⟨by kernel_rfl,1,by kernel_rfl⟩ h b r o
theorem aXA(b r o:Nat):ftL Tryz.prog 34 (some (.ptr b r o))=some [.cells b o 1]:=Kt (isA:=false) (n:=1) (by kernel_rfl) (by kernel_rfl) b r o
theorem aWP(fl nn:Bool)(rows:List (List AV))(k:IntKind)(i:Int):ia Tryz.prog 49 (some (Be 1 fl nn rows)) (some (.int k i))=if 0≤i then r1 ((rows[i.toNat]?).map .iptr)else none:=aHH ⟨_,Tryz.underlying49,by kernel_rfl⟩ fl nn rows k i
theorem Gt(h:Aa)(b r o:Nat):ld Tryz.prog 4 h (some (.ptr b r o))=ldC (Jk (h[b]?) r) o:=axN ⟨by kernel_rfl,1,by kernel_rfl⟩ h b r o
theorem ajM(h:Aa)(c:AV)(cs:List AV):ld Tryz.prog 4 h (some (.iptr (c::cs)))=some (.ret c,[]):=a2W ⟨by kernel_rfl,1,by kernel_rfl⟩ h c cs
theorem arZ:Eu Tryz.prog 24=some (.agg [.int .i64 0,.int .i64 0,.nils]):=by kernel_rfl
theorem arA(h:Aa)(b r o:Nat)(v:AV):st_ Tryz.prog 24 h (some (.ptr b r o)) (some v)=sv 3 (h[b]?) b r o (Ag v):=Ib (by kernel_rfl) h b r o v
theorem aUY(b r o:Nat):ftS Tryz.prog 24 (some (.ptr b r o))=some [.cells b o 3]:=av5 (by kernel_rfl) b r o
theorem adP(b r o:Nat):fa Tryz.prog 24 (some (.ptr b r o)) 1=some (.ret (.ptr b r (o+1)),[]):=Em (show Ef Tryz.prog 24 1 1 1 from⟨_,_,Tryz.underlying24,rfl,rfl,by kernel_rfl,by decide⟩) b r o
theorem Jr(b r o:Nat):fa Tryz.prog 36 (some (.ptr b r o)) 1=some (.ret (.ptr b r (o+1)),[]):=Em (show Ef Tryz.prog 36 1 1 1 from⟨_,_,Tryz.underlying36,rfl,rfl,by kernel_rfl,by decide⟩) b r o
theorem aWT(fl:Bool)(rows:List (List AV))(k:IntKind)(i:Int):ia Tryz.prog 62 (some (.imm 1 fl rows)) (some (.int k i))=if 0≤i then r1 ((rows[i.toNat]?).map .iptr)else none:=aF6 ⟨_,Tryz.underlying62,by kernel_rfl⟩ fl rows k i
theorem aJ2(b r len:Nat)(k:IntKind)(i:Int):ia Tryz.prog 62 (some (.slr 1 b r len)) (some (.int k i))=if 0≤i∧i<len then some (.ret (.ptr b (r+i.toNat) 0),[])else none:=aB4 ⟨_,Tryz.underlying62,by kernel_rfl⟩ b r len k i
theorem Lq(h:Aa)(b r o:Nat):ld Tryz.prog 50 h (some (.ptr b r o))=ldC (Jk (h[b]?) r) o:=axN ⟨by kernel_rfl,1,by kernel_rfl⟩ h b r o
theorem aSD(h:Aa)(c:AV)(cs:List AV):ld Tryz.prog 50 h (some (.iptr (c::cs)))=some (.ret c,[]):=a2W ⟨by kernel_rfl,1,by kernel_rfl⟩ h c cs
theorem a92:Eu Tryz.prog 3=some (.int .i64 0):=by kernel_rfl
theorem aCU(base len:Nat)(ps:List (Nat × AV)):rD (Bj Tryz.prog base 50 len ps)=bsK 1 (.int .i64 0) base len ps:=aRQ (e:=3) (by kernel_rfl) (by kernel_rfl) (by kernel_rfl) base len ps
theorem a4N:Eu Tryz.prog 69=some (.nilp):=by kernel_rfl
theorem aY2(h:Aa)(b r o:Nat)(v:AV):st_ Tryz.prog 69 h (some (.ptr b r o)) (some v)=sv 1 (h[b]?) b r o (Ag v):=Ib (by kernel_rfl) h b r o v
theorem azX(h:Aa)(b r o:Nat):ld Tryz.prog 69 h (some (.ptr b r o))=ldC (Jk (h[b]?) r) o:=axN ⟨by kernel_rfl,1,by kernel_rfl⟩ h b r o
theorem aJV(ps:List (Nat × AV)):agQ Tryz.prog 85 ps=(Jq (fun i=>([(0,24),(24,1)]:List (Nat × Nat))[i]?) (Ag (.agg [.int .i64 0,.bool false,.int .i64 0,.bool false,.int .i64 0,.bool false,.int .i64 0,.bool false,.int .i64 0,.bool false,.int .i64 0,.bool false,.int .i64 0,.bool false,.int .i64 0,.bool false,.int .i64 0,.bool false,.int .i64 0,.bool false,.int .i64 0,.bool false,.int .i64 0,.bool false,.int .i64 0])) ps).map .agg:=by kernel_rfl
theorem aGC:Eu Tryz.prog 85=some (.agg [.int .i64 0,.bool false,.int .i64 0,.bool false,.int .i64 0,.bool false,.int .i64 0,.bool false,.int .i64 0,.bool false,.int .i64 0,.bool false,.int .i64 0,.bool false,.int .i64 0,.bool false,.int .i64 0,.bool false,.int .i64 0,.bool false,.int .i64 0,.bool false,.int .i64 0,.bool false,.int .i64 0]):=by kernel_rfl
theorem aFU(h:Aa)(b r o:Nat)(v:AV):st_ Tryz.prog 85 h (some (.ptr b r o)) (some v)=sv 25 (h[b]?) b r o (Ag v):=Ib (by kernel_rfl) h b r o v
theorem azP(h:Aa)(b r o:Nat):ld Tryz.prog 85 h (some (.ptr b r o))=ldR (Jk (h[b]?) r) o 25:=aCZ ⟨by kernel_rfl,by kernel_rfl⟩ h b r o
theorem aQY(h:Aa)(cs:List AV):ld Tryz.prog 85 h (some (.iptr cs))=if 25≤cs.length then some (.ret (.agg (cs.take 25)),[])else none:=aS6 ⟨by kernel_rfl,by kernel_rfl⟩ h cs
theorem aW1(b r o:Nat):ftL Tryz.prog 85 (some (.ptr b r o))=some [.cells b o 25]:=Kt (isA:=true) (n:=25) (by kernel_rfl) (by kernel_rfl) b r o
theorem a5E:Eu Tryz.prog 86=some (.nilm):=by kernel_rfl
theorem aZS(h:Aa)(b r o:Nat)(v:AV):st_ Tryz.prog 86 h (some (.ptr b r o)) (some v)=sv 1 (h[b]?) b r o (Ag v):=Ib (by kernel_rfl) h b r o v
theorem aGR(h:Aa)(b r o:Nat):ld Tryz.prog 86 h (some (.ptr b r o))=ldC (Jk (h[b]?) r) o:=axN ⟨by kernel_rfl,1,by kernel_rfl⟩ h b r o
theorem aUP(b r o:Nat):ftL Tryz.prog 86 (some (.ptr b r o))=some [.cells b o 1]:=Kt (isA:=false) (n:=1) (by kernel_rfl) (by kernel_rfl) b r o
theorem aVY(b r len:Nat)(k:IntKind)(i:Int):ia Tryz.prog 91 (some (.slr 4 b r len)) (some (.int k i))=if 0≤i∧i<len then some (.ret (.ptr b (r+i.toNat) 0),[])else none:=aB4 ⟨_,Tryz.underlying91,by kernel_rfl⟩ b r len k i
theorem aWN(fl nn:Bool)(rows:List (List AV))(k:IntKind)(i:Int):ia Tryz.prog 91 (some (Be 4 fl nn rows)) (some (.int k i))=if 0≤i then r1 ((rows[i.toNat]?).map .iptr)else none:=aHH ⟨_,Tryz.underlying91,by kernel_rfl⟩ fl nn rows k i
theorem aE2(st b r len:Nat):ln Tryz.prog 100 (some (.slr st b r len))=some (.ret (.int .i64 len),[]):=aFJ (n:=2) ⟨_,Tryz.underlying100,by kernel_rfl⟩ st b r len
theorem aHB(b r len:Nat)(k:IntKind)(i:Int):ia Tryz.prog 100 (some (.slr 2 b r len)) (some (.int k i))=if 0≤i∧i<len then some (.ret (.ptr b (r+i.toNat) 0),[])else none:=aB4 ⟨_,Tryz.underlying100,by kernel_rfl⟩ b r len k i
theorem aWX(fl:Bool)(rows:List (List AV))(k:IntKind)(i:Int):ia Tryz.prog 50 (some (.imm 1 fl rows)) (some (.int k i))=if 0≤i then r1 ((rows[i.toNat]?).map .iptr)else none:=aF6 ⟨_,Tryz.underlying50,by kernel_rfl⟩ fl rows k i
theorem Ln(b r len:Nat)(k:IntKind)(i:Int):ia Tryz.prog 50 (some (.slr 1 b r len)) (some (.int k i))=if 0≤i∧i<len then some (.ret (.ptr b (r+i.toNat) 0),[])else none:=aB4 ⟨_,Tryz.underlying50,by kernel_rfl⟩ b r len k i
theorem Nb(b r o:Nat):fa Tryz.prog 24 (some (.ptr b r o)) 0=some (.ret (.ptr b r (o+0)),[]):=Em (show Ef Tryz.prog 24 0 0 1 from⟨_,_,Tryz.underlying24,rfl,rfl,by kernel_rfl,by decide⟩) b r o
theorem atT(b r o:Nat):fa Tryz.prog 46 (some (.ptr b r o)) 0=some (.ret (.ptr b r (o+0)),[]):=Em (show Ef Tryz.prog 46 0 0 1 from⟨_,_,Tryz.underlying46,rfl,rfl,by kernel_rfl,by decide⟩) b r o
theorem aOE(cs:List AV):fa Tryz.prog 46 (some (.iptr cs)) 0=if 0+1≤cs.length then some (.ret (.iptr (cs.drop 0)),[])else none:=Ov (show Ef Tryz.prog 46 0 0 1 from⟨_,_,Tryz.underlying46,rfl,rfl,by kernel_rfl,by decide⟩) cs
theorem auG(b r o:Nat):fa Tryz.prog 46 (some (.ptr b r o)) 1=some (.ret (.ptr b r (o+1)),[]):=Em (show Ef Tryz.prog 46 1 1 1 from⟨_,_,Tryz.underlying46,rfl,rfl,by kernel_rfl,by decide⟩) b r o
theorem aPW(cs:List AV):fa Tryz.prog 46 (some (.iptr cs)) 1=if 1+1≤cs.length then some (.ret (.iptr (cs.drop 1)),[])else none:=Ov (show Ef Tryz.prog 46 1 1 1 from⟨_,_,Tryz.underlying46,rfl,rfl,by kernel_rfl,by decide⟩) cs
theorem acM(b r o:Nat):fa Tryz.prog 46 (some (.ptr b r o)) 2=some (.ret (.ptr b r (o+2)),[]):=Em (show Ef Tryz.prog 46 2 2 1 from⟨_,_,Tryz.underlying46,rfl,rfl,by kernel_rfl,by decide⟩) b r o
theorem aNK(cs:List AV):fa Tryz.prog 46 (some (.iptr cs)) 2=if 2+1≤cs.length then some (.ret (.iptr (cs.drop 2)),[])else none:=Ov (show Ef Tryz.prog 46 2 2 1 from⟨_,_,Tryz.underlying46,rfl,rfl,by kernel_rfl,by decide⟩) cs
theorem Jp(b r o:Nat):fa Tryz.prog 46 (some (.ptr b r o)) 4=some (.ret (.ptr b r (o+4)),[]):=Em (show Ef Tryz.prog 46 4 4 1 from⟨_,_,Tryz.underlying46,rfl,rfl,by kernel_rfl,by decide⟩) b r o
theorem ao1(b r o:Nat):fa Tryz.prog 46 (some (.ptr b r o)) 7=some (.ret (.ptr b r (o+7)),[]):=Em (show Ef Tryz.prog 46 7 7 1 from⟨_,_,Tryz.underlying46,rfl,rfl,by kernel_rfl,by decide⟩) b r o
theorem aMR(cs:List AV):fa Tryz.prog 46 (some (.iptr cs)) 7=if 7+1≤cs.length then some (.ret (.iptr (cs.drop 7)),[])else none:=Ov (show Ef Tryz.prog 46 7 7 1 from⟨_,_,Tryz.underlying46,rfl,rfl,by kernel_rfl,by decide⟩) cs
theorem atH(b r o:Nat):fa Tryz.prog 46 (some (.ptr b r o)) 8=some (.ret (.ptr b r (o+8)),[]):=Em (show Ef Tryz.prog 46 8 8 1 from⟨_,_,Tryz.underlying46,rfl,rfl,by kernel_rfl,by decide⟩) b r o
theorem aOJ(cs:List AV):fa Tryz.prog 46 (some (.iptr cs)) 8=if 8+1≤cs.length then some (.ret (.iptr (cs.drop 8)),[])else none:=Ov (show Ef Tryz.prog 46 8 8 1 from⟨_,_,Tryz.underlying46,rfl,rfl,by kernel_rfl,by decide⟩) cs
theorem axO{O:Dx}(t:List AV)(h:Aa)(s x:Operand):Di O Tryz.prog t h (.call ⟨.builtin .append,#[s,x],#[22,22]⟩)=apO Tryz.prog 22 h (Ae t s) (Ae t x):=aGF t h s x 22 22 _ Tryz.underlying22
theorem aI2(h:Aa)(s:AV)(st:Nat)(fl:Bool)(rows:List (List AV)):apO Tryz.prog 22 h (some s) (some (.imm st fl rows))=apK 9 h (some s) (srK 9 h (some (.imm st fl rows))):=aDP (e:=46) (b:=64) (z:=.agg [.int .i64 0,.int .i64 0,.bool false,.bool false,.int .i64 0,.int .i64 0,.bool false,.int .i64 0,.int .i64 0]) (by kernel_rfl) (by kernel_rfl) (by kernel_rfl) (by kernel_rfl) (by decide+kernel) h s _ (fun q e=>by cases e)
theorem aMZ(h:Aa)(b r o:Nat)(v:AV):st_ Tryz.prog 22 h (some (.ptr b r o)) (some v)=sv 1 (h[b]?) b r o (Ag v):=Ib (by kernel_rfl) h b r o v
theorem av3(fl nn:Bool)(rows:List (List AV))(k:IntKind)(i:Int):ia Tryz.prog 25 (some (Be 3 fl nn rows)) (some (.int k i))=if 0≤i then r1 ((rows[i.toNat]?).map .iptr)else none:=aHH ⟨_,Tryz.underlying25,by kernel_rfl⟩ fl nn rows k i
theorem aDR(b r o:Nat):fa Tryz.prog 75 (some (.ptr b r o)) 0=some (.ret (.ptr b r (o+0)),[]):=Em (show Ef Tryz.prog 75 0 0 1 from⟨_,_,Tryz.underlying75,rfl,rfl,by kernel_rfl,by decide⟩) b r o
theorem aq6(cs:List AV):fa Tryz.prog 75 (some (.iptr cs)) 0=if 0+1≤cs.length then some (.ret (.iptr (cs.drop 0)),[])else none:=Ov (show Ef Tryz.prog 75 0 0 1 from⟨_,_,Tryz.underlying75,rfl,rfl,by kernel_rfl,by decide⟩) cs
theorem aP5(b r o:Nat):fa Tryz.prog 75 (some (.ptr b r o)) 1=some (.ret (.ptr b r (o+1)),[]):=Em (show Ef Tryz.prog 75 1 1 1 from⟨_,_,Tryz.underlying75,rfl,rfl,by kernel_rfl,by decide⟩) b r o
theorem aPC(cs:List AV):fa Tryz.prog 75 (some (.iptr cs)) 1=if 1+1≤cs.length then some (.ret (.iptr (cs.drop 1)),[])else none:=Ov (show Ef Tryz.prog 75 1 1 1 from⟨_,_,Tryz.underlying75,rfl,rfl,by kernel_rfl,by decide⟩) cs
theorem aPU(b r o:Nat):fa Tryz.prog 75 (some (.ptr b r o)) 2=some (.ret (.ptr b r (o+2)),[]):=Em (show Ef Tryz.prog 75 2 2 1 from⟨_,_,Tryz.underlying75,rfl,rfl,by kernel_rfl,by decide⟩) b r o
theorem aN5(cs:List AV):fa Tryz.prog 75 (some (.iptr cs)) 2=if 2+1≤cs.length then some (.ret (.iptr (cs.drop 2)),[])else none:=Ov (show Ef Tryz.prog 75 2 2 1 from⟨_,_,Tryz.underlying75,rfl,rfl,by kernel_rfl,by decide⟩) cs
theorem aHG:Eu Tryz.prog 82=some (.agg [.int .i64 0,.bool false,.int .i64 0,.bool false,.int .i64 0,.bool false,.int .i64 0,.bool false,.int .i64 0,.bool false,.int .i64 0,.bool false,.int .i64 0,.bool false,.int .i64 0,.bool false,.int .i64 0,.bool false,.int .i64 0,.bool false,.int .i64 0,.bool false,.int .i64 0,.bool false]):=by kernel_rfl
theorem aGW(h:Aa)(b r o:Nat)(v:AV):st_ Tryz.prog 82 h (some (.ptr b r o)) (some v)=sv 24 (h[b]?) b r o (Ag v):=Ib (by kernel_rfl) h b r o v
theorem Il(b r o:Nat):fa Tryz.prog 106 (some (.ptr b r o)) 0=some (.ret (.ptr b r (o+0)),[]):=Em (show Ef Tryz.prog 106 0 0 3 from⟨_,_,Tryz.underlying106,rfl,rfl,by kernel_rfl,by decide⟩) b r o
theorem Lo(h:Aa)(b r o:Nat):ld Tryz.prog 82 h (some (.ptr b r o))=ldR (Jk (h[b]?) r) o 24:=aCZ ⟨by kernel_rfl,by kernel_rfl⟩ h b r o
theorem aU9(b r o:Nat):ftL Tryz.prog 82 (some (.ptr b r o))=some [.cells b o 24]:=Kt (isA:=true) (n:=24) (by kernel_rfl) (by kernel_rfl) b r o
theorem Ij(b r o:Nat):fa Tryz.prog 80 (some (.ptr b r o)) 0=some (.ret (.ptr b r (o+0)),[]):=Em (show Ef Tryz.prog 80 0 0 1 from⟨_,_,Tryz.underlying80,rfl,rfl,by kernel_rfl,by decide⟩) b r o
theorem aOD(h:Aa)(b r o:Nat)(v:AV):st_ Tryz.prog 78 h (some (.ptr b r o)) (some v)=sv 1 (h[b]?) b r o (Ag v):=Ib (by kernel_rfl) h b r o v
theorem Ih(h:Aa)(b r o:Nat):ld Tryz.prog 80 h (some (.ptr b r o))=ldR (Jk (h[b]?) r) o 2:=aCZ ⟨by kernel_rfl,by kernel_rfl⟩ h b r o
theorem aUN(b r o:Nat):ftL Tryz.prog 80 (some (.ptr b r o))=some [.cells b o 2]:=Kt (isA:=true) (n:=2) (by kernel_rfl) (by kernel_rfl) b r o
theorem agP{O:Dx}(t:List AV)(h:Aa)(s x:Operand):Di O Tryz.prog t h (.call ⟨.builtin .append,#[s,x],#[50,50]⟩)=apO Tryz.prog 50 h (Ae t s) (Ae t x):=aGF t h s x 50 50 _ Tryz.underlying50
theorem aCT(h:Aa)(s:AV)(a b r l:Nat):apO Tryz.prog 50 h (some s) (some (.slr a b r l))=apK 1 h (some s) (srK 1 h (some (.slr a b r l))):=aDP (e:=3) (b:=8) (z:=.int .i64 0) (by kernel_rfl) (by kernel_rfl) (by kernel_rfl) (by kernel_rfl) (by decide+kernel) h s _ (fun q e=>by cases e)
theorem aVE(h:Aa)(s:AV)  :apO Tryz.prog 50 h (some s) (some .nils)=apK 1 h (some s) (srK 1 h (some .nils)):=aDP (e:=3) (b:=8) (z:=.int .i64 0) (by kernel_rfl) (by kernel_rfl) (by kernel_rfl) (by kernel_rfl) (by decide+kernel) h s _ (fun q e=>by cases e)
theorem Nu(b r o:Nat):fa Tryz.prog 46 (some (.ptr b r o)) 6=some (.ret (.ptr b r (o+6)),[]):=Em (show Ef Tryz.prog 46 6 6 1 from⟨_,_,Tryz.underlying46,rfl,rfl,by kernel_rfl,by decide⟩) b r o
theorem aJU(st b r len:Nat):ln Tryz.prog 50 (some (.slr st b r len))=some (.ret (.int .i64 len),[]):=aFJ (n:=1) ⟨_,Tryz.underlying50,by kernel_rfl⟩ st b r len
theorem aUZ:ln Tryz.prog 50 (some .nils)=some (.ret (.int .i64 0),[]):=aLV (n:=1) ⟨_,Tryz.underlying50,by kernel_rfl⟩
theorem a25:Eu Tryz.prog 50=some (.nils):=by kernel_rfl
theorem aXU(base len:Nat)(ps:List (Nat × AV)):rD (Bj Tryz.prog base 62 len ps)=bsK 1 (.nils) base len ps:=aRQ (e:=50) (by kernel_rfl) (by kernel_rfl) (by kernel_rfl) base len ps
theorem aH1{O:Dx}(t:List AV)(h:Aa)(s x:Operand):Di O Tryz.prog t h (.call ⟨.builtin .append,#[s,x],#[62,62]⟩)=apO Tryz.prog 62 h (Ae t s) (Ae t x):=aGF t h s x 62 62 _ Tryz.underlying62
theorem aWY(h:Aa)(s:AV)(a b r l:Nat):apO Tryz.prog 62 h (some s) (some (.slr a b r l))=apK 1 h (some s) (srK 1 h (some (.slr a b r l))):=aDP (e:=50) (b:=24) (z:=.nils) (by kernel_rfl) (by kernel_rfl) (by kernel_rfl) (by kernel_rfl) (by decide+kernel) h s _ (fun q e=>by cases e)
theorem aLT(b r o:Nat):fa Tryz.prog 106 (some (.ptr b r o)) 1=some (.ret (.ptr b r (o+3)),[]):=Em (show Ef Tryz.prog 106 1 3 1 from⟨_,_,Tryz.underlying106,rfl,rfl,by kernel_rfl,by decide⟩) b r o
theorem aRZ(ps:List (Nat × AV)):agQ Tryz.prog 106 ps=(Jq (fun i=>([(0,3),(3,1)]:List (Nat × Nat))[i]?) (Ag (.agg [.int .i64 0,.int .i64 0,.nils,.int .i64 0])) ps).map .agg:=by kernel_rfl
theorem aR9(h:Aa)(b r o:Nat):ld Tryz.prog 75 h (some (.ptr b r o))=ldR (Jk (h[b]?) r) o 3:=aCZ ⟨by kernel_rfl,by kernel_rfl⟩ h b r o
theorem aGQ(h:Aa)(cs:List AV):ld Tryz.prog 75 h (some (.iptr cs))=if 3≤cs.length then some (.ret (.agg (cs.take 3)),[])else none:=aS6 ⟨by kernel_rfl,by kernel_rfl⟩ h cs
theorem a12(h:Aa)(b r o:Nat)(v:AV):st_ Tryz.prog 75 h (some (.ptr b r o)) (some v)=sv 3 (h[b]?) b r o (Ag v):=Ib (by kernel_rfl) h b r o v
theorem aW6(base len:Nat)(ps:List (Nat × AV)):rD (Bj Tryz.prog base 25 len ps)=bsK 3 (.agg [.int .i64 0,.bool false,.bool false]) base len ps:=aRQ (e:=75) (by kernel_rfl) (by kernel_rfl) (by kernel_rfl) base len ps
theorem Jn(b r o:Nat):fa Tryz.prog 80 (some (.ptr b r o)) 1=some (.ret (.ptr b r (o+1)),[]):=Em (show Ef Tryz.prog 80 1 1 1 from⟨_,_,Tryz.underlying80,rfl,rfl,by kernel_rfl,by decide⟩) b r o
theorem aJR(base len:Nat)(ps:List (Nat × AV)):rD (Bj Tryz.prog base 92 len ps)=bsK 25 (.agg [.int .i64 0,.bool false,.int .i64 0,.bool false,.int .i64 0,.bool false,.int .i64 0,.bool false,.int .i64 0,.bool false,.int .i64 0,.bool false,.int .i64 0,.bool false,.int .i64 0,.bool false,.int .i64 0,.bool false,.int .i64 0,.bool false,.int .i64 0,.bool false,.int .i64 0,.bool false,.int .i64 0]) base len ps:=aRQ (e:=85) (by kernel_rfl) (by kernel_rfl) (by kernel_rfl) base len ps
theorem aV8(st b r len:Nat):ln Tryz.prog 92 (some (.slr st b r len))=some (.ret (.int .i64 len),[]):=aFJ (n:=25) ⟨_,Tryz.underlying92,by kernel_rfl⟩ st b r len
theorem aVB(fl nn:Bool)(rows:List (List AV)):ln Tryz.prog 92 (some (Be 25 fl nn rows))=some (.ret (.int .i64 rows.length),[]):=aK3 ⟨_,Tryz.underlying92,by kernel_rfl⟩ fl nn rows
theorem aX8(b r len:Nat)(k:IntKind)(i:Int):ia Tryz.prog 92 (some (.slr 25 b r len)) (some (.int k i))=if 0≤i∧i<len then some (.ret (.ptr b (r+i.toNat) 0),[])else none:=aB4 ⟨_,Tryz.underlying92,by kernel_rfl⟩ b r len k i
theorem aV6(fl nn:Bool)(rows:List (List AV))(k:IntKind)(i:Int):ia Tryz.prog 92 (some (Be 25 fl nn rows)) (some (.int k i))=if 0≤i then r1 ((rows[i.toNat]?).map .iptr)else none:=aHH ⟨_,Tryz.underlying92,by kernel_rfl⟩ fl nn rows k i
theorem aWS(st b r len:Nat):ln Tryz.prog 91 (some (.slr st b r len))=some (.ret (.int .i64 len),[]):=aFJ (n:=4) ⟨_,Tryz.underlying91,by kernel_rfl⟩ st b r len
theorem aV7:ln Tryz.prog 91 (some .nils)=some (.ret (.int .i64 0),[]):=aLV (n:=4) ⟨_,Tryz.underlying91,by kernel_rfl⟩
theorem aXK(fl nn:Bool)(rows:List (List AV)):ln Tryz.prog 91 (some (Be 4 fl nn rows))=some (.ret (.int .i64 rows.length),[]):=aK3 ⟨_,Tryz.underlying91,by kernel_rfl⟩ fl nn rows
theorem akY(h:Aa)(b r o:Nat):ld Tryz.prog 94 h (some (.ptr b r o))=ldR (Jk (h[b]?) r) o 4:=aCZ ⟨by kernel_rfl,by kernel_rfl⟩ h b r o
theorem aQM(h:Aa)(cs:List AV):ld Tryz.prog 94 h (some (.iptr cs))=if 4≤cs.length then some (.ret (.agg (cs.take 4)),[])else none:=aS6 ⟨by kernel_rfl,by kernel_rfl⟩ h cs
theorem aF7:Eu Tryz.prog 94=some (.agg [.int .i64 0,.int .i64 0,.int .i64 0,.nils]):=by kernel_rfl
theorem aGH(h:Aa)(b r o:Nat)(v:AV):st_ Tryz.prog 94 h (some (.ptr b r o)) (some v)=sv 4 (h[b]?) b r o (Ag v):=Ib (by kernel_rfl) h b r o v
theorem aW0(b r o:Nat):ftS Tryz.prog 94 (some (.ptr b r o))=some [.cells b o 4]:=av5 (by kernel_rfl) b r o
theorem aq8(b r o:Nat):fa Tryz.prog 94 (some (.ptr b r o)) 2=some (.ret (.ptr b r (o+3)),[]):=Em (show Ef Tryz.prog 94 2 3 1 from⟨_,_,Tryz.underlying94,rfl,rfl,by kernel_rfl,by decide⟩) b r o
theorem ay3(h:Aa)(b r o:Nat):ld Tryz.prog 92 h (some (.ptr b r o))=ldC (Jk (h[b]?) r) o:=axN ⟨by kernel_rfl,1,by kernel_rfl⟩ h b r o
theorem aXO(b r o:Nat):ftL Tryz.prog 92 (some (.ptr b r o))=some [.cells b o 1]:=Kt (isA:=false) (n:=1) (by kernel_rfl) (by kernel_rfl) b r o
theorem aw4{O:Dx}(t:List AV)(h:Aa)(s x:Operand):Di O Tryz.prog t h (.call ⟨.builtin .append,#[s,x],#[92,92]⟩)=apO Tryz.prog 92 h (Ae t s) (Ae t x):=aGF t h s x 92 92 _ Tryz.underlying92
theorem aIW(h:Aa)(s:AV)(a b r l:Nat):apO Tryz.prog 92 h (some s) (some (.slr a b r l))=apK 25 h (some s) (srK 25 h (some (.slr a b r l))):=aDP (e:=85) (b:=200) (z:=.agg [.int .i64 0,.bool false,.int .i64 0,.bool false,.int .i64 0,.bool false,.int .i64 0,.bool false,.int .i64 0,.bool false,.int .i64 0,.bool false,.int .i64 0,.bool false,.int .i64 0,.bool false,.int .i64 0,.bool false,.int .i64 0,.bool false,.int .i64 0,.bool false,.int .i64 0,.bool false,.int .i64 0]) (by kernel_rfl) (by kernel_rfl) (by kernel_rfl) (by kernel_rfl) (by decide+kernel) h s _ (fun q e=>by cases e)
theorem aDS(b r o:Nat):fa Tryz.prog 85 (some (.ptr b r o)) 0=some (.ret (.ptr b r (o+0)),[]):=Em (show Ef Tryz.prog 85 0 0 24 from⟨_,_,Tryz.underlying85,rfl,rfl,by kernel_rfl,by decide⟩) b r o
theorem aMK(b r o:Nat):fa Tryz.prog 94 (some (.ptr b r o)) 1=some (.ret (.ptr b r (o+2)),[]):=Em (show Ef Tryz.prog 94 1 2 1 from⟨_,_,Tryz.underlying94,rfl,rfl,by kernel_rfl,by decide⟩) b r o
theorem aIQ(base:Nat)(l c:Option AV):msO Tryz.prog 50 base l c=msK 1 (.int .i64 0) base l c:=bjC (e:=3) (n:=1) (b:=8) (by kernel_rfl) (by kernel_rfl) (by kernel_rfl) (by kernel_rfl) (by decide+kernel) base l c
theorem aR2(base len:Nat)(ps:List (Nat × AV)):rD (Bj Tryz.prog base 100 len ps)=bsK 2 (.agg [.int .i64 0,.int .i64 0]) base len ps:=aRQ (e:=36) (by kernel_rfl) (by kernel_rfl) (by kernel_rfl) base len ps
theorem aD4{O:Dx}(t:List AV)(h:Aa)(s x:Operand):Di O Tryz.prog t h (.call ⟨.builtin .append,#[s,x],#[100,100]⟩)=apO Tryz.prog 100 h (Ae t s) (Ae t x):=aGF t h s x 100 100 _ Tryz.underlying100
theorem aQ2(h:Aa)(s:AV)(a b r l:Nat):apO Tryz.prog 100 h (some s) (some (.slr a b r l))=apK 2 h (some s) (srK 2 h (some (.slr a b r l))):=aDP (e:=36) (b:=16) (z:=.agg [.int .i64 0,.int .i64 0]) (by kernel_rfl) (by kernel_rfl) (by kernel_rfl) (by kernel_rfl) (by decide+kernel) h s _ (fun q e=>by cases e)
theorem fN(h:Aa)(b r o:Nat):ld Tryz.prog 78 h (some (.ptr b r o))=ldC (Jk (h[b]?) r) o:=axN ⟨by kernel_rfl,1,by kernel_rfl⟩ h b r o
theorem aAP(h:Aa)(b r o:Nat)(v:AV):st_ Tryz.prog 50 h (some (.ptr b r o)) (some v)=sv 1 (h[b]?) b r o (Ag v):=Ib (by kernel_rfl) h b r o v
theorem aSO(ps:List (Nat × AV)):agQ Tryz.prog 128 ps=(Jq (fun i=>([(0,1)]:List (Nat × Nat))[i]?) (Ag (.agg [.nils])) ps).map .agg:=by kernel_rfl
theorem aVR:Eu Tryz.prog 126=some (.nilp):=by kernel_rfl
theorem aVL(h:Aa)(b r o:Nat)(v:AV):st_ Tryz.prog 126 h (some (.ptr b r o)) (some v)=sv 1 (h[b]?) b r o (Ag v):=Ib (by kernel_rfl) h b r o v
theorem aMA(h:Aa)(b r o:Nat):ld Tryz.prog 126 h (some (.ptr b r o))=ldC (Jk (h[b]?) r) o:=axN ⟨by kernel_rfl,1,by kernel_rfl⟩ h b r o
theorem aMN(b r o:Nat):fa Tryz.prog 85 (some (.ptr b r o)) 1=some (.ret (.ptr b r (o+24)),[]):=Em (show Ef Tryz.prog 85 1 24 1 from⟨_,_,Tryz.underlying85,rfl,rfl,by kernel_rfl,by decide⟩) b r o
theorem aWA(ps:List (Nat × AV)):agQ Tryz.prog 94 ps=(Jq (fun i=>([(0,2),(2,1),(3,1)]:List (Nat × Nat))[i]?) (Ag (.agg [.int .i64 0,.int .i64 0,.int .i64 0,.nils])) ps).map .agg:=by kernel_rfl
theorem aZ2(h:Aa)(b r o:Nat)(v:AV):st_ Tryz.prog 92 h (some (.ptr b r o)) (some v)=sv 1 (h[b]?) b r o (Ag v):=Ib (by kernel_rfl) h b r o v
theorem aW4(b r o:Nat):ftS Tryz.prog 92 (some (.ptr b r o))=some [.cells b o 1]:=av5 (by kernel_rfl) b r o
theorem aXJ(base len:Nat)(ps:List (Nat × AV)):rD (Bj Tryz.prog base 91 len ps)=bsK 4 (.agg [.int .i64 0,.int .i64 0,.int .i64 0,.nils]) base len ps:=aRQ (e:=94) (by kernel_rfl) (by kernel_rfl) (by kernel_rfl) base len ps
theorem aH5{O:Dx}(t:List AV)(h:Aa)(s x:Operand):Di O Tryz.prog t h (.call ⟨.builtin .append,#[s,x],#[91,91]⟩)=apO Tryz.prog 91 h (Ae t s) (Ae t x):=aGF t h s x 91 91 _ Tryz.underlying91
theorem aXQ(h:Aa)(s:AV)(a b r l:Nat):apO Tryz.prog 91 h (some s) (some (.slr a b r l))=apK 4 h (some s) (srK 4 h (some (.slr a b r l))):=aDP (e:=94) (b:=48) (z:=.agg [.int .i64 0,.int .i64 0,.int .i64 0,.nils]) (by kernel_rfl) (by kernel_rfl) (by kernel_rfl) (by kernel_rfl) (by decide+kernel) h s _ (fun q e=>by cases e)
theorem ai4(h:Aa)(b r o:Nat)(v:AV):st_ Tryz.prog 80 h (some (.ptr b r o)) (some v)=sv 2 (h[b]?) b r o (Ag v):=Ib (by kernel_rfl) h b r o v
theorem aX0(b r o:Nat):ftS Tryz.prog 80 (some (.ptr b r o))=some [.cells b o 2]:=av5 (by kernel_rfl) b r o
theorem ak0(b r o:Nat):fa Tryz.prog 128 (some (.ptr b r o)) 0=some (.ret (.ptr b r (o+0)),[]):=Em (show Ef Tryz.prog 128 0 0 1 from⟨_,_,Tryz.underlying128,rfl,rfl,by kernel_rfl,by decide⟩) b r o
theorem atY:Eu Tryz.prog 80=some (.agg [.int .i64 0,.bool false]):=by kernel_rfl
theorem aVW(base len:Nat)(ps:List (Nat × AV)):rD (Bj Tryz.prog base 49 len ps)=bsK 1 (.bool false) base len ps:=aRQ (e:=4) (by kernel_rfl) (by kernel_rfl) (by kernel_rfl) base len ps
theorem aIB{O:Dx}(t:List AV)(h:Aa)(s x:Operand):Di O Tryz.prog t h (.call ⟨.builtin .append,#[s,x],#[49,49]⟩)=apO Tryz.prog 49 h (Ae t s) (Ae t x):=aGF t h s x 49 49 _ Tryz.underlying49
theorem aV4(h:Aa)(s:AV)(a b r l:Nat):apO Tryz.prog 49 h (some s) (some (.slr a b r l))=apK 1 h (some s) (srK 1 h (some (.slr a b r l))):=aDP (e:=4) (b:=1) (z:=.bool false) (by kernel_rfl) (by kernel_rfl) (by kernel_rfl) (by kernel_rfl) (by decide+kernel) h s _ (fun q e=>by cases e)
theorem awH(ps:List (Nat × AV)):agQ Tryz.prog 80 ps=(Jq (fun i=>([(0,1),(1,1)]:List (Nat × Nat))[i]?) (Ag (.agg [.int .i64 0,.bool false])) ps).map .agg:=by kernel_rfl
def TY3:=PLift.up (abK @Dj (abK @Pe (abK @Av (abK @Bd @Df))))
def TY9:=PLift.up (abK @Av (abK @Bd @Df))
def aQO:=PLift.up (abK @Av (abK @Bd (abK @Df @Dj)))
def aV9:=PLift.up (abK @Av (abK @Bd (abK @Df (abK @Dj (abK @a4N (abK @aY2 @azX))))))
def bo4:=PLift.up (abK @Dj (abK @aGS @aFR))
def aXG:=PLift.up (abK @Pe @Dj)
def aKL:=PLift.up (abK @Lt (abK @aGS (abK @Dj (abK @awK (abK @aCI (abK @aFR (abK @arZ (abK @arA (abK @aUY (abK @aE2 (abK @aHB (abK @aJ2 (abK @Lq (abK @Ln @Bn))))))))))))))
def aO5:=PLift.up (abK @Nb (abK @Bn (abK @adP (abK @Av (abK @Bd (abK @Df (abK @Ez (abK @Fh (abK @Nh (abK @Kq (abK @atT (abK @auG (abK @Hv (abK @Gt (abK @acM (abK @Jp (abK @Nl (abK @ao1 @atH))))))))))))))))))
def bpU:=PLift.up (abK @Av (abK @Bd @Df))
def boU:=PLift.up (abK @Dj (abK @arZ (abK @arA (abK @Av (abK @Bd (abK @axO (abK @aI2 (abK @aMZ (abK @Jf (abK @aJT @Kq))))))))))
def aNL:=PLift.up (abK @Pe (abK @Av (abK @Bd (abK @aJZ (abK @av3 (abK @aq6 (abK @Pg (abK @Ez (abK @Jf (abK @Fh (abK @Nh (abK @Kq (abK @aWC (abK @Hv (abK @Gt (abK @ajM (abK @aPC @aN5)))))))))))))))))
def aMB:=PLift.up (abK @Pe (abK @Dj (abK @av3 (abK @aq6 @Pg))))
def bnW:=PLift.up (abK @Dj (abK @awK @aRZ))
def aON:=PLift.up (abK @Pe (abK @av3 (abK @aGQ (abK @a4Q (abK @a12 (abK @aDR (abK @aq6 (abK @Bn (abK @Pg (abK @Av (abK @Bd @Df)))))))))))
def bjO:=PLift.up (abK @aJV (abK @aGC (abK @aFU @azP)))
def aII:=PLift.up (abK @Pe (abK @av3 @aGQ))
def boZ:=PLift.up (abK @azX (abK @aR9 @aW6))
def a6K:=PLift.up (abK @Lo (abK @aHG (abK @Il (abK @Av (abK @Bd (abK @Df (abK @Ez (abK @Fh (abK @Nh (abK @Kq (abK @Hv (abK @Gt (abK @Jn (abK @aEC (abK @Nu (abK @Ij (abK @aOD (abK @aLT (abK @Bn (abK @Jp (abK @Nl @aGW)))))))))))))))))))))
def Jw:=PLift.up (abK @azP (abK @aW1 (abK @aGC (abK @aJR (abK @a5E (abK @aZS (abK @aV8 (abK @aX8 (abK @aFU (abK @aWS (abK @aV7 (abK @aVY (abK @akY (abK @aF7 (abK @aGH (abK @aq8 (abK @ay3 (abK @aGR (abK @aUP (abK @aw4 (abK @aIW (abK @aDS @Lo))))))))))))))))))))))
def a55:=PLift.up (abK @aq8 (abK @ay3 (abK @aVB (abK @aV6 (abK @azP (abK @aQY (abK @aGC (abK @aFU (abK @aMK @Bn)))))))))
def Jx:=PLift.up (abK @Av (abK @Bd (abK @aVZ (abK @aIQ (abK @Ln (abK @aAX (abK @Dj (abK @arZ (abK @arA (abK @aXU (abK @aH1 (abK @aWY (abK @aJ2 (abK @Lq (abK @Bn (abK @aE2 (abK @aHB @Lt)))))))))))))))))
def a2D:=PLift.up (abK @Dj (abK @arZ (abK @arA (abK @Av (abK @Bd (abK @aJZ (abK @axO (abK @aI2 (abK @aMZ (abK @aXZ (abK @aJT (abK @Hv (abK @aEC (abK @Nu (abK @Jp (abK @aAX (abK @a4H @Nl)))))))))))))))))
def a1L:=PLift.up (abK @Av (abK @Bd (abK @Df (abK @Ez (abK @Fh (abK @aq7 @ajM))))))
def aMP:=PLift.up (abK @Av (abK @Bd (abK @Df (abK @aCI (abK @aR2 (abK @aD4 @aQ2))))))
def aIA:=PLift.up (abK @Dj (abK @awK (abK @Lt (abK @aJ6 (abK @aWT (abK @aSD (abK @aWX (abK @Pg (abK @Hw @Jj)))))))))
def bjE:=PLift.up (abK @Lo (abK @Ln (abK @Bn (abK @Il (abK @Av (abK @Bd @Df))))))
def bpN:=PLift.up (abK @Nu (abK @Gt (abK @Jp (abK @Bn @Nl))))
def bo6:=PLift.up (abK @Ij (abK @fN (abK @Jn @Gt)))
def bbO:=PLift.up (abK @acM (abK @Gt (abK @Jn (abK @Ij @fN))))
def bhY:=PLift.up (abK @Il (abK @adP (abK @Bn (abK @Lo (abK @Hw (abK @Jj (abK @aHG (abK @aGW (abK @Jr (abK @Ij (abK @aOD @Lt)))))))))))
def bpO:=PLift.up (abK @ao1 (abK @Bn @atH))
def aoU:=PLift.up (abK @Il (abK @Nb (abK @Bn (abK @a92 (abK @aIQ (abK @a25 (abK @aAP (abK @Lq (abK @aJU (abK @Ln (abK @aAX (abK @aSO (abK @aVR (abK @aVL (abK @aMA @Ih)))))))))))))))
def bp9:=PLift.up (abK @Nb (abK @Bn (abK @adP (abK @Av (abK @Bd @Df)))))
def aFA:=PLift.up (abK @Il (abK @Av (abK @Bd (abK @Df (abK @Ez (abK @Jf (abK @Fh (abK @aWB (abK @Nh (abK @Kq (abK @aCI (abK @aGS (abK @aFR (abK @aDS (abK @Ih (abK @Lo (abK @aU9 (abK @Lt (abK @aJ6 (abK @aMN (abK @Bn (abK @aNX (abK @aJV (abK @aJR (abK @aWA (abK @aF7 (abK @aGH (abK @aW0 (abK @aq8 (abK @ay3 (abK @aXO (abK @aw4 (abK @aIW (abK @aZ2 (abK @aW4 (abK @akY (abK @aXJ (abK @aH5 @aXQ))))))))))))))))))))))))))))))))))))))
def a94:=PLift.up (abK @aXK (abK @aWN (abK @akY (abK @aQM (abK @aF7 @aGH)))))
def bpX:=PLift.up (abK @akY @aGR)
def aRJ:=PLift.up (abK @Av (abK @Bd (abK @Df (abK @Ez (abK @aq7 (abK @ajM @aNK))))))
def a93:=PLift.up (abK @Av (abK @Bd (abK @Jr (abK @Bn (abK @Ez (abK @Jf (abK @Fh (abK @Nh (abK @Kq (abK @Hw (abK @Jj (abK @acM (abK @Gt @Hv)))))))))))))
def a0R:=PLift.up (abK @adP (abK @Bn (abK @Dj (abK @Hw (abK @Jj (abK @Av (abK @Bd (abK @Jr (abK @aXT (abK @Jf (abK @Fh (abK @Nh (abK @Kq (abK @Nu (abK @aEC @Lt)))))))))))))))
def aY6:=PLift.up (abK @Dj (abK @arZ (abK @Av (abK @Bd (abK @Jr (abK @Bn (abK @Ez (abK @Jf (abK @Fh (abK @Nh (abK @Kq (abK @Hw (abK @Jj (abK @Hv (abK @aEC (abK @Jp (abK @aAX (abK @Nu @arA))))))))))))))))))
def bpZ:=PLift.up (abK @Hw (abK @Jj (abK @Av (abK @Bd (abK @Jr (abK @Bn (abK @Pg (abK @Ez (abK @aMR @aOJ)))))))))
def a71:=PLift.up (abK @Lo (abK @aHG (abK @Jr (abK @Bn (abK @aNX (abK @Hw (abK @Jj (abK @aXA (abK @Ih (abK @aUN (abK @ai4 (abK @aX0 @aGW))))))))))))
def a8K:=PLift.up (abK @ak0 (abK @Lq (abK @aCU (abK @agP (abK @aCT @aAP)))))
def a9O:=PLift.up (abK @ak0 (abK @Lq (abK @aJU (abK @aUZ (abK @Ln (abK @Bn @aAP))))))
def aX5:=PLift.up (abK @aCU (abK @ak0 (abK @Lq (abK @agP (abK @aCT (abK @aVE @aAP))))))
def bpL:=PLift.up (abK @Jf (abK @Nb @Bn))
def bo5:=PLift.up (abK @atT (abK @Bn (abK @auG (abK @acM (abK @Gt (abK @Hv (abK @Jp (abK @Nl (abK @ao1 @atH)))))))))
def a6R:=PLift.up (abK @aDR (abK @Bn (abK @Ih (abK @atY (abK @ai4 (abK @Jn (abK @Gt (abK @aP5 (abK @aPU (abK @Ij @fN))))))))))
def bp4:=PLift.up (abK @Dj @awK)
def aW2:=PLift.up (abK @azX (abK @Il (abK @Av (abK @Bd (abK @Df (abK @Ez (abK @Fh (abK @Nh (abK @Kq (abK @Bn (abK @atT @auG)))))))))))
def aMQ:=PLift.up (abK @Df (abK @Ez @Fh))
def bbT:=PLift.up (abK @Dj (abK @Ln (abK @Bn (abK @Av (abK @Bd @Df)))))
def aO3:=PLift.up (abK @Av (abK @Bd (abK @Df (abK @Ez (abK @Fh (abK @aq7 (abK @ajM (abK @aVW (abK @aIB @aV4)))))))))
def bjU:=PLift.up (abK @Ih (abK @atY (abK @Ij (abK @fN (abK @awH @ai4)))))
def biU:=PLift.up (abK @Ih (abK @atY (abK @Ij (abK @fN (abK @awH @ai4)))))
def bn1:=PLift.up (abK @Ih (abK @atY (abK @Jn (abK @Gt (abK @awH @ai4)))))
def biW:=PLift.up (abK @Ih (abK @atY (abK @Jn (abK @Gt (abK @awH @ai4)))))
def ao0:=PLift.up (abK @aCU (abK @Nb (abK @Bn (abK @Pg (abK @agP (abK @aCT (abK @Av (abK @Bd (abK @Df (abK @Ez (abK @aOE (abK @aPW (abK @aWP (abK @ajM (abK @Ln @aAX)))))))))))))))
end Go.Proofs.YtcncggaobhbomaaGreatDoor
namespace Go.Proofs.YtcncggaobhbomaaGreatDoor
open Go Go.Ev Go.ChangeShapes Go.WideShapes Go.ChangeAt Go.RowKit
set_option maxRecDepth 100000
set_option maxHeartbeats 16000000
def mdL:List Nat:=[60,75,79,76,80,65,41]
def pr:Me:=aLM 63 86 60 (mdL.contains ·)
noncomputable def Dp:Dx:=om Tryz.prog pr
theorem bn0(f:Nat):Dp.md f=([60,75,79,76,80,65,41]:List Nat).contains f:=Eq.trans rfl rfl
def Va:=PLift.up (abK EE.down EVu.down)
def Vc:=PLift.up (abK EG.down (abK EVu.down @bn0))
theorem own:ownKnob Tryz.prog.godebug=none:=by kernel_rfl
theorem a68:aVI Tryz.prog:=fun f fn hf=>by
 have h:(Tryz.prog.funcs.toList.all fun fn=> !(fn.name== "runtime.NumGoroutine"))=true:=by kernel_rfl
 have:=List.all_eq_true.1 h fn (by rw[Array.mem_toList_iff];exact Array.mem_of_getElem? hf)
 simpa using this
theorem mixed:Tryz.prog.follows .mixedOrders=true:=by kernel_rfl
theorem a9K:laidOutB Tryz.prog=true:=by kernel_rfl
def laid:List (String × DataW Unit):=[("math/bits.deBruijn32tab",Rows.laid_math_bits_deBruijn32tab),("math/bits.deBruijn64tab",Rows.laid_math_bits_deBruijn64tab),("internal/strconv.uint64pow10",Rows.laid_internal_strconv_uint64pow10)]
theorem bkE:Tryz.prog.globalNamed "internal/strconv.uint64pow10" =some 0:=by kernel_rfl
theorem tab{W:World}(h:laidMetH Tryz.prog laid W):Lib.TabIs Tryz.prog W "internal/strconv.uint64pow10" .u64 Lib.pow10Tab:=by
 rw[MakeChecks.laidMetH_plain _ _ _ (by kernel_rfl)]at h
 obtain⟨ps,h,_⟩:=h
 exact aBD (t:=192) (e:=158) (n:=20) bkE (by kernel_rfl) (by kernel_rfl) (by kernel_rfl) (by kernel_rfl) (by kernel_rfl) h (by
  have e:(Lib.tabData .u64 Lib.pow10Tab:DataW Unit)=Rows.laid_internal_strconv_uint64pow10:=rfl
  rw[e];simp[laid])
theorem aZA{W:World}(h:laidMetH Tryz.prog laid W):Gf Tryz.prog (aY4 W 0) Dp:=
 bmE a68 (aUX (ba3 (aGD a68 Tryz.func63 rfl) (aY7 bkE (tab h)) (fun n w h0 h1 ht=>Tryz.strconv_Itoa n h0 h1 w ht)) (a74 (aGD a68 Tryz.func86 rfl) Tryz.strings_Join_none Tryz.strings_Join) (a54 (aGD a68 Tryz.func60 rfl) Tryz.slices_Sort_int)) mixed
theorem a2S(os:Os)(args:Array Value):laidMetH Tryz.prog laid ((World.doorLaid Tryz.prog 400 os).forCall (fun _ _=>0) ⟨#[],args,[]⟩).memory:=
 laidMetH_of_parts3 (fuel:=8) (laidMet_of_run' 8 (by kernel_rfl) (by kernel_rfl)) (by kernel_rfl) (by kernel_rfl)
theorem a9I{f:Nat}{fn:Func}{c:Code}{args:List AV}{h:Aa}{Q:Dt→Aa→Prop}(hp:pr f=none)(hf:Tryz.prog.funcs[f]?=some fn)(hb:fn.body=some c)(hl:agI args.length fn.ntmps=true)
 (he:FnE Tryz.prog h.length fn.results.toList Q (Cd Dp Tryz.prog 5000 c [] ⟨mk fn.ntmps (Lx args),h⟩)):ClQ Dp f args h Q:=ClQ.start (pr:=pr) hp hf hb hl he
theorem aRM{f:Nat}{fn:Func}{c:Code}{args:List AV}{h:Aa}{Q:Dt→Aa→Prop}(hp:pr f=none)(hf:Tryz.prog.funcs[f]?=some fn)(hb:fn.body=some c)(hl:agI args.length fn.ntmps=true)
 (he:FnS Tryz.prog fn.results.toList Q (Cd Dp Tryz.prog 5000 c [] ⟨mk fn.ntmps (Lx args),h⟩))  (hs:pr.sh f=none:=by exact rfl):ShQ Dp f args h Q:=ShQ.start (pr:=pr) hp hf hb hl he hs
theorem ce{f:Nat}{fn:Func}{c:Code}{args:List AV}{h:Aa}{o:Dt}{h':Aa}(hf:Tryz.prog.funcs[f]?=some fn)(he:FnE Tryz.prog h.length fn.results.toList (fun o1 h1=>(o1,h1)=(o,h')) (Cd Dp Tryz.prog 5000 c [] ⟨mk fn.ntmps (Lx args),h⟩))(hp:pr f=none:=by exact rfl)(hb:fn.body=some c:=by exact rfl)(hl:agI args.length fn.ntmps=true:=by exact rfl):Dp.call (.fn f) args h=some (o,h'):=(a9I hp hf hb hl he).eq
theorem csh{f:Nat}{fn:Func}{c:Code}{args:List AV}{h:Aa}{o:Dt}{h':Aa}(hf:Tryz.prog.funcs[f]?=some fn)(he:FnS Tryz.prog fn.results.toList (fun o1 h1=>(o1,h1)=(o,h')) (Cd Dp Tryz.prog 5000 c [] ⟨mk fn.ntmps (Lx args),h⟩))(hp:pr f=none:=by exact rfl)(hb:fn.body=some c:=by exact rfl)(hl:agI args.length fn.ntmps=true:=by exact rfl)(hs:pr.sh f=none:=by exact rfl):Dp.call (.sh f) args h=some (o,h'):=(aRM hp hf hb hl he hs).eq
theorem lst{α σ ρ:Type}{c:Code}(N:Nat)(l:List α)(E:Nat→σ→Tm→Aa→Prop)(F:List α→σ→ρ)(Q:ρ→Ex→Tm→Aa→Prop)
 (stop:∀s t h Q',(∀e t h,Q (F [] s) e t h→Q' e ⟨mk N t,h⟩)→E l.length s t h→Rnd N (fun _ _=>False) Q' (Cd Dp Tryz.prog 5000 c [] ⟨mk N t,h⟩))
 (go:∀x rest i s t h J Q',(∀t' h' s',E (i+1) s' t' h'→F rest s'=F (x::rest) s→J t' h')→(∀e t h,Q (F (x::rest) s) e t h→Q' e ⟨mk N t,h⟩)→l[i]?=some x→i<l.length→E i s t h→
   Rnd N J Q' (Cd Dp Tryz.prog 5000 c [] ⟨mk N t,h⟩)):
 ∀s t h,E 0 s t h→LpQ Dp c ⟨mk N t,h⟩ (Ot N (Q (F l s))):=aXX (pr:=pr) rfl N l E F Q stop go
theorem cnt{σ ρ:Type}{c:Code}(N:Nat)(E:Nat→σ→Tm→Aa→Prop)(F:Nat→σ→ρ)(Q:ρ→Ex→Tm→Aa→Prop)
 (stop:∀s t h Q',(∀e t h,Q (F 0 s) e t h→Q' e ⟨mk N t,h⟩)→E 0 s t h→Rnd N (fun _ _=>False) Q' (Cd Dp Tryz.prog 5000 c [] ⟨mk N t,h⟩))
 (go:∀n s t h J Q',(∀t' h' s',E n s' t' h'→F n s'=F (n+1) s→J t' h')→(∀e t h,Q (F (n+1) s) e t h→Q' e ⟨mk N t,h⟩)→E (n+1) s t h→Rnd N J Q' (Cd Dp Tryz.prog 5000 c [] ⟨mk N t,h⟩)):
 ∀n s t h,E n s t h→LpQ Dp c ⟨mk N t,h⟩ (Ot N (Q (F n s))):=aY5 (pr:=pr) rfl N E F Q stop go
theorem Ai{h:Aa}{b:Nat}{c:CB}(h0:h[b]?=some c)(l:Aa):(h++l)[b]?=some c:=by
 rw[aoW (abX.1 h0).1];exact h0
end Go.Proofs.YtcncggaobhbomaaGreatDoor
namespace Go.Proofs.YtcncggaobhbomaaGreatDoor
open Go.Ev Go
set_option maxRecDepth 100000
set_option maxHeartbeats 16000000
structure Ab where
 one:Int
 other:Int
 valve:Bool
 opn:Bool
 tested:Int
 valid:Int
 bad:Bool
 test:Int
 change:Int
def Ab.cells(p:Ab):List AV:=[.int .i64 p.one,.int .i64 p.other,.bool p.valve,.bool p.opn,.int .i64 p.tested,.int .i64 p.valid,.bool p.bad,.int .i64 p.test,.int .i64 p.change]
structure Af where
 rooms:Int
 need:Int
 nn:Bool
 parts:List Ab
abbrev Af.cells(w:Af):List AV:=[.int .i64 w.rooms,.int .i64 w.need,Be 9 true w.nn (w.parts.map Ab.cells)]
theorem aKR{α:Type}{f:α→List AV}{p:List AV→Prop}{q:α→Prop}(hf:∀r,p r→∃x,r=f x∧q x):∀{rows:List (List AV)},(∀r∈rows,p r)→∃l:List α,rows=l.map f∧∀x∈l,q x
 | [],_=>⟨[],rfl,fun x hx=>by simp at hx⟩
 |r::rows,h=>by
  obtain⟨x,rfl,hx⟩:=hf r (h r (List.mem_cons_self ..))
  obtain⟨l,rfl,hl⟩:=aKR hf (fun r hr=>h r (List.mem_cons_of_mem _ hr))
  exact⟨x::l,rfl,fun y hy=>by
   rcases List.mem_cons.1 hy with rfl|hy
   ·exact hx
   ·exact hl y hy⟩
def i64(n:Int):Prop:= -9223372036854775808≤n∧n≤9223372036854775807
theorem ae2{n:Nat}{r:List AV}(h:Ty Tryz.prog (n+1) 3 r):∃x,r=[.int .i64 x]∧i64 x:=by
 simp only[Ty,Tryz.underlying3]at h
 obtain⟨x,rfl,h1,h2⟩:=h
 exact⟨x,rfl,h1,h2⟩
theorem aA9{n:Nat}{r:List AV}(h:Ty Tryz.prog (n+1) 4 r):∃x,r=[.bool x]:=by
 simp only[Ty,Tryz.underlying4]at h
 exact h
def Ab.fits(p:Ab):Prop:=i64 p.one∧i64 p.other∧i64 p.tested∧i64 p.valid∧i64 p.test∧i64 p.change
theorem a9A{n:Nat}{r:List AV}(h:Ty Tryz.prog (n+2) 46 r):∃x:Ab,r=x.cells∧x.fits:=by
 unfold Ty at h
 simp only[Tryz.underlying46,aX7]at h
 obtain⟨a0,b0,rfl,h0,a1,b1,rfl,h1,a2,b2,rfl,h2,a3,b3,rfl,h3,a4,b4,rfl,h4,a5,b5,rfl,h5,a6,b6,rfl,h6,a7,b7,rfl,h7,a8,b8,rfl,h8,rfl⟩:=h
 obtain⟨x0,rfl,k0⟩:=ae2 h0
 obtain⟨x1,rfl,k1⟩:=ae2 h1
 obtain⟨x2,rfl⟩:=aA9 h2
 obtain⟨x3,rfl⟩:=aA9 h3
 obtain⟨x4,rfl,k4⟩:=ae2 h4
 obtain⟨x5,rfl,k5⟩:=ae2 h5
 obtain⟨x6,rfl⟩:=aA9 h6
 obtain⟨x7,rfl,k7⟩:=ae2 h7
 obtain⟨x8,rfl,k8⟩:=ae2 h8
 exact⟨⟨x0,x1,x2,x3,x4,x5,x6,x7,x8⟩,rfl,k0,k1,k4,k5,k7,k8⟩
structure Af.small(w:Af):Prop where
 parts:w.parts.length≤maxLen
 fits:∀p∈w.parts,p.fits
 rooms:i64 w.rooms
 need:i64 w.need
theorem bbA{n:Nat}{r:List AV}(h:Ty Tryz.prog (n+4) 24 r):∃w:Af,r=w.cells∧w.small:=by
 unfold Ty at h
 simp only[Tryz.underlying24,aX7]at h
 obtain⟨a0,b0,rfl,h0,a1,b1,rfl,h1,a2,b2,rfl,h2,rfl⟩:=h
 obtain⟨x0,rfl,k0⟩:=ae2 h0
 obtain⟨x1,rfl,k1⟩:=ae2 h1
 unfold Ty at h2
 simp only[Tryz.underlying22]at h2
 obtain⟨n2,rows2,rfl,hl2,hrows2⟩:=h2
 obtain⟨l2,rfl,hm⟩:=aKR (fun r hr=>a9A hr) hrows2
 have e2:Tryz.prog.cellsOf 46=9:=by kernel_rfl
 have f2:flT Tryz.prog (n+2) 46=true:=by
  simp only[flT,Tryz.underlying46,Tryz.underlying3,Tryz.underlying4];rfl
 rw[e2,f2]
 exact⟨⟨x0,x1,n2,l2⟩,rfl,by simpa using hl2,hm,k0,k1⟩
theorem a6C{av:AV}(h:TyV Tryz.prog 7 24 av):∃w:Af,av=.agg w.cells∧w.small:=by
 unfold TyV at h
 simp only[Tryz.underlying24]at h
 obtain⟨cs,rfl,h⟩:=h
 obtain⟨s,rfl,hs⟩:=bbA h
 exact⟨s,rfl,hs⟩
theorem bdH{av:AV}(h:TyV Tryz.prog 7 3 av):∃x,av=.int .i64 x∧i64 x:=by
 unfold TyV at h
 simp only[Tryz.underlying3]at h
 obtain⟨x,hx,hi⟩:=ae2 h
 simp only[List.cons.injEq,and_true]at hx
 exact⟨x,hx,hi⟩
end Go.Proofs.YtcncggaobhbomaaGreatDoor
namespace Go.Proofs.YtcncggaobhbomaaGreatDoor
open Go.Ev Go Go.Ev.Net
set_option maxRecDepth 100000
set_option maxHeartbeats 16000000
def La(x lo hi:Int):Bool:=decide (lo≤x)&&decide (x≤hi)
theorem aLY(x lo hi:Int):Dp.call (.fn 50) [.int .i64 x,.int .i64 lo,.int .i64 hi] []=some (.ret (.bool (La x lo hi)),[]):=by
 (refine ce Tryz.func50 ?_;simp only[Tryz.f50];(have hb:=trivial;with_reducible repeat' (first|simp only[hb,Va.down,seval]|refine An ?_ ?_<;>intro hb|refine fd ?_|fail)))
 all_goals simp[La, *]
theorem aFK(x lo hi:Int):Dp.call (.fn 39) [.int .i64 x,.int .i64 lo,.int .i64 hi] []=some (.ret (.bool (La x lo hi)),[]):=by
 (refine ce Tryz.func39 ?_;simp only[Tryz.f39];(have hb:=trivial;with_reducible repeat' (first|simp only[hb,Va.down,seval]|refine An ?_ ?_<;>intro hb|refine fd ?_|fail)))
 all_goals simp[La, *]
def awX(d:Int):Bool:=La d 0 5000
theorem a4G(d:Int):Dp.call (.fn 18) [.int .i64 d] []=some (.ret (.bool (awX d)),[]):=by
 (refine ce Tryz.func18 ?_;simp only[Tryz.f18];(have hb:=trivial;with_reducible repeat' (first|simp only[hb,Va.down,seval,aLY]|refine An ?_ ?_<;>intro hb|refine fd ?_|fail)))
 rfl
def Au(p:Ab)(d:Int):Int:=if p.bad=true then 2 else if IntKind.i64.wrap (p.tested+p.valid)<d then 1 else 0
def ay4(p:Ab)(d:Int):Bool:=Au p d==0&& !p.opn
theorem acP(p:Ab)(d:Int):Dp.call (.fn 52) [.agg [.int .i64 p.one,.int .i64 p.other,.bool p.valve,.bool p.opn,.int .i64 p.tested,.int .i64 p.valid,.bool p.bad,.int .i64 p.test,.int .i64 p.change],.int .i64 d] []=some (.ret (.int .i64 (Au p d)),[]):=by
 (refine ce Tryz.func52 ?_;simp only[Tryz.f52];(have hb:=trivial;with_reducible repeat' (first|simp only[hb,Va.down,seval,bpN.down]|refine An ?_ ?_<;>intro hb|refine fd ?_|fail)))
 all_goals simp_all[Au]
def bvv(b:Bool):List AV:=[.bool b]
def Kz(n:Nat):List AV:=[.int .i64 (n:Int)]
def aoZ(w:Af)(d:Int):List Bool:=w.parts.map fun p=>ay4 p d
theorem Io{h:Aa}{b:Nat}(hb:b<h.length)(l:Aa)(c:CB):(h++l).set b c=h.set b c++l:=List.set_append_left _ _ hb
theorem As{h:Aa}{b:Nat}{c:CB}(e:h[b]?=some c):b<h.length:=(abX.1 e).1
theorem Ht{h:Aa}{b:Nat}(c:CB)(l:Aa):(h.set b c++l)[h.length]?=l[0]?:=by
 rw[awN (by simp)];simp
theorem Gg{h:Aa}{b:Nat}(c:CB)(l:Aa)(k:Nat):(h.set b c++l)[h.length+k]?=l[k]?:=by
 rw[awN (by simp)];simp
theorem aEH{h:Aa}{b b':Nat}{x:CB}(c:CB)(hne:b≠b')(hb:h[b']?=some x)(l:Aa):(h.set b c++l)[b']?=some x:=by
 have hlt:b'<h.length:=(abX.1 hb).1
 rw[aoW (by simpa using hlt),ah1 hne];exact hb
def bcA(v:AV)(i:Nat)(rows:List (List AV))(h:Aa):Prop:=(i=0∧v=.nils)∨(0<i∧∃b,0<b∧v=.slr 1 b 0 i∧h[b]?=some (.live 1 true false rows))
theorem a95(w:Af)(d:Int)(hs:w.parts.length≤1000)(hne:w.parts≠[]):Dp.call (.fn 111) [.agg [.int .i64 w.rooms,.int .i64 w.need,Be 9 true w.nn (w.parts.map Ab.cells)],.int .i64 d] []=some (.ret (.slr 1 0 0 w.parts.length),[.live 1 true false ((aoZ w d).map bvv)]):=by
 (refine ce Tryz.func111 ?_;simp only[Tryz.f111];(have hb:=trivial;with_reducible repeat' (first|simp only[hb,Va.down,seval,aO3.down,abL]|refine An ?_ ?_<;>intro hb|refine fd ?_|fail)))
 refine Dy (lst 35 w.parts (fun i (zz:List Bool) t h=>t 1=.int .i64 d∧t 2=.ptr 0 0 0∧t 6=.int .i64 i∧(h[0]?=some (.live 3 false false [[.int .i64 w.rooms,.int .i64 w.need,Be 9 true w.nn (w.parts.map Ab.cells)]])∧zz.length=i∧bcA (t 5) i (zz.map bvv) h)) (fun rest zz=>zz++rest.map (fun p=>ay4 p d)) (fun r e t h=>e=.exit 0∧bcA (t 5) w.parts.length (r.map bvv) h) ?_ ?_ ([]) _ _ ?_) (fun e t h hk=>?_)
 ·rintro a t h Q' kQ ⟨h1,h2,h6,⟨hA,hp,hc⟩⟩
  (have hb:=trivial;with_reducible repeat' (first|simp only[hb,Va.down,seval,aO3.down,h1,h2,h6,ai5,decide_false,hA,abL]|refine An ?_ ?_<;>intro hb|refine fd ?_|fail))
  exact kQ _ _ _ ⟨rfl,by simpa [up]using hc⟩
 ·rintro x rest i a t h J Q' kJ kQ hx hi ⟨h1,h2,h6,⟨hA,hp,hc⟩⟩
  have hd:decide ((i:Int)<(w.parts.length:Int))=true:=decide_eq_true (by omega)
  have hw:=Bv hi (by unfold maxLen;omega)
  have hV:=acP x d
  have htb:ay4 x d=(Au x d==0&& !x.opn):=rfl
  have hA1:=Ai hA
  have h0l:0<h.length:=(abX.1 hA).1
  generalize Au x d=cx at *
  rcases hc with⟨rfl,ho⟩|⟨h0,b,hb0,ho,hb⟩
  ·simp only[Int.natCast_zero]at hd
   obtain rfl:a=[]:=azY.1 hp
   cases hq:(cx==0)
   all_goals (have hb:=trivial;with_reducible repeat' (first|simp only[hb,Va.down,seval,aO3.down,h1,h2,h6,ho,hd,hw,hx,hA,hA1,hV,hq,Ab.cells,abL]|refine An ?_ ?_<;>intro hb|refine fd ?_|fail))
   all_goals (refine Aq (kJ _ _ [ay4 x d] ⟨?_,?_,?_,⟨hA1 _,rfl,.inr ⟨by omega,h.length+1,by omega,by simp[up],by rw[aSQ];simp[bvv,htb,hq]⟩⟩⟩ ?_);(simp[up,h1]);(simp[up,h2]);(simp[up]);(simp))
  ·have hbl:b<h.length:=(abX.1 hb).1
   have hB:=Ai hb
   have hS:=Io hbl
   have hi39:(i+1≤549755813888)=True:=eq_true (by omega)
   cases hq:(cx==0)
   all_goals (have hb:=trivial;with_reducible repeat' (first|simp only[hb,Va.down,seval,aO3.down,h1,h2,h6,ho,hd,hw,hx,hA,hA1,hV,hq,Ab.cells,abL,hB,hS,Ht,Gg,az0,hp,hi39]|refine An ?_ ?_<;>intro hb|refine fd ?_|fail))
   all_goals (refine Aq (kJ _ _ (a++[ay4 x d]) ⟨?_,?_,?_,⟨aEH _ (by omega) hA _,by simp[hp],.inr ⟨by omega,h.length+1,by omega,by simp[up],by rw[Gg];simp[bvv,htb,hq]⟩⟩⟩ ?_);(simp[up,h1]);(simp[up,h2]);(simp[up]);(simp))
 ·exact⟨by simp[up,Lx],by simp[up,Lx],by simp[up],⟨rfl,rfl,.inl ⟨rfl,by simp[up]⟩⟩⟩
 obtain⟨rfl,⟨hn,ho⟩|⟨hn,b,hb0,ho,hb⟩⟩:=hk
 ·exact(hne (azY.1 hn)).elim
 ·(with_reducible repeat' (first|simp only[hb,Va.down,seval,aO3.down,ho,hb]|refine An ?_ ?_<;>intro hb|refine fd ?_|fail))
  rfl
def edg(w:Af)(ts:List Bool):List Net.Edge:=List.zipWith (fun p t=>(p.one.toNat,p.other.toNat,if t=true then 1 else 0)) w.parts ts
structure WOk(w:Af)(N:Nat):Prop where
 rooms:w.rooms=(N:Int)
 n2:2≤N
 n8:N≤8
 len:w.parts.length≤1000
 ne:w.parts≠[]
 part:∀p∈w.parts,(0≤p.one∧p.one<(N:Int))∧(0≤p.other∧p.other<(N:Int))∧p.one≠p.other
theorem aUD{w:Af}{ts:List Bool}{i:Nat}{e:Net.Edge}(h:(edg w ts)[i]?=some e):∃p t,w.parts[i]?=some p∧ts[i]?=some t∧e=(p.one.toNat,p.other.toNat,if t=true then 1 else 0):=by
 unfold edg at h
 rw[List.getElem?_zipWith]at h
 cases h1:w.parts[i]? with
 |none=>simp[h1]at h
 |some p=>
  cases h2:ts[i]? with
  |none=>simp[h1,h2]at h
  |some t=>simp[h1,h2]at h;exact⟨p,t,rfl,rfl,h.symm⟩
theorem aBW{w:Af}{N:Nat}(hw:WOk w N)(ts:List Bool):EOk (edg w ts) N:=fun a b c h=>by
 obtain⟨i,hi⟩:=List.getElem?_of_mem h
 obtain⟨p,t,h1,_,he⟩:=aUD hi
 cases he
 have:=hw.part p (aA3 h1)
 refine⟨by omega,by omega,by omega,?_⟩
 split<;>omega
theorem a8S{w:Af}{ts:List Bool}(h:ts.length=w.parts.length):(edg w ts).length=w.parts.length:=by simp[edg,h]
theorem aLI{d:List Nat}{a:Nat}(h:a<d.length):(d.map Kz)[a]?=some [.int .i64 (d.getD a 0:Nat)]:=by
 rw[aBU,adC h,aoS,adC h];rfl
theorem a4C{N:Nat}(h:2≤N):Fq N 0 1000=0::adD (N-1) 1000:=by
 obtain⟨n,rfl⟩:∃n,N=n+1:=⟨N-1,by omega⟩
 simp[Fq,List.replicate_succ]
theorem a1D(x y:Nat):(if(x:Int)<(y:Int)then(x:Int)else(y:Int))=((min y x:Nat):Int):=by split<;>omega
theorem aMW{w:Af}{N:Nat}(hw:WOk w N){ts:List Bool}{nn:Bool}(ht:ts.length=w.parts.length):
 ∃f,Dp.call (.fn 128) [.agg [.int .i64 w.rooms,.int .i64 w.need,Be 9 true w.nn (w.parts.map Ab.cells)],Be 1 true nn (ts.map bvv)] []=some (.ret (.slr 1 0 0 N),[.live 1 true f ((abM (edg w ts) N (Fq N 0 1000)).map Kz)]):=by
 have key:ClQ Dp 128 [.agg [.int .i64 w.rooms,.int .i64 w.need,Be 9 true w.nn (w.parts.map Ab.cells)],Be 1 true nn (ts.map bvv)] [] fun o h'=>∃f,(o,h')=(.ret (.slr 1 0 0 N),[.live 1 true f ((abM (edg w ts) N (Fq N 0 1000)).map Kz)]):=by
  have hr:=hw.rooms
  have n2:=hw.n2
  have n8:=hw.n8
  have hE:=aBW hw ts
  have hEl:=a8S ht
  generalize hEE:edg w ts=E at *
  refine a9I rfl Tryz.func128 rfl rfl ?_
  simp only[Tryz.f128]
  simp only[hr]
  (have hb:=trivial;with_reducible repeat' (first|simp only[hb,Va.down,seval,ao0.down,abL]|refine An ?_ ?_<;>intro hb|refine fd ?_|fail))
  refine Dy (lst 80 (adD (N-1) ()) (fun i (_:Unit) t h=>t 1=Be 1 true nn (ts.map bvv)∧t 2=.ptr 0 0 0∧t 6=.int .i64 ((i+1:Nat):Int)∧h[0]?=some (.live 3 false false [[.int .i64 (N:Int),.int .i64 w.need,Be 9 true w.nn (w.parts.map Ab.cells)]])∧∃b,0<b∧t 5=.slr 1 b 0 (i+1)∧h[b]?=some (.live 1 true false ((0::adD i 1000).map Kz))) (fun _ _=>())
   (fun _ e t h=>e=.exit 0∧t 1=Be 1 true nn (ts.map bvv)∧t 2=.ptr 0 0 0∧h[0]?=some (.live 3 false false [[.int .i64 (N:Int),.int .i64 w.need,Be 9 true w.nn (w.parts.map Ab.cells)]])∧∃b,0<b∧t 5=.slr 1 b 0 N∧h[b]?=some (.live 1 true false ((Fq N 0 1000).map Kz))) ?_ ?_ () _ _ ?_) (fun e t h hk=>?_)
  ·rintro _ t h Q' kQ ⟨h1,h2,h6,h0,b,hb0,h5,hvb⟩
   rw[af5,show N-1+1=N by omega]at h6 h5
   rw[af5]at hvb
   (have hb:=trivial;with_reducible repeat' (first|simp only[hb,Va.down,seval,ao0.down,h1,h2,h6,h0,h5,ai5,decide_false]|refine An ?_ ?_<;>intro hb|refine fd ?_|fail))
   exact kQ _ _ _ ⟨rfl,by simp[up,h1],by simp[up,h2],h0,b,hb0,by simp[up,h5],by rw[a4C n2];exact hvb⟩
  ·rintro x rest i _ t h J Q' kJ kQ hx hi ⟨h1,h2,h6,h0,b,hb0,h5,hvb⟩
   rw[af5]at hi
   have hdd:decide (((i+1:Nat):Int)<(N:Int))=true:=decide_eq_true (by omega)
   have hww:IntKind.i64.wrap (((i+1:Nat):Int)+1)=((i+1+1:Nat):Int):=by rw[Bf (by omega) (by omega)];omega
   have hbl:=As hvb
   have hB:=Ai hvb
   have hS:=Io hbl
   have hA1:=Ai h0
   have hi39:(i+1+1≤549755813888)=True:=eq_true (by omega)
   have hlr:((0::adD i 1000).map Kz).length=i+1:=by simp
   (have hb:=trivial;with_reducible repeat' (first|simp only[hb,Va.down,seval,ao0.down,h1,h2,h6,h0,h5,hvb,hdd,hww,hB,hS,hA1,hi39,hlr,Ht,Gg,az0]|refine An ?_ ?_<;>intro hb|refine fd ?_|fail))
   exact Aq (kJ _ _ () ⟨by simp[up,h1],by simp[up,h2],by simp[up];omega,aEH _ (by omega) h0 _,h.length+1,by omega,by simp[up],by rw[Gg];simp[Kz,List.replicate_succ']⟩ rfl)
  ·exact⟨by simp[up,Lx],by simp[up],by simp[up],rfl,1,by omega,by simp[up],rfl⟩
  obtain⟨rfl,h1,h2,h0,b,hb0,h5,hvb⟩:=hk
  (have hb:=trivial;with_reducible repeat' (first|simp only[hb,Va.down,seval,ao0.down,h1,h2,h5]|refine An ?_ ?_<;>intro hb|refine fd ?_|fail))
  refine Dy (lst 80 (adD N ()) (fun k (_:Unit) t h=>t 1=Be 1 true nn (ts.map bvv)∧t 2=.ptr 0 0 0∧t 5=.slr 1 b 0 N∧t 7=.int .i64 (k:Int)∧h[0]?=some (.live 3 false false [[.int .i64 (N:Int),.int .i64 w.need,Be 9 true w.nn (w.parts.map Ab.cells)]])∧∃f,h[b]?=some (.live 1 true f ((abM E k (Fq N 0 1000)).map Kz))) (fun _ _=>())
   (fun _ e t h=>e=.exit 2∧t 5=.slr 1 b 0 N∧∃f,h[b]?=some (.live 1 true f ((abM E N (Fq N 0 1000)).map Kz))) ?_ ?_ () _ _ ?_) (fun e t h hk=>?_)
  ·rintro _ t h Q' kQ ⟨h1,h2,h5,h7,h0,f,hvb⟩
   rw[af5]at h7 hvb
   (have hb:=trivial;with_reducible repeat' (first|simp only[hb,Va.down,seval,ao0.down,h1,h2,h5,h7,h0,ai5,decide_false]|refine An ?_ ?_<;>intro hb|refine fd ?_|fail))
   exact kQ _ _ _ ⟨rfl,by simp[up,h5],f,hvb⟩
  ·rintro x rest k _ t h J Q' kJ kQ hx hi ⟨h1,h2,h5,h7,h0,f,hvb⟩
   rw[af5]at hi
   have hdk:decide ((k:Int)<(N:Int))=true:=decide_eq_true (by omega)
   have hwk:IntKind.i64.wrap ((k:Int)+1)=((k+1:Nat):Int):=by rw[Bf (by omega) (by omega)];omega
   have hIk:=aF9 (far:=1000) hE k (aLH (E:=E) (N:=N) (s:=0) (far:=1000) (by omega))
   generalize hdk0:abM E k (Fq N 0 1000)=d0 at *
   (have hb:=trivial;with_reducible repeat' (first|simp only[hb,Va.down,seval,ao0.down,h1,h2,h5,h7,h0,hdk]|refine An ?_ ?_<;>intro hb|refine fd ?_|fail))
   refine Dy (lst 80 E (fun i (_:Unit) t h=>t 1=Be 1 true nn (ts.map bvv)∧t 2=.ptr 0 0 0∧t 5=.slr 1 b 0 N∧t 7=.int .i64 (k:Int)∧t 8=.int .i64 (i:Int)∧h[0]?=some (.live 3 false false [[.int .i64 (N:Int),.int .i64 w.need,Be 9 true w.nn (w.parts.map Ab.cells)]])∧∃f,h[b]?=some (.live 1 true f (((E.take i).foldl alC d0).map Kz))) (fun _ _=>())
    (fun _ e t h=>e=.exit 4∧t 1=Be 1 true nn (ts.map bvv)∧t 2=.ptr 0 0 0∧t 5=.slr 1 b 0 N∧t 7=.int .i64 (k:Int)∧h[0]?=some (.live 3 false false [[.int .i64 (N:Int),.int .i64 w.need,Be 9 true w.nn (w.parts.map Ab.cells)]])∧∃f,h[b]?=some (.live 1 true f ((a97 E d0).map Kz))) ?_ ?_ () _ _ ?_) (fun e t h hk=>?_)
   ·rintro _ t h Q'' kQ ⟨h1,h2,h5,h7,h8,h0,f,hvb⟩
    rw[hEl]at h8
    rw[aBV (Nat.le_refl _)]at hvb
    (have hb:=trivial;with_reducible repeat' (first|simp only[hb,Va.down,seval,ao0.down,h1,h2,h5,h8,h0,ai5,decide_false,abL]|refine An ?_ ?_<;>intro hb|refine fd ?_|fail))
    exact kQ _ _ _ ⟨rfl,by simp[up,h1],by simp[up,h2],by simp[up,h5],by simp[up,h7],h0,f,hvb⟩
   ·rintro e rest i _ t h J' Q'' kJ kQ hx hi ⟨h1,h2,h5,h7,h8,h0,f,hvb⟩
    rw[hEl]at hi
    obtain⟨p,tt,hp,htt,he⟩:=aUD (w:=w) (ts:=ts) (by rw[hEE];exact hx)
    have hpo:=hw.part p (aA3 hp)
    have hdi:decide ((i:Int)<(w.parts.length:Int))=true:=decide_eq_true (by omega)
    have hlen:=hw.len
    have hwi:IntKind.i64.wrap ((i:Int)+1)=((i+1:Nat):Int):=by rw[Bf (by omega) (by omega)];omega
    have hI:=aSK (L:=E.take i) (fun e hm=>List.mem_of_mem_take hm) hE hIk
    have htk:(E.take (i+1)).foldl alC d0=alC ((E.take i).foldl alC d0) e:=by rw[List.take_add_one,hx];simp[List.foldl_append]
    generalize hdd0:(E.take i).foldl alC d0=d at *
    have hdl:=hI.len
    have hra:d[p.one.toNat]?=some (d.getD p.one.toNat 0):=by rw[aoS,adC (by omega)];rfl
    have hrb:d[p.other.toNat]?=some (d.getD p.other.toNat 0):=by rw[aoS,adC (by omega)];rfl
    have o1:(0≤p.one)=True:=eq_true hpo.1.1
    have o2:(p.one<(N:Int))=True:=eq_true hpo.1.2
    have o3:(0≤p.other)=True:=eq_true hpo.2.1.1
    have o4:(p.other<(N:Int))=True:=eq_true hpo.2.1.2
    have la:=hI.le p.one.toNat (by omega)
    have lb:=hI.le p.other.toNat (by omega)
    have hab:p.one.toNat≠p.other.toNat:=by have:=hpo.2.2;omega
    have htk2:(E.take (i+1)).foldl alC d0=(d.set p.other.toNat (min (d.getD p.other.toNat 0) (d.getD p.one.toNat 0+if tt=true then 1 else 0))).set p.one.toNat (min (d.getD p.one.toNat 0) (d.getD p.other.toNat 0+if tt=true then 1 else 0)):=by rw[htk,he];rfl
    clear htk
    generalize d.getD p.one.toNat 0=da at *
    generalize d.getD p.other.toNat 0=db at *
    have hrr:∀r,((d.map Kz).set p.other.toNat r)[p.one.toNat]?=some [.int .i64 (da:Nat)]:=fun r=>by rw[ah1 (fun e=>hab e.symm),aBU,hra];rfl
    have hbl:=As hvb
    have hsb:∀c,(h.set b c)[b]?=some c:=fun c=>aoV hbl
    have hss:∀c c',(h.set b c).set b c'=h.set b c':=fun c c'=>List.set_set ..
    have w0:∀n:Nat,n≤1000→IntKind.i64.wrap ((n:Int)+0)=(n:Int):=fun n hn=>by rw[Bf (by omega) (by omega)];omega
    have w1:∀n:Nat,n≤1000→IntKind.i64.wrap ((n:Int)+1)=((n+1:Nat):Int):=fun n hn=>by rw[Bf (by omega) (by omega)];omega
    have w0a:=w0 da la
    have w0b:=w0 db lb
    have w1a:=w1 da la
    have w1b:=w1 db lb
    cases tt with
    |false=>
     (have hb:=trivial;with_reducible repeat' (first|simp only[hb,Va.down,seval,ao0.down,h1,h2,h5,h8,h0,hvb,hdi,hwi,hp,htt,hra,hrb,hrr,o1,o2,o3,o4,hsb,hss,w0a,w0b,bvv,Kz,Ab.cells,abL]|refine An ?_ ?_<;>intro hb|refine fd ?_|fail))
     refine Aq (kJ _ _ () ⟨by simp[up,h1],by simp[up,h2],by simp[up,h5],by simp[up,h7],by simp[up],by rw[ah1 (by omega)];exact h0,true,?_⟩ rfl)
     rw[aoV hbl,htk2,aoT,aoT]
     simp only[Kz,a1D,aDD,if_false,if_true,Nat.add_zero]
    |true=>
     (have hb:=trivial;with_reducible repeat' (first|simp only[hb,Va.down,seval,ao0.down,h1,h2,h5,h8,h0,hvb,hdi,hwi,hp,htt,hra,hrb,hrr,o1,o2,o3,o4,hsb,hss,w1a,w1b,bvv,Kz,Ab.cells,abL]|refine An ?_ ?_<;>intro hb|refine fd ?_|fail))
     refine Aq (kJ _ _ () ⟨by simp[up,h1],by simp[up,h2],by simp[up,h5],by simp[up,h7],by simp[up],by rw[ah1 (by omega)];exact h0,true,?_⟩ rfl)
     rw[aoV hbl,htk2,aoT,aoT]
     simp only[Kz,a1D,aDD,if_false,if_true,Nat.add_zero]
   ·exact⟨by simp[up,h1],by simp[up,h2],by simp[up,h5],by simp[up,h7],by simp[up],h0,f,hvb⟩
   obtain⟨rfl,h1,h2,h5,h7,h0,f,hvb⟩:=hk
   (have hb:=trivial;with_reducible repeat' (first|simp only[hb,Va.down,seval,ao0.down,h1,h2,h5,h7,hwk]|refine An ?_ ?_<;>intro hb|refine fd ?_|fail))
   exact Aq (kJ _ _ () ⟨by simp[up,h1],by simp[up,h2],by simp[up,h5],by simp[up],h0,f,by rw[aBK,hdk0];exact hvb⟩ rfl)
  ·exact⟨by simp[up,h1],by simp[up,h2],by simp[up,h5],by simp[up],h0,false,hvb⟩
  obtain⟨rfl,h5,f,hvb⟩:=hk
  have hlr:((abM E N (Fq N 0 1000)).map Kz).length=N:=by simp[aFC,Fq]
  (have hb:=trivial;with_reducible repeat' (first|simp only[hb,Va.down,seval,ao0.down,h5,hvb]|refine An ?_ ?_<;>intro hb|refine fd ?_|fail))
  exact⟨f,rfl⟩
 obtain⟨o,h',hc,f,e⟩:=key
 cases e
 exact⟨f,hc⟩
theorem bbE{w:Af}{N:Nat}(hw:WOk w N)(E:List Net.Edge):(abM E N (Fq N 0 1000)).length=N:=by rw[aFC];simp[Fq]
theorem a9V{w:Af}{N:Nat}(hw:WOk w N){ts:List Bool}{nn:Bool}(ht:ts.length=w.parts.length):
 Dp.call (.fn 110) [.agg [.int .i64 w.rooms,.int .i64 w.need,Be 9 true w.nn (w.parts.map Ab.cells)],Be 1 true nn (ts.map bvv)] []=some (.ret (.int .i64 (aD6 (edg w ts) N w.parts.length:Nat)),[]):=by
 obtain⟨f,hD⟩:=aMW hw (nn:=nn) ht
 have hl:=bbE hw (edg w ts)
 have n2:=hw.n2
 have hlen:=hw.len
 unfold aD6
 generalize abM (edg w ts) N (Fq N 0 1000)=d at *
 have hd:d[1]?=some (d.getD 1 0):=by rw[aoS,adC (by omega)];rfl
 generalize d.getD 1 0=x at *
 have h1N:((1:Int)<(N:Int))=True:=eq_true (by omega)
 have hwl:IntKind.i64.wrap ((w.parts.length:Int)+1)=((w.parts.length+1:Nat):Int):=by rw[Bf (by omega) (by omega)];omega
 have hln:((d.map Kz).length=N):=by simp[hl]
 by_cases hx:1000≤x
 ·have hge:decide ((1000:Int)≤(x:Int))=true:=decide_eq_true (by omega)
  rw[if_pos hx]
  (refine ce Tryz.func110 ?_;simp only[Tryz.f110];(have hb:=trivial;with_reducible repeat' (first|simp only[hb,Va.down,seval,bbT.down,hD,hd,h1N,hge,hwl,Kz,abL]|refine An ?_ ?_<;>intro hb|refine fd ?_|fail)))
 ·have hge:decide ((1000:Int)≤(x:Int))=false:=decide_eq_false (by omega)
  rw[if_neg hx]
  (refine ce Tryz.func110 ?_;simp only[Tryz.f110];(have hb:=trivial;with_reducible repeat' (first|simp only[hb,Va.down,seval,bbT.down,hD,hd,h1N,hge,hwl,Kz,abL]|refine An ?_ ?_<;>intro hb|refine fd ?_|fail)))
theorem aG6(w:Af)(d:Int):(aoZ w d).length=w.parts.length:=by simp[aoZ]
def ahS(w:Af)(N:Nat)(d:Int):Nat:=aD6 (edg w (aoZ w d)) N w.parts.length
theorem aOR{w:Af}{N:Nat}(hw:WOk w N)(d:Int):
 Dp.call (.fn 91) [.agg [.int .i64 w.rooms,.int .i64 w.need,Be 9 true w.nn (w.parts.map Ab.cells)],.int .i64 d] []=some (.ret (.int .i64 (ahS w N d:Nat)),[]):=by
 have h1:=a95 w d hw.len hw.ne
 have h2:=a9V hw (nn:=true) (aG6 w d)
 rw[ajY]at h2
 have hl:=aG6 w d
 have htk:List.take w.parts.length ((aoZ w d).map bvv)=(aoZ w d).map bvv:=aBV (by simp[hl])
 (refine ce Tryz.func91 ?_;simp only[Tryz.f91];(have hb:=trivial;with_reducible repeat' (first|simp only[hb,Va.down,seval,bp4.down,h1,h2,hl,htk]|refine An ?_ ?_<;>intro hb|refine fdl ?_|fail)))
 rfl
end Go.Proofs.YtcncggaobhbomaaGreatDoor
