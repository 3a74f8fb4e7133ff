/- The functions of the layer, walked. -/
import Derived.Test.YtfkokgjfpojeoaaGreatDoorLibE
import Derived.Test.YtfkokgjfpojeoaaGreatDoorChecked
import Derived.Test.YtfkokgjfpojeoaaGreatDoorLibD
import Derived.Test.YtfkokgjfpojeoaaGreatDoorRows
import Derived.Test.YtfkokgjfpojeoaaGreatDoorTie
import Derived.Test.YtfkokgjfpojeoaaGreatDoorCards
import Derived.Test.YtfkokgjfpojeoaaGreatDoorShelf
import Derived.ProofKit
import Derived.LaidMore
import Derived.OpenShut
import Derived.Stop.Joined
open And renaming intro→acQ
open List renaming length_map→aeG,getElem?_eq_getElem→aoD
open Int renaming lt_irrefl→ahB,le_refl→am7,natCast_zero→an9
open Nat renaming ble→alV,add_sub_cancel→aoF
set_option linter.unusedSimpArgs false
set_option linter.unusedVariables false
namespace Go.Proofs.YtfkokgjfpojeoaaGreatDoor
open Go.Ev
set_option maxRecDepth 100000
theorem ao7(h:aaP)(b r o:Nat):ld Tryz.prog 27 h (some (.ptr b r o))=ldR (asX (h[b]?) r) o 7:=aCR ⟨by kernel_rfl,by kernel_rfl⟩ h b r o
theorem aEX(b r o:Nat):ftL Tryz.prog 27 (some (.ptr b r o))=some [.cells b o 7]:=asM (isA:=true) (n:=7) (by kernel_rfl) (by kernel_rfl) b r o
theorem az8(fl nn:Bool)(rows:List (List AV)):ln Tryz.prog 28 (some (slv 2 fl nn rows))=some (.ret (.int .i64 rows.length),[]):=aAJ ⟨_,Tryz.underlying28,by kernel_rfl⟩ fl nn rows
theorem auK(b r o:Nat):fa Tryz.prog 27 (some (.ptr b r o)) 5=some (.ret (.ptr b r (o+5)),[]):=anA (show an6 Tryz.prog 27 5 5 1 from⟨_,_,Tryz.underlying27,rfl,rfl,by kernel_rfl,by decide⟩) b r o
theorem alD(h:aaP)(b r o:Nat):ld Tryz.prog 3 h (some (.ptr b r o))=ldC (asX (h[b]?) r) o:=aAS ⟨by kernel_rfl,1,by kernel_rfl⟩ h b r o
theorem apC(h:aaP)(c:AV)(cs:List AV):ld Tryz.prog 3 h (some (.iptr (c::cs)))=some (.ret c,[]):=aL7 ⟨by kernel_rfl,1,by kernel_rfl⟩ h c cs
theorem ayN(b r o:Nat):ftL Tryz.prog 3 (some (.ptr b r o))=some [.cells b o 1]:=asM (isA:=false) (n:=1) (by kernel_rfl) (by kernel_rfl) b r o
theorem aQN(b r len:Nat)(k:IntKind)(i:Int):ia Tryz.prog 28 (some (.slr 2 b r len)) (some (.int k i))=if 0≤i∧i<len then some (.ret (.ptr b (r+i.toNat) 0),[])else none:=aAM ⟨_,Tryz.underlying28,by kernel_rfl⟩ b r len k i
theorem az5(fl nn:Bool)(rows:List (List AV))(k:IntKind)(i:Int):ia Tryz.prog 28 (some (slv 2 fl nn rows)) (some (.int k i))=if 0≤i then r1 ((rows[i.toNat]?).map .iptr)else none:=ax7 ⟨_,Tryz.underlying28,by kernel_rfl⟩ fl nn rows k i
theorem ap8(b r o:Nat):fa Tryz.prog 36 (some (.ptr b r o)) 0=some (.ret (.ptr b r (o+0)),[]):=anA (show an6 Tryz.prog 36 0 0 1 from⟨_,_,Tryz.underlying36,rfl,rfl,by kernel_rfl,by decide⟩) b r o
theorem aJL(cs:List AV):fa Tryz.prog 36 (some (.iptr cs)) 0=if 0+1≤cs.length then some (.ret (.iptr (cs.drop 0)),[])else none:=av4 (show an6 Tryz.prog 36 0 0 1 from⟨_,_,Tryz.underlying36,rfl,rfl,by kernel_rfl,by decide⟩) cs
theorem an2(h:aaP)(b r o:Nat):ld Tryz.prog 25 h (some (.ptr b r o))=ldC (asX (h[b]?) r) o:=aAS ⟨by kernel_rfl,1,by kernel_rfl⟩ h b r o
theorem aCJ(h:aaP)(c:AV)(cs:List AV):ld Tryz.prog 25 h (some (.iptr (c::cs)))=some (.ret c,[]):=aL7 ⟨by kernel_rfl,1,by kernel_rfl⟩ h c cs
theorem axD(b r o:Nat):ftL Tryz.prog 25 (some (.ptr b r o))=some [.cells b o 1]:=asM (isA:=false) (n:=1) (by kernel_rfl) (by kernel_rfl) b r o
theorem aO8(st b r len:Nat):ln Tryz.prog 25 (some (.slr st b r len))=some (.ret (.int .i64 len),[]):=aDS (n:=1) ⟨_,Tryz.underlying25,by kernel_rfl⟩ st b r len
theorem aPW:ln Tryz.prog 25 (some .nils)=some (.ret (.int .i64 0),[]):=aB1 (n:=1) ⟨_,Tryz.underlying25,by kernel_rfl⟩
theorem apN(fl nn:Bool)(rows:List (List AV)):ln Tryz.prog 25 (some (slv 1 fl nn rows))=some (.ret (.int .i64 rows.length),[]):=aAJ ⟨_,Tryz.underlying25,by kernel_rfl⟩ fl nn rows
theorem avV(h:aaP)(b r o:Nat):ld Tryz.prog 36 h (some (.ptr b r o))=ldR (asX (h[b]?) r) o 2:=aCR ⟨by kernel_rfl,by kernel_rfl⟩ h b r o
theorem ayI(h:aaP)(cs:List AV):ld Tryz.prog 36 h (some (.iptr cs))=if 2≤cs.length then some (.ret (.agg (cs.take 2)),[])else none:=aIP ⟨by kernel_rfl,by kernel_rfl⟩ h cs
theorem aPC(b r o:Nat):ftL Tryz.prog 36 (some (.ptr b r o))=some [.cells b o 2]:=asM (isA:=true) (n:=2) (by kernel_rfl) (by kernel_rfl) b r o
theorem aCG:arQ Tryz.prog 36=some (.agg [.nils,.int .i64 0]):=by kernel_rfl
theorem aOP(base len:Nat)(ps:List (Nat × AV)):rD (ak9 Tryz.prog base 28 len ps)=bsK 2 (.agg [.nils,.int .i64 0]) base len ps:=aH8 (e:=36) (by kernel_rfl) (by kernel_rfl) (by kernel_rfl) base len ps
theorem aER{O:Orc}(t:List AV)(h:aaP)(s x:Operand):aoA O Tryz.prog t h (.call ⟨.builtin .append,#[s,x],#[28,28]⟩)=apO Tryz.prog 28 h (acR t s) (acR t x):=aC0 t h s x 28 28 _ Tryz.underlying28
theorem aP1(h:aaP)(s:AV)(a b r l:Nat):apO Tryz.prog 28 h (some s) (some (.slr a b r l))=apK 2 h (some s) (srK 2 h (some (.slr a b r l))):=au8 (e:=36) (b:=32) (z:=.agg [.nils,.int .i64 0]) (by kernel_rfl) (by kernel_rfl) (by kernel_rfl) (by kernel_rfl) (by decide+kernel) h s _ (fun q e=>by cases e)
theorem arJ(b r o:Nat):fa Tryz.prog 27 (some (.ptr b r o)) 6=some (.ret (.ptr b r (o+6)),[]):=anA (show an6 Tryz.prog 27 6 6 1 from⟨_,_,Tryz.underlying27,rfl,rfl,by kernel_rfl,by decide⟩) b r o
theorem aF4(b r len:Nat)(k:IntKind)(i:Int):ia Tryz.prog 25 (some (.slr 1 b r len)) (some (.int k i))=if 0≤i∧i<len then some (.ret (.ptr b (r+i.toNat) 0),[])else none:=aAM ⟨_,Tryz.underlying25,by kernel_rfl⟩ b r len k i
theorem aqJ(fl nn:Bool)(rows:List (List AV))(k:IntKind)(i:Int):ia Tryz.prog 25 (some (slv 1 fl nn rows)) (some (.int k i))=if 0≤i then r1 ((rows[i.toNat]?).map .iptr)else none:=ax7 ⟨_,Tryz.underlying25,by kernel_rfl⟩ fl nn rows k i
theorem aH2:arQ Tryz.prog 27=some (.agg [.nils,.nils,.nils,.int .i64 0,.int .i64 0,.int .i64 0,.nils]):=by kernel_rfl
theorem aJ7(h:aaP)(b r o:Nat)(v:AV):st_ Tryz.prog 27 h (some (.ptr b r o)) (some v)=sv 7 (h[b]?) b r o (acU v):=aq9 (by kernel_rfl) h b r o v
theorem apQ(b r o:Nat):fa Tryz.prog 27 (some (.ptr b r o)) 0=some (.ret (.ptr b r (o+0)),[]):=anA (show an6 Tryz.prog 27 0 0 1 from⟨_,_,Tryz.underlying27,rfl,rfl,by kernel_rfl,by decide⟩) b r o
theorem aqF(h:aaP)(b r o:Nat):ld Tryz.prog 22 h (some (.ptr b r o))=ldC (asX (h[b]?) r) o:=aAS ⟨by kernel_rfl,1,by kernel_rfl⟩ h b r o
theorem aPE(b r o:Nat):ftL Tryz.prog 22 (some (.ptr b r o))=some [.cells b o 1]:=asM (isA:=false) (n:=1) (by kernel_rfl) (by kernel_rfl) b r o
theorem aC8:arQ Tryz.prog 54=some (.agg [.int .i64 0,.int .i64 0,.bool false]):=by kernel_rfl
theorem axZ{O:Orc}(t:List AV)(h:aaP)(s x:Operand):aoA O Tryz.prog t h (.call ⟨.builtin .append,#[s,x],#[22,22]⟩)=apO Tryz.prog 22 h (acR t s) (acR t x):=aC0 t h s x 22 22 _ Tryz.underlying22
theorem aF6(h:aaP)(s:AV)(st:Nat)(fl:Bool)(rows:List (List AV)):apO Tryz.prog 22 h (some s) (some (.imm st fl rows))=apK 3 h (some s) (srK 3 h (some (.imm st fl rows))):=au8 (e:=54) (b:=24) (z:=.agg [.int .i64 0,.int .i64 0,.bool false]) (by kernel_rfl) (by kernel_rfl) (by kernel_rfl) (by kernel_rfl) (by decide+kernel) h s _ (fun q e=>by cases e)
theorem aP3(h:aaP)(s:AV)  :apO Tryz.prog 22 h (some s) (some .nils)=apK 3 h (some s) (srK 3 h (some .nils)):=au8 (e:=54) (b:=24) (z:=.agg [.int .i64 0,.int .i64 0,.bool false]) (by kernel_rfl) (by kernel_rfl) (by kernel_rfl) (by kernel_rfl) (by decide+kernel) h s _ (fun q e=>by cases e)
theorem aJE(h:aaP)(b r o:Nat)(v:AV):st_ Tryz.prog 22 h (some (.ptr b r o)) (some v)=sv 1 (h[b]?) b r o (acU v):=aq9 (by kernel_rfl) h b r o v
theorem aQM(b r o:Nat):ftS Tryz.prog 22 (some (.ptr b r o))=some [.cells b o 1]:=auE (by kernel_rfl) b r o
theorem apV(b r o:Nat):fa Tryz.prog 27 (some (.ptr b r o)) 1=some (.ret (.ptr b r (o+1)),[]):=anA (show an6 Tryz.prog 27 1 1 1 from⟨_,_,Tryz.underlying27,rfl,rfl,by kernel_rfl,by decide⟩) b r o
theorem aqD(h:aaP)(b r o:Nat):ld Tryz.prog 23 h (some (.ptr b r o))=ldC (asX (h[b]?) r) o:=aAS ⟨by kernel_rfl,1,by kernel_rfl⟩ h b r o
theorem aE1(b r o:Nat):ftL Tryz.prog 23 (some (.ptr b r o))=some [.cells b o 1]:=asM (isA:=false) (n:=1) (by kernel_rfl) (by kernel_rfl) b r o
theorem aKB:arQ Tryz.prog 49=some (.agg [.nils,.int .i64 0,.int .i64 0,.bool false]):=by kernel_rfl
theorem axP{O:Orc}(t:List AV)(h:aaP)(s x:Operand):aoA O Tryz.prog t h (.call ⟨.builtin .append,#[s,x],#[23,23]⟩)=apO Tryz.prog 23 h (acR t s) (acR t x):=aC0 t h s x 23 23 _ Tryz.underlying23
theorem aFP(h:aaP)(s:AV)(st:Nat)(fl:Bool)(rows:List (List AV)):apO Tryz.prog 23 h (some s) (some (.imm st fl rows))=apK 4 h (some s) (srK 4 h (some (.imm st fl rows))):=au8 (e:=49) (b:=48) (z:=.agg [.nils,.int .i64 0,.int .i64 0,.bool false]) (by kernel_rfl) (by kernel_rfl) (by kernel_rfl) (by kernel_rfl) (by decide+kernel) h s _ (fun q e=>by cases e)
theorem aO6(h:aaP)(s:AV)  :apO Tryz.prog 23 h (some s) (some .nils)=apK 4 h (some s) (srK 4 h (some .nils)):=au8 (e:=49) (b:=48) (z:=.agg [.nils,.int .i64 0,.int .i64 0,.bool false]) (by kernel_rfl) (by kernel_rfl) (by kernel_rfl) (by kernel_rfl) (by decide+kernel) h s _ (fun q e=>by cases e)
theorem aJ8(h:aaP)(b r o:Nat)(v:AV):st_ Tryz.prog 23 h (some (.ptr b r o)) (some v)=sv 1 (h[b]?) b r o (acU v):=aq9 (by kernel_rfl) h b r o v
theorem aPQ(b r o:Nat):ftS Tryz.prog 23 (some (.ptr b r o))=some [.cells b o 1]:=auE (by kernel_rfl) b r o
theorem aqS(b r o:Nat):fa Tryz.prog 27 (some (.ptr b r o)) 2=some (.ret (.ptr b r (o+2)),[]):=anA (show an6 Tryz.prog 27 2 2 1 from⟨_,_,Tryz.underlying27,rfl,rfl,by kernel_rfl,by decide⟩) b r o
theorem arF(h:aaP)(b r o:Nat):ld Tryz.prog 24 h (some (.ptr b r o))=ldC (asX (h[b]?) r) o:=aAS ⟨by kernel_rfl,1,by kernel_rfl⟩ h b r o
theorem aFQ(b r o:Nat):ftL Tryz.prog 24 (some (.ptr b r o))=some [.cells b o 1]:=asM (isA:=false) (n:=1) (by kernel_rfl) (by kernel_rfl) b r o
theorem aR9:arQ Tryz.prog 52=some (.agg [.int .i64 0,.int .i64 0,.nils,.int .i64 0,.int .i64 0]):=by kernel_rfl
theorem axO{O:Orc}(t:List AV)(h:aaP)(s x:Operand):aoA O Tryz.prog t h (.call ⟨.builtin .append,#[s,x],#[24,24]⟩)=apO Tryz.prog 24 h (acR t s) (acR t x):=aC0 t h s x 24 24 _ Tryz.underlying24
theorem aF0(h:aaP)(s:AV)(st:Nat)(fl:Bool)(rows:List (List AV)):apO Tryz.prog 24 h (some s) (some (.imm st fl rows))=apK 5 h (some s) (srK 5 h (some (.imm st fl rows))):=au8 (e:=52) (b:=56) (z:=.agg [.int .i64 0,.int .i64 0,.nils,.int .i64 0,.int .i64 0]) (by kernel_rfl) (by kernel_rfl) (by kernel_rfl) (by kernel_rfl) (by decide+kernel) h s _ (fun q e=>by cases e)
theorem aOY(h:aaP)(s:AV)  :apO Tryz.prog 24 h (some s) (some .nils)=apK 5 h (some s) (srK 5 h (some .nils)):=au8 (e:=52) (b:=56) (z:=.agg [.int .i64 0,.int .i64 0,.nils,.int .i64 0,.int .i64 0]) (by kernel_rfl) (by kernel_rfl) (by kernel_rfl) (by kernel_rfl) (by decide+kernel) h s _ (fun q e=>by cases e)
theorem aHO(h:aaP)(b r o:Nat)(v:AV):st_ Tryz.prog 24 h (some (.ptr b r o)) (some v)=sv 1 (h[b]?) b r o (acU v):=aq9 (by kernel_rfl) h b r o v
theorem aNS(b r o:Nat):ftS Tryz.prog 24 (some (.ptr b r o))=some [.cells b o 1]:=auE (by kernel_rfl) b r o
theorem auV{O:Orc}(t:List AV)(h:aaP)(s x:Operand):aoA O Tryz.prog t h (.call ⟨.builtin .append,#[s,x],#[25,25]⟩)=apO Tryz.prog 25 h (acR t s) (acR t x):=aC0 t h s x 25 25 _ Tryz.underlying25
theorem aOE(h:aaP)(s:AV)(a b r l:Nat):apO Tryz.prog 25 h (some s) (some (.slr a b r l))=apK 1 h (some s) (srK 1 h (some (.slr a b r l))):=au8 (e:=3) (b:=8) (z:=.int .i64 0) (by kernel_rfl) (by kernel_rfl) (by kernel_rfl) (by kernel_rfl) (by decide+kernel) h s _ (fun q e=>by cases e)
theorem aE5(h:aaP)(s:AV)(st:Nat)(fl:Bool)(rows:List (List AV)):apO Tryz.prog 25 h (some s) (some (.imm st fl rows))=apK 1 h (some s) (srK 1 h (some (.imm st fl rows))):=au8 (e:=3) (b:=8) (z:=.int .i64 0) (by kernel_rfl) (by kernel_rfl) (by kernel_rfl) (by kernel_rfl) (by decide+kernel) h s _ (fun q e=>by cases e)
theorem aP7(h:aaP)(s:AV)  :apO Tryz.prog 25 h (some s) (some .nils)=apK 1 h (some s) (srK 1 h (some .nils)):=au8 (e:=3) (b:=8) (z:=.int .i64 0) (by kernel_rfl) (by kernel_rfl) (by kernel_rfl) (by kernel_rfl) (by decide+kernel) h s _ (fun q e=>by cases e)
theorem aIX(h:aaP)(b r o:Nat)(v:AV):st_ Tryz.prog 25 h (some (.ptr b r o)) (some v)=sv 1 (h[b]?) b r o (acU v):=aq9 (by kernel_rfl) h b r o v
theorem aE9(b r o:Nat):ftS Tryz.prog 25 (some (.ptr b r o))=some [.cells b o 1]:=auE (by kernel_rfl) b r o
theorem aEV(st b r len:Nat):ln Tryz.prog 23 (some (.slr st b r len))=some (.ret (.int .i64 len),[]):=aDS (n:=4) ⟨_,Tryz.underlying23,by kernel_rfl⟩ st b r len
theorem aNC:ln Tryz.prog 23 (some .nils)=some (.ret (.int .i64 0),[]):=aB1 (n:=4) ⟨_,Tryz.underlying23,by kernel_rfl⟩
theorem asI(fl nn:Bool)(rows:List (List AV)):ln Tryz.prog 23 (some (slv 4 fl nn rows))=some (.ret (.int .i64 rows.length),[]):=aAJ ⟨_,Tryz.underlying23,by kernel_rfl⟩ fl nn rows
theorem aFZ(b r len:Nat)(k:IntKind)(i:Int):ia Tryz.prog 23 (some (.slr 4 b r len)) (some (.int k i))=if 0≤i∧i<len then some (.ret (.ptr b (r+i.toNat) 0),[])else none:=aAM ⟨_,Tryz.underlying23,by kernel_rfl⟩ b r len k i
theorem atC(fl nn:Bool)(rows:List (List AV))(k:IntKind)(i:Int):ia Tryz.prog 23 (some (slv 4 fl nn rows)) (some (.int k i))=if 0≤i then r1 ((rows[i.toNat]?).map .iptr)else none:=ax7 ⟨_,Tryz.underlying23,by kernel_rfl⟩ fl nn rows k i
theorem arO(b r o:Nat):fa Tryz.prog 49 (some (.ptr b r o)) 0=some (.ret (.ptr b r (o+0)),[]):=anA (show an6 Tryz.prog 49 0 0 1 from⟨_,_,Tryz.underlying49,rfl,rfl,by kernel_rfl,by decide⟩) b r o
theorem aBI(cs:List AV):fa Tryz.prog 49 (some (.iptr cs)) 0=if 0+1≤cs.length then some (.ret (.iptr (cs.drop 0)),[])else none:=av4 (show an6 Tryz.prog 49 0 0 1 from⟨_,_,Tryz.underlying49,rfl,rfl,by kernel_rfl,by decide⟩) cs
theorem aFS(st b r len:Nat):ln Tryz.prog 24 (some (.slr st b r len))=some (.ret (.int .i64 len),[]):=aDS (n:=5) ⟨_,Tryz.underlying24,by kernel_rfl⟩ st b r len
theorem aOX:ln Tryz.prog 24 (some .nils)=some (.ret (.int .i64 0),[]):=aB1 (n:=5) ⟨_,Tryz.underlying24,by kernel_rfl⟩
theorem atA(fl nn:Bool)(rows:List (List AV)):ln Tryz.prog 24 (some (slv 5 fl nn rows))=some (.ret (.int .i64 rows.length),[]):=aAJ ⟨_,Tryz.underlying24,by kernel_rfl⟩ fl nn rows
theorem aFK(b r len:Nat)(k:IntKind)(i:Int):ia Tryz.prog 24 (some (.slr 5 b r len)) (some (.int k i))=if 0≤i∧i<len then some (.ret (.ptr b (r+i.toNat) 0),[])else none:=aAM ⟨_,Tryz.underlying24,by kernel_rfl⟩ b r len k i
theorem as9(fl nn:Bool)(rows:List (List AV))(k:IntKind)(i:Int):ia Tryz.prog 24 (some (slv 5 fl nn rows)) (some (.int k i))=if 0≤i then r1 ((rows[i.toNat]?).map .iptr)else none:=ax7 ⟨_,Tryz.underlying24,by kernel_rfl⟩ fl nn rows k i
theorem arK(b r o:Nat):fa Tryz.prog 52 (some (.ptr b r o)) 2=some (.ret (.ptr b r (o+2)),[]):=anA (show an6 Tryz.prog 52 2 2 1 from⟨_,_,Tryz.underlying52,rfl,rfl,by kernel_rfl,by decide⟩) b r o
theorem aBJ(cs:List AV):fa Tryz.prog 52 (some (.iptr cs)) 2=if 2+1≤cs.length then some (.ret (.iptr (cs.drop 2)),[])else none:=av4 (show an6 Tryz.prog 52 2 2 1 from⟨_,_,Tryz.underlying52,rfl,rfl,by kernel_rfl,by decide⟩) cs
theorem asA(h:aaP)(b r o:Nat):ld Tryz.prog 50 h (some (.ptr b r o))=ldC (asX (h[b]?) r) o:=aAS ⟨by kernel_rfl,1,by kernel_rfl⟩ h b r o
theorem aCZ(h:aaP)(c:AV)(cs:List AV):ld Tryz.prog 50 h (some (.iptr (c::cs)))=some (.ret c,[]):=aL7 ⟨by kernel_rfl,1,by kernel_rfl⟩ h c cs
theorem aPL(b r o:Nat):ftL Tryz.prog 50 (some (.ptr b r o))=some [.cells b o 1]:=asM (isA:=false) (n:=1) (by kernel_rfl) (by kernel_rfl) b r o
theorem aTA:arQ Tryz.prog 56=some (.agg [.int .i64 0,.bool false]):=by kernel_rfl
theorem ax2{O:Orc}(t:List AV)(h:aaP)(s x:Operand):aoA O Tryz.prog t h (.call ⟨.builtin .append,#[s,x],#[50,50]⟩)=apO Tryz.prog 50 h (acR t s) (acR t x):=aC0 t h s x 50 50 _ Tryz.underlying50
theorem aE8(h:aaP)(s:AV)(st:Nat)(fl:Bool)(rows:List (List AV)):apO Tryz.prog 50 h (some s) (some (.imm st fl rows))=apK 2 h (some s) (srK 2 h (some (.imm st fl rows))):=au8 (e:=56) (b:=16) (z:=.agg [.int .i64 0,.bool false]) (by kernel_rfl) (by kernel_rfl) (by kernel_rfl) (by kernel_rfl) (by decide+kernel) h s _ (fun q e=>by cases e)
theorem aNZ(h:aaP)(s:AV)  :apO Tryz.prog 50 h (some s) (some .nils)=apK 2 h (some s) (srK 2 h (some .nils)):=au8 (e:=56) (b:=16) (z:=.agg [.int .i64 0,.bool false]) (by kernel_rfl) (by kernel_rfl) (by kernel_rfl) (by kernel_rfl) (by decide+kernel) h s _ (fun q e=>by cases e)
theorem aJC(h:aaP)(b r o:Nat)(v:AV):st_ Tryz.prog 50 h (some (.ptr b r o)) (some v)=sv 1 (h[b]?) b r o (acU v):=aq9 (by kernel_rfl) h b r o v
theorem aFU(b r o:Nat):ftS Tryz.prog 50 (some (.ptr b r o))=some [.cells b o 1]:=auE (by kernel_rfl) b r o
theorem aPS(st b r len:Nat):ln Tryz.prog 22 (some (.slr st b r len))=some (.ret (.int .i64 len),[]):=aDS (n:=3) ⟨_,Tryz.underlying22,by kernel_rfl⟩ st b r len
theorem avA(fl nn:Bool)(rows:List (List AV)):ln Tryz.prog 22 (some (slv 3 fl nn rows))=some (.ret (.int .i64 rows.length),[]):=aAJ ⟨_,Tryz.underlying22,by kernel_rfl⟩ fl nn rows
theorem aNQ(ps:List (Nat × AV)):atW Tryz.prog 54 ps=(arP (fun i=>([(0,1),(1,1),(2,1)]:List (Nat × Nat))[i]?) (acU (.agg [.int .i64 0,.int .i64 0,.bool false])) ps).map .agg:=by kernel_rfl
theorem aQR(b r len:Nat)(k:IntKind)(i:Int):ia Tryz.prog 22 (some (.slr 3 b r len)) (some (.int k i))=if 0≤i∧i<len then some (.ret (.ptr b (r+i.toNat) 0),[])else none:=aAM ⟨_,Tryz.underlying22,by kernel_rfl⟩ b r len k i
theorem aw8(fl nn:Bool)(rows:List (List AV))(k:IntKind)(i:Int):ia Tryz.prog 22 (some (slv 3 fl nn rows)) (some (.int k i))=if 0≤i then r1 ((rows[i.toNat]?).map .iptr)else none:=ax7 ⟨_,Tryz.underlying22,by kernel_rfl⟩ fl nn rows k i
theorem azN(h:aaP)(b r o:Nat)(v:AV):st_ Tryz.prog 54 h (some (.ptr b r o)) (some v)=sv 3 (h[b]?) b r o (acU v):=aq9 (by kernel_rfl) h b r o v
theorem aXJ(h:aaP)(b r o:Nat)(v:AV):st_ Tryz.prog 3 h (some (.ptr b r o)) (some v)=sv 1 (h[b]?) b r o (acU v):=aq9 (by kernel_rfl) h b r o v
theorem asV(b r o:Nat):fa Tryz.prog 49 (some (.ptr b r o)) 2=some (.ret (.ptr b r (o+2)),[]):=anA (show an6 Tryz.prog 49 2 2 1 from⟨_,_,Tryz.underlying49,rfl,rfl,by kernel_rfl,by decide⟩) b r o
theorem aOK(st b r len:Nat):ln Tryz.prog 50 (some (.slr st b r len))=some (.ret (.int .i64 len),[]):=aDS (n:=2) ⟨_,Tryz.underlying50,by kernel_rfl⟩ st b r len
theorem au3(fl nn:Bool)(rows:List (List AV)):ln Tryz.prog 50 (some (slv 2 fl nn rows))=some (.ret (.int .i64 rows.length),[]):=aAJ ⟨_,Tryz.underlying50,by kernel_rfl⟩ fl nn rows
theorem aNW(b r len:Nat)(k:IntKind)(i:Int):ia Tryz.prog 50 (some (.slr 2 b r len)) (some (.int k i))=if 0≤i∧i<len then some (.ret (.ptr b (r+i.toNat) 0),[])else none:=aAM ⟨_,Tryz.underlying50,by kernel_rfl⟩ b r len k i
theorem axB(fl nn:Bool)(rows:List (List AV))(k:IntKind)(i:Int):ia Tryz.prog 50 (some (slv 2 fl nn rows)) (some (.int k i))=if 0≤i then r1 ((rows[i.toNat]?).map .iptr)else none:=ax7 ⟨_,Tryz.underlying50,by kernel_rfl⟩ fl nn rows k i
theorem aAY(b r o:Nat):fa Tryz.prog 56 (some (.ptr b r o)) 1=some (.ret (.ptr b r (o+1)),[]):=anA (show an6 Tryz.prog 56 1 1 1 from⟨_,_,Tryz.underlying56,rfl,rfl,by kernel_rfl,by decide⟩) b r o
theorem aHP(cs:List AV):fa Tryz.prog 56 (some (.iptr cs)) 1=if 1+1≤cs.length then some (.ret (.iptr (cs.drop 1)),[])else none:=av4 (show an6 Tryz.prog 56 1 1 1 from⟨_,_,Tryz.underlying56,rfl,rfl,by kernel_rfl,by decide⟩) cs
theorem au2(h:aaP)(b r o:Nat):ld Tryz.prog 4 h (some (.ptr b r o))=ldC (asX (h[b]?) r) o:=aAS ⟨by kernel_rfl,1,by kernel_rfl⟩ h b r o
theorem aON(h:aaP)(c:AV)(cs:List AV):ld Tryz.prog 4 h (some (.iptr (c::cs)))=some (.ret c,[]):=aL7 ⟨by kernel_rfl,1,by kernel_rfl⟩ h c cs
theorem aX2(h:aaP)(b r o:Nat)(v:AV):st_ Tryz.prog 4 h (some (.ptr b r o)) (some v)=sv 1 (h[b]?) b r o (acU v):=aq9 (by kernel_rfl) h b r o v
theorem asQ(b r o:Nat):fa Tryz.prog 52 (some (.ptr b r o)) 4=some (.ret (.ptr b r (o+4)),[]):=anA (show an6 Tryz.prog 52 4 4 1 from⟨_,_,Tryz.underlying52,rfl,rfl,by kernel_rfl,by decide⟩) b r o
theorem aqR(b r o:Nat):fa Tryz.prog 36 (some (.ptr b r o)) 1=some (.ret (.ptr b r (o+1)),[]):=anA (show an6 Tryz.prog 36 1 1 1 from⟨_,_,Tryz.underlying36,rfl,rfl,by kernel_rfl,by decide⟩) b r o
theorem aJZ(cs:List AV):fa Tryz.prog 36 (some (.iptr cs)) 1=if 1+1≤cs.length then some (.ret (.iptr (cs.drop 1)),[])else none:=av4 (show an6 Tryz.prog 36 1 1 1 from⟨_,_,Tryz.underlying36,rfl,rfl,by kernel_rfl,by decide⟩) cs
theorem aF2(ps:List (Nat × AV)):atW Tryz.prog 36 ps=(arP (fun i=>([(0,1),(1,1)]:List (Nat × Nat))[i]?) (acU (.agg [.nils,.int .i64 0])) ps).map .agg:=by kernel_rfl
theorem aCN(h:aaP)(b r o:Nat)(v:AV):st_ Tryz.prog 36 h (some (.ptr b r o)) (some v)=sv 2 (h[b]?) b r o (acU v):=aq9 (by kernel_rfl) h b r o v
theorem aFR(b r o:Nat):ftS Tryz.prog 36 (some (.ptr b r o))=some [.cells b o 2]:=auE (by kernel_rfl) b r o
theorem aFD(base len:Nat)(ps:List (Nat × AV)):rD (ak9 Tryz.prog base 25 len ps)=bsK 1 (.int .i64 0) base len ps:=aH8 (e:=3) (by kernel_rfl) (by kernel_rfl) (by kernel_rfl) base len ps
theorem aF5(ps:List (Nat × AV)):atW Tryz.prog 68 ps=(arP (fun i=>([(0,1),(1,1)]:List (Nat × Nat))[i]?) (acU (.agg [.int .i64 0,.int .i64 0])) ps).map .agg:=by kernel_rfl
theorem aO1(ps:List (Nat × AV)):atW Tryz.prog 70 ps=(arP (fun i=>([(0,7),(7,2),(9,1),(10,1)]:List (Nat × Nat))[i]?) (acU (.agg [.nils,.nils,.nils,.int .i64 0,.int .i64 0,.int .i64 0,.nils,.int .i64 0,.int .i64 0,.nils,.bool false])) ps).map .agg:=by kernel_rfl
theorem avM(h:aaP)(cs:List AV):ld Tryz.prog 54 h (some (.iptr cs))=if 3≤cs.length then some (.ret (.agg (cs.take 3)),[])else none:=aIP ⟨by kernel_rfl,by kernel_rfl⟩ h cs
theorem auM(b r o:Nat):fa Tryz.prog 54 (some (.ptr b r o)) 0=some (.ret (.ptr b r (o+0)),[]):=anA (show an6 Tryz.prog 54 0 0 1 from⟨_,_,Tryz.underlying54,rfl,rfl,by kernel_rfl,by decide⟩) b r o
theorem auB(b r o:Nat):fa Tryz.prog 54 (some (.ptr b r o)) 1=some (.ret (.ptr b r (o+1)),[]):=anA (show an6 Tryz.prog 54 1 1 1 from⟨_,_,Tryz.underlying54,rfl,rfl,by kernel_rfl,by decide⟩) b r o
theorem aD2(h:aaP)(b r o:Nat):ld Tryz.prog 49 h (some (.ptr b r o))=ldR (asX (h[b]?) r) o 4:=aCR ⟨by kernel_rfl,by kernel_rfl⟩ h b r o
theorem avU(h:aaP)(cs:List AV):ld Tryz.prog 49 h (some (.iptr cs))=if 4≤cs.length then some (.ret (.agg (cs.take 4)),[])else none:=aIP ⟨by kernel_rfl,by kernel_rfl⟩ h cs
theorem auG(b r o:Nat):fa Tryz.prog 27 (some (.ptr b r o)) 3=some (.ret (.ptr b r (o+3)),[]):=anA (show an6 Tryz.prog 27 3 3 1 from⟨_,_,Tryz.underlying27,rfl,rfl,by kernel_rfl,by decide⟩) b r o
theorem arN(b r o:Nat):fa Tryz.prog 27 (some (.ptr b r o)) 4=some (.ret (.ptr b r (o+4)),[]):=anA (show an6 Tryz.prog 27 4 4 1 from⟨_,_,Tryz.underlying27,rfl,rfl,by kernel_rfl,by decide⟩) b r o
theorem aB6(h:aaP)(b r o:Nat):ld Tryz.prog 52 h (some (.ptr b r o))=ldR (asX (h[b]?) r) o 5:=aCR ⟨by kernel_rfl,by kernel_rfl⟩ h b r o
theorem avP(h:aaP)(cs:List AV):ld Tryz.prog 52 h (some (.iptr cs))=if 5≤cs.length then some (.ret (.agg (cs.take 5)),[])else none:=aIP ⟨by kernel_rfl,by kernel_rfl⟩ h cs
theorem aBN(b r o:Nat):fa Tryz.prog 70 (some (.ptr b r o)) 0=some (.ret (.ptr b r (o+0)),[]):=anA (show an6 Tryz.prog 70 0 0 7 from⟨_,_,Tryz.underlying70,rfl,rfl,by kernel_rfl,by decide⟩) b r o
theorem aBB(b r o:Nat):fa Tryz.prog 70 (some (.ptr b r o)) 2=some (.ret (.ptr b r (o+9)),[]):=anA (show an6 Tryz.prog 70 2 9 1 from⟨_,_,Tryz.underlying70,rfl,rfl,by kernel_rfl,by decide⟩) b r o
theorem aCU(h:aaP)(b r o:Nat):ld Tryz.prog 28 h (some (.ptr b r o))=ldC (asX (h[b]?) r) o:=aAS ⟨by kernel_rfl,1,by kernel_rfl⟩ h b r o
theorem aPN(b r o:Nat):ftL Tryz.prog 28 (some (.ptr b r o))=some [.cells b o 1]:=asM (isA:=false) (n:=1) (by kernel_rfl) (by kernel_rfl) b r o
theorem aA2(b r o:Nat):fa Tryz.prog 70 (some (.ptr b r o)) 1=some (.ret (.ptr b r (o+7)),[]):=anA (show an6 Tryz.prog 70 1 7 2 from⟨_,_,Tryz.underlying70,rfl,rfl,by kernel_rfl,by decide⟩) b r o
theorem aDD(h:aaP)(b r o:Nat):ld Tryz.prog 68 h (some (.ptr b r o))=ldR (asX (h[b]?) r) o 2:=aCR ⟨by kernel_rfl,by kernel_rfl⟩ h b r o
theorem aN0(b r o:Nat):ftL Tryz.prog 68 (some (.ptr b r o))=some [.cells b o 2]:=asM (isA:=true) (n:=2) (by kernel_rfl) (by kernel_rfl) b r o
theorem aO9(ps:List (Nat × AV)):atW Tryz.prog 77 ps=(arP (fun i=>([(0,1),(1,1)]:List (Nat × Nat))[i]?) (acU (.agg [.int .i64 0,.int .i64 0])) ps).map .agg:=by kernel_rfl
theorem aIB(h:aaP)(b r o:Nat)(v:AV):st_ Tryz.prog 68 h (some (.ptr b r o)) (some v)=sv 2 (h[b]?) b r o (acU v):=aq9 (by kernel_rfl) h b r o v
theorem aP9(b r o:Nat):ftS Tryz.prog 68 (some (.ptr b r o))=some [.cells b o 2]:=auE (by kernel_rfl) b r o
theorem aUJ(h:aaP)(b r o:Nat)(v:AV):st_ Tryz.prog 28 h (some (.ptr b r o)) (some v)=sv 1 (h[b]?) b r o (acU v):=aq9 (by kernel_rfl) h b r o v
theorem aNP(b r o:Nat):ftS Tryz.prog 28 (some (.ptr b r o))=some [.cells b o 1]:=auE (by kernel_rfl) b r o
theorem auL(b r o:Nat):fa Tryz.prog 68 (some (.ptr b r o)) 0=some (.ret (.ptr b r (o+0)),[]):=anA (show an6 Tryz.prog 68 0 0 1 from⟨_,_,Tryz.underlying68,rfl,rfl,by kernel_rfl,by decide⟩) b r o
theorem awD(b r o:Nat):fa Tryz.prog 52 (some (.ptr b r o)) 1=some (.ret (.ptr b r (o+1)),[]):=anA (show an6 Tryz.prog 52 1 1 1 from⟨_,_,Tryz.underlying52,rfl,rfl,by kernel_rfl,by decide⟩) b r o
theorem aI7(cs:List AV):fa Tryz.prog 52 (some (.iptr cs)) 1=if 1+1≤cs.length then some (.ret (.iptr (cs.drop 1)),[])else none:=av4 (show an6 Tryz.prog 52 1 1 1 from⟨_,_,Tryz.underlying52,rfl,rfl,by kernel_rfl,by decide⟩) cs
theorem aw5(b r o:Nat):fa Tryz.prog 68 (some (.ptr b r o)) 1=some (.ret (.ptr b r (o+1)),[]):=anA (show an6 Tryz.prog 68 1 1 1 from⟨_,_,Tryz.underlying68,rfl,rfl,by kernel_rfl,by decide⟩) b r o
theorem aTS:arQ Tryz.prog 68=some (.agg [.int .i64 0,.int .i64 0]):=by kernel_rfl
theorem aP0(base len:Nat)(ps:List (Nat × AV)):rD (ak9 Tryz.prog base 22 len ps)=bsK 3 (.agg [.int .i64 0,.int .i64 0,.bool false]) base len ps:=aH8 (e:=54) (by kernel_rfl) (by kernel_rfl) (by kernel_rfl) base len ps
theorem aN8(base len:Nat)(ps:List (Nat × AV)):rD (ak9 Tryz.prog base 23 len ps)=bsK 4 (.agg [.nils,.int .i64 0,.int .i64 0,.bool false]) base len ps:=aH8 (e:=49) (by kernel_rfl) (by kernel_rfl) (by kernel_rfl) base len ps
theorem aNV(base len:Nat)(ps:List (Nat × AV)):rD (ak9 Tryz.prog base 50 len ps)=bsK 2 (.agg [.int .i64 0,.bool false]) base len ps:=aH8 (e:=56) (by kernel_rfl) (by kernel_rfl) (by kernel_rfl) base len ps
theorem aNG(base len:Nat)(ps:List (Nat × AV)):rD (ak9 Tryz.prog base 24 len ps)=bsK 5 (.agg [.int .i64 0,.int .i64 0,.nils,.int .i64 0,.int .i64 0]) base len ps:=aH8 (e:=52) (by kernel_rfl) (by kernel_rfl) (by kernel_rfl) base len ps
theorem aIO(h:aaP)(b r o:Nat)(v:AV):st_ Tryz.prog 49 h (some (.ptr b r o)) (some v)=sv 4 (h[b]?) b r o (acU v):=aq9 (by kernel_rfl) h b r o v
theorem aA4(b r o:Nat):fa Tryz.prog 54 (some (.ptr b r o)) 2=some (.ret (.ptr b r (o+2)),[]):=anA (show an6 Tryz.prog 54 2 2 1 from⟨_,_,Tryz.underlying54,rfl,rfl,by kernel_rfl,by decide⟩) b r o
theorem auO(b r o:Nat):fa Tryz.prog 49 (some (.ptr b r o)) 1=some (.ret (.ptr b r (o+1)),[]):=anA (show an6 Tryz.prog 49 1 1 1 from⟨_,_,Tryz.underlying49,rfl,rfl,by kernel_rfl,by decide⟩) b r o
theorem aw2(b r o:Nat):fa Tryz.prog 56 (some (.ptr b r o)) 0=some (.ret (.ptr b r (o+0)),[]):=anA (show an6 Tryz.prog 56 0 0 1 from⟨_,_,Tryz.underlying56,rfl,rfl,by kernel_rfl,by decide⟩) b r o
theorem aBE(cs:List AV):fa Tryz.prog 56 (some (.iptr cs)) 0=if 0+1≤cs.length then some (.ret (.iptr (cs.drop 0)),[])else none:=av4 (show an6 Tryz.prog 56 0 0 1 from⟨_,_,Tryz.underlying56,rfl,rfl,by kernel_rfl,by decide⟩) cs
theorem at6(b r o:Nat):fa Tryz.prog 52 (some (.ptr b r o)) 0=some (.ret (.ptr b r (o+0)),[]):=anA (show an6 Tryz.prog 52 0 0 1 from⟨_,_,Tryz.underlying52,rfl,rfl,by kernel_rfl,by decide⟩) b r o
theorem auC(b r o:Nat):fa Tryz.prog 52 (some (.ptr b r o)) 3=some (.ret (.ptr b r (o+3)),[]):=anA (show an6 Tryz.prog 52 3 3 1 from⟨_,_,Tryz.underlying52,rfl,rfl,by kernel_rfl,by decide⟩) b r o
theorem aI0(b r o:Nat):fa Tryz.prog 70 (some (.ptr b r o)) 3=some (.ret (.ptr b r (o+10)),[]):=anA (show an6 Tryz.prog 70 3 10 1 from⟨_,_,Tryz.underlying70,rfl,rfl,by kernel_rfl,by decide⟩) b r o
theorem aTC(h:aaP)(b r o:Nat)(v:AV):st_ Tryz.prog 52 h (some (.ptr b r o)) (some v)=sv 5 (h[b]?) b r o (acU v):=aq9 (by kernel_rfl) h b r o v
theorem aLL(h:aaP)(b r o:Nat):ld Tryz.prog 77 h (some (.ptr b r o))=ldR (asX (h[b]?) r) o 2:=aCR ⟨by kernel_rfl,by kernel_rfl⟩ h b r o
theorem aLE(ps:List (Nat × AV)):atW Tryz.prog 111 ps=(arP (fun i=>([(0,5),(5,2),(7,2)]:List (Nat × Nat))[i]?) (acU (.agg [.int .i64 0,.int .i64 0,.nils,.int .i64 0,.int .i64 0,.int .i64 0,.int .i64 0,.int .i64 0,.int .i64 0])) ps).map .agg:=by kernel_rfl
theorem aNL(base len:Nat)(ps:List (Nat × AV)):rD (ak9 Tryz.prog base 80 len ps)=bsK 1 (.bool false) base len ps:=aH8 (e:=4) (by kernel_rfl) (by kernel_rfl) (by kernel_rfl) base len ps
theorem aEO{O:Orc}(t:List AV)(h:aaP)(s x:Operand):aoA O Tryz.prog t h (.call ⟨.builtin .append,#[s,x],#[80,80]⟩)=apO Tryz.prog 80 h (acR t s) (acR t x):=aC0 t h s x 80 80 _ Tryz.underlying80
theorem aN6(h:aaP)(s:AV)(a b r l:Nat):apO Tryz.prog 80 h (some s) (some (.slr a b r l))=apK 1 h (some s) (srK 1 h (some (.slr a b r l))):=au8 (e:=4) (b:=1) (z:=.bool false) (by kernel_rfl) (by kernel_rfl) (by kernel_rfl) (by kernel_rfl) (by decide+kernel) h s _ (fun q e=>by cases e)
theorem aOG(fl nn:Bool)(rows:List (List AV))(k:IntKind)(i:Int):ia Tryz.prog 80 (some (slv 1 fl nn rows)) (some (.int k i))=if 0≤i then r1 ((rows[i.toNat]?).map .iptr)else none:=ax7 ⟨_,Tryz.underlying80,by kernel_rfl⟩ fl nn rows k i
theorem aQA(n:Nat)(fl:Bool)(rows:List (List AV)):ao1 Tryz.prog .eql 25 (.imm n fl rows) .nils=some (.bool false):=asU Tryz.underlying25 n fl rows
theorem aN4:ao1 Tryz.prog .eql 25 .nils .nils=some (.bool true):=arU Tryz.underlying25
theorem aJB(b r o:Nat):fa Tryz.prog 77 (some (.ptr b r o)) 0=some (.ret (.ptr b r (o+0)),[]):=anA (show an6 Tryz.prog 77 0 0 1 from⟨_,_,Tryz.underlying77,rfl,rfl,by kernel_rfl,by decide⟩) b r o
theorem aDC(h:aaP)(cs:List AV):ld Tryz.prog 56 h (some (.iptr cs))=if 2≤cs.length then some (.ret (.agg (cs.take 2)),[])else none:=aIP ⟨by kernel_rfl,by kernel_rfl⟩ h cs
theorem aU2(h:aaP)(b r o:Nat)(v:AV):st_ Tryz.prog 56 h (some (.ptr b r o)) (some v)=sv 2 (h[b]?) b r o (acU v):=aq9 (by kernel_rfl) h b r o v
theorem aQE(n:Nat)(fl:Bool)(rows:List (List AV)):ao1 Tryz.prog .eql 22 (.imm n fl rows) .nils=some (.bool false):=asU Tryz.underlying22 n fl rows
theorem aP2:ao1 Tryz.prog .eql 22 .nils .nils=some (.bool true):=arU Tryz.underlying22
theorem aO3(n:Nat)(fl:Bool)(rows:List (List AV)):ao1 Tryz.prog .eql 23 (.imm n fl rows) .nils=some (.bool false):=asU Tryz.underlying23 n fl rows
theorem aPU:ao1 Tryz.prog .eql 23 .nils .nils=some (.bool true):=arU Tryz.underlying23
theorem aPD(n:Nat)(fl:Bool)(rows:List (List AV)):ao1 Tryz.prog .eql 24 (.imm n fl rows) .nils=some (.bool false):=asU Tryz.underlying24 n fl rows
theorem aQC:ao1 Tryz.prog .eql 24 .nils .nils=some (.bool true):=arU Tryz.underlying24
theorem aOO(n:Nat)(fl:Bool)(rows:List (List AV)):ao1 Tryz.prog .eql 50 (.imm n fl rows) .nils=some (.bool false):=asU Tryz.underlying50 n fl rows
theorem aPJ:ao1 Tryz.prog .eql 50 .nils .nils=some (.bool true):=arU Tryz.underlying50
theorem aBL(h:aaP)(b r o:Nat):ld Tryz.prog 111 h (some (.ptr b r o))=ldR (asX (h[b]?) r) o 9:=aCR ⟨by kernel_rfl,by kernel_rfl⟩ h b r o
theorem aAU(b r o:Nat):fa Tryz.prog 49 (some (.ptr b r o)) 3=some (.ret (.ptr b r (o+3)),[]):=anA (show an6 Tryz.prog 49 3 3 1 from⟨_,_,Tryz.underlying49,rfl,rfl,by kernel_rfl,by decide⟩) b r o
theorem aLH(base len:Nat)(ps:List (Nat × AV)):rD (ak9 Tryz.prog base 137 len ps)=bsK 1 (.int .u8 0) base len ps:=aH8 (e:=5) (by kernel_rfl) (by kernel_rfl) (by kernel_rfl) base len ps
theorem as7(b r o:Nat):fa Tryz.prog 111 (some (.ptr b r o)) 0=some (.ret (.ptr b r (o+0)),[]):=anA (show an6 Tryz.prog 111 0 0 5 from⟨_,_,Tryz.underlying111,rfl,rfl,by kernel_rfl,by decide⟩) b r o
theorem ay7(b r o:Nat):fa Tryz.prog 111 (some (.ptr b r o)) 1=some (.ret (.ptr b r (o+5)),[]):=anA (show an6 Tryz.prog 111 1 5 2 from⟨_,_,Tryz.underlying111,rfl,rfl,by kernel_rfl,by decide⟩) b r o
theorem ayM(b r o:Nat):fa Tryz.prog 111 (some (.ptr b r o)) 2=some (.ret (.ptr b r (o+7)),[]):=anA (show an6 Tryz.prog 111 2 7 2 from⟨_,_,Tryz.underlying111,rfl,rfl,by kernel_rfl,by decide⟩) b r o
theorem aHQ(b r o:Nat):fa Tryz.prog 77 (some (.ptr b r o)) 1=some (.ret (.ptr b r (o+1)),[]):=anA (show an6 Tryz.prog 77 1 1 1 from⟨_,_,Tryz.underlying77,rfl,rfl,by kernel_rfl,by decide⟩) b r o
def TY4:=PLift.up (acQ @ao7 (acQ @az8 (acQ @aH2 (acQ @aJ7 (acQ @apQ (acQ @aqF (acQ @axZ (acQ @aF6 (acQ @aP3 (acQ @aJE (acQ @apV (acQ @aqD (acQ @aE1 (acQ @axP (acQ @aFP (acQ @aO6 (acQ @aJ8 (acQ @aqS (acQ @arF (acQ @aFQ (acQ @axO (acQ @aF0 (acQ @aOY (acQ @aHO (acQ @arJ (acQ @an2 (acQ @aCJ (acQ @auV (acQ @aE5 (acQ @aP7 (acQ @aIX (acQ @aE9 (acQ @aEV (acQ @aFZ (acQ @atC (acQ @arO (acQ @aBI (acQ @aFS (acQ @aFK (acQ @as9 (acQ @arK (acQ @aBJ (acQ @asA (acQ @aCZ (acQ @ax2 (acQ @aE8 (acQ @aNZ (acQ @aJC (acQ @aFU (acQ @aPS (acQ @aNQ (acQ @aQR (acQ @azN (acQ @aO8 (acQ @aPW (acQ @aF4 (acQ @aqJ (acQ @aXJ (acQ @asV (acQ @aOK (acQ @aNW (acQ @aAY (acQ @au2 (acQ @aX2 (acQ @asQ (acQ @auK (acQ @alD (acQ @apC (acQ @az5 (acQ @ap8 (acQ @aJL (acQ @aJZ (acQ @aF2 (acQ @aCG (acQ @aCN (acQ @aFR (acQ @avV @ayI)))))))))))))))))))))))))))))))))))))))))))))))))))))))))))))))))))))))))))))
def TY5:=PLift.up (acQ @apV (acQ @aqD (acQ @asI (acQ @atC (acQ @aBI (acQ @an2 (acQ @aCJ (acQ @apN (acQ @aqS (acQ @arF (acQ @atA (acQ @as9 (acQ @aBJ (acQ @aCZ (acQ @au3 (acQ @apQ (acQ @aqF (acQ @avA @arJ))))))))))))))))))
def TY7:=PLift.up (acQ @ao7 (acQ @aEX (acQ @auK (acQ @alD (acQ @ayN (acQ @aF5 @aO1))))))
def TY8:=PLift.up (acQ @apQ (acQ @aqF (acQ @avA (acQ @aw8 (acQ @avM (acQ @aC8 (acQ @azN (acQ @auM (acQ @alD (acQ @apC (acQ @auB (acQ @apV (acQ @aqD (acQ @asI (acQ @atC (acQ @avU (acQ @auG (acQ @arN (acQ @auK (acQ @arJ (acQ @an2 (acQ @apN (acQ @aqS (acQ @arF (acQ @atA (acQ @aqJ (acQ @ao7 (acQ @as9 @avP))))))))))))))))))))))))))))
def TY9:=PLift.up (acQ @aBN (acQ @ao7 (acQ @aEX (acQ @avV (acQ @aPC (acQ @aBB (acQ @aCU (acQ @aPN (acQ @aA2 (acQ @aDD (acQ @aN0 (acQ @ap8 (acQ @an2 (acQ @axD (acQ @aqR (acQ @alD (acQ @ayN (acQ @aO9 (acQ @aIB (acQ @aP9 (acQ @aOP (acQ @aER (acQ @aP1 (acQ @aUJ (acQ @aNP @auL)))))))))))))))))))))))))
def a7F:=PLift.up (acQ @ao7 (acQ @ap8 (acQ @an2 (acQ @aqR (acQ @alD @arN)))))
def aEC:=PLift.up (acQ @ao7 (acQ @ap8 (acQ @an2 (acQ @aqS (acQ @arF (acQ @atA (acQ @as9 (acQ @avP (acQ @aqR (acQ @alD (acQ @apC @aI7)))))))))))
def a7V:=PLift.up (acQ @aA2 (acQ @auL (acQ @alD (acQ @aw5 (acQ @aBN (acQ @arJ (acQ @an2 @aF4)))))))
def aIG:=PLift.up (acQ @aBB (acQ @aCU (acQ @aQN (acQ @avV (acQ @aCG (acQ @aCN (acQ @ap8 (acQ @an2 (acQ @axD (acQ @aqR (acQ @alD (acQ @ayN (acQ @aFD (acQ @auV @aOE))))))))))))))
def aYK:=PLift.up (acQ @az8 (acQ @az5 @ayI))
def aO7:=PLift.up (acQ @az8 (acQ @ao7 (acQ @az5 @ayI)))
def aEL:=PLift.up (acQ @apQ (acQ @aqF (acQ @avA (acQ @apV (acQ @aqD (acQ @asI (acQ @aqS (acQ @arF (acQ @atA (acQ @auG (acQ @alD (acQ @arN (acQ @auK (acQ @arJ (acQ @an2 (acQ @apN (acQ @aw8 (acQ @avM (acQ @aC8 (acQ @azN (acQ @auM (acQ @auB (acQ @atC (acQ @avU (acQ @aKB (acQ @aIO (acQ @arO (acQ @auO @asV))))))))))))))))))))))))))))
def av1:=PLift.up (acQ @ao7 (acQ @aH2 (acQ @apQ (acQ @aqF (acQ @aPE (acQ @apV (acQ @aqD (acQ @aE1 (acQ @aqS (acQ @arF (acQ @aFQ (acQ @arJ (acQ @an2 (acQ @axD (acQ @aJE (acQ @aQM (acQ @aJ8 (acQ @aPQ (acQ @aHO (acQ @aNS (acQ @aIX (acQ @aE9 (acQ @aEV (acQ @aNC (acQ @aFZ (acQ @arO (acQ @aFS (acQ @aOX (acQ @aFK (acQ @arK (acQ @asA (acQ @aPL (acQ @aJC (acQ @aFU @aJ7))))))))))))))))))))))))))))))))))
def aOL:=PLift.up (acQ @arO (acQ @an2 (acQ @apN (acQ @aqJ (acQ @alD (acQ @apC (acQ @auO @asV)))))))
def aB8:=PLift.up (acQ @arK (acQ @asA (acQ @au3 (acQ @axB (acQ @aBE (acQ @alD (acQ @apC (acQ @apV (acQ @aqD (acQ @asI (acQ @at6 (acQ @auG (acQ @awD (acQ @auC (acQ @arN @asQ)))))))))))))))
def a7E:=PLift.up (acQ @aI0 @au2)
def a8A:=PLift.up (acQ @ao7 (acQ @ap8 (acQ @an2 (acQ @aqR (acQ @alD @arN)))))
def aQ8:=PLift.up (acQ @aDD (acQ @aTS (acQ @aqS (acQ @arF (acQ @atA (acQ @as9 (acQ @aB6 (acQ @avP (acQ @aR9 (acQ @aTC (acQ @aLL (acQ @aLE (acQ @awD (acQ @alD (acQ @aF5 (acQ @aIB (acQ @auL @aw5)))))))))))))))))
def aKY:=PLift.up (acQ @apV (acQ @aqD (acQ @asI (acQ @atC (acQ @aD2 (acQ @avU (acQ @aKB (acQ @aIO (acQ @arO (acQ @an2 (acQ @apN (acQ @aqJ (acQ @alD (acQ @apC (acQ @apQ (acQ @aqF (acQ @aw8 (acQ @avM @auO))))))))))))))))))
def a5P:=PLift.up (acQ @avV (acQ @aCG (acQ @ap8 (acQ @an2 (acQ @axD (acQ @aqR (acQ @alD (acQ @ayN (acQ @aF2 (acQ @aCN @aFR))))))))))
def aUH:=PLift.up (acQ @apN (acQ @aqJ (acQ @apC (acQ @apQ (acQ @aqF @avA)))))
def aQB:=PLift.up (acQ @apV (acQ @aqD (acQ @asI (acQ @ao7 (acQ @atC (acQ @avU (acQ @aNL (acQ @aEO @aN6))))))))
def aSH:=PLift.up (acQ @arK (acQ @asA (acQ @au3 (acQ @axB (acQ @aBE (acQ @alD (acQ @apC (acQ @aOG (acQ @aON (acQ @aHP (acQ @at6 (acQ @asQ @auC))))))))))))
def aWT:=PLift.up (acQ @apN (acQ @aqJ @apC))
def a2L:=PLift.up (acQ @aQA (acQ @aN4 (acQ @aFD (acQ @auV @aE5))))
def aVY:=PLift.up (acQ @ap8 (acQ @an2 (acQ @apN (acQ @aqJ (acQ @alD (acQ @apC @aqR))))))
def aOJ:=PLift.up (acQ @apN (acQ @aqJ @apC))
def a7D:=PLift.up (acQ @ao7 @aB6)
def aLO:=PLift.up (acQ @arK (acQ @asA (acQ @au3 (acQ @axB (acQ @aDC (acQ @aTA (acQ @aU2 (acQ @aw2 (acQ @alD (acQ @apV (acQ @aqD (acQ @asI (acQ @at6 (acQ @auG (acQ @awD (acQ @auC (acQ @arN @asQ)))))))))))))))))
def a3H:=PLift.up (acQ @aQE (acQ @aP2 (acQ @aP0 (acQ @axZ @aF6))))
def a0T:=PLift.up (acQ @aO3 (acQ @aPU (acQ @aN8 (acQ @axP @aFP))))
def a2Y:=PLift.up (acQ @aPD (acQ @aQC (acQ @aNG (acQ @axO @aF0))))
def a0L:=PLift.up (acQ @aOO (acQ @aPJ (acQ @aNV (acQ @ax2 @aE8))))
def a7K:=PLift.up (acQ @apN (acQ @apQ (acQ @aqF @avA)))
def a4F:=PLift.up (acQ @aBL @aBL)
def a7S:=PLift.up (acQ @aA4 (acQ @au2 (acQ @auM (acQ @alD (acQ @auB (acQ @aAU @asV))))))
def aYN:=PLift.up (acQ @arO (acQ @an2 (acQ @apN (acQ @ao7 (acQ @aD2 (acQ @aqJ (acQ @alD (acQ @apC @auO))))))))
def aQD:=PLift.up (acQ @Tryz.underlying3 (acQ @Tryz.underlying5 (acQ @Tryz.underlying137 (acQ @aLH @Tryz.underlying9))))
def aU1:=PLift.up (acQ @atA (acQ @as9 @avP))
def a7N:=PLift.up (acQ @aw2 @alD)
def aRK:=PLift.up (acQ @apN (acQ @aqJ @apC))
def a7W:=PLift.up (acQ @as7 (acQ @at6 (acQ @alD (acQ @ay7 @auL))))
def a73:=PLift.up (acQ @as7 (acQ @asQ (acQ @alD (acQ @ay7 @aw5))))
def a7U:=PLift.up (acQ @as7 (acQ @arK @asA))
def a71:=PLift.up (acQ @as7 (acQ @auC (acQ @alD (acQ @ayM @aHQ))))
def a7Y:=PLift.up (acQ @apQ (acQ @aqF (acQ @aw8 (acQ @avM (acQ @aC8 (acQ @azN (acQ @aA4 (acQ @au2 (acQ @auM (acQ @alD (acQ @auB (acQ @aAU @asV))))))))))))
def aEN:=PLift.up (acQ @au3 (acQ @axB @aDC))
def a7A:=PLift.up (acQ @ayM (acQ @aJB (acQ @alD (acQ @aw2 (acQ @aAY @au2)))))
end Go.Proofs.YtfkokgjfpojeoaaGreatDoor
namespace Go.Proofs.YtfkokgjfpojeoaaGreatDoor
open Go Go.Ev Go.ChangeShapes Go.WideShapes Go.ChangeAt Go.RowKit
set_option maxRecDepth 100000
set_option maxHeartbeats 16000000
def mdL:List Nat:=[79,84,90,66,9,12,13,28]
def pr:ap6:=aKX 62 (mdL.contains ·)
noncomputable def om':Orc:=om Tryz.prog pr
def Va:=PLift.up (acQ EE.down EVu.down)
def Vc:=PLift.up (acQ EG.down EVu.down)
theorem a7X{C:R→Prop}[NoN C]{n:Nat}{k:List af2}{c:Code}{s:St}(h:Un om' Tryz.prog n k c C (evM om' Tryz.prog 5000 c [] s)):C (lpK om' Tryz.prog n k (om'.loop c s)):=a41 (pr:=pr) h
theorem own:ownKnob Tryz.prog.godebug=none:=by kernel_rfl
theorem a5J:aQF Tryz.prog:=fun f fn hf=>by
 have h:(Tryz.prog.funcs.toList.all fun fn=> !(fn.name== "runtime.NumGoroutine"))=true:=by kernel_rfl
 have:=List.all_eq_true.1 h fn (by rw[Array.mem_toList_iff];exact Array.mem_of_getElem? hf)
 simpa using this
theorem mixed:Tryz.prog.follows .mixedOrders=true:=by kernel_rfl
theorem aVT:laidOutB Tryz.prog=true:=by kernel_rfl
def laid:List (String × DataW Unit):=[("math/bits.deBruijn32tab",Rows.laid_math_bits_deBruijn32tab),("math/bits.deBruijn64tab",Rows.laid_math_bits_deBruijn64tab),("internal/strconv.uint64pow10",Rows.laid_internal_strconv_uint64pow10)]
theorem a4B:Tryz.prog.globalNamed "internal/strconv.uint64pow10" =some 0:=by kernel_rfl
theorem tab{W:World}(h:laidMetH Tryz.prog laid W):Lib.TabIs Tryz.prog W "internal/strconv.uint64pow10" .u64 Lib.pow10Tab:=by
 rw[MakeChecks.laidMetH_plain _ _ _ (by kernel_rfl)]at h
 obtain⟨ps,h,_⟩:=h
 exact azM (t:=162) (e:=145) (n:=20) a4B (by kernel_rfl) (by kernel_rfl) (by kernel_rfl) (by kernel_rfl) (by kernel_rfl) h (by
  have e:(Lib.tabData .u64 Lib.pow10Tab:DataW Unit)=Rows.laid_internal_strconv_uint64pow10:=rfl
  rw[e];simp[laid])
theorem aRP{W:World}(h:laidMetH Tryz.prog laid W):apR Tryz.prog (aTY W 0) om':=
 a6J a5J (aPT (aX4 (aLQ a5J Tryz.func62 rfl) (aSR a4B (tab h)) (fun n w h0 h1 ht=>Tryz.strconv_Itoa n h0 h1 w ht))) mixed
theorem aRM(os:Os)(args:Array Value):laidMetH Tryz.prog laid ((World.doorLaid Tryz.prog 400 os).forCall (fun _ _=>0) ⟨#[],args,[]⟩).memory:=
 laidMetH_of_parts3 (fuel:=8) (laidMet_of_run' 8 (by kernel_rfl) (by kernel_rfl)) (by kernel_rfl) (by kernel_rfl)
theorem a3P{f:Nat}{fn:Func}{c:Code}{args:List AV}{h:aaP}{Q:Out→aaP→Prop}(hp:pr f=none)(hf:Tryz.prog.funcs[f]?=some fn)(hb:fn.body=some c)(hl:alV args.length fn.ntmps=true)
 (he:FnE Tryz.prog h.length fn.results.toList Q (evM om' Tryz.prog 5000 c [] ⟨mk fn.ntmps (ent args),h⟩)):ClQ om' f args h Q:=ClQ.start (pr:=pr) hp hf hb hl he
theorem a1N{f:Nat}{fn:Func}{c:Code}{args:List AV}{h:aaP}{Q:Out→aaP→Prop}(hp:pr f=none)(hf:Tryz.prog.funcs[f]?=some fn)(hb:fn.body=some c)(hl:alV args.length fn.ntmps=true)
 (he:FnS Tryz.prog fn.results.toList Q (evM om' Tryz.prog 5000 c [] ⟨mk fn.ntmps (ent args),h⟩)):ShQ om' f args h Q:=ShQ.start (pr:=pr) hp hf hb hl he
theorem ce{f:Nat}{fn:Func}{c:Code}{args:List AV}{h:aaP}{o:Out}{h':aaP}(hf:Tryz.prog.funcs[f]?=some fn)(he:FnE Tryz.prog h.length fn.results.toList (fun o1 h1=>(o1,h1)=(o,h')) (evM om' Tryz.prog 5000 c [] ⟨mk fn.ntmps (ent args),h⟩))(hp:pr f=none:=by exact rfl)(hb:fn.body=some c:=by exact rfl)(hl:alV args.length fn.ntmps=true:=by exact rfl):om'.call (.fn f) args h=some (o,h'):=(a3P hp hf hb hl he).eq
theorem csh{f:Nat}{fn:Func}{c:Code}{args:List AV}{h:aaP}{o:Out}{h':aaP}(hf:Tryz.prog.funcs[f]?=some fn)(he:FnS Tryz.prog fn.results.toList (fun o1 h1=>(o1,h1)=(o,h')) (evM om' Tryz.prog 5000 c [] ⟨mk fn.ntmps (ent args),h⟩))(hp:pr f=none:=by exact rfl)(hb:fn.body=some c:=by exact rfl)(hl:alV args.length fn.ntmps=true:=by exact rfl):om'.call (.sh f) args h=some (o,h'):=(a1N hp hf hb hl he).eq
theorem lst{α σ ρ:Type}{c:Code}(N:Nat)(l:List α)(E:Nat→σ→Tm→aaP→Prop)(F:List α→σ→ρ)(Q:ρ→Ex→Tm→aaP→Prop)
 (stop:∀s t h Q',(∀e t h,Q (F [] s) e t h→Q' e ⟨mk N t,h⟩)→E l.length s t h→Rnd N (fun _ _=>False) Q' (evM om' Tryz.prog 5000 c [] ⟨mk N t,h⟩))
 (go:∀x rest i s t h J Q',(∀t' h' s',E (i+1) s' t' h'→F rest s'=F (x::rest) s→J t' h')→(∀e t h,Q (F (x::rest) s) e t h→Q' e ⟨mk N t,h⟩)→l[i]?=some x→i<l.length→E i s t h→
   Rnd N J Q' (evM om' Tryz.prog 5000 c [] ⟨mk N t,h⟩)):
 ∀s t h,E 0 s t h→LpQ om' c ⟨mk N t,h⟩ (Ot N (Q (F l s))):=aPK (pr:=pr) rfl N l E F Q stop go
theorem cnt{σ ρ:Type}{c:Code}(N:Nat)(E:Nat→σ→Tm→aaP→Prop)(F:Nat→σ→ρ)(Q:ρ→Ex→Tm→aaP→Prop)
 (stop:∀s t h Q',(∀e t h,Q (F 0 s) e t h→Q' e ⟨mk N t,h⟩)→E 0 s t h→Rnd N (fun _ _=>False) Q' (evM om' Tryz.prog 5000 c [] ⟨mk N t,h⟩))
 (go:∀n s t h J Q',(∀t' h' s',E n s' t' h'→F n s'=F (n+1) s→J t' h')→(∀e t h,Q (F (n+1) s) e t h→Q' e ⟨mk N t,h⟩)→E (n+1) s t h→Rnd N J Q' (evM om' Tryz.prog 5000 c [] ⟨mk N t,h⟩)):
 ∀n s t h,E n s t h→LpQ om' c ⟨mk N t,h⟩ (Ot N (Q (F n s))):=aT1 (pr:=pr) rfl N E F Q stop go
def iv(x:Int):List AV:=[.int .i64 x]
theorem ahZ{h:aaP}{b:Nat}{c:CB}(h0:h[b]?=some c)(l:aaP):(h++l)[b]?=some c:=by
 rw[List.getElem?_append_left (List.getElem?_eq_some_iff.1 h0).1];exact h0
end Go.Proofs.YtfkokgjfpojeoaaGreatDoor
namespace Go.Proofs.YtfkokgjfpojeoaaGreatDoor
open Go.Ev Go
set_option maxRecDepth 100000
set_option maxHeartbeats 16000000
structure ak7 where
 lo:Int
 hi:Int
 byp:Bool
def ak7.cells(s:ak7):List AV:=[.int .i64 s.lo,.int .i64 s.hi,.bool s.byp]
structure acT where
 nn:Bool
 sens:List Int
 need:Int
 level:Int
 above:Bool
def acT.cells(v:acT):List AV:=[slv 1 true v.nn (v.sens.map iv),.int .i64 v.need,.int .i64 v.level,.bool v.above]
structure agP where
 vote:Int
 is:Bool
def agP.cells(w:agP):List AV:=[.int .i64 w.vote,.bool w.is]
structure acS where
 frm:Int
 to:Int
 nn:Bool
 wants:List agP
 cmd:Int
 after:Int
def acS.cells(x:acS):List AV:=[.int .i64 x.frm,.int .i64 x.to,slv 2 true x.nn (x.wants.map agP.cells),.int .i64 x.cmd,.int .i64 x.after]
structure ad5 where
 nS:Bool
 sens:List ak7
 nV:Bool
 votes:List acT
 nM:Bool
 moves:List acS
 states:Int
 cmds:Int
 bgn:Int
 nO:Bool
 opn:List Int
abbrev ad5.cells(m:ad5):List AV:=[slv 3 true m.nS (m.sens.map ak7.cells),slv 4 false m.nV (m.votes.map acT.cells),slv 5 false m.nM (m.moves.map acS.cells),.int .i64 m.states,.int .i64 m.cmds,.int .i64 m.bgn,slv 1 true m.nO (m.opn.map iv)]
structure ac6 where
 nn:Bool
 reads:List Int
 cmd:Int
def ac6.cells(s:ac6):List AV:=[slv 1 true s.nn (s.reads.map iv),.int .i64 s.cmd]
structure ad5.small(m:ad5):Prop where
 sens:m.sens.length≤maxLen
 votes:m.votes.length≤maxLen
 moves:m.moves.length≤maxLen
 opn:m.opn.length≤maxLen
 vs:∀v∈m.votes,v.sens.length≤maxLen
 ws:∀x∈m.moves,x.wants.length≤maxLen
def inB(x lo hi:Int):Bool:=decide (lo≤x)&&decide (x≤hi)
theorem aAL(x lo hi:Int):om'.call (.fn 39) [.int .i64 x,.int .i64 lo,.int .i64 hi] []=some (.ret (.bool (inB x lo hi)),[]):=by
 (refine ce Tryz.func39 ?_;simp only[Tryz.f39];(have hb:=trivial;with_reducible repeat' (first|simp only[hb,Va.down,seval]|refine fsp ?_ ?_<;>intro hb|refine fd ?_|fail)))
 all_goals simp[inB, *]
theorem aC7(x lo hi:Int):om'.call (.fn 26) [.int .i64 x,.int .i64 lo,.int .i64 hi] []=some (.ret (.bool (inB x lo hi)),[]):=by
 (refine ce Tryz.func26 ?_;simp only[Tryz.f26];(have hb:=trivial;with_reducible repeat' (first|simp only[hb,Va.down,seval]|refine fsp ?_ ?_<;>intro hb|refine fd ?_|fail)))
 all_goals simp[inB, *]
def azR(x:Int):Bool:=inB x (-10000) 10000
theorem aG0(x:Int):om'.call (.fn 48) [.int .i64 x] []=some (.ret (.bool (azR x)),[]):=by
 (refine ce Tryz.func48 ?_;simp only[Tryz.f48];(have hb:=trivial;with_reducible repeat' (first|simp only[hb,Va.down,seval,aAL]|refine fsp ?_ ?_<;>intro hb|refine fd ?_|fail)))
 all_goals rfl
theorem aX6(x:Int):om'.call (.fn 72) [.int .i64 x] []=some (.ret (.bool (!azR x)),[]):=by
 (refine ce Tryz.func72 ?_;simp only[Tryz.f72];(have hb:=trivial;with_reducible repeat' (first|simp only[hb,Va.down,seval,aG0]|refine fsp ?_ ?_<;>intro hb|refine fd ?_|fail)))
theorem aUI(x:Int):om'.call (.fn 53) [.int .i64 x] []=some (.ret (.bool (!inB x 0 255)),[]):=by
 (refine ce Tryz.func53 ?_;simp only[Tryz.f53];(have hb:=trivial;with_reducible repeat' (first|simp only[hb,Va.down,seval,aAL]|refine fsp ?_ ?_<;>intro hb|refine fd ?_|fail)))
def aBF(s:ak7)(v:acT)(r:Int):Bool:= !s.byp&&(!inB r s.lo s.hi||(if v.above=true then decide (v.level≤r)else decide (r≤v.level)))
theorem a2J(s:ak7)(v:acT)(r:Int):om'.call (.fn 60) [.agg [.int .i64 s.lo,.int .i64 s.hi,.bool s.byp],.agg [slv 1 true v.nn (v.sens.map iv),.int .i64 v.need,.int .i64 v.level,.bool v.above],.int .i64 r] []=some (.ret (.bool (aBF s v r)),[]):=by
 (refine ce Tryz.func60 ?_;simp only[Tryz.f60];(have hb:=trivial;with_reducible repeat' (first|simp only[hb,Va.down,seval,a7S.down,aAL]|refine fsp ?_ ?_<;>intro hb|refine fd ?_|fail)))
 all_goals simp_all[aBF]
def idx{α:Type}(p:α→Bool):List α→Int→Int
 | [],_=> -1
 |x::l,i=>if p x=true then i else idx p l (i+1)
theorem ayQ{α:Type}(p:α→Bool):∀(l:List α) (i:Int),0≤i→decide (0≤idx p l i)=l.any p
 | [],i,_=>rfl
 |x::l,i,h=>by
  unfold idx
  split
  ·rename_i hp;simp[h,hp]
  ·rename_i hp;rw[ayQ p l (i+1) (by omega)];simp[hp]
theorem aQ7{l:List Int}{nn:Bool}{g:Nat}{cap:List AV}{p:Int→Bool}(hc:cap.all (ahO 8)=true)(hc7:cap.all (ahO 7)=true)(hp:∀x∈l,om'.call (.fn g) (.int .i64 x::cap) []=some (.ret (.bool (p x)),[]))(hl:l.length≤maxLen):
 om'.call (.fn 71) [slv 1 true nn (l.map iv),.func (.func g) [] cap] []=some (.ret (.int .i64 (idx p l 0)),[]):=by
 (refine ce Tryz.func71 ?_;simp only[Tryz.f71];(have hb:=trivial;with_reducible repeat' (first|simp only[hb,Va.down,seval,aRK.down,aeG]|refine fsp ?_ ?_<;>intro hb|refine fd ?_|fail)))
 refine anJ (lst 19 l (fun i (s:Int) t h=>s=i∧h=[]∧t 0=slv 1 true nn (l.map iv)∧t 1=.func (.func g) [] cap∧t 7=.int .i64 l.length∧t 8=.int .i64 i)
  (fun rest s=>idx p rest s) (fun r e t h=>h=[]∧((e=.exit 0∧r= -1)∨(e=.ret∧t 4=.int .i64 r))) ?_ ?_ 0 _ _ ?_) (fun e t h hk=>?_)
 ·rintro s t h Q' kQ ⟨rfl,rfl,h0,h1,h7,h8⟩
  (have hb:=trivial;with_reducible repeat' (first|simp only[hb,Va.down,seval,aRK.down,h0,h1,h7,h8,ahB,decide_false]|refine fsp ?_ ?_<;>intro hb|refine fd ?_|fail))
  exact kQ _ _ _ ⟨rfl,.inl ⟨rfl,rfl⟩⟩
 ·rintro x rest i s t h J Q' kJ kQ hx hi ⟨rfl,rfl,h0,h1,h7,h8⟩
  have hpx:=hp x (List.mem_of_getElem? hx)
  have hd:decide ((i:Int)<(l.length:Int))=true:=by simpa using hi
  (have hb:=trivial;with_reducible repeat' (first|simp only[hb,Va.down,seval,aRK.down,h0,h1,h7,h8,hd,hx,iv,hc,hc7,hpx,agA hi hl]|refine fsp ?_ ?_<;>intro hb|refine fd ?_|fail))
  ·exact kQ _ _ _ ⟨rfl,.inr ⟨rfl,by simp[up,idx,hb]⟩⟩
  ·exact ai7 (kJ _ _ (i+1) ⟨by simp,rfl,by simp[up,h0],by simp[up,h1],by simp[up,h7],by simp[up]⟩ (by simp[idx,hb]))
 ·exact⟨rfl,rfl,by simp[up,ent],by simp[up,ent],by simp[up],by simp[up]⟩
 ·obtain⟨rfl,⟨rfl,hi⟩|⟨rfl,hi⟩⟩:=hk
  ·(have hb:=trivial;with_reducible repeat' (first|simp only[hb,Va.down,seval,aRK.down]|refine fsp ?_ ?_<;>intro hb|refine fd ?_|fail))
   rw[hi]
  ·(have hb:=trivial;with_reducible repeat' (first|simp only[hb,Va.down,seval,aRK.down,hi]|refine fsp ?_ ?_<;>intro hb|refine fd ?_|fail))
theorem aE4{l:List Int}{nn:Bool}{g:Nat}{cap:List AV}{p:Int→Bool}(hc:cap.all (ahO 8)=true)(hc7:cap.all (ahO 7)=true)(hp:∀x∈l,om'.call (.fn g) (.int .i64 x::cap) []=some (.ret (.bool (p x)),[]))(hl:l.length≤maxLen):
 om'.call (.fn 52) [slv 1 true nn (l.map iv),.func (.func g) [] cap] []=some (.ret (.bool (l.any p)),[]):=by
 (refine ce Tryz.func52 ?_;simp only[Tryz.f52];(have hb:=trivial;with_reducible repeat' (first|simp only[hb,Va.down,seval,aQ7 hc hc7 hp hl,hc,hc7,ayQ p l 0 (am7 0)]|refine fsp ?_ ?_<;>intro hb|refine fd ?_|fail)))
def avJ(b:Int):List Int→Option Int→Bool
 | [],_=>true
 |n::l,p=>inB n 0 (IntKind.i64.wrap (b-1))&&(match p with|none=>true|some q=> !decide (n≤q))&&avJ b l (some n)
theorem aHD{l:List Int}{nn:Bool}(b:Int)(hl:l.length≤maxLen):om'.call (.fn 44) [slv 1 true nn (l.map iv),.int .i64 b] []=some (.ret (.bool (avJ b l none)),[]):=by
 (refine ce Tryz.func44 ?_;simp only[Tryz.f44];(have hb:=trivial;with_reducible repeat' (first|simp only[hb,Va.down,seval,aOJ.down,aeG]|refine fsp ?_ ?_<;>intro hb|refine fd ?_|fail)))
 refine anJ (lst 33 l (fun i (s:Option Int) t h=>(i=0∧s=none∨0<i∧s=l[i-1]?)∧t 0=slv 1 true nn (l.map iv)∧t 1=.int .i64 b∧t 7=slv 1 true nn (l.map iv)∧t 8=.int .i64 l.length∧t 9=.int .i64 i)
  (fun rest s=>avJ b rest s) (fun r e t h=>if r=true then e=.exit 0 else e=.ret∧t 4=.bool false) ?_ ?_ none _ _ ?_) (fun e t h hk=>?_)
 ·rintro s t h Q' kQ ⟨hs,h0,h1,h7,h8,h9⟩
  (have hb:=trivial;with_reducible repeat' (first|simp only[hb,Va.down,seval,aOJ.down,h0,h1,h7,h8,h9,ahB,decide_false]|refine fsp ?_ ?_<;>intro hb|refine fd ?_|fail))
  exact kQ _ _ _ (by simp[avJ])
 ·rintro x rest i s t h J Q' kJ kQ hx hi ⟨hs,h0,h1,h7,h8,h9⟩
  have hd:decide ((i:Int)<(l.length:Int))=true:=by simpa using hi
  have kF:∀{p:Option Int},(inB x 0 (IntKind.i64.wrap (b-1))&&(match p with|none=>true|some q=> !decide (x≤q)))=false→avJ b (x::rest) p=false:=fun h=>by simp[avJ,h]
  have kT:∀{p:Option Int},(inB x 0 (IntKind.i64.wrap (b-1))&&(match p with|none=>true|some q=> !decide (x≤q)))=true→avJ b rest (some x)=avJ b (x::rest) p:=fun h=>by simp[avJ,h]
  have hw:=agA hi hl
  rcases hs with⟨rfl,rfl⟩|⟨hpos,rfl⟩
  ·simp only[an9,Int.zero_add]at hd h9 hw
   (have hb:=trivial;with_reducible repeat' (first|simp only[hb,Va.down,seval,aOJ.down,h0,h1,h7,h8,h9,hd,hx,iv,aAL,hw,Int.toNat_zero,am7,ahB,decide_false]|refine fsp ?_ ?_<;>intro hb|refine fd ?_|fail))
   all_goals first
    |exact kQ _ _ _ (by rw[if_neg (by rw[kF (by simp_all)];simp)];exact⟨rfl,rfl⟩)
    |exact ai7 (kJ _ _ (some x) ⟨.inr ⟨by omega,by simp[hx]⟩,by simp[up,h0],by simp[up,h1],by simp[up,h7],by simp[up,h8],by simp[up]<;>omega⟩ (kT (by simp_all)))
  ·obtain⟨j,rfl⟩:∃j,i=j+1:=⟨i-1,by omega⟩
   obtain⟨q,hq⟩:∃q,l[j]?=some q:=⟨l[j],aoD (by omega)⟩
   have hj:IntKind.i64.wrap (((j+1:Nat):Int)-1)=(j:Int):=by unfold maxLen at hl;rw[arY (by omega) (by omega)];omega
   have hg:decide (0<((j+1:Nat):Int))=true:=by rw[decide_eq_true_eq];omega
   simp only[aoF,hq]at kJ kQ
   (have hb:=trivial;with_reducible repeat' (first|simp only[hb,Va.down,seval,aOJ.down,h0,h1,h7,h8,h9,hd,hx,iv,aAL,hw,hj,hg,hq]|refine fsp ?_ ?_<;>intro hb|refine fd ?_|fail))
   all_goals first
    |exact kQ _ _ _ (by rw[if_neg (by rw[kF (by simp_all)];simp)];exact⟨rfl,rfl⟩)
    |exact ai7 (kJ _ _ (some x) ⟨.inr ⟨by omega,by simp[hx]⟩,by simp[up,h0],by simp[up,h1],by simp[up,h7],by simp[up,h8],by simp[up]<;>omega⟩ (kT (by simp_all)))
 ·exact⟨.inl ⟨rfl,rfl⟩,by simp[up,ent],by simp[up,ent],by simp[up,ent],by simp[up],by simp[up]⟩
 ·split at hk
  ·subst hk
   rename_i hr
   (have hb:=trivial;with_reducible repeat' (first|simp only[hb,Va.down,seval,aOJ.down]|refine fsp ?_ ?_<;>intro hb|refine fd ?_|fail))
   all_goals simp[hr]
  ·obtain⟨rfl,h2⟩:=hk
   rename_i hr
   (have hb:=trivial;with_reducible repeat' (first|simp only[hb,Va.down,seval,aOJ.down,h2]|refine fsp ?_ ?_<;>intro hb|refine fd ?_|fail))
   all_goals simp[hr]
def aw1(ns:Int)(v:acT):Bool:=avJ ns v.sens none&&inB v.need 1 v.sens.length&&azR v.level
theorem a3U(v:acT)(ns:Int)(hl:v.sens.length≤maxLen):om'.call (.fn 25) [.agg [slv 1 true v.nn (v.sens.map iv),.int .i64 v.need,.int .i64 v.level,.bool v.above],.int .i64 ns] []=some (.ret (.bool (aw1 ns v)),[]):=by
 (refine ce Tryz.func25 ?_;simp only[Tryz.f25];(have hb:=trivial;with_reducible repeat' (first|simp only[hb,Va.down,seval,aOL.down,aeG]|refine fsp ?_ ?_<;>intro hb|refine fd ?_|fail)))
 refine anJ (lst 51 v.sens (fun i (s:Option Int) t h=>(i=0∧s=none∨0<i∧s=v.sens[i-1]?)∧h[0]?=some (.live 4 false false [[slv 1 true v.nn (v.sens.map iv),.int .i64 v.need,.int .i64 v.level,.bool v.above]])∧t 1=.int .i64 ns∧t 2=.ptr 0 0 0∧t 5=.int .i64 i)
  (fun rest s=>avJ ns rest s) (fun r e t h=>if r=true then e=.exit 0∧h[0]?=some (.live 4 false false [[slv 1 true v.nn (v.sens.map iv),.int .i64 v.need,.int .i64 v.level,.bool v.above]])∧t 2=.ptr 0 0 0 else e=.ret∧t 4=.bool false) ?_ ?_ none _ _ ?_) (fun e t h hk=>?_)
 ·rintro s t h Q' kQ ⟨hs,hh,h1,h2,h5⟩
  (have hb:=trivial;with_reducible repeat' (first|simp only[hb,Va.down,seval,aOL.down,hh,h1,h2,h5,aeG,ahB,decide_false]|refine fsp ?_ ?_<;>intro hb|refine fd ?_|fail))
  exact kQ _ _ _ (by simp[avJ,up,h2,hh])
 ·rintro x rest i s t h J Q' kJ kQ hx hi ⟨hs,hh,h1,h2,h5⟩
  have hd:decide ((i:Int)<(v.sens.length:Int))=true:=by simpa using hi
  have hA:=ahZ hh
  have kF:∀{p:Option Int},(inB x 0 (IntKind.i64.wrap (ns-1))&&(match p with|none=>true|some q=> !decide (x≤q)))=false→avJ ns (x::rest) p=false:=fun h=>by simp[avJ,h]
  have kT:∀{p:Option Int},(inB x 0 (IntKind.i64.wrap (ns-1))&&(match p with|none=>true|some q=> !decide (x≤q)))=true→avJ ns rest (some x)=avJ ns (x::rest) p:=fun h=>by simp[avJ,h]
  have hw:=agA hi hl
  rcases hs with⟨rfl,rfl⟩|⟨hpos,rfl⟩
  ·simp only[an9,Int.zero_add]at hd h5 hw
   (have hb:=trivial;with_reducible repeat' (first|simp only[hb,Va.down,seval,aOL.down,hA,hh,h1,h2,h5,hd,hx,aeG,iv,aC7,hw,Int.toNat_zero,am7,ahB,decide_false]|refine fsp ?_ ?_<;>intro hb|refine fd ?_|fail))
   all_goals first
    |exact kQ _ _ _ (by rw[if_neg (by rw[kF (by simp_all)];simp)];exact⟨rfl,rfl⟩)
    |exact ai7 (kJ _ _ (some x) ⟨.inr ⟨by omega,by simp[hx]⟩,by simp[hh],by simp[up,h1],by simp[up,h2],by simp[up]<;>omega⟩ (kT (by simp_all)))
  ·obtain⟨j,rfl⟩:∃j,i=j+1:=⟨i-1,by omega⟩
   obtain⟨q,hq⟩:∃q,v.sens[j]?=some q:=⟨v.sens[j],aoD (by omega)⟩
   have hj:IntKind.i64.wrap (((j+1:Nat):Int)-1)=(j:Int):=by unfold maxLen at hl;rw[arY (by omega) (by omega)];omega
   have hg:decide (0<((j+1:Nat):Int))=true:=by rw[decide_eq_true_eq];omega
   simp only[aoF,hq]at kJ kQ
   (have hb:=trivial;with_reducible repeat' (first|simp only[hb,Va.down,seval,aOL.down,hA,hh,h1,h2,h5,hd,hx,aeG,iv,aC7,hw,hj,hg,hq]|refine fsp ?_ ?_<;>intro hb|refine fd ?_|fail))
   all_goals first
    |exact kQ _ _ _ (by rw[if_neg (by rw[kF (by simp_all)];simp)];exact⟨rfl,rfl⟩)
    |exact ai7 (kJ _ _ (some x) ⟨.inr ⟨by omega,by simp[hx]⟩,by simp[hh],by simp[up,h1],by simp[up,h2],by simp[up]<;>omega⟩ (kT (by simp_all)))
 ·exact⟨.inl ⟨rfl,rfl⟩,rfl,by simp[up,ent],by simp[up],by simp[up]⟩
 ·split at hk
  ·obtain⟨rfl,hh,h2⟩:=hk
   have hA:=ahZ hh
   rename_i hr
   (have hb:=trivial;with_reducible repeat' (first|simp only[hb,Va.down,seval,aOL.down,hA,hh,h2,aeG,aC7]|refine fsp ?_ ?_<;>intro hb|refine fd ?_|fail))
   all_goals simp_all[aw1,azR]
  ·obtain⟨rfl,h2⟩:=hk
   rename_i hr
   (have hb:=trivial;with_reducible repeat' (first|simp only[hb,Va.down,seval,aOL.down,h2]|refine fsp ?_ ?_<;>intro hb|refine fd ?_|fail))
   all_goals simp[aw1,hr]
end Go.Proofs.YtfkokgjfpojeoaaGreatDoor
