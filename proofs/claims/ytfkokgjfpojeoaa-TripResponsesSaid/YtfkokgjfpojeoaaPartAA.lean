/- The functions of the layer, walked. -/
import Derived.Test.YtfkokgjfpojeoaaLibE
import Derived.Test.YtfkokgjfpojeoaaChecked
import Derived.Test.YtfkokgjfpojeoaaLibD
import Derived.Test.YtfkokgjfpojeoaaRows
import Derived.Test.YtfkokgjfpojeoaaShelf
import Derived.ProofKit
import Derived.LaidMore
import Derived.OpenShut
open And renaming intro→acL
open List renaming length_map→acR,mem_of_getElem?→aqD,contains_cons→aAP,contains_nil→aCF,all_eq_not_any_not→aG6
open Int renaming lt_irrefl→acZ,le_refl→aAM
open Bool renaming not_true→aAN,not_false→aAO,or_false→aC6,false_and→aC7,and_true→aEO,true_and→aER,and_false→aE9,eq_false_iff→aHJ
set_option linter.unusedSimpArgs false
set_option linter.unusedVariables false
namespace Go.Proofs.Ytfkokgjfpojeoaa
open Go.Ev
set_option maxRecDepth 100000
theorem Hl(h:Aa)(b r o:Nat):ld Try.prog 27 h (some (.ptr b r o))=ldR (Rq (h[b]?) r) o 7:=aCT ⟨by kernel_rfl,by kernel_rfl⟩ h b r o
theorem aVJ(b r o:Nat):ftL Try.prog 27 (some (.ptr b r o))=some [.cells b o 7]:=eZ (isA:=true) (n:=7) (by kernel_rfl) (by kernel_rfl) b r o
theorem aCP(b r o:Nat):fa Try.prog 29 (some (.ptr b r o)) 0=some (.ret (.ptr b r (o+0)),[]):=Hm (show Iz Try.prog 29 0 0 1 from⟨_,_,Try.underlying29,rfl,rfl,by kernel_rfl,by decide⟩) b r o
theorem Im(h:Aa)(b r o:Nat):ld Try.prog 25 h (some (.ptr b r o))=ldC (Rq (h[b]?) r) o:=sS ⟨by kernel_rfl,1,by kernel_rfl⟩ h b r o
theorem aQL(h:Aa)(c:AV)(cs:List AV):ld Try.prog 25 h (some (.iptr (c::cs)))=some (.ret c,[]):=aRP ⟨by kernel_rfl,1,by kernel_rfl⟩ h c cs
theorem aIH(b r o:Nat):ftL Try.prog 25 (some (.ptr b r o))=some [.cells b o 1]:=eZ (isA:=false) (n:=1) (by kernel_rfl) (by kernel_rfl) b r o
theorem nF(st b r len:Nat):ln Try.prog 25 (some (.slr st b r len))=some (.ret (.int .i64 len),[]):=aAV (n:=1) ⟨_,Try.underlying25,by kernel_rfl⟩ st b r len
theorem Nc(fl nn:Bool)(rows:List (List AV)):ln Try.prog 25 (some (Ak 1 fl nn rows))=some (.ret (.int .i64 rows.length),[]):=aG4 ⟨_,Try.underlying25,by kernel_rfl⟩ fl nn rows
theorem aFD(h:Aa)(b r o:Nat):ld Try.prog 29 h (some (.ptr b r o))=ldR (Rq (h[b]?) r) o 2:=aCT ⟨by kernel_rfl,by kernel_rfl⟩ h b r o
theorem aS5(b r o:Nat):ftL Try.prog 29 (some (.ptr b r o))=some [.cells b o 2]:=eZ (isA:=true) (n:=2) (by kernel_rfl) (by kernel_rfl) b r o
theorem Ub(b r o:Nat):fa Try.prog 27 (some (.ptr b r o)) 3=some (.ret (.ptr b r (o+3)),[]):=Hm (show Iz Try.prog 27 3 3 1 from⟨_,_,Try.underlying27,rfl,rfl,by kernel_rfl,by decide⟩) b r o
theorem Ea(h:Aa)(b r o:Nat):ld Try.prog 3 h (some (.ptr b r o))=ldC (Rq (h[b]?) r) o:=sS ⟨by kernel_rfl,1,by kernel_rfl⟩ h b r o
theorem Nh(h:Aa)(c:AV)(cs:List AV):ld Try.prog 3 h (some (.iptr (c::cs)))=some (.ret c,[]):=aRP ⟨by kernel_rfl,1,by kernel_rfl⟩ h c cs
theorem aF9(b r o:Nat):ftL Try.prog 3 (some (.ptr b r o))=some [.cells b o 1]:=eZ (isA:=false) (n:=1) (by kernel_rfl) (by kernel_rfl) b r o
theorem Hy(b r o:Nat):fa Try.prog 27 (some (.ptr b r o)) 1=some (.ret (.ptr b r (o+1)),[]):=Hm (show Iz Try.prog 27 1 1 1 from⟨_,_,Try.underlying27,rfl,rfl,by kernel_rfl,by decide⟩) b r o
theorem Jf(h:Aa)(b r o:Nat):ld Try.prog 23 h (some (.ptr b r o))=ldC (Rq (h[b]?) r) o:=sS ⟨by kernel_rfl,1,by kernel_rfl⟩ h b r o
theorem Nb(fl nn:Bool)(rows:List (List AV)):ln Try.prog 23 (some (Ak 4 fl nn rows))=some (.ret (.int .i64 rows.length),[]):=aG4 ⟨_,Try.underlying23,by kernel_rfl⟩ fl nn rows
theorem Vt(fl nn:Bool)(rows:List (List AV))(k:IntKind)(i:Int):ia Try.prog 23 (some (Ak 4 fl nn rows)) (some (.int k i))=if 0≤i then r1 ((rows[i.toNat]?).map .iptr)else none:=aB2 ⟨_,Try.underlying23,by kernel_rfl⟩ fl nn rows k i
theorem am9(h:Aa)(b r o:Nat):ld Try.prog 48 h (some (.ptr b r o))=ldR (Rq (h[b]?) r) o 4:=aCT ⟨by kernel_rfl,by kernel_rfl⟩ h b r o
theorem Vi(h:Aa)(cs:List AV):ld Try.prog 48 h (some (.iptr cs))=if 4≤cs.length then some (.ret (.agg (cs.take 4)),[])else none:=aRS ⟨by kernel_rfl,by kernel_rfl⟩ h cs
theorem afE:Lr Try.prog 48=some (.agg [.nils,.int .i64 0,.int .i64 0,.bool false]):=by kernel_rfl
theorem adZ(h:Aa)(b r o:Nat)(v:AV):st_ Try.prog 48 h (some (.ptr b r o)) (some v)=sv 4 (h[b]?) b r o (Bd v):=Td (by kernel_rfl) h b r o v
theorem Xp{O:Hz}(t:List AV)(h:Aa)(s x:Operand):Gx O Try.prog t h (.call ⟨.builtin .append,#[s,x],#[25,25]⟩)=apO Try.prog 25 h (Ar t s) (Ar t x):=aJE t h s x 25 25 _ Try.underlying25
theorem af9(h:Aa)(s:AV)(a b r l:Nat):apO Try.prog 25 h (some s) (some (.slr a b r l))=apK 1 h (some s) (srK 1 h (some (.slr a b r l))):=azF (e:=3) (b:=8) (z:=.int .i64 0) (by kernel_rfl) (by kernel_rfl) (by kernel_rfl) (by kernel_rfl) (by decide+kernel) h s _ (fun q e=>by cases e)
theorem aV4(h:Aa)(s:AV)(st:Nat)(fl:Bool)(rows:List (List AV)):apO Try.prog 25 h (some s) (some (.imm st fl rows))=apK 1 h (some s) (srK 1 h (some (.imm st fl rows))):=azF (e:=3) (b:=8) (z:=.int .i64 0) (by kernel_rfl) (by kernel_rfl) (by kernel_rfl) (by kernel_rfl) (by decide+kernel) h s _ (fun q e=>by cases e)
theorem aUN(h:Aa)(s:AV)  :apO Try.prog 25 h (some s) (some .nils)=apK 1 h (some s) (srK 1 h (some .nils)):=azF (e:=3) (b:=8) (z:=.int .i64 0) (by kernel_rfl) (by kernel_rfl) (by kernel_rfl) (by kernel_rfl) (by decide+kernel) h s _ (fun q e=>by cases e)
theorem iZ(b r o:Nat):fa Try.prog 48 (some (.ptr b r o)) 0=some (.ret (.ptr b r (o+0)),[]):=Hm (show Iz Try.prog 48 0 0 1 from⟨_,_,Try.underlying48,rfl,rfl,by kernel_rfl,by decide⟩) b r o
theorem aMN(cs:List AV):fa Try.prog 48 (some (.iptr cs)) 0=if 0+1≤cs.length then some (.ret (.iptr (cs.drop 0)),[])else none:=asS (show Iz Try.prog 48 0 0 1 from⟨_,_,Try.underlying48,rfl,rfl,by kernel_rfl,by decide⟩) cs
theorem mX(b r len:Nat)(k:IntKind)(i:Int):ia Try.prog 25 (some (.slr 1 b r len)) (some (.int k i))=if 0≤i∧i<len then some (.ret (.ptr b (r+i.toNat) 0),[])else none:=apC ⟨_,Try.underlying25,by kernel_rfl⟩ b r len k i
theorem Wh(fl nn:Bool)(rows:List (List AV))(k:IntKind)(i:Int):ia Try.prog 25 (some (Ak 1 fl nn rows)) (some (.int k i))=if 0≤i then r1 ((rows[i.toNat]?).map .iptr)else none:=aB2 ⟨_,Try.underlying25,by kernel_rfl⟩ fl nn rows k i
theorem Jr(b r o:Nat):fa Try.prog 27 (some (.ptr b r o)) 0=some (.ret (.ptr b r (o+0)),[]):=Hm (show Iz Try.prog 27 0 0 1 from⟨_,_,Try.underlying27,rfl,rfl,by kernel_rfl,by decide⟩) b r o
theorem Ls(h:Aa)(b r o:Nat):ld Try.prog 22 h (some (.ptr b r o))=ldC (Rq (h[b]?) r) o:=sS ⟨by kernel_rfl,1,by kernel_rfl⟩ h b r o
theorem mN(fl nn:Bool)(rows:List (List AV))(k:IntKind)(i:Int):ia Try.prog 22 (some (Ak 3 fl nn rows)) (some (.int k i))=if 0≤i then r1 ((rows[i.toNat]?).map .iptr)else none:=aB2 ⟨_,Try.underlying22,by kernel_rfl⟩ fl nn rows k i
theorem aPX(h:Aa)(b r o:Nat):ld Try.prog 50 h (some (.ptr b r o))=ldR (Rq (h[b]?) r) o 3:=aCT ⟨by kernel_rfl,by kernel_rfl⟩ h b r o
theorem cU(h:Aa)(cs:List AV):ld Try.prog 50 h (some (.iptr cs))=if 3≤cs.length then some (.ret (.agg (cs.take 3)),[])else none:=aRS ⟨by kernel_rfl,by kernel_rfl⟩ h cs
theorem adY:Lr Try.prog 50=some (.agg [.int .i64 0,.int .i64 0,.bool false]):=by kernel_rfl
theorem ad0(h:Aa)(b r o:Nat)(v:AV):st_ Try.prog 50 h (some (.ptr b r o)) (some v)=sv 3 (h[b]?) b r o (Bd v):=Td (by kernel_rfl) h b r o v
theorem ac3(b r o:Nat):fa Try.prog 50 (some (.ptr b r o)) 2=some (.ret (.ptr b r (o+2)),[]):=Hm (show Iz Try.prog 50 2 2 1 from⟨_,_,Try.underlying50,rfl,rfl,by kernel_rfl,by decide⟩) b r o
theorem Zy(h:Aa)(b r o:Nat):ld Try.prog 4 h (some (.ptr b r o))=ldC (Rq (h[b]?) r) o:=sS ⟨by kernel_rfl,1,by kernel_rfl⟩ h b r o
theorem aS2(h:Aa)(c:AV)(cs:List AV):ld Try.prog 4 h (some (.iptr (c::cs)))=some (.ret c,[]):=aRP ⟨by kernel_rfl,1,by kernel_rfl⟩ h c cs
theorem aO(b r o:Nat):fa Try.prog 50 (some (.ptr b r o)) 0=some (.ret (.ptr b r (o+0)),[]):=Hm (show Iz Try.prog 50 0 0 1 from⟨_,_,Try.underlying50,rfl,rfl,by kernel_rfl,by decide⟩) b r o
theorem Zt(b r o:Nat):fa Try.prog 50 (some (.ptr b r o)) 1=some (.ret (.ptr b r (o+1)),[]):=Hm (show Iz Try.prog 50 1 1 1 from⟨_,_,Try.underlying50,rfl,rfl,by kernel_rfl,by decide⟩) b r o
theorem aSA(h:Aa)(b r o:Nat)(v:AV):st_ Try.prog 3 h (some (.ptr b r o)) (some v)=sv 1 (h[b]?) b r o (Bd v):=Td (by kernel_rfl) h b r o v
theorem aW1(b r o:Nat):ftS Try.prog 3 (some (.ptr b r o))=some [.cells b o 1]:=aD2 (by kernel_rfl) b r o
theorem aU5(st b r len:Nat):ln Try.prog 51 (some (.slr st b r len))=some (.ret (.int .i64 len),[]):=aAV (n:=1) ⟨_,Try.underlying51,by kernel_rfl⟩ st b r len
theorem aeV(b r o:Nat):fa Try.prog 48 (some (.ptr b r o)) 3=some (.ret (.ptr b r (o+3)),[]):=Hm (show Iz Try.prog 48 3 3 1 from⟨_,_,Try.underlying48,rfl,rfl,by kernel_rfl,by decide⟩) b r o
theorem aD(b r o:Nat):fa Try.prog 48 (some (.ptr b r o)) 2=some (.ret (.ptr b r (o+2)),[]):=Hm (show Iz Try.prog 48 2 2 1 from⟨_,_,Try.underlying48,rfl,rfl,by kernel_rfl,by decide⟩) b r o
theorem aH7(b r len:Nat)(k:IntKind)(i:Int):ia Try.prog 51 (some (.slr 1 b r len)) (some (.int k i))=if 0≤i∧i<len then some (.ret (.ptr b (r+i.toNat) 0),[])else none:=apC ⟨_,Try.underlying51,by kernel_rfl⟩ b r len k i
theorem aVK(fl nn:Bool)(rows:List (List AV))(k:IntKind)(i:Int):ia Try.prog 51 (some (Ak 1 fl nn rows)) (some (.int k i))=if 0≤i then r1 ((rows[i.toNat]?).map .iptr)else none:=aB2 ⟨_,Try.underlying51,by kernel_rfl⟩ fl nn rows k i
theorem rH(b r o:Nat):fa Try.prog 48 (some (.ptr b r o)) 1=some (.ret (.ptr b r (o+1)),[]):=Hm (show Iz Try.prog 48 1 1 1 from⟨_,_,Try.underlying48,rfl,rfl,by kernel_rfl,by decide⟩) b r o
theorem dF(fl nn:Bool)(rows:List (List AV)):ln Try.prog 22 (some (Ak 3 fl nn rows))=some (.ret (.int .i64 rows.length),[]):=aG4 ⟨_,Try.underlying22,by kernel_rfl⟩ fl nn rows
theorem aKL(h:Aa)(b r o:Nat)(v:AV):st_ Try.prog 4 h (some (.ptr b r o)) (some v)=sv 1 (h[b]?) b r o (Bd v):=Td (by kernel_rfl) h b r o v
theorem iY(b r o:Nat):fa Try.prog 27 (some (.ptr b r o)) 2=some (.ret (.ptr b r (o+2)),[]):=Hm (show Iz Try.prog 27 2 2 1 from⟨_,_,Try.underlying27,rfl,rfl,by kernel_rfl,by decide⟩) b r o
theorem pC(h:Aa)(b r o:Nat):ld Try.prog 24 h (some (.ptr b r o))=ldC (Rq (h[b]?) r) o:=sS ⟨by kernel_rfl,1,by kernel_rfl⟩ h b r o
theorem nE(fl nn:Bool)(rows:List (List AV)):ln Try.prog 24 (some (Ak 5 fl nn rows))=some (.ret (.int .i64 rows.length),[]):=aG4 ⟨_,Try.underlying24,by kernel_rfl⟩ fl nn rows
theorem aWR:Lr Try.prog 56=some (.agg [.int .i64 0,.bool false]):=by kernel_rfl
theorem a00:Lr Try.prog 59=some (.agg [.int .i64 0,.int .i64 0,.nils,.int .i64 0,.int .i64 0]):=by kernel_rfl
theorem aIB(st b r len:Nat):ln Try.prog 66 (some (.slr st b r len))=some (.ret (.int .i64 len),[]):=aAV (n:=2) ⟨_,Try.underlying66,by kernel_rfl⟩ st b r len
theorem qL(b r o:Nat):fa Try.prog 27 (some (.ptr b r o)) 5=some (.ret (.ptr b r (o+5)),[]):=Hm (show Iz Try.prog 27 5 5 1 from⟨_,_,Try.underlying27,rfl,rfl,by kernel_rfl,by decide⟩) b r o
theorem aH4(b r len:Nat)(k:IntKind)(i:Int):ia Try.prog 66 (some (.slr 2 b r len)) (some (.int k i))=if 0≤i∧i<len then some (.ret (.ptr b (r+i.toNat) 0),[])else none:=apC ⟨_,Try.underlying66,by kernel_rfl⟩ b r len k i
theorem xB(fl nn:Bool)(rows:List (List AV))(k:IntKind)(i:Int):ia Try.prog 24 (some (Ak 5 fl nn rows)) (some (.int k i))=if 0≤i then r1 ((rows[i.toNat]?).map .iptr)else none:=aB2 ⟨_,Try.underlying24,by kernel_rfl⟩ fl nn rows k i
theorem rQ(b r o:Nat):fa Try.prog 59 (some (.ptr b r o)) 2=some (.ret (.ptr b r (o+2)),[]):=Hm (show Iz Try.prog 59 2 2 1 from⟨_,_,Try.underlying59,rfl,rfl,by kernel_rfl,by decide⟩) b r o
theorem aNF(cs:List AV):fa Try.prog 59 (some (.iptr cs)) 2=if 2+1≤cs.length then some (.ret (.iptr (cs.drop 2)),[])else none:=asS (show Iz Try.prog 59 2 2 1 from⟨_,_,Try.underlying59,rfl,rfl,by kernel_rfl,by decide⟩) cs
theorem abS(h:Aa)(b r o:Nat):ld Try.prog 57 h (some (.ptr b r o))=ldC (Rq (h[b]?) r) o:=sS ⟨by kernel_rfl,1,by kernel_rfl⟩ h b r o
theorem aPP(h:Aa)(c:AV)(cs:List AV):ld Try.prog 57 h (some (.iptr (c::cs)))=some (.ret c,[]):=aRP ⟨by kernel_rfl,1,by kernel_rfl⟩ h c cs
theorem vR(fl nn:Bool)(rows:List (List AV)):ln Try.prog 57 (some (Ak 2 fl nn rows))=some (.ret (.int .i64 rows.length),[]):=aG4 ⟨_,Try.underlying57,by kernel_rfl⟩ fl nn rows
theorem aeY(b r o:Nat):fa Try.prog 27 (some (.ptr b r o)) 6=some (.ret (.ptr b r (o+6)),[]):=Hm (show Iz Try.prog 27 6 6 1 from⟨_,_,Try.underlying27,rfl,rfl,by kernel_rfl,by decide⟩) b r o
theorem vU(base len:Nat)(ps:List (Nat × AV)):rD (Eu Try.prog base 25 len ps)=bsK 1 (.int .i64 0) base len ps:=aUO (e:=3) (by kernel_rfl) (by kernel_rfl) (by kernel_rfl) base len ps
theorem af2(base len:Nat)(ps:List (Nat × AV)):rD (Eu Try.prog base 66 len ps)=bsK 2 (.agg [.nils,.int .i64 0]) base len ps:=aUO (e:=29) (by kernel_rfl) (by kernel_rfl) (by kernel_rfl) base len ps
theorem aB8(ps:List (Nat × AV)):kB Try.prog 86 ps=(Zj (fun i=>([(0,1),(1,1)]:List (Nat × Nat))[i]?) (Bd (.agg [.int .i64 0,.int .i64 0])) ps).map .agg:=by kernel_rfl
theorem aNJ(b r o:Nat):fa Try.prog 29 (some (.ptr b r o)) 1=some (.ret (.ptr b r (o+1)),[]):=Hm (show Iz Try.prog 29 1 1 1 from⟨_,_,Try.underlying29,rfl,rfl,by kernel_rfl,by decide⟩) b r o
theorem aUF(ps:List (Nat × AV)):kB Try.prog 90 ps=(Zj (fun i=>([(0,1),(1,1)]:List (Nat × Nat))[i]?) (Bd (.agg [.int .i64 0,.int .i64 0])) ps).map .agg:=by kernel_rfl
theorem azH:Lr Try.prog 86=some (.agg [.int .i64 0,.int .i64 0]):=by kernel_rfl
theorem avY(h:Aa)(b r o:Nat)(v:AV):st_ Try.prog 86 h (some (.ptr b r o)) (some v)=sv 2 (h[b]?) b r o (Bd v):=Td (by kernel_rfl) h b r o v
theorem aeQ(b r o:Nat):fa Try.prog 86 (some (.ptr b r o)) 0=some (.ret (.ptr b r (o+0)),[]):=Hm (show Iz Try.prog 86 0 0 1 from⟨_,_,Try.underlying86,rfl,rfl,by kernel_rfl,by decide⟩) b r o
theorem aC9(b r o:Nat):fa Try.prog 86 (some (.ptr b r o)) 1=some (.ret (.ptr b r (o+1)),[]):=Hm (show Iz Try.prog 86 1 1 1 from⟨_,_,Try.underlying86,rfl,rfl,by kernel_rfl,by decide⟩) b r o
theorem Tz(b r o:Nat):fa Try.prog 27 (some (.ptr b r o)) 4=some (.ret (.ptr b r (o+4)),[]):=Hm (show Iz Try.prog 27 4 4 1 from⟨_,_,Try.underlying27,rfl,rfl,by kernel_rfl,by decide⟩) b r o
theorem aE3(h:Aa)(b r o:Nat):ld Try.prog 59 h (some (.ptr b r o))=ldR (Rq (h[b]?) r) o 5:=aCT ⟨by kernel_rfl,by kernel_rfl⟩ h b r o
theorem acH(h:Aa)(cs:List AV):ld Try.prog 59 h (some (.iptr cs))=if 5≤cs.length then some (.ret (.agg (cs.take 5)),[])else none:=aRS ⟨by kernel_rfl,by kernel_rfl⟩ h cs
theorem ae3(b r o:Nat):fa Try.prog 59 (some (.ptr b r o)) 1=some (.ret (.ptr b r (o+1)),[]):=Hm (show Iz Try.prog 59 1 1 1 from⟨_,_,Try.underlying59,rfl,rfl,by kernel_rfl,by decide⟩) b r o
theorem aNR(cs:List AV):fa Try.prog 59 (some (.iptr cs)) 1=if 1+1≤cs.length then some (.ret (.iptr (cs.drop 1)),[])else none:=asS (show Iz Try.prog 59 1 1 1 from⟨_,_,Try.underlying59,rfl,rfl,by kernel_rfl,by decide⟩) cs
theorem aOI:Lr Try.prog 96=some (.nils):=by kernel_rfl
theorem aOC(h:Aa)(b r o:Nat)(v:AV):st_ Try.prog 96 h (some (.ptr b r o)) (some v)=sv 1 (h[b]?) b r o (Bd v):=Td (by kernel_rfl) h b r o v
theorem aV1(b r o:Nat):ftS Try.prog 96 (some (.ptr b r o))=some [.cells b o 1]:=aD2 (by kernel_rfl) b r o
theorem ab2(h:Aa)(b r o:Nat):ld Try.prog 96 h (some (.ptr b r o))=ldC (Rq (h[b]?) r) o:=sS ⟨by kernel_rfl,1,by kernel_rfl⟩ h b r o
theorem aTV(b r o:Nat):ftL Try.prog 96 (some (.ptr b r o))=some [.cells b o 1]:=eZ (isA:=false) (n:=1) (by kernel_rfl) (by kernel_rfl) b r o
theorem aT2:Lr Try.prog 103=some (.nilm):=by kernel_rfl
theorem aTD(h:Aa)(b r o:Nat)(v:AV):st_ Try.prog 103 h (some (.ptr b r o)) (some v)=sv 1 (h[b]?) b r o (Bd v):=Td (by kernel_rfl) h b r o v
theorem a5B:Lr Try.prog 4=some (.bool false):=by kernel_rfl
theorem aU4:Lr Try.prog 104=some (.nilf):=by kernel_rfl
theorem aSV(h:Aa)(b r o:Nat)(v:AV):st_ Try.prog 104 h (some (.ptr b r o)) (some v)=sv 1 (h[b]?) b r o (Bd v):=Td (by kernel_rfl) h b r o v
theorem aJK(st b r len:Nat):ln Try.prog 99 (some (.slr st b r len))=some (.ret (.int .i64 len),[]):=aAV (n:=2) ⟨_,Try.underlying99,by kernel_rfl⟩ st b r len
theorem aUY:ln Try.prog 99 (some .nils)=some (.ret (.int .i64 0),[]):=aSE (n:=2) ⟨_,Try.underlying99,by kernel_rfl⟩
theorem aI6(b r len:Nat)(k:IntKind)(i:Int):ia Try.prog 99 (some (.slr 2 b r len)) (some (.int k i))=if 0≤i∧i<len then some (.ret (.ptr b (r+i.toNat) 0),[])else none:=apC ⟨_,Try.underlying99,by kernel_rfl⟩ b r len k i
theorem dO(h:Aa)(b r o:Nat):ld Try.prog 86 h (some (.ptr b r o))=ldR (Rq (h[b]?) r) o 2:=aCT ⟨by kernel_rfl,by kernel_rfl⟩ h b r o
theorem aIO(b r o:Nat):ftL Try.prog 86 (some (.ptr b r o))=some [.cells b o 2]:=eZ (isA:=true) (n:=2) (by kernel_rfl) (by kernel_rfl) b r o
theorem aDD(h:Aa)(b r o:Nat):ld Try.prog 104 h (some (.ptr b r o))=ldC (Rq (h[b]?) r) o:=sS ⟨by kernel_rfl,1,by kernel_rfl⟩ h b r o
theorem aPL(b r o:Nat):ftL Try.prog 104 (some (.ptr b r o))=some [.cells b o 1]:=eZ (isA:=false) (n:=1) (by kernel_rfl) (by kernel_rfl) b r o
theorem eP{O:Hz}(t:List AV)(h:Aa)(s x:Operand):Gx O Try.prog t h (.call ⟨.builtin .append,#[s,x],#[66,66]⟩)=apO Try.prog 66 h (Ar t s) (Ar t x):=aJE t h s x 66 66 _ Try.underlying66
theorem ag6(h:Aa)(s:AV)(a b r l:Nat):apO Try.prog 66 h (some s) (some (.slr a b r l))=apK 2 h (some s) (srK 2 h (some (.slr a b r l))):=azF (e:=29) (b:=32) (z:=.agg [.nils,.int .i64 0]) (by kernel_rfl) (by kernel_rfl) (by kernel_rfl) (by kernel_rfl) (by decide+kernel) h s _ (fun q e=>by cases e)
theorem aTL(h:Aa)(s:AV)  :apO Try.prog 66 h (some s) (some .nils)=apK 2 h (some s) (srK 2 h (some .nils)):=azF (e:=29) (b:=32) (z:=.agg [.nils,.int .i64 0]) (by kernel_rfl) (by kernel_rfl) (by kernel_rfl) (by kernel_rfl) (by decide+kernel) h s _ (fun q e=>by cases e)
theorem aJO(base:Nat)(l c:Option AV):msO Try.prog 25 base l c=msK 1 (.int .i64 0) base l c:=aZ8 (e:=3) (n:=1) (b:=8) (by kernel_rfl) (by kernel_rfl) (by kernel_rfl) (by kernel_rfl) (by decide+kernel) base l c
theorem aTX(base len:Nat)(ps:List (Nat × AV)):rD (Eu Try.prog base 51 len ps)=bsK 1 (.bool false) base len ps:=aUO (e:=4) (by kernel_rfl) (by kernel_rfl) (by kernel_rfl) base len ps
theorem aHO{O:Hz}(t:List AV)(h:Aa)(s x:Operand):Gx O Try.prog t h (.call ⟨.builtin .append,#[s,x],#[51,51]⟩)=apO Try.prog 51 h (Ar t s) (Ar t x):=aJE t h s x 51 51 _ Try.underlying51
theorem aTS(h:Aa)(s:AV)(a b r l:Nat):apO Try.prog 51 h (some s) (some (.slr a b r l))=apK 1 h (some s) (srK 1 h (some (.slr a b r l))):=azF (e:=4) (b:=1) (z:=.bool false) (by kernel_rfl) (by kernel_rfl) (by kernel_rfl) (by kernel_rfl) (by decide+kernel) h s _ (fun q e=>by cases e)
theorem aZ2:Lr Try.prog 66=some (.nils):=by kernel_rfl
theorem aMR(h:Aa)(b r o:Nat)(v:AV):st_ Try.prog 66 h (some (.ptr b r o)) (some v)=sv 1 (h[b]?) b r o (Bd v):=Td (by kernel_rfl) h b r o v
theorem aJN(b r o:Nat):ftS Try.prog 66 (some (.ptr b r o))=some [.cells b o 1]:=aD2 (by kernel_rfl) b r o
theorem aO9(b r len:Nat)(k:IntKind)(i:Int):ia Try.prog 106 (some (.slr 1 b r len)) (some (.int k i))=if 0≤i∧i<len then some (.ret (.ptr b (r+i.toNat) 0),[])else none:=apC ⟨_,Try.underlying106,by kernel_rfl⟩ b r len k i
theorem amO(h:Aa)(b r o:Nat):ld Try.prog 66 h (some (.ptr b r o))=ldC (Rq (h[b]?) r) o:=sS ⟨by kernel_rfl,1,by kernel_rfl⟩ h b r o
theorem aH6(b r o:Nat):ftL Try.prog 66 (some (.ptr b r o))=some [.cells b o 1]:=eZ (isA:=false) (n:=1) (by kernel_rfl) (by kernel_rfl) b r o
theorem aIS(ps:List (Nat × AV)):kB Try.prog 29 ps=(Zj (fun i=>([(0,1),(1,1)]:List (Nat × Nat))[i]?) (Bd (.agg [.nils,.int .i64 0])) ps).map .agg:=by kernel_rfl
theorem aYP(h:Aa)(b r o:Nat)(v:AV):st_ Try.prog 59 h (some (.ptr b r o)) (some v)=sv 5 (h[b]?) b r o (Bd v):=Td (by kernel_rfl) h b r o v
theorem aqA(h:Aa)(b r o:Nat):ld Try.prog 90 h (some (.ptr b r o))=ldR (Rq (h[b]?) r) o 2:=aCT ⟨by kernel_rfl,by kernel_rfl⟩ h b r o
theorem aT5(b r o:Nat):ftL Try.prog 90 (some (.ptr b r o))=some [.cells b o 2]:=eZ (isA:=true) (n:=2) (by kernel_rfl) (by kernel_rfl) b r o
theorem aQM(ps:List (Nat × AV)):kB Try.prog 126 ps=(Zj (fun i=>([(0,5),(5,2),(7,2)]:List (Nat × Nat))[i]?) (Bd (.agg [.int .i64 0,.int .i64 0,.nils,.int .i64 0,.int .i64 0,.int .i64 0,.int .i64 0,.int .i64 0,.int .i64 0])) ps).map .agg:=by kernel_rfl
theorem aiC(fl nn:Bool)(rows:List (List AV))(k:IntKind)(i:Int):ia Try.prog 57 (some (Ak 2 fl nn rows)) (some (.int k i))=if 0≤i then r1 ((rows[i.toNat]?).map .iptr)else none:=aB2 ⟨_,Try.underlying57,by kernel_rfl⟩ fl nn rows k i
theorem ad1(b r o:Nat):fa Try.prog 56 (some (.ptr b r o)) 0=some (.ret (.ptr b r (o+0)),[]):=Hm (show Iz Try.prog 56 0 0 1 from⟨_,_,Try.underlying56,rfl,rfl,by kernel_rfl,by decide⟩) b r o
theorem aCQ(cs:List AV):fa Try.prog 56 (some (.iptr cs)) 0=if 0+1≤cs.length then some (.ret (.iptr (cs.drop 0)),[])else none:=asS (show Iz Try.prog 56 0 0 1 from⟨_,_,Try.underlying56,rfl,rfl,by kernel_rfl,by decide⟩) cs
theorem sA(b r o:Nat):fa Try.prog 59 (some (.ptr b r o)) 0=some (.ret (.ptr b r (o+0)),[]):=Hm (show Iz Try.prog 59 0 0 1 from⟨_,_,Try.underlying59,rfl,rfl,by kernel_rfl,by decide⟩) b r o
theorem rP(b r o:Nat):fa Try.prog 59 (some (.ptr b r o)) 3=some (.ret (.ptr b r (o+3)),[]):=Hm (show Iz Try.prog 59 3 3 1 from⟨_,_,Try.underlying59,rfl,rfl,by kernel_rfl,by decide⟩) b r o
theorem qU(b r o:Nat):fa Try.prog 59 (some (.ptr b r o)) 4=some (.ret (.ptr b r (o+4)),[]):=Hm (show Iz Try.prog 59 4 4 1 from⟨_,_,Try.underlying59,rfl,rfl,by kernel_rfl,by decide⟩) b r o
theorem aM2(b r o:Nat):fa Try.prog 56 (some (.ptr b r o)) 1=some (.ret (.ptr b r (o+1)),[]):=Hm (show Iz Try.prog 56 1 1 1 from⟨_,_,Try.underlying56,rfl,rfl,by kernel_rfl,by decide⟩) b r o
theorem aOU(cs:List AV):fa Try.prog 56 (some (.iptr cs)) 1=if 1+1≤cs.length then some (.ret (.iptr (cs.drop 1)),[])else none:=asS (show Iz Try.prog 56 1 1 1 from⟨_,_,Try.underlying56,rfl,rfl,by kernel_rfl,by decide⟩) cs
theorem aVC:Lr Try.prog 129=some (.nilm):=by kernel_rfl
theorem aTF(h:Aa)(b r o:Nat)(v:AV):st_ Try.prog 129 h (some (.ptr b r o)) (some v)=sv 1 (h[b]?) b r o (Bd v):=Td (by kernel_rfl) h b r o v
theorem aOB:Lr Try.prog 25=some (.nils):=by kernel_rfl
theorem aNE(h:Aa)(b r o:Nat)(v:AV):st_ Try.prog 25 h (some (.ptr b r o)) (some v)=sv 1 (h[b]?) b r o (Bd v):=Td (by kernel_rfl) h b r o v
theorem aU9:Lr Try.prog 130=some (.nilf):=by kernel_rfl
theorem aT7(h:Aa)(b r o:Nat)(v:AV):st_ Try.prog 130 h (some (.ptr b r o)) (some v)=sv 1 (h[b]?) b r o (Bd v):=Td (by kernel_rfl) h b r o v
theorem aDH(h:Aa)(b r o:Nat):ld Try.prog 130 h (some (.ptr b r o))=ldC (Rq (h[b]?) r) o:=sS ⟨by kernel_rfl,1,by kernel_rfl⟩ h b r o
theorem aP4(ps:List (Nat × AV)):kB Try.prog 114 ps=(Zj (fun i=>([(0,2),(2,1)]:List (Nat × Nat))[i]?) (Bd (.agg [.int .i64 0,.int .i64 0,.int .i64 0])) ps).map .agg:=by kernel_rfl
theorem aPD(ps:List (Nat × AV)):kB Try.prog 135 ps=(Zj (fun i=>([(0,1)]:List (Nat × Nat))[i]?) (Bd (.agg [.nils])) ps).map .agg:=by kernel_rfl
theorem aH0(base len:Nat)(ps:List (Nat × AV)):rD (Eu Try.prog base 99 len ps)=bsK 2 (.agg [.int .i64 0,.int .i64 0]) base len ps:=aUO (e:=86) (by kernel_rfl) (by kernel_rfl) (by kernel_rfl) base len ps
theorem ajR{O:Hz}(t:List AV)(h:Aa)(s x:Operand):Gx O Try.prog t h (.call ⟨.builtin .append,#[s,x],#[99,99]⟩)=apO Try.prog 99 h (Ar t s) (Ar t x):=aJE t h s x 99 99 _ Try.underlying99
theorem aHZ(h:Aa)(s:AV)(a b r l:Nat):apO Try.prog 99 h (some s) (some (.slr a b r l))=apK 2 h (some s) (srK 2 h (some (.slr a b r l))):=azF (e:=86) (b:=16) (z:=.agg [.int .i64 0,.int .i64 0]) (by kernel_rfl) (by kernel_rfl) (by kernel_rfl) (by kernel_rfl) (by decide+kernel) h s _ (fun q e=>by cases e)
theorem aIG(st b r len:Nat):ln Try.prog 96 (some (.slr st b r len))=some (.ret (.int .i64 len),[]):=aAV (n:=2) ⟨_,Try.underlying96,by kernel_rfl⟩ st b r len
theorem aIX(b r len:Nat)(k:IntKind)(i:Int):ia Try.prog 96 (some (.slr 2 b r len)) (some (.int k i))=if 0≤i∧i<len then some (.ret (.ptr b (r+i.toNat) 0),[])else none:=apC ⟨_,Try.underlying96,by kernel_rfl⟩ b r len k i
theorem aM3:Lr Try.prog 90=some (.agg [.int .i64 0,.int .i64 0]):=by kernel_rfl
theorem aOM(h:Aa)(b r o:Nat)(v:AV):st_ Try.prog 90 h (some (.ptr b r o)) (some v)=sv 2 (h[b]?) b r o (Bd v):=Td (by kernel_rfl) h b r o v
theorem aU3:Lr Try.prog 114=some (.agg [.int .i64 0,.int .i64 0,.int .i64 0]):=by kernel_rfl
theorem aUL(h:Aa)(b r o:Nat)(v:AV):st_ Try.prog 114 h (some (.ptr b r o)) (some v)=sv 3 (h[b]?) b r o (Bd v):=Td (by kernel_rfl) h b r o v
theorem aMW(h:Aa)(b r o:Nat):ld Try.prog 103 h (some (.ptr b r o))=ldC (Rq (h[b]?) r) o:=sS ⟨by kernel_rfl,1,by kernel_rfl⟩ h b r o
theorem aC4(b r o:Nat):fa Try.prog 90 (some (.ptr b r o)) 0=some (.ret (.ptr b r (o+0)),[]):=Hm (show Iz Try.prog 90 0 0 1 from⟨_,_,Try.underlying90,rfl,rfl,by kernel_rfl,by decide⟩) b r o
theorem aPB(base:Nat)(l c:Option AV):msO Try.prog 106 base l c=msK 1 (.nils) base l c:=aZ8 (e:=66) (n:=1) (b:=24) (by kernel_rfl) (by kernel_rfl) (by kernel_rfl) (by kernel_rfl) (by decide+kernel) base l c
theorem aTT(base:Nat)(l c:Option AV):msO Try.prog 51 base l c=msK 1 (.bool false) base l c:=aZ8 (e:=4) (n:=1) (b:=1) (by kernel_rfl) (by kernel_rfl) (by kernel_rfl) (by kernel_rfl) (by decide+kernel) base l c
theorem aPU(base len:Nat)(ps:List (Nat × AV)):rD (Eu Try.prog base 143 len ps)=bsK 1 (.nils) base len ps:=aUO (e:=25) (by kernel_rfl) (by kernel_rfl) (by kernel_rfl) base len ps
theorem aQT(st b r len:Nat):ln Try.prog 143 (some (.slr st b r len))=some (.ret (.int .i64 len),[]):=aAV (n:=1) ⟨_,Try.underlying143,by kernel_rfl⟩ st b r len
theorem aO8(b r len:Nat)(k:IntKind)(i:Int):ia Try.prog 143 (some (.slr 1 b r len)) (some (.int k i))=if 0≤i∧i<len then some (.ret (.ptr b (r+i.toNat) 0),[])else none:=apC ⟨_,Try.underlying143,by kernel_rfl⟩ b r len k i
theorem aDX{O:Hz}(t:List AV)(h:Aa)(s x:Operand):Gx O Try.prog t h (.call ⟨.builtin .append,#[s,x],#[143,143]⟩)=apO Try.prog 143 h (Ar t s) (Ar t x):=aJE t h s x 143 143 _ Try.underlying143
theorem aP8(h:Aa)(s:AV)(a b r l:Nat):apO Try.prog 143 h (some s) (some (.slr a b r l))=apK 1 h (some s) (srK 1 h (some (.slr a b r l))):=azF (e:=25) (b:=24) (z:=.nils) (by kernel_rfl) (by kernel_rfl) (by kernel_rfl) (by kernel_rfl) (by decide+kernel) h s _ (fun q e=>by cases e)
theorem aV5(n:Nat)(fl:Bool)(rows:List (List AV)):Qm Try.prog .eql 25 (.imm n fl rows) .nils=some (.bool false):=aMQ Try.underlying25 n fl rows
theorem aF6(h:Aa)(cs:List AV):ld Try.prog 56 h (some (.iptr cs))=if 2≤cs.length then some (.ret (.agg (cs.take 2)),[])else none:=aRS ⟨by kernel_rfl,by kernel_rfl⟩ h cs
theorem aY2(h:Aa)(b r o:Nat)(v:AV):st_ Try.prog 56 h (some (.ptr b r o)) (some v)=sv 2 (h[b]?) b r o (Bd v):=Td (by kernel_rfl) h b r o v
theorem aC5(h:Aa)(b r o:Nat):ld Try.prog 126 h (some (.ptr b r o))=ldR (Rq (h[b]?) r) o 9:=aCT ⟨by kernel_rfl,by kernel_rfl⟩ h b r o
theorem aNL(h:Aa)(b r o:Nat):ld Try.prog 129 h (some (.ptr b r o))=ldC (Rq (h[b]?) r) o:=sS ⟨by kernel_rfl,1,by kernel_rfl⟩ h b r o
theorem aUW(base len:Nat)(ps:List (Nat × AV)):rD (Eu Try.prog base 96 len ps)=bsK 2 (.agg [.int .i64 0,.int .i64 0]) base len ps:=aUO (e:=90) (by kernel_rfl) (by kernel_rfl) (by kernel_rfl) base len ps
theorem aHI{O:Hz}(t:List AV)(h:Aa)(s x:Operand):Gx O Try.prog t h (.call ⟨.builtin .append,#[s,x],#[96,96]⟩)=apO Try.prog 96 h (Ar t s) (Ar t x):=aJE t h s x 96 96 _ Try.underlying96
theorem aS8(h:Aa)(s:AV)(a b r l:Nat):apO Try.prog 96 h (some s) (some (.slr a b r l))=apK 2 h (some s) (srK 2 h (some (.slr a b r l))):=azF (e:=90) (b:=16) (z:=.agg [.int .i64 0,.int .i64 0]) (by kernel_rfl) (by kernel_rfl) (by kernel_rfl) (by kernel_rfl) (by decide+kernel) h s _ (fun q e=>by cases e)
theorem lX(b r o:Nat):fa Try.prog 126 (some (.ptr b r o)) 0=some (.ret (.ptr b r (o+0)),[]):=Hm (show Iz Try.prog 126 0 0 5 from⟨_,_,Try.underlying126,rfl,rfl,by kernel_rfl,by decide⟩) b r o
theorem as7(b r o:Nat):fa Try.prog 126 (some (.ptr b r o)) 1=some (.ret (.ptr b r (o+5)),[]):=Hm (show Iz Try.prog 126 1 5 2 from⟨_,_,Try.underlying126,rfl,rfl,by kernel_rfl,by decide⟩) b r o
theorem atA(b r o:Nat):fa Try.prog 126 (some (.ptr b r o)) 2=some (.ret (.ptr b r (o+7)),[]):=Hm (show Iz Try.prog 126 2 7 2 from⟨_,_,Try.underlying126,rfl,rfl,by kernel_rfl,by decide⟩) b r o
theorem aOT(b r o:Nat):fa Try.prog 90 (some (.ptr b r o)) 1=some (.ret (.ptr b r (o+1)),[]):=Hm (show Iz Try.prog 90 1 1 1 from⟨_,_,Try.underlying90,rfl,rfl,by kernel_rfl,by decide⟩) b r o
theorem azC(b r o:Nat):fa Try.prog 135 (some (.ptr b r o)) 0=some (.ret (.ptr b r (o+0)),[]):=Hm (show Iz Try.prog 135 0 0 1 from⟨_,_,Try.underlying135,rfl,rfl,by kernel_rfl,by decide⟩) b r o
theorem aGO(h:Aa)(b r o:Nat):ld Try.prog 99 h (some (.ptr b r o))=ldC (Rq (h[b]?) r) o:=sS ⟨by kernel_rfl,1,by kernel_rfl⟩ h b r o
theorem aUX(b r o:Nat):ftL Try.prog 99 (some (.ptr b r o))=some [.cells b o 1]:=eZ (isA:=false) (n:=1) (by kernel_rfl) (by kernel_rfl) b r o
theorem aMA(h:Aa)(b r o:Nat)(v:AV):st_ Try.prog 99 h (some (.ptr b r o)) (some v)=sv 1 (h[b]?) b r o (Bd v):=Td (by kernel_rfl) h b r o v
theorem aU0(b r o:Nat):ftS Try.prog 99 (some (.ptr b r o))=some [.cells b o 1]:=aD2 (by kernel_rfl) b r o
def TY5:=PLift.up (acL @Hl (acL @Nc (acL @Hy (acL @Jf @Nb))))
def aE2:=PLift.up (acL @Hy (acL @Jf (acL @Nb (acL @Vt (acL @aMN (acL @Im (acL @aQL (acL @Nc (acL @iY (acL @pC (acL @nE (acL @xB (acL @aNF (acL @aPP (acL @vR (acL @Jr (acL @Ls (acL @dF @aeY))))))))))))))))))
def acY:=PLift.up (acL @Jr (acL @Ls (acL @dF (acL @mN (acL @cU (acL @adY (acL @ad0 (acL @aO (acL @Ea (acL @Nh (acL @Zt (acL @Hy (acL @Jf (acL @Nb (acL @Vt (acL @Vi (acL @Ub (acL @Tz (acL @qL (acL @aeY (acL @Im (acL @Nc (acL @iY (acL @pC (acL @nE (acL @Wh (acL @Hl (acL @xB @acH))))))))))))))))))))))))))))
def aHT:=PLift.up (acL @Hl (acL @aCP (acL @Im (acL @iY (acL @pC (acL @nE (acL @xB (acL @acH (acL @aNJ (acL @Ea (acL @Nh @aNR)))))))))))
def a6B:=PLift.up (acL @Hl (acL @Jr (acL @Ls @dF)))
def aKN:=PLift.up (acL @Hl (acL @Ea (acL @Hy (acL @Jf (acL @Nb (acL @Im (acL @Ub (acL @aOI (acL @aOC (acL @ab2 (acL @aT2 (acL @aTD (acL @a5B (acL @aKL (acL @aU4 (acL @aSV (acL @aJK (acL @aI6 (acL @dO (acL @azH (acL @avY (acL @aDD @Zy))))))))))))))))))))))
def aVV:=PLift.up (acL @Nc (acL @Wh (acL @Ea (acL @Nh @Ub))))
def mF:=PLift.up (acL @Hl (acL @aIB (acL @Hy (acL @Jf (acL @Vt (acL @Vi (acL @aH4 (acL @aCP (acL @Im (acL @aFD (acL @af2 (acL @eP (acL @ag6 (acL @aU5 (acL @aJO (acL @mX (acL @aSA (acL @aW1 (acL @Ea (acL @aF9 (acL @aH7 @Zy)))))))))))))))))))))
def aVW:=PLift.up (acL @Hy (acL @Jf (acL @Nb (acL @Hl (acL @Vt (acL @Vi (acL @aTX (acL @aHO @aTS))))))))
def aVQ:=PLift.up (acL @Nc (acL @Wh @Nh))
def xW:=PLift.up (acL @Jr (acL @Ls (acL @dF (acL @Hy (acL @Jf (acL @Nb (acL @iY (acL @pC (acL @nE (acL @Ub (acL @Ea (acL @Tz (acL @qL (acL @aeY (acL @Im (acL @Nc (acL @mN (acL @cU (acL @adY (acL @ad0 (acL @aO (acL @Zt (acL @Vt (acL @Vi (acL @afE (acL @adZ (acL @iZ (acL @rH @aD))))))))))))))))))))))))))))
def aHQ:=PLift.up (acL @dO (acL @azH (acL @iY (acL @pC (acL @nE (acL @xB (acL @aE3 (acL @acH (acL @a00 (acL @aYP (acL @aqA (acL @aQM (acL @ae3 (acL @Ea (acL @aB8 (acL @avY (acL @aeQ @aC9)))))))))))))))))
def azI:=PLift.up (acL @Hy (acL @Jf (acL @Nb (acL @Vt (acL @am9 (acL @Vi (acL @afE (acL @adZ (acL @iZ (acL @Im (acL @Nc (acL @Wh (acL @Ea (acL @Nh (acL @Jr (acL @Ls (acL @mN (acL @cU @rH))))))))))))))))))
def aUT:=PLift.up (acL @iZ (acL @Im (acL @Nc (acL @Wh (acL @Ea (acL @Nh (acL @rH @aD)))))))
def aG5:=PLift.up (acL @rQ (acL @abS (acL @vR (acL @aiC (acL @aCQ (acL @Ea (acL @Nh (acL @Hy (acL @Jf (acL @Nb (acL @sA (acL @Ub (acL @ae3 (acL @rP (acL @Tz @qU)))))))))))))))
def aYQ:=PLift.up (acL @rQ (acL @abS (acL @vR (acL @aiC (acL @aCQ (acL @Ea (acL @Nh (acL @aVK (acL @aS2 (acL @aOU (acL @sA (acL @qU @rP))))))))))))
def a4M:=PLift.up (acL @Tz (acL @Ea (acL @Jr (acL @Ls (acL @dF (acL @Hl @nF))))))
def aDP:=PLift.up (acL @Nc (acL @Wh @Nh))
def bdS:=PLift.up (acL @aZ2 (acL @aOI (acL @aVC (acL @aTF (acL @Jr (acL @Ls (acL @dF (acL @aJO (acL @aOB (acL @aNE (acL @aU9 (acL @aT7 (acL @aDH (acL @amO @ab2))))))))))))))
def aG8:=PLift.up (acL @qL (acL @Ea (acL @aB8 (acL @azH (acL @avY (acL @dO (acL @aP4 (acL @aPD (acL @aH0 (acL @ajR (acL @aHZ (acL @aIG (acL @aIX (acL @aqA (acL @aM3 (acL @aOM (acL @Hl (acL @aU3 @aUL))))))))))))))))))
def aK1:=PLift.up (acL @Im (acL @aeQ (acL @Ea (acL @aMW (acL @dO (acL @aIO (acL @Zy (acL @aKL (acL @ab2 (acL @aIG (acL @aIX (acL @aqA (acL @aT5 (acL @aM3 (acL @aOM (acL @aC4 (acL @aDD (acL @aPL (acL @Hl @aVJ)))))))))))))))))))
def aHE:=PLift.up (acL @Ub (acL @Ea (acL @aF9 (acL @aPB (acL @aTT (acL @Hl (acL @qL (acL @aH7 (acL @aKL (acL @vU (acL @nF (acL @mX (acL @aIB (acL @aH4 (acL @aFD (acL @aS5 (acL @Zy (acL @aO9 (acL @amO (acL @aH6 (acL @eP (acL @ag6 (acL @aTL (acL @af2 (acL @aMR (acL @aJN (acL @Xp @af9)))))))))))))))))))))))))))
def yY:=PLift.up (acL @aPU (acL @Jr (acL @Ls (acL @dF (acL @Hl (acL @aQT (acL @nF (acL @aO8 (acL @Im (acL @aIH (acL @Xp (acL @af9 (acL @aUN (acL @mX (acL @Ea (acL @aF9 (acL @vU (acL @aDX (acL @aP8 (acL @Tz (acL @aIS (acL @af2 (acL @eP @ag6)))))))))))))))))))))))
def a5V:=PLift.up (acL @iZ (acL @Im (acL @Nc (acL @Hl (acL @am9 (acL @Wh (acL @Ea (acL @Nh @rH))))))))
def bjI:=PLift.up (acL @aV5 (acL @vU (acL @Xp @aV4)))
def bc8:=PLift.up (acL @Hl @aE3)
def atG:=PLift.up (acL @rQ (acL @abS (acL @vR (acL @aiC (acL @aF6 (acL @aWR (acL @aY2 (acL @ad1 (acL @Ea (acL @Hy (acL @Jf (acL @Nb (acL @sA (acL @Ub (acL @ae3 (acL @rP (acL @Tz @qU)))))))))))))))))
def a42:=PLift.up (acL @aC5 @aC5)
def bgV:=PLift.up (acL @ac3 (acL @Zy (acL @aO (acL @Ea (acL @Zt (acL @aeV @aD))))))
def yJ:=PLift.up (acL @Jr (acL @Ls (acL @mN (acL @cU (acL @adY (acL @ad0 (acL @vU (acL @ac3 (acL @Zy (acL @aO (acL @Ea (acL @Zt (acL @Xp (acL @af9 (acL @Hy (acL @Jf (acL @Nb (acL @Vt (acL @Vi (acL @afE (acL @adZ (acL @aD (acL @aeV (acL @nF @mX))))))))))))))))))))))))
def aHR:=PLift.up (acL @Ea (acL @Im (acL @aIH (acL @nF (acL @Hl (acL @aNL (acL @Tz (acL @amO (acL @aH6 (acL @aIS (acL @af2 (acL @eP (acL @ag6 (acL @ab2 (acL @aTV (acL @aUF (acL @aUW (acL @aHI (acL @aS8 (acL @aMR (acL @aJN (acL @aOC (acL @aV1 (acL @mX (acL @aSA @aDH)))))))))))))))))))))))))
def a29:=PLift.up (acL @Jr (acL @Ls (acL @Ea (acL @mN (acL @cU (acL @adY (acL @ad0 (acL @aO (acL @Zt (acL @vU (acL @aOB (acL @aNE (acL @Hy (acL @Jf (acL @Nb (acL @Vt (acL @Vi (acL @afE (acL @adZ (acL @Im (acL @aD (acL @Xp @af9))))))))))))))))))))))
def aZ5:=PLift.up (acL @Nc (acL @Wh @Nh))
def bmA:=PLift.up (acL @Jr (acL @Ls (acL @mN (acL @cU (acL @adY (acL @ad0 (acL @ac3 (acL @Zy (acL @aO (acL @Ea (acL @Zt (acL @aeV @aD))))))))))))
def aHS:=PLift.up (acL @nE (acL @xB @acH))
def bc5:=PLift.up (acL @ad1 @Ea)
def aHN:=PLift.up (acL @Nc (acL @Wh @Nh))
def biI:=PLift.up (acL @lX (acL @sA (acL @Ea (acL @as7 @aeQ))))
def bcW:=PLift.up (acL @lX (acL @qU (acL @Ea (acL @as7 @aC9))))
def beA:=PLift.up (acL @lX (acL @rQ @abS))
def bcS:=PLift.up (acL @lX (acL @rP (acL @Ea (acL @atA @aOT))))
def aGJ:=PLift.up (acL @Im (acL @nF (acL @mX (acL @Ea (acL @Hy (acL @Jf (acL @Nb (acL @Vt (acL @am9 (acL @Vi (acL @afE (acL @adZ (acL @iZ @aPX)))))))))))))
def vP:=PLift.up (acL @vR (acL @aiC @aF6))
def bdO:=PLift.up (acL @atA (acL @aC4 (acL @Ea (acL @ad1 (acL @aM2 @Zy)))))
def a6M:=PLift.up (acL @azC (acL @aGO (acL @aUX (acL @dO (acL @aIO (acL @aH0 (acL @ajR (acL @aHZ (acL @aMA @aU0)))))))))
def aWC:=PLift.up (acL @dO (acL @azH (acL @azC (acL @aGO (acL @aJK (acL @aUY (acL @aB8 (acL @avY (acL @aI6 @aMA)))))))))
end Go.Proofs.Ytfkokgjfpojeoaa
namespace Go.Proofs.Ytfkokgjfpojeoaa.Ko
open Go Go.Ev Go.ChangeShapes Go.WideShapes Go.ChangeAt Go.RowKit
set_option maxRecDepth 100000
set_option maxHeartbeats 16000000
def mdL:List Nat:=[96,100,102,83]
def pr:Pz:={ at_:=fun _=>none,md:=(mdL.contains ·) }
noncomputable def Ec:Hz:=om Try.prog pr
theorem adA(f:Nat):Ec.md f=([96,100,102,83]:List Nat).contains f:=Eq.trans rfl rfl
def Vc:=PLift.up (acL EG.down (acL EVu.down @adA))
theorem a9O{C:R→Prop}[NoN C]{n:Nat}{k:List Br}{c:Code}{s:St}(h:Un Ec Try.prog n k c C (Fp Ec Try.prog 5000 c [] s)):C (lpK Ec Try.prog n k (Ec.loop c s)):=a6I (pr:=pr) h
theorem a3J:aO1 Try.prog:=fun f fn hf=>by
 have h:(Try.prog.funcs.toList.all fun fn=> !(fn.name== "runtime.NumGoroutine"))=true:=by kernel_rfl
 have:=List.all_eq_true.1 h fn (by rw[Array.mem_toList_iff];exact Array.mem_of_getElem? hf)
 simpa using this
theorem mixed:Try.prog.follows .mixedOrders=true:=by kernel_rfl
theorem calls_ok:Me Try.prog (fun _=>none) Ec:=a6V a3J ⟨fun f p h=>(by cases h),fun f p h=>(by cases h)⟩ mixed
theorem aJT{f:Nat}{fn:Func}{c:Code}{args:List AV}{h:Aa}{Q:Gw→Aa→Prop}(hp:pr f=none)(hf:Try.prog.funcs[f]?=some fn)(hb:fn.body=some c)(hl:Nat.ble args.length fn.ntmps=true)
 (he:FnE Try.prog h.length fn.results.toList Q (Fp Ec Try.prog 5000 c [] ⟨mk fn.ntmps (Fe args),h⟩)):ClQ Ec f args h Q:=ClQ.start (pr:=pr) hp hf hb hl he
theorem ce{f:Nat}{fn:Func}{c:Code}{args:List AV}{h:Aa}{o:Gw}{h':Aa}(hf:Try.prog.funcs[f]?=some fn)(he:FnE Try.prog h.length fn.results.toList (fun o1 h1=>(o1,h1)=(o,h')) (Fp Ec Try.prog 5000 c [] ⟨mk fn.ntmps (Fe args),h⟩))(hp:pr f=none:=by exact rfl)(hb:fn.body=some c:=by exact rfl)(hl:Nat.ble args.length fn.ntmps=true:=by exact rfl):Ec.call (.fn f) args h=some (o,h'):=(aJT hp hf hb hl he).eq
theorem Wy{α σ ρ:Type}{c:Code}(N:Nat)(l:List α)(E:Nat→σ→Tm→Aa→Prop)(F:List α→σ→ρ)(Q:ρ→Ex→Tm→Aa→Prop)
 (stop:∀s t h Q',(∀e t h,Q (F [] s) e t h→Q' e ⟨mk N t,h⟩)→E l.length s t h→Rnd N (fun _ _=>False) Q' (Fp Ec Try.prog 5000 c [] ⟨mk N t,h⟩))
 (go:∀x rest i s t h J Q',(∀t' h' s',E (i+1) s' t' h'→F rest s'=F (x::rest) s→J t' h')→(∀e t h,Q (F (x::rest) s) e t h→Q' e ⟨mk N t,h⟩)→l[i]?=some x→i<l.length→E i s t h→
   Rnd N J Q' (Fp Ec Try.prog 5000 c [] ⟨mk N t,h⟩)):
 ∀s t h,E 0 s t h→LpQ Ec c ⟨mk N t,h⟩ (Ot N (Q (F l s))):=aII (pr:=pr) rfl N l E F Q stop go
def iv(x:Int):List AV:=[.int .i64 x]
theorem Ae{h:Aa}{b:Nat}{c:CB}(h0:h[b]?=some c)(l:Aa):(h++l)[b]?=some c:=by
 rw[List.getElem?_append_left (List.getElem?_eq_some_iff.1 h0).1];exact h0
end Go.Proofs.Ytfkokgjfpojeoaa.Ko
namespace Go.Proofs.Ytfkokgjfpojeoaa.Ko
open Go.Ev Go
set_option maxRecDepth 100000
set_option maxHeartbeats 16000000
structure Db where
 lo:Int
 hi:Int
 byp:Bool
def Db.cells(s:Db):List AV:=[.int .i64 s.lo,.int .i64 s.hi,.bool s.byp]
structure Au where
 nn:Bool
 sens:List Int
 need:Int
 level:Int
 above:Bool
def Au.cells(v:Au):List AV:=[Ak 1 true v.nn (v.sens.map iv),.int .i64 v.need,.int .i64 v.level,.bool v.above]
structure Bf where
 vote:Int
 is:Bool
def Bf.cells(w:Bf):List AV:=[.int .i64 w.vote,.bool w.is]
structure Bi where
 frm:Int
 to:Int
 nn:Bool
 wants:List Bf
 cmd:Int
 after:Int
def Bi.cells(x:Bi):List AV:=[.int .i64 x.frm,.int .i64 x.to,Ak 2 true x.nn (x.wants.map Bf.cells),.int .i64 x.cmd,.int .i64 x.after]
structure Ah where
 nS:Bool
 sens:List Db
 nV:Bool
 votes:List Au
 nM:Bool
 moves:List Bi
 states:Int
 cmds:Int
 bgn:Int
 nO:Bool
 opn:List Int
abbrev Ah.cells(m:Ah):List AV:=[Ak 3 true m.nS (m.sens.map Db.cells),Ak 4 false m.nV (m.votes.map Au.cells),Ak 5 false m.nM (m.moves.map Bi.cells),.int .i64 m.states,.int .i64 m.cmds,.int .i64 m.bgn,Ak 1 true m.nO (m.opn.map iv)]
structure Ah.small(m:Ah):Prop where
 sens:m.sens.length≤maxLen
 votes:m.votes.length≤maxLen
 moves:m.moves.length≤maxLen
 opn:m.opn.length≤maxLen
 vs:∀v∈m.votes,v.sens.length≤maxLen
 ws:∀x∈m.moves,x.wants.length≤maxLen
def Qy(x lo hi:Int):Bool:=decide (lo≤x)&&decide (x≤hi)
theorem cA(x lo hi:Int):Ec.call (.fn 43) [.int .i64 x,.int .i64 lo,.int .i64 hi] []=some (.ret (.bool (Qy x lo hi)),[]):=by
 (refine ce Try.func43 ?_;simp only[Try.f43];(have hb:=trivial;with_reducible repeat' (first|simp only[hb,Vc.down,seval]|refine Bm ?_ ?_<;>intro hb|refine fd ?_|fail)))
 all_goals simp[Qy, *]
def mD(x:Int):Bool:=Qy x (-10000) 10000
theorem aiA(x:Int):Ec.call (.fn 69) [.int .i64 x] []=some (.ret (.bool (mD x)),[]):=by
 (refine ce Try.func69 ?_;simp only[Try.f69];(have hb:=trivial;with_reducible repeat' (first|simp only[hb,Vc.down,seval,cA]|refine Bm ?_ ?_<;>intro hb|refine fd ?_|fail)))
 all_goals rfl
theorem aEU(x:Int):Ec.call (.fn 74) [.int .i64 x] []=some (.ret (.bool (!Qy x 0 255)),[]):=by
 (refine ce Try.func74 ?_;simp only[Try.f74];(have hb:=trivial;with_reducible repeat' (first|simp only[hb,Vc.down,seval,cA]|refine Bm ?_ ?_<;>intro hb|refine fd ?_|fail)))
def Re(s:Db)(v:Au)(r:Int):Bool:= !s.byp&&(!Qy r s.lo s.hi||(if v.above=true then decide (v.level≤r)else decide (r≤v.level)))
theorem aJ7(s:Db)(v:Au)(r:Int):Ec.call (.fn 76) [.agg [.int .i64 s.lo,.int .i64 s.hi,.bool s.byp],.agg [Ak 1 true v.nn (v.sens.map iv),.int .i64 v.need,.int .i64 v.level,.bool v.above],.int .i64 r] []=some (.ret (.bool (Re s v r)),[]):=by
 (refine ce Try.func76 ?_;simp only[Try.f76];(have hb:=trivial;with_reducible repeat' (first|simp only[hb,Vc.down,seval,bgV.down,cA]|refine Bm ?_ ?_<;>intro hb|refine fd ?_|fail)))
 all_goals simp_all[Re]
def uR{α:Type}(p:α→Bool):List α→Int→Int
 | [],_=> -1
 |x::l,i=>if p x=true then i else uR p l (i+1)
theorem Yf{α:Type}(p:α→Bool):∀(l:List α) (i:Int),0≤i→decide (0≤uR p l i)=l.any p
 | [],i,_=>rfl
 |x::l,i,h=>by
  unfold uR
  split
  ·rename_i hp;simp[h,hp]
  ·rename_i hp;rw[Yf p l (i+1) (by omega)];simp[hp]
theorem aFB{l:List Int}{nn:Bool}{g:Nat}{cap:List AV}{p:Int→Bool}(hc:cap.all (Di 8)=true)(hc7:cap.all (Di 7)=true)(hp:∀x∈l,Ec.call (.fn g) (.int .i64 x::cap) []=some (.ret (.bool (p x)),[]))(hl:l.length≤maxLen)(hgm:Ec.md g=false:=by exact rfl):
 Ec.call (.fn 91) [Ak 1 true nn (l.map iv),.func (.func g) [] cap] []=some (.ret (.int .i64 (uR p l 0)),[]):=by
 (refine ce Try.func91 ?_;simp only[Try.f91];(have hb:=trivial;with_reducible repeat' (first|simp only[hb,Vc.down,seval,aHN.down,acR]|refine Bm ?_ ?_<;>intro hb|refine fd ?_|fail)))
 refine Eo (Wy 19 l (fun i (s:Int) t h=>s=i∧h=[]∧t 0=Ak 1 true nn (l.map iv)∧t 1=.func (.func g) [] cap∧t 7=.int .i64 l.length∧t 8=.int .i64 i)
  (fun rest s=>uR p rest s) (fun r e t h=>h=[]∧((e=.exit 0∧r= -1)∨(e=.ret∧t 4=.int .i64 r))) ?_ ?_ 0 _ _ ?_) (fun e t h hk=>?_)
 ·rintro s t h Q' kQ ⟨rfl,rfl,h0,h1,h7,h8⟩
  (have hb:=trivial;with_reducible repeat' (first|simp only[hb,Vc.down,seval,aHN.down,h0,h1,h7,h8,acZ,decide_false]|refine Bm ?_ ?_<;>intro hb|refine fd ?_|fail))
  exact kQ _ _ _ ⟨rfl,.inl ⟨rfl,rfl⟩⟩
 ·rintro x rest i s t h J Q' kJ kQ hx hi ⟨rfl,rfl,h0,h1,h7,h8⟩
  have hgm2:=hgm
  simp only[adA,aAP,aCF,aC6]at hgm2
  have hpx:=hp x (aqD hx)
  have hd:decide ((i:Int)<(l.length:Int))=true:=by simpa using hi
  (have hb:=trivial;with_reducible repeat' (first|simp only[hb,Vc.down,seval,aHN.down,h0,h1,h7,h8,hd,hx,iv,hc,hc7,hpx,hgm2,Bo hi hl]|refine Bm ?_ ?_<;>intro hb|refine fd ?_|fail))
  ·exact kQ _ _ _ ⟨rfl,.inr ⟨rfl,by simp[up,uR,hb]⟩⟩
  ·exact Bn (kJ _ _ (i+1) ⟨by simp,rfl,by simp[up,h0],by simp[up,h1],by simp[up,h7],by simp[up]⟩ (by simp[uR,hb]))
 ·exact⟨rfl,rfl,by simp[up,Fe],by simp[up,Fe],by simp[up],by simp[up]⟩
 ·obtain⟨rfl,⟨rfl,hi⟩|⟨rfl,hi⟩⟩:=hk
  ·(have hb:=trivial;with_reducible repeat' (first|simp only[hb,Vc.down,seval,aHN.down]|refine Bm ?_ ?_<;>intro hb|refine fd ?_|fail))
   rw[hi]
  ·(have hb:=trivial;with_reducible repeat' (first|simp only[hb,Vc.down,seval,aHN.down,hi]|refine Bm ?_ ?_<;>intro hb|refine fd ?_|fail))
theorem aA9{l:List Int}{nn:Bool}{g:Nat}{cap:List AV}{p:Int→Bool}(hc:cap.all (Di 8)=true)(hc7:cap.all (Di 7)=true)(hp:∀x∈l,Ec.call (.fn g) (.int .i64 x::cap) []=some (.ret (.bool (p x)),[]))(hl:l.length≤maxLen)(hgm:Ec.md g=false:=by exact rfl):
 Ec.call (.fn 73) [Ak 1 true nn (l.map iv),.func (.func g) [] cap] []=some (.ret (.bool (l.any p)),[]):=by
 (refine ce Try.func73 ?_;simp only[Try.f73];(have hb:=trivial;with_reducible repeat' (first|simp only[hb,Vc.down,seval,aFB hc hc7 hp hl hgm,hc,hc7,Yf p l 0 (aAM 0)]|refine Bm ?_ ?_<;>intro hb|refine fd ?_|fail)))
def Oy(b:Int):List Int→Option Int→Bool
 | [],_=>true
 |n::l,p=>Qy n 0 (IntKind.i64.wrap (b-1))&&(match p with|none=>true|some q=> !decide (n≤q))&&Oy b l (some n)
theorem aX{l:List Int}{nn:Bool}(b:Int)(hl:l.length≤maxLen):Ec.call (.fn 53) [Ak 1 true nn (l.map iv),.int .i64 b] []=some (.ret (.bool (Oy b l none)),[]):=by
 (refine ce Try.func53 ?_;simp only[Try.f53];(have hb:=trivial;with_reducible repeat' (first|simp only[hb,Vc.down,seval,aDP.down,acR]|refine Bm ?_ ?_<;>intro hb|refine fd ?_|fail)))
 refine Eo (Wy 33 l (fun i (s:Option Int) t h=>(i=0∧s=none∨0<i∧s=l[i-1]?)∧t 0=Ak 1 true nn (l.map iv)∧t 1=.int .i64 b∧t 7=Ak 1 true nn (l.map iv)∧t 8=.int .i64 l.length∧t 9=.int .i64 i)
  (fun rest s=>Oy b rest s) (fun r e t h=>if r=true then e=.exit 0 else e=.ret∧t 4=.bool false) ?_ ?_ none _ _ ?_) (fun e t h hk=>?_)
 ·rintro s t h Q' kQ ⟨hs,h0,h1,h7,h8,h9⟩
  (have hb:=trivial;with_reducible repeat' (first|simp only[hb,Vc.down,seval,aDP.down,h0,h1,h7,h8,h9,acZ,decide_false]|refine Bm ?_ ?_<;>intro hb|refine fd ?_|fail))
  exact kQ _ _ _ (by simp[Oy])
 ·rintro x rest i s t h J Q' kJ kQ hx hi ⟨hs,h0,h1,h7,h8,h9⟩
  have hd:decide ((i:Int)<(l.length:Int))=true:=by simpa using hi
  have kF:∀{p:Option Int},(Qy x 0 (IntKind.i64.wrap (b-1))&&(match p with|none=>true|some q=> !decide (x≤q)))=false→Oy b (x::rest) p=false:=fun h=>by simp[Oy,h]
  have kT:∀{p:Option Int},(Qy x 0 (IntKind.i64.wrap (b-1))&&(match p with|none=>true|some q=> !decide (x≤q)))=true→Oy b rest (some x)=Oy b (x::rest) p:=fun h=>by simp[Oy,h]
  have hw:=Bo hi hl
  rcases hs with⟨rfl,rfl⟩|⟨hpos,rfl⟩
  ·simp only[Int.natCast_zero,Int.zero_add]at hd h9 hw
   (have hb:=trivial;with_reducible repeat' (first|simp only[hb,Vc.down,seval,aDP.down,h0,h1,h7,h8,h9,hd,hx,iv,cA,hw,Int.toNat_zero,aAM,acZ,decide_false]|refine Bm ?_ ?_<;>intro hb|refine fd ?_|fail))
   all_goals first
    |exact kQ _ _ _ (by rw[if_neg (by rw[kF (by simp_all)];simp)];exact⟨rfl,rfl⟩)
    |exact Bn (kJ _ _ (some x) ⟨.inr ⟨by omega,by simp[hx]⟩,by simp[up,h0],by simp[up,h1],by simp[up,h7],by simp[up,h8],by simp[up]<;>omega⟩ (kT (by simp_all)))
  ·obtain⟨j,rfl⟩:∃j,i=j+1:=⟨i-1,by omega⟩
   obtain⟨q,hq⟩:∃q,l[j]?=some q:=⟨l[j],List.getElem?_eq_getElem (by omega)⟩
   have hj:IntKind.i64.wrap (((j+1:Nat):Int)-1)=(j:Int):=by unfold maxLen at hl;rw[Dz (by omega) (by omega)];omega
   have hg:decide (0<((j+1:Nat):Int))=true:=by rw[decide_eq_true_eq];omega
   simp only[Nat.add_sub_cancel,hq]at kJ kQ
   (have hb:=trivial;with_reducible repeat' (first|simp only[hb,Vc.down,seval,aDP.down,h0,h1,h7,h8,h9,hd,hx,iv,cA,hw,hj,hg,hq]|refine Bm ?_ ?_<;>intro hb|refine fd ?_|fail))
   all_goals first
    |exact kQ _ _ _ (by rw[if_neg (by rw[kF (by simp_all)];simp)];exact⟨rfl,rfl⟩)
    |exact Bn (kJ _ _ (some x) ⟨.inr ⟨by omega,by simp[hx]⟩,by simp[up,h0],by simp[up,h1],by simp[up,h7],by simp[up,h8],by simp[up]<;>omega⟩ (kT (by simp_all)))
 ·exact⟨.inl ⟨rfl,rfl⟩,by simp[up,Fe],by simp[up,Fe],by simp[up,Fe],by simp[up],by simp[up]⟩
 ·split at hk
  ·subst hk
   rename_i hr
   (have hb:=trivial;with_reducible repeat' (first|simp only[hb,Vc.down,seval,aDP.down]|refine Bm ?_ ?_<;>intro hb|refine fd ?_|fail))
   all_goals simp[hr]
  ·obtain⟨rfl,h2⟩:=hk
   rename_i hr
   (have hb:=trivial;with_reducible repeat' (first|simp only[hb,Vc.down,seval,aDP.down,h2]|refine Bm ?_ ?_<;>intro hb|refine fd ?_|fail))
   all_goals simp[hr]
def oN(ns:Int)(v:Au):Bool:=Oy ns v.sens none&&Qy v.need 1 v.sens.length&&mD v.level
theorem aKR(o w:Bf):Ec.call (.fn 90) [.agg [.int .i64 o.vote,.bool o.is],.ptr 0 0 0] [.live 2 true false [[.int .i64 w.vote,.bool w.is]]]=some (.ret (.bool (o.vote==w.vote)),[.live 2 true false [[.int .i64 w.vote,.bool w.is]]]):=by
 (refine ce Try.func90 ?_;simp only[Try.f90];(have hb:=trivial;with_reducible repeat' (first|simp only[hb,Vc.down,seval,bc5.down]|refine Bm ?_ ?_<;>intro hb|refine fd ?_|fail)))
theorem aBY{l:List Bf}{nn:Bool}{g:Nat}{ww:Bf}{p:Bf→Bool}(hp:∀x∈l,Ec.call (.fn g) (.agg [.int .i64 x.vote,.bool x.is]::[.ptr 0 0 0]) [.live 2 true false [[.int .i64 ww.vote,.bool ww.is]]]=some (.ret (.bool (p x)),[.live 2 true false [[.int .i64 ww.vote,.bool ww.is]]]))(hl:l.length≤maxLen)(hgm:Ec.md g=false:=by exact rfl):
 Ec.call (.fn 98) [Ak 2 true nn (l.map Bf.cells),.func (.func g) [] [.ptr 0 0 0]] [.live 2 true false [[.int .i64 ww.vote,.bool ww.is]]]=some (.ret (.int .i64 (uR p l 0)),[.live 2 true false [[.int .i64 ww.vote,.bool ww.is]]]):=by
 (refine ce Try.func98 ?_;simp only[Try.f98];(have hb:=trivial;with_reducible repeat' (first|simp only[hb,Vc.down,seval,vP.down,acR]|refine Bm ?_ ?_<;>intro hb|refine fd ?_|fail)))
 refine Eo (Wy 19 l (fun i (s:Int) t h=>s=i∧h=[.live 2 true false [[.int .i64 ww.vote,.bool ww.is]]]∧t 0=Ak 2 true nn (l.map Bf.cells)∧t 1=.func (.func g) [] [.ptr 0 0 0]∧t 7=.int .i64 l.length∧t 8=.int .i64 i)
  (fun rest s=>uR p rest s) (fun r e t h=>h=[.live 2 true false [[.int .i64 ww.vote,.bool ww.is]]]∧((e=.exit 0∧r= -1)∨(e=.ret∧t 4=.int .i64 r))) ?_ ?_ 0 _ _ ?_) (fun e t h hk=>?_)
 ·rintro s t h Q' kQ ⟨rfl,rfl,h0,h1,h7,h8⟩
  (have hb:=trivial;with_reducible repeat' (first|simp only[hb,Vc.down,seval,vP.down,h0,h1,h7,h8,acZ,decide_false]|refine Bm ?_ ?_<;>intro hb|refine fd ?_|fail))
  exact kQ _ _ _ ⟨rfl,.inl ⟨rfl,rfl⟩⟩
 ·rintro x rest i s t h J Q' kJ kQ hx hi ⟨rfl,rfl,h0,h1,h7,h8⟩
  have hgm2:=hgm
  simp only[adA,aAP,aCF,aC6]at hgm2
  have hpx:=hp x (aqD hx)
  have hd:decide ((i:Int)<(l.length:Int))=true:=by simpa using hi
  (have hb:=trivial;with_reducible repeat' (first|simp only[hb,Vc.down,seval,vP.down,h0,h1,h7,h8,hd,hx,Bf.cells,hpx,hgm2,Bo hi hl]|refine Bm ?_ ?_<;>intro hb|refine fd ?_|fail))
  ·exact kQ _ _ _ ⟨rfl,.inr ⟨rfl,by simp[up,uR,hb]⟩⟩
  ·exact Bn (kJ _ _ (i+1) ⟨by simp,rfl,by simp[up,h0],by simp[up,h1],by simp[up,h7],by simp[up]⟩ (by simp[uR,hb]))
 ·exact⟨rfl,rfl,by simp[up,Fe],by simp[up,Fe],by simp[up],by simp[up]⟩
 ·obtain⟨rfl,⟨rfl,hi⟩|⟨rfl,hi⟩⟩:=hk
  ·(have hb:=trivial;with_reducible repeat' (first|simp only[hb,Vc.down,seval,vP.down]|refine Bm ?_ ?_<;>intro hb|refine fd ?_|fail))
   rw[hi]
  ·(have hb:=trivial;with_reducible repeat' (first|simp only[hb,Vc.down,seval,vP.down,hi]|refine Bm ?_ ?_<;>intro hb|refine fd ?_|fail))
theorem am7{l:List Bf}{nn:Bool}{g:Nat}{ww:Bf}{p:Bf→Bool}(hp:∀x∈l,Ec.call (.fn g) (.agg [.int .i64 x.vote,.bool x.is]::[.ptr 0 0 0]) [.live 2 true false [[.int .i64 ww.vote,.bool ww.is]]]=some (.ret (.bool (p x)),[.live 2 true false [[.int .i64 ww.vote,.bool ww.is]]]))(hl:l.length≤maxLen)(hgm:Ec.md g=false:=by exact rfl):
 Ec.call (.fn 89) [Ak 2 true nn (l.map Bf.cells),.func (.func g) [] [.ptr 0 0 0]] [.live 2 true false [[.int .i64 ww.vote,.bool ww.is]]]=some (.ret (.bool (l.any p)),[.live 2 true false [[.int .i64 ww.vote,.bool ww.is]]]):=by
 (refine ce Try.func89 ?_;simp only[Try.f89];(have hb:=trivial;with_reducible repeat' (first|simp only[hb,Vc.down,seval,aBY hp hl hgm,Yf p l 0 (aAM 0)]|refine Bm ?_ ?_<;>intro hb|refine fd ?_|fail)))
def Qr(nv:Int):List Bf→List Bf→Bool
 |_,[]=>true
 |pre,w::l=>Qy w.vote 0 (IntKind.i64.wrap (nv-1))&& !(pre.any fun o=>o.vote==w.vote)&&Qr nv (pre++[w]) l
def Vo(m:Ah)(x:Bi):Bool:=Qr m.votes.length [] x.wants&&Qy x.frm 0 (IntKind.i64.wrap (m.states-1))&&Qy x.to 0 (IntKind.i64.wrap (m.states-1))&&decide (x.wants.length≤6)&&Qy x.cmd (-1) (IntKind.i64.wrap (m.cmds-1))&&Qy x.after 0 10
theorem aQA(m:Ah)(y:Bi)(hl:y.wants.length≤maxLen):Ec.call (.fn 72) [.agg [Ak 3 true m.nS (m.sens.map Db.cells),Ak 4 false m.nV (m.votes.map Au.cells),Ak 5 false m.nM (m.moves.map Bi.cells),.int .i64 m.states,.int .i64 m.cmds,.int .i64 m.bgn,Ak 1 true m.nO (m.opn.map iv)],.agg [.int .i64 y.frm,.int .i64 y.to,Ak 2 true y.nn (y.wants.map Bf.cells),.int .i64 y.cmd,.int .i64 y.after]] []=some (.ret (.bool (Vo m y)),[]):=by
 have l6:decide ((y.wants.length:Int)≤6)=decide (y.wants.length≤6):=by rw[decide_eq_decide];omega
 (refine ce Try.func72 ?_;simp only[Try.f72];(have hb:=trivial;with_reducible repeat' (first|simp only[hb,Vc.down,seval,atG.down,acR]|refine Bm ?_ ?_<;>intro hb|refine fd ?_|fail)))
 refine Eo (Wy 65 y.wants (fun i (zz:List Bf) t h=>t 2=.ptr 0 0 0∧t 3=.ptr 1 0 0∧t 8=Ak 2 true y.nn (y.wants.map Bf.cells)∧t 9=.int .i64 y.wants.length∧t 10=.int .i64 i∧(h[0]?=some (.live 7 false false [[Ak 3 true m.nS (m.sens.map Db.cells),Ak 4 false m.nV (m.votes.map Au.cells),Ak 5 false m.nM (m.moves.map Bi.cells),.int .i64 m.states,.int .i64 m.cmds,.int .i64 m.bgn,Ak 1 true m.nO (m.opn.map iv)]])∧h[1]?=some (.live 5 false false [[.int .i64 y.frm,.int .i64 y.to,Ak 2 true y.nn (y.wants.map Bf.cells),.int .i64 y.cmd,.int .i64 y.after]])∧zz=y.wants.take i)) (fun rest zz=>Qr m.votes.length zz rest) (fun r e t h=>(if r=true then e=.exit 0∧t 2=.ptr 0 0 0∧t 3=.ptr 1 0 0∧h[0]?=some (.live 7 false false [[Ak 3 true m.nS (m.sens.map Db.cells),Ak 4 false m.nV (m.votes.map Au.cells),Ak 5 false m.nM (m.moves.map Bi.cells),.int .i64 m.states,.int .i64 m.cmds,.int .i64 m.bgn,Ak 1 true m.nO (m.opn.map iv)]])∧h[1]?=some (.live 5 false false [[.int .i64 y.frm,.int .i64 y.to,Ak 2 true y.nn (y.wants.map Bf.cells),.int .i64 y.cmd,.int .i64 y.after]])else e=.ret∧t 4=.bool false)) ?_ ?_ ([]) _ _ ?_) (fun e t h hk=>?_)
 ·rintro p t h Q' kQ ⟨h2,h3,h8,h9,h10,⟨hA,hB,hp⟩⟩
  (have hb:=trivial;with_reducible repeat' (first|simp only[hb,Vc.down,seval,atG.down,h2,h3,h8,h9,h10,acZ,decide_false]|refine Bm ?_ ?_<;>intro hb|refine fd ?_|fail))
  exact kQ _ _ _ (by rw[if_pos (by rfl)];exact⟨rfl,by simp[up,h2],by simp[up,h3],hA,hB⟩)
 ·rintro x rest i p t h J Q' kJ kQ hx hi ⟨h2,h3,h8,h9,h10,⟨hA,hB,hp⟩⟩
  have hd:decide ((i:Int)<(y.wants.length:Int))=true:=decide_eq_true (by omega)
  have hw:=Bo hi hl
  have hA1:=Ae hA
  have hB1:=Ae hB
  have hcW:=am7 (l:=y.wants.take i) (nn:=true) (ww:=x) (g:=90) (p:=fun o=>o.vote==x.vote) (fun o _=>aKR o x) (by simp;omega)
  have hsl:=aXC (P:=Try.prog) (ty:=57) (n:=2) ⟨_,Try.underlying57,by kernel_rfl⟩ true y.nn (rows:=y.wants.map Bf.cells) (i:=i) (by simpa using hi)
  rw[nT,List.map_take]at hcW
  subst hp
  cases c1:Qy x.vote 0 (IntKind.i64.wrap ((m.votes.length:Int)-1))with
  |false=>
   (have hb:=trivial;with_reducible repeat' (first|simp only[hb,Vc.down,seval,atG.down,h2,h3,h8,h9,h10,hd,hx,hw,hA1,hB1,cA,Bf.cells,acR,hcW,hsl,c1]|refine Bm ?_ ?_<;>intro hb|refine fd ?_|fail))
   exact kQ _ _ _ (by rw[if_neg (by simp[Qr,c1])];exact⟨rfl,by simp[up]⟩)
  |true=>
   cases c2:(y.wants.take i).any (fun o=>o.vote==x.vote)with
   |true=>
    rw[c2]at hcW
    (have hb:=trivial;with_reducible repeat' (first|simp only[hb,Vc.down,seval,atG.down,h2,h3,h8,h9,h10,hd,hx,hw,hA1,hB1,cA,Bf.cells,acR,hcW,hsl,c1]|refine Bm ?_ ?_<;>intro hb|refine fd ?_|fail))
    exact kQ _ _ _ (by rw[if_neg (by simp only[Qr,c1,c2,aAN,aE9,aC7];simp)];exact⟨rfl,by simp[up]⟩)
   |false=>
    rw[c2]at hcW
    (have hb:=trivial;with_reducible repeat' (first|simp only[hb,Vc.down,seval,atG.down,h2,h3,h8,h9,h10,hd,hx,hw,hA1,hB1,cA,Bf.cells,acR,hcW,hsl,c1]|refine Bm ?_ ?_<;>intro hb|refine fd ?_|fail))
    (refine Bn (kJ _ _ (y.wants.take i++[x]) ⟨?_,?_,?_,?_,?_,⟨hA1 _,hB1 _,by rw[List.take_add_one,hx];rfl⟩⟩ ?_);(simp[up,h2]);(simp[up,h3]);(simp[up,h8]);(simp[up,h9]);(simp[up]);(simp only[Qr,c1,c2,aAO,aEO,aER]))
 ·exact⟨by simp[up,Fe],by simp[up,Fe],by simp[up,Fe],by simp[up,Fe],by simp[up],⟨rfl,rfl,rfl⟩⟩
 ·split at hk
  ·obtain⟨rfl,h2,h3,hA,hB⟩:=hk
   rename_i hr
   have hA1:=Ae hA
   have hB1:=Ae hB
   (have hb:=trivial;with_reducible repeat' (first|simp only[hb,Vc.down,seval,atG.down,h2,h3,hA,hB,hA1,hB1,cA,acR,l6]|refine Bm ?_ ?_<;>intro hb|refine fd ?_|fail))
   all_goals (refine congrArg (fun b=>(Gw.ret (AV.bool b),([]:Aa))) ?_;symm;((try simp only[Bool.not_eq_eq_eq_not,aAN,aAO]at *);simp only[Vo, *,aE9,aC7,aEO,aER,Bool.and_self,Bool.not_not,aAN,aAO,List.all_cons,List.all_nil]))
  ·obtain⟨rfl,h4⟩:=hk
   rename_i hr
   (have hb:=trivial;with_reducible repeat' (first|simp only[hb,Vc.down,seval,atG.down,h4]|refine Bm ?_ ?_<;>intro hb|refine fd ?_|fail))
   all_goals simp_all[Vo]
def aB4(s:Db):Bool:=mD s.lo&&mD s.hi&& !decide (s.hi<s.lo)
def cJ(m:Ah):Bool:=decide (m.sens.length≤6)&&decide (m.votes.length≤6)&&decide (m.moves.length≤20)&&Qy m.states 1 8&&Qy m.cmds 0 4&&Qy m.bgn 0 (IntKind.i64.wrap (m.states-1))&&((m.opn.length:Int)==m.states)
def Ce(m:Ah):Bool:=cJ m&&m.sens.all aB4&&m.votes.all (oN m.sens.length)&&m.moves.all (Vo m)&&m.opn.all (fun n=>Qy n 0 255)
theorem aGM(m:Ah)(x:Bi)(hl:x.wants.length≤maxLen):Ec.call (.fn 71) [.agg [.int .i64 x.frm,.int .i64 x.to,Ak 2 true x.nn (x.wants.map Bf.cells),.int .i64 x.cmd,.int .i64 x.after],.ptr 0 0 0] [.live 7 false false [[Ak 3 true m.nS (m.sens.map Db.cells),Ak 4 false m.nV (m.votes.map Au.cells),Ak 5 false m.nM (m.moves.map Bi.cells),.int .i64 m.states,.int .i64 m.cmds,.int .i64 m.bgn,Ak 1 true m.nO (m.opn.map iv)]]]=some (.ret (.bool (!Vo m x)),[.live 7 false false [[Ak 3 true m.nS (m.sens.map Db.cells),Ak 4 false m.nV (m.votes.map Au.cells),Ak 5 false m.nM (m.moves.map Bi.cells),.int .i64 m.states,.int .i64 m.cmds,.int .i64 m.bgn,Ak 1 true m.nO (m.opn.map iv)]]]):=by
 have hm:=aQA m x hl
 (refine ce Try.func71 ?_;simp only[Try.f71];(have hb:=trivial;with_reducible repeat' (first|simp only[hb,Vc.down,seval,bc8.down,hm]|refine Bm ?_ ?_<;>intro hb|refine fd ?_|fail)))
theorem aA2{l:List Bi}{nn:Bool}{g:Nat}{mm:Ah}{p:Bi→Bool}(hp:∀x∈l,Ec.call (.fn g) (.agg [.int .i64 x.frm,.int .i64 x.to,Ak 2 true x.nn (x.wants.map Bf.cells),.int .i64 x.cmd,.int .i64 x.after]::[.ptr 0 0 0]) [.live 7 false false [[Ak 3 true mm.nS (mm.sens.map Db.cells),Ak 4 false mm.nV (mm.votes.map Au.cells),Ak 5 false mm.nM (mm.moves.map Bi.cells),.int .i64 mm.states,.int .i64 mm.cmds,.int .i64 mm.bgn,Ak 1 true mm.nO (mm.opn.map iv)]]]=some (.ret (.bool (p x)),[.live 7 false false [[Ak 3 true mm.nS (mm.sens.map Db.cells),Ak 4 false mm.nV (mm.votes.map Au.cells),Ak 5 false mm.nM (mm.moves.map Bi.cells),.int .i64 mm.states,.int .i64 mm.cmds,.int .i64 mm.bgn,Ak 1 true mm.nO (mm.opn.map iv)]]]))(hl:l.length≤maxLen)(hgm:Ec.md g=false:=by exact rfl):
 Ec.call (.fn 88) [Ak 5 false nn (l.map Bi.cells),.func (.func g) [] [.ptr 0 0 0]] [.live 7 false false [[Ak 3 true mm.nS (mm.sens.map Db.cells),Ak 4 false mm.nV (mm.votes.map Au.cells),Ak 5 false mm.nM (mm.moves.map Bi.cells),.int .i64 mm.states,.int .i64 mm.cmds,.int .i64 mm.bgn,Ak 1 true mm.nO (mm.opn.map iv)]]]=some (.ret (.int .i64 (uR p l 0)),[.live 7 false false [[Ak 3 true mm.nS (mm.sens.map Db.cells),Ak 4 false mm.nV (mm.votes.map Au.cells),Ak 5 false mm.nM (mm.moves.map Bi.cells),.int .i64 mm.states,.int .i64 mm.cmds,.int .i64 mm.bgn,Ak 1 true mm.nO (mm.opn.map iv)]]]):=by
 (refine ce Try.func88 ?_;simp only[Try.f88];(have hb:=trivial;with_reducible repeat' (first|simp only[hb,Vc.down,seval,aHS.down,acR]|refine Bm ?_ ?_<;>intro hb|refine fd ?_|fail)))
 refine Eo (Wy 19 l (fun i (s:Int) t h=>s=i∧h=[.live 7 false false [[Ak 3 true mm.nS (mm.sens.map Db.cells),Ak 4 false mm.nV (mm.votes.map Au.cells),Ak 5 false mm.nM (mm.moves.map Bi.cells),.int .i64 mm.states,.int .i64 mm.cmds,.int .i64 mm.bgn,Ak 1 true mm.nO (mm.opn.map iv)]]]∧t 0=Ak 5 false nn (l.map Bi.cells)∧t 1=.func (.func g) [] [.ptr 0 0 0]∧t 7=.int .i64 l.length∧t 8=.int .i64 i)
  (fun rest s=>uR p rest s) (fun r e t h=>h=[.live 7 false false [[Ak 3 true mm.nS (mm.sens.map Db.cells),Ak 4 false mm.nV (mm.votes.map Au.cells),Ak 5 false mm.nM (mm.moves.map Bi.cells),.int .i64 mm.states,.int .i64 mm.cmds,.int .i64 mm.bgn,Ak 1 true mm.nO (mm.opn.map iv)]]]∧((e=.exit 0∧r= -1)∨(e=.ret∧t 4=.int .i64 r))) ?_ ?_ 0 _ _ ?_) (fun e t h hk=>?_)
 ·rintro s t h Q' kQ ⟨rfl,rfl,h0,h1,h7,h8⟩
  (have hb:=trivial;with_reducible repeat' (first|simp only[hb,Vc.down,seval,aHS.down,h0,h1,h7,h8,acZ,decide_false]|refine Bm ?_ ?_<;>intro hb|refine fd ?_|fail))
  exact kQ _ _ _ ⟨rfl,.inl ⟨rfl,rfl⟩⟩
 ·rintro x rest i s t h J Q' kJ kQ hx hi ⟨rfl,rfl,h0,h1,h7,h8⟩
  have hgm2:=hgm
  simp only[adA,aAP,aCF,aC6]at hgm2
  have hpx:=hp x (aqD hx)
  have hd:decide ((i:Int)<(l.length:Int))=true:=by simpa using hi
  (have hb:=trivial;with_reducible repeat' (first|simp only[hb,Vc.down,seval,aHS.down,h0,h1,h7,h8,hd,hx,Bi.cells,hpx,hgm2,Bo hi hl]|refine Bm ?_ ?_<;>intro hb|refine fd ?_|fail))
  ·exact kQ _ _ _ ⟨rfl,.inr ⟨rfl,by simp[up,uR,hb]⟩⟩
  ·exact Bn (kJ _ _ (i+1) ⟨by simp,rfl,by simp[up,h0],by simp[up,h1],by simp[up,h7],by simp[up]⟩ (by simp[uR,hb]))
 ·exact⟨rfl,rfl,by simp[up,Fe],by simp[up,Fe],by simp[up],by simp[up]⟩
 ·obtain⟨rfl,⟨rfl,hi⟩|⟨rfl,hi⟩⟩:=hk
  ·(have hb:=trivial;with_reducible repeat' (first|simp only[hb,Vc.down,seval,aHS.down]|refine Bm ?_ ?_<;>intro hb|refine fd ?_|fail))
   rw[hi]
  ·(have hb:=trivial;with_reducible repeat' (first|simp only[hb,Vc.down,seval,aHS.down,hi]|refine Bm ?_ ?_<;>intro hb|refine fd ?_|fail))
theorem al9{l:List Bi}{nn:Bool}{g:Nat}{mm:Ah}{p:Bi→Bool}(hp:∀x∈l,Ec.call (.fn g) (.agg [.int .i64 x.frm,.int .i64 x.to,Ak 2 true x.nn (x.wants.map Bf.cells),.int .i64 x.cmd,.int .i64 x.after]::[.ptr 0 0 0]) [.live 7 false false [[Ak 3 true mm.nS (mm.sens.map Db.cells),Ak 4 false mm.nV (mm.votes.map Au.cells),Ak 5 false mm.nM (mm.moves.map Bi.cells),.int .i64 mm.states,.int .i64 mm.cmds,.int .i64 mm.bgn,Ak 1 true mm.nO (mm.opn.map iv)]]]=some (.ret (.bool (p x)),[.live 7 false false [[Ak 3 true mm.nS (mm.sens.map Db.cells),Ak 4 false mm.nV (mm.votes.map Au.cells),Ak 5 false mm.nM (mm.moves.map Bi.cells),.int .i64 mm.states,.int .i64 mm.cmds,.int .i64 mm.bgn,Ak 1 true mm.nO (mm.opn.map iv)]]]))(hl:l.length≤maxLen)(hgm:Ec.md g=false:=by exact rfl):
 Ec.call (.fn 70) [Ak 5 false nn (l.map Bi.cells),.func (.func g) [] [.ptr 0 0 0]] [.live 7 false false [[Ak 3 true mm.nS (mm.sens.map Db.cells),Ak 4 false mm.nV (mm.votes.map Au.cells),Ak 5 false mm.nM (mm.moves.map Bi.cells),.int .i64 mm.states,.int .i64 mm.cmds,.int .i64 mm.bgn,Ak 1 true mm.nO (mm.opn.map iv)]]]=some (.ret (.bool (l.any p)),[.live 7 false false [[Ak 3 true mm.nS (mm.sens.map Db.cells),Ak 4 false mm.nV (mm.votes.map Au.cells),Ak 5 false mm.nM (mm.moves.map Bi.cells),.int .i64 mm.states,.int .i64 mm.cmds,.int .i64 mm.bgn,Ak 1 true mm.nO (mm.opn.map iv)]]]):=by
 (refine ce Try.func70 ?_;simp only[Try.f70];(have hb:=trivial;with_reducible repeat' (first|simp only[hb,Vc.down,seval,aA2 hp hl hgm,Yf p l 0 (aAM 0)]|refine Bm ?_ ?_<;>intro hb|refine fd ?_|fail)))
theorem aD1(m:Ah)(hs:m.small):Ec.call (.fn 42) [.agg [Ak 3 true m.nS (m.sens.map Db.cells),Ak 4 false m.nV (m.votes.map Au.cells),Ak 5 false m.nM (m.moves.map Bi.cells),.int .i64 m.states,.int .i64 m.cmds,.int .i64 m.bgn,Ak 1 true m.nO (m.opn.map iv)]] []=some (.ret (.bool (Ce m)),[]):=by
 have l1:decide ((6:Int)<(m.sens.length:Int))= !decide (m.sens.length≤6):=by rw[←decide_not,decide_eq_decide];omega
 have l2:decide ((6:Int)<(m.votes.length:Int))= !decide (m.votes.length≤6):=by rw[←decide_not,decide_eq_decide];omega
 have l3:decide ((20:Int)<(m.moves.length:Int))= !decide (m.moves.length≤20):=by rw[←decide_not,decide_eq_decide];omega
 cases hp:cJ m with
 |false=>
  have hp':Ce m=false:=by simp[Ce,hp]
  rw[hp']
  (refine ce Try.func42 ?_;simp only[Try.f42];(have hb:=trivial;with_reducible repeat' (first|simp only[hb,Vc.down,seval,xW.down,acR,cA,l1,l2,l3]|refine Bm ?_ ?_<;>intro hb|refine fd ?_|fail)))
  all_goals first
   |rfl
   |(exfalso;simp_all[cJ];done)
 |true=>
  have hp':=hp
  simp only[cJ,Bool.and_eq_true]at hp'
  obtain⟨⟨⟨⟨⟨⟨p1,p2⟩,p3⟩,p4⟩,p5⟩,p6⟩,p7⟩:=hp'
  (refine ce Try.func42 ?_;simp only[Try.f42];(have hb:=trivial;with_reducible repeat' (first|simp only[hb,Vc.down,seval,xW.down,acR,cA,l1,l2,l3,p1,p2,p3,p4,p5,p6,p7]|refine Bm ?_ ?_<;>intro hb|refine fd ?_|fail)))
  refine Eo (Wy 118 m.sens (fun i (zz:Unit) t h=>t 1=.ptr 0 0 0∧t 53=Ak 3 true m.nS (m.sens.map Db.cells)∧t 54=.int .i64 m.sens.length∧t 55=.int .i64 i∧(h[0]?=some (.live 7 false false [[Ak 3 true m.nS (m.sens.map Db.cells),Ak 4 false m.nV (m.votes.map Au.cells),Ak 5 false m.nM (m.moves.map Bi.cells),.int .i64 m.states,.int .i64 m.cmds,.int .i64 m.bgn,Ak 1 true m.nO (m.opn.map iv)]]))) (fun rest zz=>rest.all aB4) (fun r e t h=>(if r=true then e=.exit 0∧t 1=.ptr 0 0 0∧h[0]?=some (.live 7 false false [[Ak 3 true m.nS (m.sens.map Db.cells),Ak 4 false m.nV (m.votes.map Au.cells),Ak 5 false m.nM (m.moves.map Bi.cells),.int .i64 m.states,.int .i64 m.cmds,.int .i64 m.bgn,Ak 1 true m.nO (m.opn.map iv)]])else e=.ret∧t 2=.bool false)) ?_ ?_ () _ _ ?_) (fun e t h hk=>?_)
  ·rintro _ t h Q' kQ ⟨h1,h53,h54,h55,hA⟩
   (have hb:=trivial;with_reducible repeat' (first|simp only[hb,Vc.down,seval,xW.down,h1,h53,h54,h55,acZ,decide_false]|refine Bm ?_ ?_<;>intro hb|refine fd ?_|fail))
   exact kQ _ _ _ (by rw[if_pos (by rfl)];exact⟨rfl,by simp[up,h1],hA⟩)
  ·rintro x rest i _ t h J Q' kJ kQ hx hi ⟨h1,h53,h54,h55,hA⟩
   have hd:decide ((i:Int)<(m.sens.length:Int))=true:=decide_eq_true (by omega)
   have hw:=Bo hi hs.sens
   have hA1:=Ae hA
   (have hb:=trivial;with_reducible repeat' (first|simp only[hb,Vc.down,seval,xW.down,h1,h53,h54,h55,hd,hx,hw,aiA,Db.cells,acR]|refine Bm ?_ ?_<;>intro hb|refine fd ?_|fail))
   all_goals first
    |exact kQ _ _ _ (by rw[if_neg (by simp_all[aB4])];exact⟨rfl,by simp[up]⟩)
    |(refine Bn (kJ _ _ () ⟨?_,?_,?_,?_,hA1 _⟩ ?_);(simp[up,h1]);(simp[up,h53]);(simp[up,h54]);(simp[up]);(simp_all[aB4]))
  ·exact⟨by simp[up,Fe],by simp[up,Fe],by simp[up,Fe],by simp[up],rfl⟩
  ·split at hk
   ·obtain⟨rfl,h1,hA⟩:=hk
    rename_i hr1
    have hA1:=Ae hA
    (have hb:=trivial;with_reducible repeat' (first|simp only[hb,Vc.down,seval,xW.down,h1,hA,hA1,acR]|refine Bm ?_ ?_<;>intro hb|refine fd ?_|fail))
    refine Eo (Wy 118 m.votes (fun i (zz:Unit) t h=>t 1=.ptr 0 0 0∧t 78=Ak 4 false m.nV (m.votes.map Au.cells)∧t 79=.int .i64 m.votes.length∧t 80=.int .i64 i∧(h[0]?=some (.live 7 false false [[Ak 3 true m.nS (m.sens.map Db.cells),Ak 4 false m.nV (m.votes.map Au.cells),Ak 5 false m.nM (m.moves.map Bi.cells),.int .i64 m.states,.int .i64 m.cmds,.int .i64 m.bgn,Ak 1 true m.nO (m.opn.map iv)]]))) (fun rest zz=>rest.all (oN m.sens.length)) (fun r e t h=>(if r=true then e=.exit 2∧t 1=.ptr 0 0 0∧h[0]?=some (.live 7 false false [[Ak 3 true m.nS (m.sens.map Db.cells),Ak 4 false m.nV (m.votes.map Au.cells),Ak 5 false m.nM (m.moves.map Bi.cells),.int .i64 m.states,.int .i64 m.cmds,.int .i64 m.bgn,Ak 1 true m.nO (m.opn.map iv)]])else e=.ret∧t 2=.bool false)) ?_ ?_ () _ _ ?_) (fun e t h hk=>?_)
    ·rintro _ t h Q' kQ ⟨h1,h78,h79,h80,hA⟩
     (have hb:=trivial;with_reducible repeat' (first|simp only[hb,Vc.down,seval,xW.down,h1,h78,h79,h80,acZ,decide_false]|refine Bm ?_ ?_<;>intro hb|refine fd ?_|fail))
     exact kQ _ _ _ (by rw[if_pos (by rfl)];exact⟨rfl,by simp[up,h1],hA⟩)
    ·rintro x rest i _ t h J Q' kJ kQ hx hi ⟨h1,h78,h79,h80,hA⟩
     have hd:decide ((i:Int)<(m.votes.length:Int))=true:=decide_eq_true (by omega)
     have hw:=Bo hi hs.votes
     have hA1:=Ae hA
     have hin:=aX (nn:=x.nn) m.sens.length (hs.vs x (aqD hx))
     (have hb:=trivial;with_reducible repeat' (first|simp only[hb,Vc.down,seval,xW.down,h1,h78,h79,h80,hd,hx,hw,hA1,aiA,cA,hin,Au.cells,acR]|refine Bm ?_ ?_<;>intro hb|refine fd ?_|fail))
     all_goals first
      |exact kQ _ _ _ (by rw[if_neg (by simp_all[oN])];exact⟨rfl,by simp[up]⟩)
      |(refine Bn (kJ _ _ () ⟨?_,?_,?_,?_,hA1 _⟩ ?_);(simp[up,h1]);(simp[up,h78]);(simp[up,h79]);(simp[up]);(simp_all[oN]))
    ·exact⟨by simp[up,Fe,h1],by simp[up,Fe,h1],by simp[up,Fe,h1],by simp[up],hA⟩
    ·split at hk
     ·obtain⟨rfl,h1,hA⟩:=hk
      rename_i hr2
      have hA1:=Ae hA
      have hcM:=al9 (mm:=m) (l:=m.moves) (nn:=m.nM) (g:=71) (p:=fun x=> !Vo m x) (fun x hx=>aGM m x (hs.ws x hx)) hs.moves
      have hcI:=aA9 (l:=m.opn) (nn:=m.nO) (g:=74) (cap:=[]) (p:=fun x=> !Qy x 0 255) rfl rfl (fun x _=>aEU x) hs.opn
      (have hb:=trivial;with_reducible repeat' (first|simp only[hb,Vc.down,seval,xW.down,h1,hA,hA1,acR,hcM,hcI]|refine Bm ?_ ?_<;>intro hb|refine fd ?_|fail))
      all_goals
       have q1:m.moves.all (Vo m)= !(m.moves.any fun x=> !Vo m x):=aG6
       have q2:m.opn.all (fun n=>Qy n 0 255)= !(m.opn.any fun x=> !Qy x 0 255):=aG6
       simp only[Ce,hp,hr1,hr2,q1,q2,hb,aAN,aAO,aER,aC7,aEO]
       try rfl
     ·obtain⟨rfl,h2⟩:=hk
      rename_i hr2
      (have hb:=trivial;with_reducible repeat' (first|simp only[hb,Vc.down,seval,xW.down,h2]|refine Bm ?_ ?_<;>intro hb|refine fd ?_|fail))
      all_goals simp[Ce,hp,aHJ.2 hr2]
   ·obtain⟨rfl,h2⟩:=hk
    rename_i hr1
    (have hb:=trivial;with_reducible repeat' (first|simp only[hb,Vc.down,seval,xW.down,h2]|refine Bm ?_ ?_<;>intro hb|refine fd ?_|fail))
    all_goals simp[Ce,hp,aHJ.2 hr1]
end Go.Proofs.Ytfkokgjfpojeoaa.Ko
