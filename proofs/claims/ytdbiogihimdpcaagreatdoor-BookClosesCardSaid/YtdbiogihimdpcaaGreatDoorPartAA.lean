/- The functions of the layer, walked. -/
import Derived.Test.YtdbiogihimdpcaaGreatDoorLibD
import Derived.Test.YtdbiogihimdpcaaGreatDoorChecked
import Derived.Test.YtdbiogihimdpcaaGreatDoorLibE
import Derived.Test.YtdbiogihimdpcaaGreatDoorRows
import Derived.Test.YtdbiogihimdpcaaGreatDoorTie
import Derived.Test.YtdbiogihimdpcaaGreatDoorCards
import Derived.Test.YtdbiogihimdpcaaGreatDoorShelf
import Derived.ProofKit
import Derived.LaidMore
import Derived.OpenShut
import Derived.Stop.Joined
open And renaming intro→aaE
open List renaming mem_append_right→abH,mem_append_left→abI,mem_append→adJ,length_map→adN,getElem?_eq_some_iff→adP,mem_of_getElem?→aiK,all_eq_not_any_not→ai4
open Bool renaming and_eq_true→ab1,or_eq_true→acM,not_eq_true'→acT,and_eq_false_iff→acZ,or_eq_false_iff→adA,not_true→adF,not_false→adI,not_eq_eq_eq_not→adM,eq_false_iff→ajQ
open Nat renaming ble→adK
open Int renaming lt_irrefl→adL,le_refl→adO
set_option linter.unusedSimpArgs false
set_option linter.unusedVariables false
namespace Go.Proofs.YtdbiogihimdpcaaGreatDoor
open Go.Ev
set_option maxRecDepth 100000
theorem Fv(b r o:Nat):fa Tryz.prog 24 (some (.ptr b r o)) 5=some (.ret (.ptr b r (o+5)),[]):=Be (show Bl Tryz.prog 24 5 5 1 from⟨_,_,Tryz.underlying24,rfl,rfl,by kernel_rfl,by decide⟩) b r o
theorem Gx(h:Aa)(b r o:Nat):ld Tryz.prog 22 h (some (.ptr b r o))=ldC (Kw (h[b]?) r) o:=aI ⟨by kernel_rfl,1,by kernel_rfl⟩ h b r o
theorem mQ(b r o:Nat):qO Tryz.prog 22 (some (.ptr b r o))=some [.cells b o 1]:=Lh (isA:=false) (n:=1) (by kernel_rfl) (by kernel_rfl) b r o
theorem dV(st b r len:Nat):ln Tryz.prog 25 (some (.slr st b r len))=some (.ret (.int .i64 len),[]):=vN (n:=1) ⟨_,Tryz.underlying25,by kernel_rfl⟩ st b r len
theorem mY:ln Tryz.prog 25 (some .nils)=some (.ret (.int .i64 0),[]):=iR (n:=1) ⟨_,Tryz.underlying25,by kernel_rfl⟩
theorem Qz(fl nn:Bool)(rows:List (List AV)):ln Tryz.prog 25 (some (Bj 1 fl nn rows))=some (.ret (.int .i64 rows.length),[]):=eT ⟨_,Tryz.underlying25,by kernel_rfl⟩ fl nn rows
theorem Jr(h:Aa)(b r o:Nat):ld Tryz.prog 24 h (some (.ptr b r o))=ldR (Kw (h[b]?) r) o 6:=aU ⟨by kernel_rfl,by kernel_rfl⟩ h b r o
theorem abQ(b r o:Nat):qO Tryz.prog 24 (some (.ptr b r o))=some [.cells b o 6]:=Lh (isA:=true) (n:=6) (by kernel_rfl) (by kernel_rfl) b r o
theorem Kq(b r len:Nat)(k:IntKind)(i:Int):ia Tryz.prog 25 (some (.slr 1 b r len)) (some (.int k i))=if 0≤i∧i<len then some (.ret (.ptr b (r+i.toNat) 0),[])else none:=wN ⟨_,Tryz.underlying25,by kernel_rfl⟩ b r len k i
theorem Pg(fl nn:Bool)(rows:List (List AV))(k:IntKind)(i:Int):ia Tryz.prog 25 (some (Bj 1 fl nn rows)) (some (.int k i))=if 0≤i then r1 ((rows[i.toNat]?).map .iptr)else none:=eA ⟨_,Tryz.underlying25,by kernel_rfl⟩ fl nn rows k i
theorem Av(h:Aa)(b r o:Nat):ld Tryz.prog 3 h (some (.ptr b r o))=ldC (Kw (h[b]?) r) o:=aI ⟨by kernel_rfl,1,by kernel_rfl⟩ h b r o
theorem Ew(h:Aa)(c:AV)(cs:List AV):ld Tryz.prog 3 h (some (.iptr (c::cs)))=some (.ret c,[]):=afQ ⟨by kernel_rfl,1,by kernel_rfl⟩ h c cs
theorem Zk(b r o:Nat):qO Tryz.prog 3 (some (.ptr b r o))=some [.cells b o 1]:=Lh (isA:=false) (n:=1) (by kernel_rfl) (by kernel_rfl) b r o
theorem Hl(fl nn:Bool)(rows:List (List AV))(k:IntKind)(i:Int):ia Tryz.prog 22 (some (Bj 11 fl nn rows)) (some (.int k i))=if 0≤i then r1 ((rows[i.toNat]?).map .iptr)else none:=eA ⟨_,Tryz.underlying22,by kernel_rfl⟩ fl nn rows k i
theorem Zh(b r o:Nat):fa Tryz.prog 42 (some (.ptr b r o)) 0=some (.ret (.ptr b r (o+0)),[]):=Be (show Bl Tryz.prog 42 0 0 1 from⟨_,_,Tryz.underlying42,rfl,rfl,by kernel_rfl,by decide⟩) b r o
theorem fY(cs:List AV):fa Tryz.prog 42 (some (.iptr cs)) 0=if 0+1≤cs.length then some (.ret (.iptr (cs.drop 0)),[])else none:=Le (show Bl Tryz.prog 42 0 0 1 from⟨_,_,Tryz.underlying42,rfl,rfl,by kernel_rfl,by decide⟩) cs
theorem eY(h:Aa)(b r o:Nat):ld Tryz.prog 4 h (some (.ptr b r o))=ldC (Kw (h[b]?) r) o:=aI ⟨by kernel_rfl,1,by kernel_rfl⟩ h b r o
theorem oP(h:Aa)(c:AV)(cs:List AV):ld Tryz.prog 4 h (some (.iptr (c::cs)))=some (.ret c,[]):=afQ ⟨by kernel_rfl,1,by kernel_rfl⟩ h c cs
theorem bD(h:Aa)(b r o:Nat):ld Tryz.prog 48 h (some (.ptr b r o))=ldR (Kw (h[b]?) r) o 3:=aU ⟨by kernel_rfl,by kernel_rfl⟩ h b r o
theorem Me(b r o:Nat):fa Tryz.prog 48 (some (.ptr b r o)) 0=some (.ret (.ptr b r (o+0)),[]):=Be (show Bl Tryz.prog 48 0 0 1 from⟨_,_,Tryz.underlying48,rfl,rfl,by kernel_rfl,by decide⟩) b r o
theorem Pe(h:Aa)(b r o:Nat):ld Tryz.prog 44 h (some (.ptr b r o))=ldC (Kw (h[b]?) r) o:=aI ⟨by kernel_rfl,1,by kernel_rfl⟩ h b r o
theorem Qy(fl nn:Bool)(rows:List (List AV)):ln Tryz.prog 44 (some (Bj 4 fl nn rows))=some (.ret (.int .i64 rows.length),[]):=eT ⟨_,Tryz.underlying44,by kernel_rfl⟩ fl nn rows
theorem Gq(fl nn:Bool)(rows:List (List AV)):ln Tryz.prog 22 (some (Bj 11 fl nn rows))=some (.ret (.int .i64 rows.length),[]):=eT ⟨_,Tryz.underlying22,by kernel_rfl⟩ fl nn rows
theorem dL:Kr Tryz.prog 52=some (.agg [.int .i64 0,.nils,.int .i64 0,.int .i64 0,.nils,.nils]):=by kernel_rfl
theorem cA(h:Aa)(b r o:Nat)(v:AV):vE Tryz.prog 52 h (some (.ptr b r o)) (some v)=sv 6 (h[b]?) b r o (acells v):=Qi (by kernel_rfl) h b r o v
theorem aa0(b r o:Nat):ftS Tryz.prog 52 (some (.ptr b r o))=some [.cells b o 6]:=Xn (by kernel_rfl) b r o
theorem nD(st b r len:Nat):ln Tryz.prog 53 (some (.slr st b r len))=some (.ret (.int .i64 len),[]):=vN (n:=4) ⟨_,Tryz.underlying53,by kernel_rfl⟩ st b r len
theorem aaG:ln Tryz.prog 53 (some .nils)=some (.ret (.int .i64 0),[]):=iR (n:=4) ⟨_,Tryz.underlying53,by kernel_rfl⟩
theorem Ik(b r o:Nat):fa Tryz.prog 52 (some (.ptr b r o)) 1=some (.ret (.ptr b r (o+1)),[]):=Be (show Bl Tryz.prog 52 1 1 1 from⟨_,_,Tryz.underlying52,rfl,rfl,by kernel_rfl,by decide⟩) b r o
theorem Ep(h:Aa)(b r o:Nat):ld Tryz.prog 25 h (some (.ptr b r o))=ldC (Kw (h[b]?) r) o:=aI ⟨by kernel_rfl,1,by kernel_rfl⟩ h b r o
theorem Zy(b r o:Nat):qO Tryz.prog 25 (some (.ptr b r o))=some [.cells b o 1]:=Lh (isA:=false) (n:=1) (by kernel_rfl) (by kernel_rfl) b r o
theorem Qd(b r o:Nat):fa Tryz.prog 52 (some (.ptr b r o)) 4=some (.ret (.ptr b r (o+4)),[]):=Be (show Bl Tryz.prog 52 4 4 1 from⟨_,_,Tryz.underlying52,rfl,rfl,by kernel_rfl,by decide⟩) b r o
theorem gC(b r o:Nat):fa Tryz.prog 52 (some (.ptr b r o)) 2=some (.ret (.ptr b r (o+2)),[]):=Be (show Bl Tryz.prog 52 2 2 1 from⟨_,_,Tryz.underlying52,rfl,rfl,by kernel_rfl,by decide⟩) b r o
theorem fX(b r o:Nat):fa Tryz.prog 52 (some (.ptr b r o)) 3=some (.ret (.ptr b r (o+3)),[]):=Be (show Bl Tryz.prog 52 3 3 1 from⟨_,_,Tryz.underlying52,rfl,rfl,by kernel_rfl,by decide⟩) b r o
theorem Zi(b r o:Nat):fa Tryz.prog 42 (some (.ptr b r o)) 4=some (.ret (.ptr b r (o+5)),[]):=Be (show Bl Tryz.prog 42 4 5 1 from⟨_,_,Tryz.underlying42,rfl,rfl,by kernel_rfl,by decide⟩) b r o
theorem uM(cs:List AV):fa Tryz.prog 42 (some (.iptr cs)) 4=if 5+1≤cs.length then some (.ret (.iptr (cs.drop 5)),[])else none:=Le (show Bl Tryz.prog 42 4 5 1 from⟨_,_,Tryz.underlying42,rfl,rfl,by kernel_rfl,by decide⟩) cs
theorem acX(b r len:Nat)(k:IntKind)(i:Int):ia Tryz.prog 53 (some (.slr 4 b r len)) (some (.int k i))=if 0≤i∧i<len then some (.ret (.ptr b (r+i.toNat) 0),[])else none:=wN ⟨_,Tryz.underlying53,by kernel_rfl⟩ b r len k i
theorem Um(b r o:Nat):fa Tryz.prog 57 (some (.ptr b r o)) 0=some (.ret (.ptr b r (o+0)),[]):=Be (show Bl Tryz.prog 57 0 0 1 from⟨_,_,Tryz.underlying57,rfl,rfl,by kernel_rfl,by decide⟩) b r o
theorem Tz(b r o:Nat):fa Tryz.prog 57 (some (.ptr b r o)) 1=some (.ret (.ptr b r (o+1)),[]):=Be (show Bl Tryz.prog 57 1 1 1 from⟨_,_,Tryz.underlying57,rfl,rfl,by kernel_rfl,by decide⟩) b r o
theorem Sz(b r o:Nat):fa Tryz.prog 57 (some (.ptr b r o)) 2=some (.ret (.ptr b r (o+2)),[]):=Be (show Bl Tryz.prog 57 2 2 1 from⟨_,_,Tryz.underlying57,rfl,rfl,by kernel_rfl,by decide⟩) b r o
theorem Zw(fl nn:Bool)(rows:List (List AV))(k:IntKind)(i:Int):ia Tryz.prog 44 (some (Bj 4 fl nn rows)) (some (.int k i))=if 0≤i then r1 ((rows[i.toNat]?).map .iptr)else none:=eA ⟨_,Tryz.underlying44,by kernel_rfl⟩ fl nn rows k i
theorem Zm(b r o:Nat):fa Tryz.prog 59 (some (.ptr b r o)) 2=some (.ret (.ptr b r (o+2)),[]):=Be (show Bl Tryz.prog 59 2 2 1 from⟨_,_,Tryz.underlying59,rfl,rfl,by kernel_rfl,by decide⟩) b r o
theorem tU(cs:List AV):fa Tryz.prog 59 (some (.iptr cs)) 2=if 2+1≤cs.length then some (.ret (.iptr (cs.drop 2)),[])else none:=Le (show Bl Tryz.prog 59 2 2 1 from⟨_,_,Tryz.underlying59,rfl,rfl,by kernel_rfl,by decide⟩) cs
theorem Zd(b r o:Nat):fa Tryz.prog 59 (some (.ptr b r o)) 3=some (.ret (.ptr b r (o+3)),[]):=Be (show Bl Tryz.prog 59 3 3 1 from⟨_,_,Tryz.underlying59,rfl,rfl,by kernel_rfl,by decide⟩) b r o
theorem uP(cs:List AV):fa Tryz.prog 59 (some (.iptr cs)) 3=if 3+1≤cs.length then some (.ret (.iptr (cs.drop 3)),[])else none:=Le (show Bl Tryz.prog 59 3 3 1 from⟨_,_,Tryz.underlying59,rfl,rfl,by kernel_rfl,by decide⟩) cs
theorem Rz(h:Aa)(b r o:Nat):ld Tryz.prog 42 h (some (.ptr b r o))=ldR (Kw (h[b]?) r) o 11:=aU ⟨by kernel_rfl,by kernel_rfl⟩ h b r o
theorem Jt(h:Aa)(cs:List AV):ld Tryz.prog 42 h (some (.iptr cs))=if 11≤cs.length then some (.ret (.agg (cs.take 11)),[])else none:=rF ⟨by kernel_rfl,by kernel_rfl⟩ h cs
theorem aaW(b r o:Nat):qO Tryz.prog 42 (some (.ptr b r o))=some [.cells b o 11]:=Lh (isA:=true) (n:=11) (by kernel_rfl) (by kernel_rfl) b r o
theorem Ru:Kr Tryz.prog 42=some (.agg [.bool false,.int .i64 0,.int .i64 0,.int .i64 0,.nils,.int .i64 0,.int .i64 0,.int .i64 0,.int .i64 0,.int .i64 0,.int .i64 0]):=by kernel_rfl
theorem Sl(h:Aa)(b r o:Nat)(v:AV):vE Tryz.prog 42 h (some (.ptr b r o)) (some v)=sv 11 (h[b]?) b r o (acells v):=Qi (by kernel_rfl) h b r o v
theorem aaR(b r o:Nat):ftS Tryz.prog 42 (some (.ptr b r o))=some [.cells b o 11]:=Xn (by kernel_rfl) b r o
theorem Qa(b r o:Nat):fa Tryz.prog 42 (some (.ptr b r o)) 2=some (.ret (.ptr b r (o+2)),[]):=Be (show Bl Tryz.prog 42 2 2 2 from⟨_,_,Tryz.underlying42,rfl,rfl,by kernel_rfl,by decide⟩) b r o
theorem Pv(b r o:Nat):fa Tryz.prog 39 (some (.ptr b r o)) 0=some (.ret (.ptr b r (o+0)),[]):=Be (show Bl Tryz.prog 39 0 0 1 from⟨_,_,Tryz.underlying39,rfl,rfl,by kernel_rfl,by decide⟩) b r o
theorem Pm(b r o:Nat):fa Tryz.prog 39 (some (.ptr b r o)) 1=some (.ret (.ptr b r (o+1)),[]):=Be (show Bl Tryz.prog 39 1 1 1 from⟨_,_,Tryz.underlying39,rfl,rfl,by kernel_rfl,by decide⟩) b r o
theorem Ul(b r o:Nat):fa Tryz.prog 42 (some (.ptr b r o)) 5=some (.ret (.ptr b r (o+6)),[]):=Be (show Bl Tryz.prog 42 5 6 1 from⟨_,_,Tryz.underlying42,rfl,rfl,by kernel_rfl,by decide⟩) b r o
theorem Tu(b r o:Nat):fa Tryz.prog 42 (some (.ptr b r o)) 6=some (.ret (.ptr b r (o+7)),[]):=Be (show Bl Tryz.prog 42 6 7 1 from⟨_,_,Tryz.underlying42,rfl,rfl,by kernel_rfl,by decide⟩) b r o
theorem Up(b r o:Nat):fa Tryz.prog 42 (some (.ptr b r o)) 7=some (.ret (.ptr b r (o+8)),[]):=Be (show Bl Tryz.prog 42 7 8 1 from⟨_,_,Tryz.underlying42,rfl,rfl,by kernel_rfl,by decide⟩) b r o
theorem Uf(b r o:Nat):fa Tryz.prog 42 (some (.ptr b r o)) 8=some (.ret (.ptr b r (o+9)),[]):=Be (show Bl Tryz.prog 42 8 9 1 from⟨_,_,Tryz.underlying42,rfl,rfl,by kernel_rfl,by decide⟩) b r o
theorem Zb(b r o:Nat):fa Tryz.prog 59 (some (.ptr b r o)) 0=some (.ret (.ptr b r (o+0)),[]):=Be (show Bl Tryz.prog 59 0 0 1 from⟨_,_,Tryz.underlying59,rfl,rfl,by kernel_rfl,by decide⟩) b r o
theorem Uc(b r o:Nat):fa Tryz.prog 24 (some (.ptr b r o)) 1=some (.ret (.ptr b r (o+1)),[]):=Be (show Bl Tryz.prog 24 1 1 1 from⟨_,_,Tryz.underlying24,rfl,rfl,by kernel_rfl,by decide⟩) b r o
theorem Yj(b r o:Nat):fa Tryz.prog 59 (some (.ptr b r o)) 1=some (.ret (.ptr b r (o+1)),[]):=Be (show Bl Tryz.prog 59 1 1 1 from⟨_,_,Tryz.underlying59,rfl,rfl,by kernel_rfl,by decide⟩) b r o
theorem Uo(b r o:Nat):fa Tryz.prog 24 (some (.ptr b r o)) 2=some (.ret (.ptr b r (o+2)),[]):=Be (show Bl Tryz.prog 24 2 2 1 from⟨_,_,Tryz.underlying24,rfl,rfl,by kernel_rfl,by decide⟩) b r o
theorem Uj(b r o:Nat):fa Tryz.prog 48 (some (.ptr b r o)) 1=some (.ret (.ptr b r (o+1)),[]):=Be (show Bl Tryz.prog 48 1 1 1 from⟨_,_,Tryz.underlying48,rfl,rfl,by kernel_rfl,by decide⟩) b r o
theorem Wx(h:Aa)(b r o:Nat):ld Tryz.prog 45 h (some (.ptr b r o))=ldC (Kw (h[b]?) r) o:=aI ⟨by kernel_rfl,1,by kernel_rfl⟩ h b r o
theorem aa4(b r o:Nat):qO Tryz.prog 45 (some (.ptr b r o))=some [.cells b o 1]:=Lh (isA:=false) (n:=1) (by kernel_rfl) (by kernel_rfl) b r o
theorem Qw(fl nn:Bool)(rows:List (List AV)):ln Tryz.prog 45 (some (Bj 4 fl nn rows))=some (.ret (.int .i64 rows.length),[]):=eT ⟨_,Tryz.underlying45,by kernel_rfl⟩ fl nn rows
theorem aX(h:Aa)(cs:List AV):ld Tryz.prog 62 h (some (.iptr cs))=if 4≤cs.length then some (.ret (.agg (cs.take 4)),[])else none:=rF ⟨by kernel_rfl,by kernel_rfl⟩ h cs
theorem Ze(b r o:Nat):fa Tryz.prog 62 (some (.ptr b r o)) 2=some (.ret (.ptr b r (o+2)),[]):=Be (show Bl Tryz.prog 62 2 2 1 from⟨_,_,Tryz.underlying62,rfl,rfl,by kernel_rfl,by decide⟩) b r o
theorem sU(cs:List AV):fa Tryz.prog 62 (some (.iptr cs)) 2=if 2+1≤cs.length then some (.ret (.iptr (cs.drop 2)),[])else none:=Le (show Bl Tryz.prog 62 2 2 1 from⟨_,_,Tryz.underlying62,rfl,rfl,by kernel_rfl,by decide⟩) cs
theorem Yr(b r o:Nat):fa Tryz.prog 24 (some (.ptr b r o)) 3=some (.ret (.ptr b r (o+3)),[]):=Be (show Bl Tryz.prog 24 3 3 1 from⟨_,_,Tryz.underlying24,rfl,rfl,by kernel_rfl,by decide⟩) b r o
theorem Zo(b r o:Nat):fa Tryz.prog 62 (some (.ptr b r o)) 1=some (.ret (.ptr b r (o+1)),[]):=Be (show Bl Tryz.prog 62 1 1 1 from⟨_,_,Tryz.underlying62,rfl,rfl,by kernel_rfl,by decide⟩) b r o
theorem agO:Kr Tryz.prog 62=some (.agg [.int .i64 0,.int .i64 0,.int .i64 0,.int .i64 0]):=by kernel_rfl
theorem bE(h:Aa)(b r o:Nat):ld Tryz.prog 52 h (some (.ptr b r o))=ldR (Kw (h[b]?) r) o 6:=aU ⟨by kernel_rfl,by kernel_rfl⟩ h b r o
theorem acA(b r o:Nat):qO Tryz.prog 52 (some (.ptr b r o))=some [.cells b o 6]:=Lh (isA:=true) (n:=6) (by kernel_rfl) (by kernel_rfl) b r o
theorem jT(h:Aa)(b r o:Nat):ld Tryz.prog 57 h (some (.ptr b r o))=ldR (Kw (h[b]?) r) o 4:=aU ⟨by kernel_rfl,by kernel_rfl⟩ h b r o
theorem aaO(b r o:Nat):qO Tryz.prog 57 (some (.ptr b r o))=some [.cells b o 4]:=Lh (isA:=true) (n:=4) (by kernel_rfl) (by kernel_rfl) b r o
theorem kH(h:Aa)(b r o:Nat):ld Tryz.prog 39 h (some (.ptr b r o))=ldR (Kw (h[b]?) r) o 2:=aU ⟨by kernel_rfl,by kernel_rfl⟩ h b r o
theorem vB:Kr Tryz.prog 69=some (.agg [.int .i64 0,.int .i64 0,.int .i64 0]):=by kernel_rfl
theorem qU(h:Aa)(b r o:Nat)(v:AV):vE Tryz.prog 69 h (some (.ptr b r o)) (some v)=sv 3 (h[b]?) b r o (acells v):=Qi (by kernel_rfl) h b r o v
theorem xJ(h:Aa)(b r o:Nat):ld Tryz.prog 69 h (some (.ptr b r o))=ldR (Kw (h[b]?) r) o 3:=aU ⟨by kernel_rfl,by kernel_rfl⟩ h b r o
theorem Yd(b r o:Nat):fa Tryz.prog 52 (some (.ptr b r o)) 5=some (.ret (.ptr b r (o+5)),[]):=Be (show Bl Tryz.prog 52 5 5 1 from⟨_,_,Tryz.underlying52,rfl,rfl,by kernel_rfl,by decide⟩) b r o
theorem Oz(h:Aa)(b r o:Nat):ld Tryz.prog 46 h (some (.ptr b r o))=ldC (Kw (h[b]?) r) o:=aI ⟨by kernel_rfl,1,by kernel_rfl⟩ h b r o
theorem oU(b r o:Nat):qO Tryz.prog 46 (some (.ptr b r o))=some [.cells b o 1]:=Lh (isA:=false) (n:=1) (by kernel_rfl) (by kernel_rfl) b r o
theorem nE(st b r len:Nat):ln Tryz.prog 46 (some (.slr st b r len))=some (.ret (.int .i64 len),[]):=vN (n:=5) ⟨_,Tryz.underlying46,by kernel_rfl⟩ st b r len
theorem nJ:ln Tryz.prog 46 (some .nils)=some (.ret (.int .i64 0),[]):=iR (n:=5) ⟨_,Tryz.underlying46,by kernel_rfl⟩
theorem Vv(fl nn:Bool)(rows:List (List AV)):ln Tryz.prog 46 (some (Bj 5 fl nn rows))=some (.ret (.int .i64 rows.length),[]):=eT ⟨_,Tryz.underlying46,by kernel_rfl⟩ fl nn rows
theorem rI:Kr Tryz.prog 57=some (.agg [.nils,.nils,.nils,.nils]):=by kernel_rfl
theorem rO(h:Aa)(b r o:Nat)(v:AV):vE Tryz.prog 57 h (some (.ptr b r o)) (some v)=sv 4 (h[b]?) b r o (acells v):=Qi (by kernel_rfl) h b r o v
theorem aaZ(b r o:Nat):ftS Tryz.prog 57 (some (.ptr b r o))=some [.cells b o 4]:=Xn (by kernel_rfl) b r o
theorem Md(b r o:Nat):fa Tryz.prog 52 (some (.ptr b r o)) 0=some (.ret (.ptr b r (o+0)),[]):=Be (show Bl Tryz.prog 52 0 0 1 from⟨_,_,Tryz.underlying52,rfl,rfl,by kernel_rfl,by decide⟩) b r o
theorem wM(h:Aa)(b r o:Nat):ld Tryz.prog 59 h (some (.ptr b r o))=ldR (Kw (h[b]?) r) o 4:=aU ⟨by kernel_rfl,by kernel_rfl⟩ h b r o
theorem bH(h:Aa)(cs:List AV):ld Tryz.prog 59 h (some (.iptr cs))=if 4≤cs.length then some (.ret (.agg (cs.take 4)),[])else none:=rF ⟨by kernel_rfl,by kernel_rfl⟩ h cs
theorem dB:Kr Tryz.prog 59=some (.agg [.int .i64 0,.int .i64 0,.int .i64 0,.int .i64 0]):=by kernel_rfl
theorem cZ(h:Aa)(b r o:Nat)(v:AV):vE Tryz.prog 59 h (some (.ptr b r o)) (some v)=sv 4 (h[b]?) b r o (acells v):=Qi (by kernel_rfl) h b r o v
theorem Tj(b r o:Nat):fa Tryz.prog 42 (some (.ptr b r o)) 1=some (.ret (.ptr b r (o+1)),[]):=Be (show Bl Tryz.prog 42 1 1 1 from⟨_,_,Tryz.underlying42,rfl,rfl,by kernel_rfl,by decide⟩) b r o
theorem gU(cs:List AV):fa Tryz.prog 42 (some (.iptr cs)) 1=if 1+1≤cs.length then some (.ret (.iptr (cs.drop 1)),[])else none:=Le (show Bl Tryz.prog 42 1 1 1 from⟨_,_,Tryz.underlying42,rfl,rfl,by kernel_rfl,by decide⟩) cs
theorem Su(b r o:Nat):fa Tryz.prog 42 (some (.ptr b r o)) 3=some (.ret (.ptr b r (o+4)),[]):=Be (show Bl Tryz.prog 42 3 4 1 from⟨_,_,Tryz.underlying42,rfl,rfl,by kernel_rfl,by decide⟩) b r o
theorem fV(cs:List AV):fa Tryz.prog 42 (some (.iptr cs)) 3=if 4+1≤cs.length then some (.ret (.iptr (cs.drop 4)),[])else none:=Le (show Bl Tryz.prog 42 3 4 1 from⟨_,_,Tryz.underlying42,rfl,rfl,by kernel_rfl,by decide⟩) cs
theorem Xb(h:Aa)(b r o:Nat):ld Tryz.prog 40 h (some (.ptr b r o))=ldC (Kw (h[b]?) r) o:=aI ⟨by kernel_rfl,1,by kernel_rfl⟩ h b r o
theorem lC(h:Aa)(c:AV)(cs:List AV):ld Tryz.prog 40 h (some (.iptr (c::cs)))=some (.ret c,[]):=afQ ⟨by kernel_rfl,1,by kernel_rfl⟩ h c cs
theorem Rb(fl nn:Bool)(rows:List (List AV)):ln Tryz.prog 40 (some (Bj 3 fl nn rows))=some (.ret (.int .i64 rows.length),[]):=eT ⟨_,Tryz.underlying40,by kernel_rfl⟩ fl nn rows
theorem fN(b r o:Nat):fa Tryz.prog 69 (some (.ptr b r o)) 0=some (.ret (.ptr b r (o+0)),[]):=Be (show Bl Tryz.prog 69 0 0 1 from⟨_,_,Tryz.underlying69,rfl,rfl,by kernel_rfl,by decide⟩) b r o
theorem Vl(fl nn:Bool)(rows:List (List AV))(k:IntKind)(i:Int):ia Tryz.prog 40 (some (Bj 3 fl nn rows)) (some (.int k i))=if 0≤i then r1 ((rows[i.toNat]?).map .iptr)else none:=eA ⟨_,Tryz.underlying40,by kernel_rfl⟩ fl nn rows k i
theorem Yp(b r o:Nat):fa Tryz.prog 94 (some (.ptr b r o)) 1=some (.ret (.ptr b r (o+1)),[]):=Be (show Bl Tryz.prog 94 1 1 1 from⟨_,_,Tryz.underlying94,rfl,rfl,by kernel_rfl,by decide⟩) b r o
theorem Uh(cs:List AV):fa Tryz.prog 94 (some (.iptr cs)) 1=if 1+1≤cs.length then some (.ret (.iptr (cs.drop 1)),[])else none:=Le (show Bl Tryz.prog 94 1 1 1 from⟨_,_,Tryz.underlying94,rfl,rfl,by kernel_rfl,by decide⟩) cs
theorem fQ(b r o:Nat):fa Tryz.prog 69 (some (.ptr b r o)) 1=some (.ret (.ptr b r (o+1)),[]):=Be (show Bl Tryz.prog 69 1 1 1 from⟨_,_,Tryz.underlying69,rfl,rfl,by kernel_rfl,by decide⟩) b r o
theorem Yg(b r o:Nat):fa Tryz.prog 94 (some (.ptr b r o)) 2=some (.ret (.ptr b r (o+2)),[]):=Be (show Bl Tryz.prog 94 2 2 1 from⟨_,_,Tryz.underlying94,rfl,rfl,by kernel_rfl,by decide⟩) b r o
theorem Ub(cs:List AV):fa Tryz.prog 94 (some (.iptr cs)) 2=if 2+1≤cs.length then some (.ret (.iptr (cs.drop 2)),[])else none:=Le (show Bl Tryz.prog 94 2 2 1 from⟨_,_,Tryz.underlying94,rfl,rfl,by kernel_rfl,by decide⟩) cs
theorem gA(b r o:Nat):fa Tryz.prog 69 (some (.ptr b r o)) 2=some (.ret (.ptr b r (o+2)),[]):=Be (show Bl Tryz.prog 69 2 2 1 from⟨_,_,Tryz.underlying69,rfl,rfl,by kernel_rfl,by decide⟩) b r o
theorem Ju(base len:Nat)(ps:List (Nat × AV)):rD (Dh Tryz.prog base 25 len ps)=bsK 1 (.int .i64 0) base len ps:=ar2 (e:=3) (by kernel_rfl) (by kernel_rfl) (by kernel_rfl) base len ps
theorem Pj(h:Aa)(b r o:Nat)(v:AV):vE Tryz.prog 3 h (some (.ptr b r o)) (some v)=sv 1 (h[b]?) b r o (acells v):=Qi (by kernel_rfl) h b r o v
theorem lK(b r o:Nat):ftS Tryz.prog 3 (some (.ptr b r o))=some [.cells b o 1]:=Xn (by kernel_rfl) b r o
theorem Ue(b r o:Nat):fa Tryz.prog 24 (some (.ptr b r o)) 0=some (.ret (.ptr b r (o+0)),[]):=Be (show Bl Tryz.prog 24 0 0 1 from⟨_,_,Tryz.underlying24,rfl,rfl,by kernel_rfl,by decide⟩) b r o
theorem Yv(b r o:Nat):fa Tryz.prog 24 (some (.ptr b r o)) 4=some (.ret (.ptr b r (o+4)),[]):=Be (show Bl Tryz.prog 24 4 4 1 from⟨_,_,Tryz.underlying24,rfl,rfl,by kernel_rfl,by decide⟩) b r o
theorem Tq(b r o:Nat):fa Tryz.prog 48 (some (.ptr b r o)) 2=some (.ret (.ptr b r (o+2)),[]):=Be (show Bl Tryz.prog 48 2 2 1 from⟨_,_,Tryz.underlying48,rfl,rfl,by kernel_rfl,by decide⟩) b r o
theorem abJ(b r len:Nat)(k:IntKind)(i:Int):ia Tryz.prog 46 (some (.slr 5 b r len)) (some (.int k i))=if 0≤i∧i<len then some (.ret (.ptr b (r+i.toNat) 0),[])else none:=wN ⟨_,Tryz.underlying46,by kernel_rfl⟩ b r len k i
theorem dZ(fl nn:Bool)(rows:List (List AV))(k:IntKind)(i:Int):ia Tryz.prog 46 (some (Bj 5 fl nn rows)) (some (.int k i))=if 0≤i then r1 ((rows[i.toNat]?).map .iptr)else none:=eA ⟨_,Tryz.underlying46,by kernel_rfl⟩ fl nn rows k i
theorem Ys(h:Aa)(b r o:Nat):ld Tryz.prog 111 h (some (.ptr b r o))=ldR (Kw (h[b]?) r) o 5:=aU ⟨by kernel_rfl,by kernel_rfl⟩ h b r o
theorem Yf(h:Aa)(cs:List AV):ld Tryz.prog 111 h (some (.iptr cs))=if 5≤cs.length then some (.ret (.agg (cs.take 5)),[])else none:=rF ⟨by kernel_rfl,by kernel_rfl⟩ h cs
theorem vT(b r o:Nat):qO Tryz.prog 111 (some (.ptr b r o))=some [.cells b o 5]:=Lh (isA:=true) (n:=5) (by kernel_rfl) (by kernel_rfl) b r o
theorem acU(base len:Nat)(ps:List (Nat × AV)):rD (Dh Tryz.prog base 53 len ps)=bsK 4 (.agg [.nils,.nils,.nils,.nils]) base len ps:=ar2 (e:=57) (by kernel_rfl) (by kernel_rfl) (by kernel_rfl) base len ps
theorem mE{O:Fe}(t:List AV)(h:Aa)(s x:Operand):Em O Tryz.prog t h (.call ⟨.builtin .append,#[s,x],#[53,53]⟩)=apO Tryz.prog 53 h (Ah t s) (Ah t x):=aeS t h s x 53 53 _ Tryz.underlying53
theorem acN(h:Aa)(s:AV)(a b r l:Nat):apO Tryz.prog 53 h (some s) (some (.slr a b r l))=apK 4 h (some s) (srK 4 h (some (.slr a b r l))):=sJ (e:=57) (b:=96) (z:=.agg [.nils,.nils,.nils,.nils]) (by kernel_rfl) (by kernel_rfl) (by kernel_rfl) (by kernel_rfl) (by decide+kernel) h s _ (fun q e=>by cases e)
theorem Zf(b r o:Nat):fa Tryz.prog 62 (some (.ptr b r o)) 0=some (.ret (.ptr b r (o+0)),[]):=Be (show Bl Tryz.prog 62 0 0 1 from⟨_,_,Tryz.underlying62,rfl,rfl,by kernel_rfl,by decide⟩) b r o
theorem fP(b r o:Nat):fa Tryz.prog 62 (some (.ptr b r o)) 3=some (.ret (.ptr b r (o+3)),[]):=Be (show Bl Tryz.prog 62 3 3 1 from⟨_,_,Tryz.underlying62,rfl,rfl,by kernel_rfl,by decide⟩) b r o
theorem rJ(cs:List AV):fa Tryz.prog 62 (some (.iptr cs)) 3=if 3+1≤cs.length then some (.ret (.iptr (cs.drop 3)),[])else none:=Le (show Bl Tryz.prog 62 3 3 1 from⟨_,_,Tryz.underlying62,rfl,rfl,by kernel_rfl,by decide⟩) cs
theorem sQ(b r o:Nat):fa Tryz.prog 57 (some (.ptr b r o)) 3=some (.ret (.ptr b r (o+3)),[]):=Be (show Bl Tryz.prog 57 3 3 1 from⟨_,_,Tryz.underlying57,rfl,rfl,by kernel_rfl,by decide⟩) b r o
theorem Iy{O:Fe}(t:List AV)(h:Aa)(s x:Operand):Em O Tryz.prog t h (.call ⟨.builtin .append,#[s,x],#[25,25]⟩)=apO Tryz.prog 25 h (Ah t s) (Ah t x):=aeS t h s x 25 25 _ Tryz.underlying25
theorem Vx(h:Aa)(s:AV)(a b r l:Nat):apO Tryz.prog 25 h (some s) (some (.slr a b r l))=apK 1 h (some s) (srK 1 h (some (.slr a b r l))):=sJ (e:=3) (b:=8) (z:=.int .i64 0) (by kernel_rfl) (by kernel_rfl) (by kernel_rfl) (by kernel_rfl) (by decide+kernel) h s _ (fun q e=>by cases e)
theorem ac3(h:Aa)(s:AV)(st:Nat)(fl:Bool)(rows:List (List AV)):apO Tryz.prog 25 h (some s) (some (.imm st fl rows))=apK 1 h (some s) (srK 1 h (some (.imm st fl rows))):=sJ (e:=3) (b:=8) (z:=.int .i64 0) (by kernel_rfl) (by kernel_rfl) (by kernel_rfl) (by kernel_rfl) (by decide+kernel) h s _ (fun q e=>by cases e)
theorem Vz(h:Aa)(b r o:Nat)(v:AV):vE Tryz.prog 25 h (some (.ptr b r o)) (some v)=sv 1 (h[b]?) b r o (acells v):=Qi (by kernel_rfl) h b r o v
theorem dS(b r o:Nat):ftS Tryz.prog 25 (some (.ptr b r o))=some [.cells b o 1]:=Xn (by kernel_rfl) b r o
theorem aD(fl nn:Bool)(rows:List (List AV))(k:IntKind)(i:Int):ia Tryz.prog 45 (some (Bj 4 fl nn rows)) (some (.int k i))=if 0≤i then r1 ((rows[i.toNat]?).map .iptr)else none:=eA ⟨_,Tryz.underlying45,by kernel_rfl⟩ fl nn rows k i
theorem ah4(h:Aa)(b r o:Nat)(v:AV):vE Tryz.prog 62 h (some (.ptr b r o)) (some v)=sv 4 (h[b]?) b r o (acells v):=Qi (by kernel_rfl) h b r o v
theorem Qn(b r o:Nat):fa Tryz.prog 111 (some (.ptr b r o)) 1=some (.ret (.ptr b r (o+1)),[]):=Be (show Bl Tryz.prog 111 1 1 1 from⟨_,_,Tryz.underlying111,rfl,rfl,by kernel_rfl,by decide⟩) b r o
theorem oV:Kr Tryz.prog 111=some (.agg [.int .i64 0,.int .i64 0,.int .i64 0,.int .i64 0,.int .i64 0]):=by kernel_rfl
theorem nV(h:Aa)(b r o:Nat)(v:AV):vE Tryz.prog 111 h (some (.ptr b r o)) (some v)=sv 5 (h[b]?) b r o (acells v):=Qi (by kernel_rfl) h b r o v
theorem Ww(b r o:Nat):fa Tryz.prog 111 (some (.ptr b r o)) 0=some (.ret (.ptr b r (o+0)),[]):=Be (show Bl Tryz.prog 111 0 0 1 from⟨_,_,Tryz.underlying111,rfl,rfl,by kernel_rfl,by decide⟩) b r o
theorem Qo(b r o:Nat):fa Tryz.prog 111 (some (.ptr b r o)) 2=some (.ret (.ptr b r (o+2)),[]):=Be (show Bl Tryz.prog 111 2 2 1 from⟨_,_,Tryz.underlying111,rfl,rfl,by kernel_rfl,by decide⟩) b r o
theorem Qs(b r o:Nat):fa Tryz.prog 111 (some (.ptr b r o)) 3=some (.ret (.ptr b r (o+3)),[]):=Be (show Bl Tryz.prog 111 3 3 1 from⟨_,_,Tryz.underlying111,rfl,rfl,by kernel_rfl,by decide⟩) b r o
theorem fC(b r o:Nat):fa Tryz.prog 42 (some (.ptr b r o)) 9=some (.ret (.ptr b r (o+10)),[]):=Be (show Bl Tryz.prog 42 9 10 1 from⟨_,_,Tryz.underlying42,rfl,rfl,by kernel_rfl,by decide⟩) b r o
theorem tJ(cs:List AV):fa Tryz.prog 42 (some (.iptr cs)) 9=if 10+1≤cs.length then some (.ret (.iptr (cs.drop 10)),[])else none:=Le (show Bl Tryz.prog 42 9 10 1 from⟨_,_,Tryz.underlying42,rfl,rfl,by kernel_rfl,by decide⟩) cs
theorem vW(h:Aa)(b r o:Nat):ld Tryz.prog 94 h (some (.ptr b r o))=ldR (Kw (h[b]?) r) o 3:=aU ⟨by kernel_rfl,by kernel_rfl⟩ h b r o
theorem aZ(h:Aa)(cs:List AV):ld Tryz.prog 94 h (some (.iptr cs))=if 3≤cs.length then some (.ret (.agg (cs.take 3)),[])else none:=rF ⟨by kernel_rfl,by kernel_rfl⟩ h cs
theorem cT:Kr Tryz.prog 94=some (.agg [.int .i64 0,.int .i64 0,.int .i64 0]):=by kernel_rfl
theorem cI(h:Aa)(b r o:Nat)(v:AV):vE Tryz.prog 94 h (some (.ptr b r o)) (some v)=sv 3 (h[b]?) b r o (acells v):=Qi (by kernel_rfl) h b r o v
theorem abD(b r o:Nat):ftS Tryz.prog 94 (some (.ptr b r o))=some [.cells b o 3]:=Xn (by kernel_rfl) b r o
theorem Zq(b r o:Nat):fa Tryz.prog 94 (some (.ptr b r o)) 0=some (.ret (.ptr b r (o+0)),[]):=Be (show Bl Tryz.prog 94 0 0 1 from⟨_,_,Tryz.underlying94,rfl,rfl,by kernel_rfl,by decide⟩) b r o
theorem fD(cs:List AV):fa Tryz.prog 94 (some (.iptr cs)) 0=if 0+1≤cs.length then some (.ret (.iptr (cs.drop 0)),[])else none:=Le (show Bl Tryz.prog 94 0 0 1 from⟨_,_,Tryz.underlying94,rfl,rfl,by kernel_rfl,by decide⟩) cs
theorem Qm(b r o:Nat):fa Tryz.prog 111 (some (.ptr b r o)) 4=some (.ret (.ptr b r (o+4)),[]):=Be (show Bl Tryz.prog 111 4 4 1 from⟨_,_,Tryz.underlying111,rfl,rfl,by kernel_rfl,by decide⟩) b r o
theorem nQ(base:Nat)(l c:Option AV):msO Tryz.prog 25 base l c=msK 1 (.int .i64 0) base l c:=auB (e:=3) (n:=1) (b:=8) (by kernel_rfl) (by kernel_rfl) (by kernel_rfl) (by kernel_rfl) (by decide+kernel) base l c
theorem jL(h:Aa)(b r o:Nat)(v:AV):vE Tryz.prog 46 h (some (.ptr b r o)) (some v)=sv 1 (h[b]?) b r o (acells v):=Qi (by kernel_rfl) h b r o v
theorem mU(b r o:Nat):ftS Tryz.prog 46 (some (.ptr b r o))=some [.cells b o 1]:=Xn (by kernel_rfl) b r o
theorem wC(ps:List (Nat × AV)):dX Tryz.prog 144 ps=(Sj (fun i=>([(0,6),(6,3),(9,6),(15,4)]:List (Nat × Nat))[i]?) (acells (.agg [.int .i64 0,.int .i64 0,.int .i64 0,.int .i64 0,.int .i64 0,.nils,.nils,.nils,.nils,.int .i64 0,.nils,.int .i64 0,.int .i64 0,.nils,.nils,.nils,.nils,.nils,.nils])) ps).map .agg:=by kernel_rfl
theorem Fh(b r o:Nat):fa Tryz.prog 144 (some (.ptr b r o)) 2=some (.ret (.ptr b r (o+9)),[]):=Be (show Bl Tryz.prog 144 2 9 6 from⟨_,_,Tryz.underlying144,rfl,rfl,by kernel_rfl,by decide⟩) b r o
theorem Is(b r o:Nat):fa Tryz.prog 144 (some (.ptr b r o)) 3=some (.ret (.ptr b r (o+15)),[]):=Be (show Bl Tryz.prog 144 3 15 4 from⟨_,_,Tryz.underlying144,rfl,rfl,by kernel_rfl,by decide⟩) b r o
theorem eU(base len:Nat)(ps:List (Nat × AV)):rD (Dh Tryz.prog base 46 len ps)=bsK 5 (.agg [.int .i64 0,.int .i64 0,.int .i64 0,.int .i64 0,.int .i64 0]) base len ps:=ar2 (e:=111) (by kernel_rfl) (by kernel_rfl) (by kernel_rfl) base len ps
theorem Uu{O:Fe}(t:List AV)(h:Aa)(s x:Operand):Em O Tryz.prog t h (.call ⟨.builtin .append,#[s,x],#[46,46]⟩)=apO Tryz.prog 46 h (Ah t s) (Ah t x):=aeS t h s x 46 46 _ Tryz.underlying46
theorem mT(h:Aa)(s:AV)(a b r l:Nat):apO Tryz.prog 46 h (some s) (some (.slr a b r l))=apK 5 h (some s) (srK 5 h (some (.slr a b r l))):=sJ (e:=111) (b:=40) (z:=.agg [.int .i64 0,.int .i64 0,.int .i64 0,.int .i64 0,.int .i64 0]) (by kernel_rfl) (by kernel_rfl) (by kernel_rfl) (by kernel_rfl) (by decide+kernel) h s _ (fun q e=>by cases e)
theorem ab5(h:Aa)(s:AV)(st:Nat)(fl:Bool)(rows:List (List AV)):apO Tryz.prog 46 h (some s) (some (.imm st fl rows))=apK 5 h (some s) (srK 5 h (some (.imm st fl rows))):=sJ (e:=111) (b:=40) (z:=.agg [.int .i64 0,.int .i64 0,.int .i64 0,.int .i64 0,.int .i64 0]) (by kernel_rfl) (by kernel_rfl) (by kernel_rfl) (by kernel_rfl) (by decide+kernel) h s _ (fun q e=>by cases e)
theorem adC:Kr Tryz.prog 163=some (.nilf):=by kernel_rfl
theorem aa6(h:Aa)(b r o:Nat)(v:AV):vE Tryz.prog 163 h (some (.ptr b r o)) (some v)=sv 1 (h[b]?) b r o (acells v):=Qi (by kernel_rfl) h b r o v
theorem gQ(h:Aa)(b r o:Nat):ld Tryz.prog 163 h (some (.ptr b r o))=ldC (Kw (h[b]?) r) o:=aI ⟨by kernel_rfl,1,by kernel_rfl⟩ h b r o
theorem xC(b r o:Nat):qO Tryz.prog 163 (some (.ptr b r o))=some [.cells b o 1]:=Lh (isA:=false) (n:=1) (by kernel_rfl) (by kernel_rfl) b r o
theorem abP(n:Nat)(fl:Bool)(rows:List (List AV)):Kx Tryz.prog .eql 25 (.imm n fl rows) .nils=some (.bool false):=gX Tryz.underlying25 n fl rows
theorem acY:Kx Tryz.prog .eql 25 .nils .nils=some (.bool true):=cL Tryz.underlying25
theorem abE(n:Nat)(fl:Bool)(rows:List (List AV)):Kx Tryz.prog .eql 46 (.imm n fl rows) .nils=some (.bool false):=gX Tryz.underlying46 n fl rows
theorem acL:Kx Tryz.prog .eql 46 .nils .nils=some (.bool true):=cL Tryz.underlying46
theorem Jv(b r o:Nat):fa Tryz.prog 144 (some (.ptr b r o)) 0=some (.ret (.ptr b r (o+0)),[]):=Be (show Bl Tryz.prog 144 0 0 6 from⟨_,_,Tryz.underlying144,rfl,rfl,by kernel_rfl,by decide⟩) b r o
theorem Xf(b r o:Nat):fa Tryz.prog 144 (some (.ptr b r o)) 1=some (.ret (.ptr b r (o+6)),[]):=Be (show Bl Tryz.prog 144 1 6 3 from⟨_,_,Tryz.underlying144,rfl,rfl,by kernel_rfl,by decide⟩) b r o
theorem fL(h:Aa)(b r o:Nat):ld Tryz.prog 142 h (some (.ptr b r o))=ldC (Kw (h[b]?) r) o:=aI ⟨by kernel_rfl,1,by kernel_rfl⟩ h b r o
theorem vK(b r o:Nat):qO Tryz.prog 142 (some (.ptr b r o))=some [.cells b o 1]:=Lh (isA:=false) (n:=1) (by kernel_rfl) (by kernel_rfl) b r o
def TY5:=PLift.up (aaE @Fv (aaE @Gx (aaE @mQ (aaE @bD (aaE @Me (aaE @Pe (aaE @Qy (aaE @Jr (aaE @Gq (aaE @dL (aaE @cA (aaE @nD (aaE @Ik (aaE @Ep (aaE @Zy (aaE @Qd (aaE @gC (aaE @Av (aaE @Ew (aaE @Zk (aaE @fX (aaE @Kq (aaE @Hl (aaE @uM (aaE @acX (aaE @Um (aaE @Tz (aaE @Sz (aaE @Zw (aaE @tU (aaE @uP (aaE @Jt (aaE @Ru (aaE @Sl (aaE @aaR (aaE @Qa (aaE @Pv (aaE @Pm (aaE @Ul (aaE @Tu (aaE @Up (aaE @Zh (aaE @eY @Uf)))))))))))))))))))))))))))))))))))))))))))
def TY6:=PLift.up (aaE @dV @mY)
def TY9:=PLift.up (aaE @nD @aaG)
def aeQ:=PLift.up (aaE @Gq (aaE @Hl (aaE @fV (aaE @lC @Rb))))
def auC:=PLift.up (aaE @Ue (aaE @Av (aaE @Uc (aaE @Uo (aaE @Yr (aaE @Yv (aaE @Fv (aaE @Gx (aaE @Gq @Jr)))))))))
def axY:=PLift.up (aaE @Me (aaE @Pe (aaE @Qy (aaE @Uj (aaE @Wx (aaE @Qw (aaE @Tq (aaE @Oz @Vv))))))))
def kY:=PLift.up (aaE @Me (aaE @Pe (aaE @Qy (aaE @Zw (aaE @bH (aaE @dB (aaE @cZ (aaE @Zb (aaE @Av (aaE @Yj (aaE @Zm (aaE @Zd (aaE @Tq (aaE @Oz (aaE @Vv (aaE @dZ (aaE @Yf (aaE @Uj (aaE @Wx @Qw)))))))))))))))))))
def ad3:=PLift.up (aaE @bE (aaE @dL (aaE @Jr (aaE @bD (aaE @Fv (aaE @Gx (aaE @Gq (aaE @cA (aaE @Me (aaE @Pe (aaE @Qy (aaE @rI (aaE @rO (aaE @jT (aaE @acU (aaE @mE @acN))))))))))))))))
def axF:=PLift.up (aaE @Zf (aaE @Av (aaE @Zo (aaE @Ze @fP))))
def axO:=PLift.up (aaE @Pv (aaE @Av @Pm))
def afV:=PLift.up (aaE @Qw (aaE @aD @aX))
def abK:=PLift.up (aaE @Tj (aaE @Av (aaE @Ew (aaE @Qa (aaE @kH (aaE @Su (aaE @Xb (aaE @Rb (aaE @Zi (aaE @Ul (aaE @Tu (aaE @Up (aaE @Uf (aaE @fC (aaE @Vl (aaE @aZ (aaE @cT (aaE @cI (aaE @Zq (aaE @fD (aaE @Yp (aaE @Uh (aaE @Yg @Ub)))))))))))))))))))))))
def awG:=PLift.up (aaE @Ue (aaE @Av (aaE @Uc (aaE @Uo (aaE @Ju (aaE @Yr (aaE @Yv (aaE @Fv (aaE @Gx (aaE @Gq @Jr))))))))))
def au2:=PLift.up (aaE @Jr @abQ)
def aeB:=PLift.up (aaE @Gq (aaE @Hl @Jt))
def ahW:=PLift.up (aaE @vB (aaE @qU (aaE @fN (aaE @Av (aaE @Ue (aaE @fQ (aaE @Uc (aaE @gA @Uo))))))))
def ax3:=PLift.up (aaE @Ww (aaE @Av (aaE @Qn (aaE @Qo (aaE @Qs @Qm)))))
def axG:=PLift.up (aaE @Me (aaE @Pe (aaE @Qy (aaE @Uj (aaE @Wx (aaE @Qw (aaE @Tq (aaE @Oz (aaE @Vv @Av)))))))))
def abV:=PLift.up (aaE @bE (aaE @dL (aaE @Fv (aaE @Gx (aaE @Gq (aaE @Hl (aaE @Jt (aaE @Ru (aaE @Sl (aaE @Ik (aaE @Ep (aaE @Zy (aaE @Zi (aaE @Av (aaE @Zk (aaE @Ju (aaE @Iy (aaE @Vx (aaE @Qd (aaE @Vz (aaE @dS @cA)))))))))))))))))))))
def bA:=PLift.up (aaE @bE (aaE @acA (aaE @jT (aaE @aaO (aaE @dL (aaE @rI (aaE @Ik (aaE @Ep (aaE @Zy (aaE @Qd (aaE @Yd (aaE @Oz (aaE @oU (aaE @Vz (aaE @dS (aaE @jL (aaE @mU (aaE @Jr (aaE @bD (aaE @wC (aaE @Fh (aaE @Md (aaE @Av (aaE @Pj (aaE @Is (aaE @cA (aaE @aa0 (aaE @rO @aaZ))))))))))))))))))))))))))))
def axT:=PLift.up (aaE @Pv (aaE @Av @Pm))
def akG:=PLift.up (aaE @Gq (aaE @Hl (aaE @Jt (aaE @Ru (aaE @Sl (aaE @Tj @Av))))))
def al9:=PLift.up (aaE @Gq (aaE @Hl (aaE @Rz (aaE @Jt (aaE @Ru (aaE @Sl (aaE @Zh (aaE @eY (aaE @Su (aaE @Xb (aaE @Vl (aaE @Uh (aaE @Ew (aaE @Rb @Ub))))))))))))))
def amU:=PLift.up (aaE @xJ (aaE @vB (aaE @Gq (aaE @fN (aaE @Av (aaE @Ew (aaE @Zk (aaE @Hl (aaE @gU (aaE @Pj (aaE @lK (aaE @fY (aaE @oP (aaE @Jt (aaE @fQ (aaE @fV (aaE @lC (aaE @Vl (aaE @Uh (aaE @gA (aaE @Rb (aaE @Ub @qU))))))))))))))))))))))
def afC:=PLift.up (aaE @Qw (aaE @aD (aaE @aX (aaE @agO (aaE @ah4 (aaE @Zf (aaE @Av (aaE @Ew (aaE @Zo (aaE @Ze (aaE @sU @Yr)))))))))))
def axH:=PLift.up (aaE @Qa (aaE @Pv (aaE @Av @Pm)))
def abU:=PLift.up (aaE @Su (aaE @Xb (aaE @Rb (aaE @Vl (aaE @aZ (aaE @cT (aaE @cI (aaE @Zq (aaE @fD (aaE @Av (aaE @Ew (aaE @Yp (aaE @Uh (aaE @Yg (aaE @Ub (aaE @Tj (aaE @Qa (aaE @kH (aaE @Zi (aaE @Ul (aaE @Tu (aaE @Up (aaE @Uf (aaE @fC @Ju))))))))))))))))))))))))
def ai2:=PLift.up (aaE @Fv (aaE @Gx (aaE @Uc (aaE @Av (aaE @Uo @Ue)))))
def ax0:=PLift.up (aaE @Rz @Rz)
def ag0:=PLift.up (aaE @Qz (aaE @Pg @Ew))
def abT:=PLift.up (aaE @Qz (aaE @Pg (aaE @Ew (aaE @Ju (aaE @Iy @Vx)))))
def aa5:=PLift.up (aaE @Qz (aaE @Pg (aaE @Ew (aaE @Ju (aaE @Iy @Vx)))))
def iD:=PLift.up (aaE @Ep (aaE @dV (aaE @Qz (aaE @Ju (aaE @Iy (aaE @Vx (aaE @adC (aaE @aa6 (aaE @gQ (aaE @xC (aaE @Kq (aaE @Av (aaE @Zk (aaE @Pj @lK))))))))))))))
def aw9:=PLift.up (aaE @Zb (aaE @Av (aaE @Yj (aaE @Zm (aaE @Zd @Ju)))))
def av6:=PLift.up (aaE @Ys @Av)
def avR:=PLift.up (aaE @Ww (aaE @Av (aaE @Qn (aaE @Qo (aaE @Qs @Qm)))))
def zE:=PLift.up (aaE @abP (aaE @acY (aaE @Ju (aaE @Iy @ac3))))
def ahC:=PLift.up (aaE @abE (aaE @acL (aaE @eU (aaE @Uu @ab5))))
def Xs:=PLift.up (aaE @Fh (aaE @Yd (aaE @Oz (aaE @nE (aaE @nJ (aaE @abJ (aaE @Ys (aaE @oV (aaE @nV (aaE @Qn (aaE @Av (aaE @Ew (aaE @Md (aaE @eU (aaE @Uu (aaE @mT (aaE @Qm (aaE @Ik (aaE @Ep (aaE @Qs (aaE @Kq (aaE @Qd (aaE @Jv (aaE @Fv (aaE @Gx (aaE @Hl (aaE @tJ (aaE @Pj (aaE @Qo @jL)))))))))))))))))))))))))))))
def Ii:=PLift.up (aaE @Xf (aaE @Tq (aaE @Oz (aaE @oU (aaE @nE (aaE @nJ (aaE @Vv (aaE @dZ (aaE @Ys (aaE @Yf (aaE @vT (aaE @oV (aaE @nV (aaE @Ww (aaE @Av (aaE @Fh (aaE @Md (aaE @Qn (aaE @Ik (aaE @Ep (aaE @Qo (aaE @Kq (aaE @Qm (aaE @Qs (aaE @Yd (aaE @Is (aaE @sQ (aaE @Ju (aaE @Iy (aaE @Vx (aaE @Vz (aaE @Pj (aaE @eU (aaE @Uu (aaE @mT (aaE @jL @mU))))))))))))))))))))))))))))))))))))
def Lc:=PLift.up (aaE @fL (aaE @vK (aaE @Jv (aaE @Fv (aaE @Gx (aaE @mQ (aaE @Gq (aaE @nQ (aaE @Is (aaE @Um (aaE @Vz (aaE @dS (aaE @Ru (aaE @Sl (aaE @Jr (aaE @Xf (aaE @Uj (aaE @Wx (aaE @aa4 (aaE @Fh (aaE @Md (aaE @Av (aaE @Ew (aaE @Zk (aaE @aD (aaE @rJ (aaE @Rz (aaE @aaW (aaE @Ik (aaE @Ep (aaE @Zy (aaE @Kq (aaE @cT (aaE @cI (aaE @abD (aaE @Yp (aaE @Yg (aaE @Pj @lK))))))))))))))))))))))))))))))))))))))
def rW:=PLift.up (aaE @dB (aaE @cZ (aaE @Jv (aaE @Jr (aaE @Is (aaE @Um (aaE @Ep (aaE @Zb (aaE @Av (aaE @Yj (aaE @Tz @Vz)))))))))))
def uS:=PLift.up (aaE @dB (aaE @cZ (aaE @Is (aaE @Tz (aaE @Ep (aaE @Zm (aaE @Av (aaE @Zd (aaE @Sz (aaE @Vz (aaE @Fh (aaE @gC @Pj))))))))))))
def Qb:=PLift.up (aaE @Is (aaE @Sz (aaE @Ep (aaE @dV (aaE @mY (aaE @Kq (aaE @Av (aaE @Jv (aaE @Yv (aaE @Fh (aaE @fX (aaE @Pj @Ik))))))))))))
def Kz:=PLift.up (aaE @fL (aaE @Ru (aaE @Sl (aaE @Is (aaE @Sz (aaE @Ep (aaE @Kq (aaE @Av (aaE @Fh (aaE @Qd (aaE @Ul (aaE @Tu (aaE @Up (aaE @Pj (aaE @Zh (aaE @eY (aaE @Um (aaE @Tz @Uf))))))))))))))))))
def avD:=PLift.up (aaE @Qa (aaE @Pv (aaE @Av @Pm)))
def awH:=PLift.up (aaE @Zf (aaE @Av (aaE @Zo (aaE @Ze @fP))))
def rU:=PLift.up (aaE @Gq (aaE @Hl @Jt))
def yH:=PLift.up (aaE @Qz (aaE @Pg @Ew))
def av4:=PLift.up (aaE @Fv (aaE @Gx (aaE @Hl (aaE @fY (aaE @oP (aaE @Ep (aaE @Pg @Ew)))))))
def avY:=PLift.up (aaE @Ep (aaE @Pg (aaE @Ew @gQ)))
def Jh:=PLift.up (aaE @Qz (aaE @Kq (aaE @Pg (aaE @Av (aaE @Ew (aaE @nQ @Pj))))))
def sA:=PLift.up (aaE @Qy (aaE @Zw @bH))
def uW:=PLift.up (aaE @Vv (aaE @dZ @Yf))
def as4:=PLift.up (aaE @Jv (aaE @Fv (aaE @Gx (aaE @Hl (aaE @gU (aaE @Av (aaE @Ew (aaE @Fh (aaE @Ik (aaE @Ep @Kq))))))))))
def nT:=PLift.up (aaE @Jv (aaE @Fv (aaE @Gx (aaE @Gq (aaE @Hl (aaE @Rz (aaE @Jt (aaE @Ru (aaE @Sl (aaE @Fh (aaE @Md @Av)))))))))))
def yT:=PLift.up (aaE @vW (aaE @aZ (aaE @cT (aaE @Su (aaE @Xb (aaE @Vl (aaE @cI (aaE @Rb (aaE @Zq (aaE @Av @Tj))))))))))
def awD:=PLift.up (aaE @wM (aaE @bH (aaE @dB (aaE @Xf (aaE @Me (aaE @Pe (aaE @Fh (aaE @Md (aaE @Av (aaE @Zw @cZ))))))))))
def rZ:=PLift.up (aaE @Qw (aaE @aD @aX))
end Go.Proofs.YtdbiogihimdpcaaGreatDoor
namespace Go.Proofs.YtdbiogihimdpcaaGreatDoor
open Go Go.Ev Go.ChangeShapes Go.WideShapes Go.ChangeAt Go.RowKit
set_option maxRecDepth 100000
set_option maxHeartbeats 16000000
def mdL:List Nat:=[131,130,133]
def pr:Oh:=aiX 89 90 (mdL.contains ·)
noncomputable def Bo:Fe:=om Tryz.prog pr
theorem anL(f:Nat):Bo.md f=([131,130,133]:List Nat).contains f:=Eq.trans rfl rfl
def Va:=PLift.up (aaE EE.down EE.down)
def Vb:=PLift.up (aaE EF.down @anL)
def Vc:=PLift.up (aaE EG.down @anL)
theorem wV{C:R→Prop}[NoN C]{n:Nat}{k:List Ai}{c:Code}{s:St}(h:Un Bo Tryz.prog n k c C (Db Bo Tryz.prog 5000 c [] s)):C (lpK Bo Tryz.prog n k (Bo.loop c s)):=auX (pr:=pr) h
theorem own:ownKnob Tryz.prog.godebug=none:=by kernel_rfl
theorem aqZ:abO Tryz.prog:=fun f fn hf=>by
 have h:(Tryz.prog.funcs.toList.all fun fn=> !(fn.name== "runtime.NumGoroutine"))=true:=by kernel_rfl
 have:=List.all_eq_true.1 h fn (by rw[Array.mem_toList_iff];exact Array.mem_of_getElem? hf)
 simpa using this
theorem mixed:Tryz.prog.follows .mixedOrders=true:=by kernel_rfl
theorem amG:laidOutB Tryz.prog=true:=by kernel_rfl
def laid:List (String × DataW Unit):=[("math/bits.deBruijn32tab",Rows.laid_math_bits_deBruijn32tab),("math/bits.deBruijn64tab",Rows.laid_math_bits_deBruijn64tab),("internal/strconv.uint64pow10",Rows.laid_internal_strconv_uint64pow10)]
theorem avA:Tryz.prog.globalNamed "internal/strconv.uint64pow10" =some 0:=by kernel_rfl
theorem tab{W:World}(h:laidMetH Tryz.prog laid W):Lib.TabIs Tryz.prog W "internal/strconv.uint64pow10" .u64 Lib.pow10Tab:=by
 rw[MakeChecks.laidMetH_plain _ _ _ (by kernel_rfl)]at h
 obtain⟨ps,h,_⟩:=h
 exact dE (t:=183) (e:=174) (n:=20) avA (by kernel_rfl) (by kernel_rfl) (by kernel_rfl) (by kernel_rfl) (by kernel_rfl) h (by
  have e:(Lib.tabData .u64 Lib.pow10Tab:DataW Unit)=Rows.laid_internal_strconv_uint64pow10:=rfl
  rw[e];simp[laid])
theorem aeP{W:World}(h:laidMetH Tryz.prog laid W):Hr Tryz.prog (aiZ W 0) Bo:=
 avN aqZ (adS (anA (qL aqZ Tryz.func89 rfl) (adU avA (tab h)) (fun n w h0 h1 ht=>Tryz.strconv_Itoa n h0 h1 w ht)) (alM (qL aqZ Tryz.func90 rfl) Tryz.strings_Join_none Tryz.strings_Join)) mixed
theorem aiT(os:Os)(args:Array Value):laidMetH Tryz.prog laid ((World.doorLaid Tryz.prog 400 os).forCall (fun _ _=>0) ⟨#[],args,[]⟩).memory:=
 laidMetH_of_parts3 (fuel:=8) (laidMet_of_run' 8 (by kernel_rfl) (by kernel_rfl)) (by kernel_rfl) (by kernel_rfl)
end Go.Proofs.YtdbiogihimdpcaaGreatDoor
namespace Go.Proofs.YtdbiogihimdpcaaGreatDoor
open Go.Ev Go
set_option maxRecDepth 100000
set_option maxHeartbeats 16000000
structure acP(sc dc:List AV)(bx:Nat)(ov:AV)(h:Aa)(xc X:List AV)(Rx:List Nat)(rows Q:List (List AV))(Ro:List Nat):Prop where
 b0:h[0]?=some (.live 6 false false [sc])
 b1:h[1]?=some (.live 3 false false [dc])
 b2:h[2]?=some (.live 6 false false [[.int .i64 0,.nils,.int .i64 0,.int .i64 0,.nils,.nils]])
 bx3:3≤bx
 bxw:∃w,h[bx]?=some (.live 6 false w [xc])
 x:Nn (rd 5 (hf h)) xc=some (X,Rx)
 own:Ey 0 4 false rows ov h
 nil:rows=[]→ov=.nils
 q:Bz (rd 5 (hf h)) rows=some (Q,Ro)
 dx:∀b∈Rx++Ro,3≤b∧b≠bx
 dov:∀st b r n,ov=.slr st b r n→3≤b∧b≠bx∧b∉Rx++Ro∧b<h.length
theorem Ja{h:Aa}{b:Nat}{c:CB}(hb:h[b]?=some c):b<h.length:=(adP.1 hb).1
theorem acP.call{sc dc:List AV}{bx:Nat}{ov:AV}{h:Aa}{xc X:List AV}{Rx:List Nat}{rows Q:List (List AV)}{Ro:List Nat}(I:acP sc dc bx ov h xc X Rx rows Q Ro)
 {lent:List Nat} {H1:Aa} (K:Kp lent h H1) (hl:∀b∈lent,b∈Rx):H1[0]?=h[0]?∧H1[1]?=h[1]?∧H1[2]?=h[2]?∧H1[bx]?=h[bx]?∧bx<h.length∧Ey 0 4 false rows ov H1:=by
 obtain⟨w,hw⟩:=I.bxw
 have nl:∀b,¬(3≤b∧b≠bx)→b∉lent:=fun b hb hh=>hb (I.dx b (abI _ (hl b hh)))
 refine⟨K.same 0 (Ja I.b0) (nl _ (by omega)),K.same 1 (Ja I.b1) (nl _ (by omega)),K.same 2 (Ja I.b2) (nl _ (by omega)),K.same bx (Ja hw) (nl _ (by omega)),Ja hw,?_⟩
 rcases I.own with h1|⟨b,w',h1,h2⟩
 ·exact .inl h1
 ·refine .inr ⟨b,w',h1,?_⟩
  rw[K.same b (Ja h2) (fun hh=>(I.dov _ _ _ _ h1).2.2.1 (abI _ (hl _ hh)))]
  exact h2
theorem acP.next{sc dc:List AV}{bx:Nat}{ov:AV}{h:Aa}{xc X:List AV}{Rx:List Nat}{rows Q:List (List AV)}{Ro:List Nat}(I:acP sc dc bx ov h xc X Rx rows Q Ro)
 {lent:List Nat} {H1:Aa} (K:Kp lent h H1) (hl:∀b∈lent,b∈Rx) {xc' X' fc' Qf:List AV} {Rx' Rf:List Nat} (hx:Nn (rd 5 (hf H1)) xc'=some (X',Rx')) (hf':Nn (rd 5 (hf H1)) fc'=some (Qf,Rf))
 (fr:∀b∈Rx'++Rf,h.length≤b) (a b c:CB) {k n:Nat} (hk:k=H1.length+3) (hn:n=rows.length+1):
 acP sc dc bx (.slr 4 k 0 n) (kl 0 ov (H1.set bx (.live 6 false true [xc']))++[a,b,c,.live 4 false false (rows++[fc'])]) xc' X' Rx' (rows++[fc']) (Q++[Qf]) (Ro++Rf):=by
 subst hk hn
 obtain⟨c0,c1,c2,c3,hbx,c4⟩:=I.call K hl
 have l0:=Ja I.b0
 have l1:=Ja I.b1
 have l2:=Ja I.b2
 have bx3:=I.bx3
 have hle:=K.len
 have get:∀j,j<H1.length→j≠bx→(∀st m r n,ov=.slr st m r n→m≠j)→(kl 0 ov (H1.set bx (.live 6 false true [xc']))++[a,b,c,.live 4 false false (rows++[fc'])])[j]?=H1[j]?:=fun j hj hb ho=>by
  rw[uD _ (by simpa using hj) ho,List.getElem?_set_ne (fun e=>hb e.symm)]
 have low:∀j,j<3→∀st m r n,ov=.slr st m r n→m≠j:=fun j hj st m r n e=>by have:=(I.dov st m r n e).1;omega
 have agr:∀R:List Nat,(∀j∈R,j<H1.length)→(∀j∈R,j≠bx)→(∀j∈R,∀st m r n,ov=.slr st m r n→m≠j)→Agr R (hf H1) (hf (kl 0 ov (H1.set bx (.live 6 false true [xc']))++[a,b,c,.live 4 false false (rows++[fc'])])):=fun R h1 h2 h3 j hj z hz=>by
  show((kl 0 ov _++_)[j]?).bind Da=_
  rw[get j (h1 j hj) (h2 j hj) (h3 j hj)];exact hz
 have fx:∀j∈Rx'++Rf,j≠bx∧∀st m r n,ov=.slr st m r n→m≠j:=fun j hj=>by
  have:=fr j hj
  exact⟨by omega,fun st m r n e=>by have:=(I.dov st m r n e).2.2.2;omega⟩
 have ltx:=pU (by omega) hx
 have ltf:=pU (by omega) hf'
 have q1:Bz (rd 5 (hf H1)) rows=some (Q,Ro):=aV I.q fun j hj z hz=>by
  rw[K.rows j (eF (by omega) I.q j hj)];exact hz
 have lto:=eF (by omega) q1
 have lto':=eF (by omega) I.q
 have dro:∀j∈Ro,j≠bx∧∀st m r n,ov=.slr st m r n→m≠j:=fun j hj=>
  ⟨(I.dx j (abH _ hj)).2,fun st m r n e e2=>(I.dov st m r n e).2.2.1 (by rw[e2];exact abH _ hj)⟩
 have hlen:(kl 0 ov (H1.set bx (.live 6 false true [xc']))).length=H1.length:=by rw[Eh];simp
 refine⟨?_,?_,?_,bx3,⟨true,?_⟩,?_,.inr ⟨H1.length+3,false,by simp,?_⟩,fun e=>by simp at e,?_,?_,?_⟩
 ·rw[get 0 (by omega) (by omega) (low 0 (by omega)),c0];exact I.b0
 ·rw[get 1 (by omega) (by omega) (low 1 (by omega)),c1];exact I.b1
 ·rw[get 2 (by omega) (by omega) (low 2 (by omega)),c2];exact I.b2
 ·rw[uD _ (by simp;omega) (fun st m r n e=>(I.dov st m r n e).2.1),List.getElem?_set_self (by omega)]
 ·exact iP hx (agr _ ltx (fun j hj=>(fx j (abI _ hj)).1) (fun j hj=>(fx j (abI _ hj)).2))
 ·rw[List.getElem?_append_right (by omega),hlen,show H1.length+3-H1.length=3 by omega];rfl
 ·exact eZ (aV q1 (agr _ lto (fun j hj=>(dro j hj).1) (fun j hj=>(dro j hj).2))) (iP hf' (agr _ ltf (fun j hj=>(fx j (abH _ hj)).1) (fun j hj=>(fx j (abH _ hj)).2)))
 ·intro j hj
  rcases adJ.1 hj with hj|hj
  ·have:=fr j (abI _ hj);exact⟨by omega,(fx j (abI _ hj)).1⟩
  ·rcases adJ.1 hj with hj|hj
   ·exact I.dx j (abH _ hj)
   ·have:=fr j (abH _ hj);exact⟨by omega,(fx j (abH _ hj)).1⟩
 ·intro st m r n e
  cases e
  refine⟨by omega,by omega,fun hj=>?_,by simp[hlen]⟩
  rcases adJ.1 hj with hj|hj
  ·have:=ltx _ hj;omega
  ·rcases adJ.1 hj with hj|hj
   ·have:=lto _ hj;omega
   ·have:=ltf _ hj;omega
theorem Nk{f:Nat}{fn:Func}{c:Code}{args:List AV}{h:Aa}{Q:Ec→Aa→Prop}(hp:pr f=none)(hf:Tryz.prog.funcs[f]?=some fn)(hb:fn.body=some c)(hl:adK args.length fn.ntmps=true)
 (he:FnE Tryz.prog h.length fn.results.toList Q (Db Bo Tryz.prog 5000 c [] ⟨mk fn.ntmps (Dn args),h⟩)):Vo Bo f args h Q:=Vo.start (pr:=pr) hp hf hb hl he
theorem atI{f:Nat}{fn:Func}{c:Code}{args:List AV}{h:Aa}{Q:Ec→Aa→Prop}(hp:pr f=none)(hf:Tryz.prog.funcs[f]?=some fn)(hb:fn.body=some c)(hl:adK args.length fn.ntmps=true)
 (he:FnS Tryz.prog fn.results.toList Q (Db Bo Tryz.prog 5000 c [] ⟨mk fn.ntmps (Dn args),h⟩)):ShQ Bo f args h Q:=ShQ.start (pr:=pr) hp hf hb hl he
theorem ce{f:Nat}{fn:Func}{c:Code}{args:List AV}{h:Aa}{o:Ec}{h':Aa}(hf:Tryz.prog.funcs[f]?=some fn)(he:FnE Tryz.prog h.length fn.results.toList (fun o1 h1=>(o1,h1)=(o,h')) (Db Bo Tryz.prog 5000 c [] ⟨mk fn.ntmps (Dn args),h⟩))(hp:pr f=none:=by exact rfl)(hb:fn.body=some c:=by exact rfl)(hl:adK args.length fn.ntmps=true:=by exact rfl):Bo.call (.fn f) args h=some (o,h'):=(Nk hp hf hb hl he).eq
theorem csh{f:Nat}{fn:Func}{c:Code}{args:List AV}{h:Aa}{o:Ec}{h':Aa}(hf:Tryz.prog.funcs[f]?=some fn)(he:FnS Tryz.prog fn.results.toList (fun o1 h1=>(o1,h1)=(o,h')) (Db Bo Tryz.prog 5000 c [] ⟨mk fn.ntmps (Dn args),h⟩))(hp:pr f=none:=by exact rfl)(hb:fn.body=some c:=by exact rfl)(hl:adK args.length fn.ntmps=true:=by exact rfl):Bo.call (.sh f) args h=some (o,h'):=(atI hp hf hb hl he).eq
theorem Sr{α σ ρ:Type}{c:Code}(N:Nat)(l:List α)(E:Nat→σ→Tm→Aa→Prop)(F:List α→σ→ρ)(Q:ρ→Ex→Tm→Aa→Prop)
 (stop:∀s t h Q',(∀e t h,Q (F [] s) e t h→Q' e ⟨mk N t,h⟩)→E l.length s t h→qE N (fun _ _=>False) Q' (Db Bo Tryz.prog 5000 c [] ⟨mk N t,h⟩))
 (go:∀x rest i s t h J Q',(∀t' h' s',E (i+1) s' t' h'→F rest s'=F (x::rest) s→J t' h')→(∀e t h,Q (F (x::rest) s) e t h→Q' e ⟨mk N t,h⟩)→l[i]?=some x→i<l.length→E i s t h→
   qE N J Q' (Db Bo Tryz.prog 5000 c [] ⟨mk N t,h⟩)):
 ∀s t h,E 0 s t h→LpQ Bo c ⟨mk N t,h⟩ (Ot N (Q (F l s))):=abC (pr:=pr) rfl N l E F Q stop go
theorem cnt{σ ρ:Type}{c:Code}(N:Nat)(E:Nat→σ→Tm→Aa→Prop)(F:Nat→σ→ρ)(Q:ρ→Ex→Tm→Aa→Prop)
 (stop:∀s t h Q',(∀e t h,Q (F 0 s) e t h→Q' e ⟨mk N t,h⟩)→E 0 s t h→qE N (fun _ _=>False) Q' (Db Bo Tryz.prog 5000 c [] ⟨mk N t,h⟩))
 (go:∀n s t h J Q',(∀t' h' s',E n s' t' h'→F n s'=F (n+1) s→J t' h')→(∀e t h,Q (F (n+1) s) e t h→Q' e ⟨mk N t,h⟩)→E (n+1) s t h→qE N J Q' (Db Bo Tryz.prog 5000 c [] ⟨mk N t,h⟩)):
 ∀n s t h,E n s t h→LpQ Bo c ⟨mk N t,h⟩ (Ot N (Q (F n s))):=ahP (pr:=pr) rfl N E F Q stop go
structure Bh where
 fill:Int
 inn:Int
 out:Int
def Bh.cells(r:Bh):List AV:=[.int .i64 r.fill,.int .i64 r.inn,.int .i64 r.out]
structure Ag where
 firm:Bool
 space:Int
 lo:Int
 hi:Int
 nn:Bool
 rates:List Bh
 gas:Int
 fixed:Int
 inn:Int
 out:Int
 cut:Int
 lack:Int
def Ag.cells(c:Ag):List AV:=[.bool c.firm,.int .i64 c.space,.int .i64 c.lo,.int .i64 c.hi,Bj 3 true c.nn (c.rates.map Bh.cells),.int .i64 c.gas,.int .i64 c.fixed,.int .i64 c.inn,.int .i64 c.out,.int .i64 c.cut,.int .i64 c.lack]
structure Ac where
 space:Int
 inn:Int
 out:Int
 lead:Int
 fuel:Int
 nn:Bool
 cons:List Ag
abbrev Ac.cells(s:Ac):List AV:=[.int .i64 s.space,.int .i64 s.inn,.int .i64 s.out,.int .i64 s.lead,.int .i64 s.fuel,Bj 11 false s.nn (s.cons.map Ag.cells)]
def iv(x:Int):List AV:=[.int .i64 x]
def Gg(x lo hi:Int):Bool:=decide (lo≤x)&&decide (x≤hi)
theorem mP(x lo hi:Int):Bo.call (.fn 71) [.int .i64 x,.int .i64 lo,.int .i64 hi] []=some (.ret (.bool (Gg x lo hi)),[]):=by
 (refine ce Tryz.func71 ?_;simp only[Tryz.f71];(have hb:=trivial;with_reducible repeat' (first|simp only[hb,Va.down,seval]|refine Aj ?_ ?_<;>intro hb|refine fd ?_|fail)))
 all_goals simp[Gg, *]
theorem hQ(x lo hi:Int):Bo.call (.fn 54) [.int .i64 x,.int .i64 lo,.int .i64 hi] []=some (.ret (.bool (Gg x lo hi)),[]):=by
 (refine ce Tryz.func54 ?_;simp only[Tryz.f54];(have hb:=trivial;with_reducible repeat' (first|simp only[hb,Va.down,seval]|refine Aj ?_ ?_<;>intro hb|refine fd ?_|fail)))
 all_goals simp[Gg, *]
def eB(x y:Int):Bool:=decide (0≤x)&&decide (x≤y)&&decide (y<48)
theorem alY(x y:Int):Bo.call (.fn 66) [.agg [.int .i64 x,.int .i64 y]] []=some (.ret (.bool (eB x y)),[]):=by
 (refine ce Tryz.func66 ?_;simp only[Tryz.f66];(have hb:=trivial;with_reducible repeat' (first|simp only[hb,Va.down,seval,axT.down]|refine Aj ?_ ?_<;>intro hb|refine fd ?_|fail)))
 all_goals simp[eB, *]
theorem aiG(x:Int):Bo.call (.fn 93) [.int .i64 x] []=some (.ret (.bool (!Gg x 0 800000000)),[]):=by
 (refine ce Tryz.func93 ?_;simp only[Tryz.f93];(have hb:=trivial;with_reducible repeat' (first|simp only[hb,Va.down,seval,mP]|refine Aj ?_ ?_<;>intro hb|refine fd ?_|fail)))
theorem abN(x:Int):Bo.call (.fn 136) [.int .i64 x] []=some (.ret (.bool (!Gg x 0 10000)),[]):=by
 (refine ce Tryz.func136 ?_;simp only[Tryz.f136];(have hb:=trivial;with_reducible repeat' (first|simp only[hb,Va.down,seval,mP]|refine Aj ?_ ?_<;>intro hb|refine fd ?_|fail)))
theorem pT(x:Int):Bo.call (.fn 19) [.int .i64 x] []=some (.ret (.bool (Gg x 0 800000000)),[]):=by
 (refine ce Tryz.func19 ?_;simp only[Tryz.f19];(have hb:=trivial;with_reducible repeat' (first|simp only[hb,Va.down,seval,hQ]|refine Aj ?_ ?_<;>intro hb|refine fd ?_|fail)))
theorem yX(x:Int):Bo.call (.fn 81) [.int .i64 x] []=some (.ret (.bool (Gg x 0 100000000)),[]):=by
 (refine ce Tryz.func81 ?_;simp only[Tryz.f81];(have hb:=trivial;with_reducible repeat' (first|simp only[hb,Va.down,seval,hQ]|refine Aj ?_ ?_<;>intro hb|refine fd ?_|fail)))
theorem amC(x:Int):Bo.call (.fn 80) [.int .i64 x] []=some (.ret (.bool (Gg x 0 10000)),[]):=by
 (refine ce Tryz.func80 ?_;simp only[Tryz.f80];(have hb:=trivial;with_reducible repeat' (first|simp only[hb,Va.down,seval,hQ]|refine Aj ?_ ?_<;>intro hb|refine fd ?_|fail)))
theorem wI(x:Int):Bo.call (.fn 38) [.int .i64 x] []=some (.ret (.bool (Gg x 0 47)),[]):=by
 (refine ce Tryz.func38 ?_;simp only[Tryz.f38];(have hb:=trivial;with_reducible repeat' (first|simp only[hb,Va.down,seval,hQ]|refine Aj ?_ ?_<;>intro hb|refine fd ?_|fail)))
theorem amK(x y:Int):Bo.call (.fn 31) [.agg [.int .i64 x,.int .i64 y]] []=some (.ret (.bool (eB x y)),[]):=by
 (refine ce Tryz.func31 ?_;simp only[Tryz.f31];(have hb:=trivial;with_reducible repeat' (first|simp only[hb,Va.down,seval,axO.down,wI]|refine Aj ?_ ?_<;>intro hb|refine fd ?_|fail)))
 all_goals (refine congrArg (fun b=>(Ec.ret (AV.bool b),([]:Aa))) ?_;rw[Bool.eq_iff_iff];simp only[eB,Gg,ab1,acM,acT,acZ,adA,decide_eq_true_eq,decide_eq_false_iff_not,beq_iff_eq,beq_eq_false_iff_ne,Bool.false_eq_true,false_iff,iff_false,true_iff,iff_true,adF,adI]at *;omega)
theorem sL(c:Ag)(f:Bool)(h:Int):Bo.call (.fn 111) [.agg [.bool f,.int .i64 c.space,.int .i64 c.lo,.int .i64 c.hi,Bj 3 true c.nn (c.rates.map Bh.cells),.int .i64 c.gas,.int .i64 c.fixed,.int .i64 c.inn,.int .i64 c.out,.int .i64 c.cut,.int .i64 c.lack],.int .i64 h] []=some (.ret (.bool (Gg h c.lo c.hi)),[]):=by
 (refine ce Tryz.func111 ?_;simp only[Tryz.f111];(have hb:=trivial;with_reducible repeat' (first|simp only[hb,Va.down,seval,avD.down,mP]|refine Aj ?_ ?_<;>intro hb|refine fd ?_|fail)))
theorem aiN(c:Ag)(f:Bool)(h:Int):Bo.call (.fn 79) [.agg [.bool f,.int .i64 c.space,.int .i64 c.lo,.int .i64 c.hi,Bj 3 true c.nn (c.rates.map Bh.cells),.int .i64 c.gas,.int .i64 c.fixed,.int .i64 c.inn,.int .i64 c.out,.int .i64 c.cut,.int .i64 c.lack],.int .i64 h] []=some (.ret (.bool (Gg h c.lo c.hi)),[]):=by
 (refine ce Tryz.func79 ?_;simp only[Tryz.f79];(have hb:=trivial;with_reducible repeat' (first|simp only[hb,Va.down,seval,axH.down,hQ]|refine Aj ?_ ?_<;>intro hb|refine fd ?_|fail)))
def jV{α:Type}(p:α→Bool):List α→Int→Int
 | [],_=> -1
 |x::l,i=>if p x=true then i else jV p l (i+1)
theorem Zu{α:Type}(p:α→Bool):∀(l:List α) (i:Int),0≤i→decide (0≤jV p l i)=l.any p
 | [],i,_=>rfl
 |x::l,i,h=>by
  unfold jV
  split
  ·rename_i hp;simp[h,hp]
  ·rename_i hp;rw[Zu p l (i+1) (by omega)];simp[hp]
theorem agG{l:List Int}{nn:Bool}{g:Nat}{cap:List AV}{p:Int→Bool}(hc:cap.all (Az 8)=true)(hc7:cap.all (Az 7)=true)(hp:∀x∈l,Bo.call (.fn g) (.int .i64 x::cap) []=some (.ret (.bool (p x)),[]))(hl:l.length≤maxLen):
 Bo.call (.fn 92) [Bj 1 true nn (l.map iv),.func (.func g) [] cap] []=some (.ret (.int .i64 (jV p l 0)),[]):=by
 (refine ce Tryz.func92 ?_;simp only[Tryz.f92];(have hb:=trivial;with_reducible repeat' (first|simp only[hb,Va.down,seval,ag0.down,adN]|refine Aj ?_ ?_<;>intro hb|refine fd ?_|fail)))
 refine Dk (Sr 19 l (fun i (s:Int) t h=>s=i∧h=[]∧t 0=Bj 1 true nn (l.map iv)∧t 1=.func (.func g) [] cap∧t 7=.int .i64 l.length∧t 8=.int .i64 i)
  (fun rest s=>jV p rest s) (fun r e t h=>h=[]∧((e=.exit 0∧r= -1)∨(e=.ret∧t 4=.int .i64 r))) ?_ ?_ 0 _ _ ?_) (fun e t h hk=>?_)
 ·rintro s t h Q' kQ ⟨rfl,rfl,h0,h1,h7,h8⟩
  (have hb:=trivial;with_reducible repeat' (first|simp only[hb,Va.down,seval,ag0.down,h0,h1,h7,h8,adL,decide_false]|refine Aj ?_ ?_<;>intro hb|refine fd ?_|fail))
  exact kQ _ _ _ ⟨rfl,.inl ⟨rfl,rfl⟩⟩
 ·rintro x rest i s t h J Q' kJ kQ hx hi ⟨rfl,rfl,h0,h1,h7,h8⟩
  have hpx:=hp x (aiK hx)
  have hd:decide ((i:Int)<(l.length:Int))=true:=by simpa using hi
  (have hb:=trivial;with_reducible repeat' (first|simp only[hb,Va.down,seval,ag0.down,h0,h1,h7,h8,hd,hx,iv,hc,hc7,hpx,Ak hi hl]|refine Aj ?_ ?_<;>intro hb|refine fd ?_|fail))
  ·exact kQ _ _ _ ⟨rfl,.inr ⟨rfl,by simp[up,jV,hb]⟩⟩
  ·exact Aq (kJ _ _ (i+1) ⟨by simp,rfl,by simp[up,h0],by simp[up,h1],by simp[up,h7],by simp[up]⟩ (by simp[jV,hb]))
 ·exact⟨rfl,rfl,by simp[up,Dn],by simp[up,Dn],by simp[up],by simp[up]⟩
 ·obtain⟨rfl,⟨rfl,hi⟩|⟨rfl,hi⟩⟩:=hk
  ·(have hb:=trivial;with_reducible repeat' (first|simp only[hb,Va.down,seval,ag0.down]|refine Aj ?_ ?_<;>intro hb|refine fd ?_|fail))
   rw[hi]
  ·(have hb:=trivial;with_reducible repeat' (first|simp only[hb,Va.down,seval,ag0.down,hi]|refine Aj ?_ ?_<;>intro hb|refine fd ?_|fail))
theorem oW{l:List Int}{nn:Bool}{g:Nat}{cap:List AV}{p:Int→Bool}(hc:cap.all (Az 8)=true)(hc7:cap.all (Az 7)=true)(hp:∀x∈l,Bo.call (.fn g) (.int .i64 x::cap) []=some (.ret (.bool (p x)),[]))(hl:l.length≤maxLen):
 Bo.call (.fn 50) [Bj 1 true nn (l.map iv),.func (.func g) [] cap] []=some (.ret (.bool (l.any p)),[]):=by
 (refine ce Tryz.func50 ?_;simp only[Tryz.f50];(have hb:=trivial;with_reducible repeat' (first|simp only[hb,Va.down,seval,agG hc hc7 hp hl,hc,hc7,Zu p l 0 (adO 0)]|refine Aj ?_ ?_<;>intro hb|refine fd ?_|fail)))
theorem agN{l:List Ag}{nn:Bool}{g:Nat}{cap:List AV}{p:Ag→Bool}(hc:cap.all (Az 8)=true)(hc7:cap.all (Az 7)=true)(hp:∀x∈l,Bo.call (.fn g) (.agg [.bool x.firm,.int .i64 x.space,.int .i64 x.lo,.int .i64 x.hi,Bj 3 true x.nn (x.rates.map Bh.cells),.int .i64 x.gas,.int .i64 x.fixed,.int .i64 x.inn,.int .i64 x.out,.int .i64 x.cut,.int .i64 x.lack]::cap) []=some (.ret (.bool (p x)),[]))(hl:l.length≤maxLen):
 Bo.call (.fn 117) [Bj 11 false nn (l.map Ag.cells),.func (.func g) [] cap] []=some (.ret (.int .i64 (jV p l 0)),[]):=by
 (refine ce Tryz.func117 ?_;simp only[Tryz.f117];(have hb:=trivial;with_reducible repeat' (first|simp only[hb,Va.down,seval,rU.down,adN]|refine Aj ?_ ?_<;>intro hb|refine fd ?_|fail)))
 refine Dk (Sr 19 l (fun i (s:Int) t h=>s=i∧h=[]∧t 0=Bj 11 false nn (l.map Ag.cells)∧t 1=.func (.func g) [] cap∧t 7=.int .i64 l.length∧t 8=.int .i64 i)
  (fun rest s=>jV p rest s) (fun r e t h=>h=[]∧((e=.exit 0∧r= -1)∨(e=.ret∧t 4=.int .i64 r))) ?_ ?_ 0 _ _ ?_) (fun e t h hk=>?_)
 ·rintro s t h Q' kQ ⟨rfl,rfl,h0,h1,h7,h8⟩
  (have hb:=trivial;with_reducible repeat' (first|simp only[hb,Va.down,seval,rU.down,h0,h1,h7,h8,adL,decide_false]|refine Aj ?_ ?_<;>intro hb|refine fd ?_|fail))
  exact kQ _ _ _ ⟨rfl,.inl ⟨rfl,rfl⟩⟩
 ·rintro x rest i s t h J Q' kJ kQ hx hi ⟨rfl,rfl,h0,h1,h7,h8⟩
  have hpx:=hp x (aiK hx)
  have hd:decide ((i:Int)<(l.length:Int))=true:=by simpa using hi
  (have hb:=trivial;with_reducible repeat' (first|simp only[hb,Va.down,seval,rU.down,h0,h1,h7,h8,hd,hx,Ag.cells,hc,hc7,hpx,Ak hi hl]|refine Aj ?_ ?_<;>intro hb|refine fd ?_|fail))
  ·exact kQ _ _ _ ⟨rfl,.inr ⟨rfl,by simp[up,jV,hb]⟩⟩
  ·exact Aq (kJ _ _ (i+1) ⟨by simp,rfl,by simp[up,h0],by simp[up,h1],by simp[up,h7],by simp[up]⟩ (by simp[jV,hb]))
 ·exact⟨rfl,rfl,by simp[up,Dn],by simp[up,Dn],by simp[up],by simp[up]⟩
 ·obtain⟨rfl,⟨rfl,hi⟩|⟨rfl,hi⟩⟩:=hk
  ·(have hb:=trivial;with_reducible repeat' (first|simp only[hb,Va.down,seval,rU.down]|refine Aj ?_ ?_<;>intro hb|refine fd ?_|fail))
   rw[hi]
  ·(have hb:=trivial;with_reducible repeat' (first|simp only[hb,Va.down,seval,rU.down,hi]|refine Aj ?_ ?_<;>intro hb|refine fd ?_|fail))
theorem aaY{l:List Ag}{nn:Bool}{g:Nat}{cap:List AV}{p:Ag→Bool}(hc:cap.all (Az 8)=true)(hc7:cap.all (Az 7)=true)(hp:∀x∈l,Bo.call (.fn g) (.agg [.bool x.firm,.int .i64 x.space,.int .i64 x.lo,.int .i64 x.hi,Bj 3 true x.nn (x.rates.map Bh.cells),.int .i64 x.gas,.int .i64 x.fixed,.int .i64 x.inn,.int .i64 x.out,.int .i64 x.cut,.int .i64 x.lack]::cap) []=some (.ret (.bool (p x)),[]))(hl:l.length≤maxLen):
 Bo.call (.fn 82) [Bj 11 false nn (l.map Ag.cells),.func (.func g) [] cap] []=some (.ret (.bool (l.any p)),[]):=by
 (refine ce Tryz.func82 ?_;simp only[Tryz.f82];(have hb:=trivial;with_reducible repeat' (first|simp only[hb,Va.down,seval,agN hc hc7 hp hl,hc,hc7,Zu p l 0 (adO 0)]|refine Aj ?_ ?_<;>intro hb|refine fd ?_|fail)))
theorem ahB{l:List Int}{nn:Bool}(hl:l.length≤maxLen):Bo.call (.fn 118) [Bj 1 true nn (l.map iv)] []=some (.ret (.bool (l.all fun x=>Gg x 0 10000)),[]):=by
 have h:=oW (l:=l) (nn:=nn) (g:=136) (cap:=[]) (p:=fun x=> !Gg x 0 10000) rfl rfl (fun x _=>abN x) hl
 (refine ce Tryz.func118 ?_;simp only[Tryz.f118];(have hb:=trivial;with_reducible repeat' (first|simp only[hb,Va.down,seval,h]|refine Aj ?_ ?_<;>intro hb|refine fd ?_|fail)))
 simp[ai4]
theorem xX{l:List Int}{nn:Bool}(hl:l.length≤maxLen):Bo.call (.fn 52) [Bj 1 true nn (l.map iv)] []=some (.ret (.bool (l.all fun x=>Gg x 0 800000000)),[]):=by
 have h:=oW (l:=l) (nn:=nn) (g:=93) (cap:=[]) (p:=fun x=> !Gg x 0 800000000) rfl rfl (fun x _=>aiG x) hl
 (refine ce Tryz.func52 ?_;simp only[Tryz.f52];(have hb:=trivial;with_reducible repeat' (first|simp only[hb,Va.down,seval,h]|refine Aj ?_ ?_<;>intro hb|refine fd ?_|fail)))
 simp[ai4]
def Rm(p:Option Bh)(r:Bh):Bool:=Gg r.fill 0 1000&&Gg r.inn 0 100000000&&Gg r.out 0 100000000&&(match p with|none=>decide (r.fill=0)|some q=>decide (q.fill<r.fill)&&decide (r.inn≤q.inn)&&decide (q.out≤r.out))
def It:List Bh→Option Bh→Bool
 | [],_=>true
 |r::rest,p=>Rm p r&&It rest (some r)
def Hj(c:Ag):Bool:=It c.rates none&&Gg c.space 1 100000000&&eB c.lo c.hi&&Gg c.rates.length 1 6&&Gg c.gas 0 c.space&&[c.fixed,c.inn,c.out,c.cut,c.lack].all fun x=>Gg x 0 10000
theorem Bv{h:Aa}{b:Nat}{c:CB}(h0:h[b]?=some c)(l:Aa):(h++l)[b]?=some c:=by
 rw[List.getElem?_append_left (adP.1 h0).1];exact h0
theorem xF(c:Ag)(hl:c.rates.length≤maxLen):Bo.call (.fn 84) [.agg [.bool c.firm,.int .i64 c.space,.int .i64 c.lo,.int .i64 c.hi,Bj 3 true c.nn (c.rates.map Bh.cells),.int .i64 c.gas,.int .i64 c.fixed,.int .i64 c.inn,.int .i64 c.out,.int .i64 c.cut,.int .i64 c.lack]] []=some (.ret (.bool (Hj c)),[]):=by
 have hpr:=ahB (l:=[c.fixed,c.inn,c.out,c.cut,c.lack]) (nn:=true) (by simp[maxLen])
 simp only[List.map_cons,List.map_nil,iv,mC]at hpr
 (refine ce Tryz.func84 ?_;simp only[Tryz.f84];(have hb:=trivial;with_reducible repeat' (first|simp only[hb,Va.down,seval,abU.down,adN]|refine Aj ?_ ?_<;>intro hb|refine fd ?_|fail)))
 refine Dk (Sr 112 c.rates (fun i (s:Option Bh) t h=>(i=0∧s=none∨0<i∧s=c.rates[i-1]?)∧h[0]?=some (.live 11 false false [[.bool c.firm,.int .i64 c.space,.int .i64 c.lo,.int .i64 c.hi,Bj 3 true c.nn (c.rates.map Bh.cells),.int .i64 c.gas,.int .i64 c.fixed,.int .i64 c.inn,.int .i64 c.out,.int .i64 c.cut,.int .i64 c.lack]])∧t 1=.ptr 0 0 0∧t 6=Bj 3 true c.nn (c.rates.map Bh.cells)∧t 7=.int .i64 c.rates.length∧t 8=.int .i64 i)
  (fun rest s=>It rest s) (fun r e t h=>if r=true then e=.exit 0∧t 1=.ptr 0 0 0∧h[0]?=some (.live 11 false false [[.bool c.firm,.int .i64 c.space,.int .i64 c.lo,.int .i64 c.hi,Bj 3 true c.nn (c.rates.map Bh.cells),.int .i64 c.gas,.int .i64 c.fixed,.int .i64 c.inn,.int .i64 c.out,.int .i64 c.cut,.int .i64 c.lack]])else e=.ret∧t 2=.bool false) ?_ ?_ none _ _ ?_) (fun e t h hk=>?_)
 ·rintro s t h Q' kQ ⟨hs,hh,h1,h6,h7,h8⟩
  (have hb:=trivial;with_reducible repeat' (first|simp only[hb,Va.down,seval,abU.down,h1,h6,h7,h8,adL,decide_false]|refine Aj ?_ ?_<;>intro hb|refine fd ?_|fail))
  exact kQ _ _ _ (by simp[It,h1,hh,up])
 ·rintro x rest i s t h J Q' kJ kQ hx hi ⟨hs,hh,h1,h6,h7,h8⟩
  have hd:decide ((i:Int)<(c.rates.length:Int))=true:=by simpa using hi
  have hA:=Bv hh
  have kF:∀{p:Option Bh},Rm p x=false→It (x::rest) p=false:=fun h=>by simp[It,h]
  have kT:∀{p:Option Bh},Rm p x=true→It rest (some x)=It (x::rest) p:=fun h=>by simp[It,h]
  rcases hs with⟨rfl,rfl⟩|⟨hpos,rfl⟩
  ·have hw:=Ak hi hl
   simp only[Int.natCast_zero,Int.zero_add]at hd h8 hw
   (have hb:=trivial;with_reducible repeat' (first|simp only[hb,Va.down,seval,abU.down,hA,h1,h6,h7,h8,hd,hx,Bh.cells,mP,hw,Int.toNat_zero,adO,beq_self_eq_true,adL,decide_false]|refine Aj ?_ ?_<;>intro hb|refine fd ?_|fail))
   all_goals first
    |exact kQ _ _ _ (by rw[if_neg (by rw[kF (by(rw[ajQ];intro hcon;simp only[Rm,Gg,ab1,acM,acT,acZ,adA,decide_eq_true_eq,decide_eq_false_iff_not,beq_iff_eq,beq_eq_false_iff_ne,ne_eq,adM,adF,adI]at *;omega))];simp)];exact⟨rfl,rfl⟩)
    |exact Aq (kJ _ _ (some x) ⟨.inr ⟨by omega,by simp[hx]⟩,hA _,by simp[up,h1],by simp[up,h6],by simp[up,h7],by simp[up]<;>omega⟩ (kT (by(simp only[Rm,Gg,ab1,acM,acT,acZ,adA,decide_eq_true_eq,decide_eq_false_iff_not,beq_iff_eq,beq_eq_false_iff_ne,ne_eq,adM,adF,adI]at *;omega))))
  ·obtain⟨j,rfl⟩:∃j,i=j+1:=⟨i-1,by omega⟩
   obtain⟨q,hq⟩:∃q,c.rates[j]?=some q:=⟨c.rates[j],List.getElem?_eq_getElem (by omega)⟩
   have hj:IntKind.i64.wrap (((j+1:Nat):Int)-1)=(j:Int):=by unfold maxLen at hl;rw[Ae (by omega) (by omega)];omega
   have hz:(((j+1:Nat):Int)==0)=false:=by rw[beq_eq_false_iff_ne];omega
   have hg:decide (0<((j+1:Nat):Int))=true:=by rw[decide_eq_true_eq];omega
   simp only[Nat.add_sub_cancel,hq]at kJ kQ
   (have hb:=trivial;with_reducible repeat' (first|simp only[hb,Va.down,seval,abU.down,hA,h1,h6,h7,h8,hd,hx,Bh.cells,mP,Ak hi hl,hj,hz,hg,hq]|refine Aj ?_ ?_<;>intro hb|refine fd ?_|fail))
   all_goals first
    |exact kQ _ _ _ (by rw[if_neg (by rw[kF (by(rw[ajQ];intro hcon;simp only[Rm,Gg,ab1,acM,acT,acZ,adA,decide_eq_true_eq,decide_eq_false_iff_not,beq_iff_eq,beq_eq_false_iff_ne,ne_eq,adM,adF,adI]at *;omega))];simp)];exact⟨rfl,rfl⟩)
    |exact Aq (kJ _ _ (some x) ⟨.inr ⟨by omega,by simp[hx]⟩,hA _,by simp[up,h1],by simp[up,h6],by simp[up,h7],by simp[up]<;>omega⟩ (kT (by(simp only[Rm,Gg,ab1,acM,acT,acZ,adA,decide_eq_true_eq,decide_eq_false_iff_not,beq_iff_eq,beq_eq_false_iff_ne,ne_eq,adM,adF,adI]at *;omega))))
 ·exact⟨.inl ⟨rfl,rfl⟩,rfl,by simp[up],by simp[up],by simp[up],by simp[up]⟩
 ·split at hk
  ·obtain⟨rfl,h1,hh⟩:=hk
   have hA:=Bv hh
   rename_i hr
   (have hb:=trivial;with_reducible repeat' (first|simp only[hb,Va.down,seval,abU.down,hA,hh,h1,mP,alY,hpr]|refine Aj ?_ ?_<;>intro hb|refine fd ?_|fail))
   all_goals simp[Hj, *]
  ·obtain⟨rfl,h2⟩:=hk
   rename_i hr
   (have hb:=trivial;with_reducible repeat' (first|simp only[hb,Va.down,seval,abU.down,h2]|refine Aj ?_ ?_<;>intro hb|refine fd ?_|fail))
   all_goals simp[Hj,hr]
end Go.Proofs.YtdbiogihimdpcaaGreatDoor
