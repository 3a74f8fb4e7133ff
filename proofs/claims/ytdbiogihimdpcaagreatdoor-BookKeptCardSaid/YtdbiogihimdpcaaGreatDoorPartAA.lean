/- The functions of the layer, walked. -/
import Derived.Test.YtdbiogihimdpcaaGreatDoorLibD
import Derived.Test.YtdbiogihimdpcaaGreatDoorChecked
import Derived.Test.YtdbiogihimdpcaaGreatDoorLibE
import Derived.Test.YtdbiogihimdpcaaGreatDoorRows
import Derived.Test.YtdbiogihimdpcaaGreatDoorTie
import Derived.Test.YtdbiogihimdpcaaGreatDoorCards
import Derived.Test.YtdbiogihimdpcaaGreatDoorShelf
import Derived.ProofKit
import Derived.LaidMore
import Derived.OpenShut
import Derived.Stop.Joined
open And renaming intro→aaF
open List renaming mem_append_right→aaR,mem_append_left→aaV,mem_append→ac4,length_map→aeO,getElem?_eq_some_iff→ai5,mem_of_getElem?→ai6,all_eq_not_any_not→ai7
open Bool renaming and_eq_true→abL,or_eq_true→abT,not_eq_true'→acK,and_eq_false_iff→acY,or_eq_false_iff→acZ,not_true→ac2,not_false→ac3,not_eq_eq_eq_not→aeG,eq_false_iff→ai8
open Nat renaming ble→ac5
open Int renaming lt_irrefl→adA,le_refl→aiT
set_option linter.unusedSimpArgs false
set_option linter.unusedVariables false
namespace Go.Proofs.YtdbiogihimdpcaaGreatDoor
open Go.Ev
set_option maxRecDepth 100000
theorem Fo(b r o:Nat):fa Tryz.prog 24 (some (.ptr b r o)) 5=some (.ret (.ptr b r (o+5)),[]):=Bf (show Bm Tryz.prog 24 5 5 1 from⟨_,_,Tryz.underlying24,rfl,rfl,by kernel_rfl,by decide⟩) b r o
theorem Gw(h:Aa)(b r o:Nat):ld Tryz.prog 22 h (some (.ptr b r o))=ldC (Me (h[b]?) r) o:=Zs ⟨by kernel_rfl,1,by kernel_rfl⟩ h b r o
theorem acT(b r o:Nat):pU Tryz.prog 22 (some (.ptr b r o))=some [.cells b o 1]:=Kw (isA:=false) (n:=1) (by kernel_rfl) (by kernel_rfl) b r o
theorem dU(st b r len:Nat):ln Tryz.prog 25 (some (.slr st b r len))=some (.ret (.int .i64 len),[]):=vO (n:=1) ⟨_,Tryz.underlying25,by kernel_rfl⟩ st b r len
theorem mR:ln Tryz.prog 25 (some .nils)=some (.ret (.int .i64 0),[]):=hU (n:=1) ⟨_,Tryz.underlying25,by kernel_rfl⟩
theorem Qn(fl nn:Bool)(rows:List (List AV)):ln Tryz.prog 25 (some (Bj 1 fl nn rows))=some (.ret (.int .i64 rows.length),[]):=dT ⟨_,Tryz.underlying25,by kernel_rfl⟩ fl nn rows
theorem Jk(h:Aa)(b r o:Nat):ld Tryz.prog 24 h (some (.ptr b r o))=zX (Me (h[b]?) r) o 6:=Zm ⟨by kernel_rfl,by kernel_rfl⟩ h b r o
theorem ab2(b r o:Nat):pU Tryz.prog 24 (some (.ptr b r o))=some [.cells b o 6]:=Kw (isA:=true) (n:=6) (by kernel_rfl) (by kernel_rfl) b r o
theorem Jv(b r len:Nat)(k:IntKind)(i:Int):ia Tryz.prog 25 (some (.slr 1 b r len)) (some (.int k i))=if 0≤i∧i<len then some (.ret (.ptr b (r+i.toNat) 0),[])else none:=vA ⟨_,Tryz.underlying25,by kernel_rfl⟩ b r len k i
theorem Ov(fl nn:Bool)(rows:List (List AV))(k:IntKind)(i:Int):ia Tryz.prog 25 (some (Bj 1 fl nn rows)) (some (.int k i))=if 0≤i then r1 ((rows[i.toNat]?).map .iptr)else none:=dE ⟨_,Tryz.underlying25,by kernel_rfl⟩ fl nn rows k i
theorem Aw(h:Aa)(b r o:Nat):ld Tryz.prog 3 h (some (.ptr b r o))=ldC (Me (h[b]?) r) o:=Zs ⟨by kernel_rfl,1,by kernel_rfl⟩ h b r o
theorem Em(h:Aa)(c:AV)(cs:List AV):ld Tryz.prog 3 h (some (.iptr (c::cs)))=some (.ret c,[]):=ah7 ⟨by kernel_rfl,1,by kernel_rfl⟩ h c cs
theorem bK(b r o:Nat):pU Tryz.prog 3 (some (.ptr b r o))=some [.cells b o 1]:=Kw (isA:=false) (n:=1) (by kernel_rfl) (by kernel_rfl) b r o
theorem Hk(fl nn:Bool)(rows:List (List AV))(k:IntKind)(i:Int):ia Tryz.prog 22 (some (Bj 11 fl nn rows)) (some (.int k i))=if 0≤i then r1 ((rows[i.toNat]?).map .iptr)else none:=dE ⟨_,Tryz.underlying22,by kernel_rfl⟩ fl nn rows k i
theorem fV(b r o:Nat):fa Tryz.prog 42 (some (.ptr b r o)) 0=some (.ret (.ptr b r (o+0)),[]):=Bf (show Bm Tryz.prog 42 0 0 1 from⟨_,_,Tryz.underlying42,rfl,rfl,by kernel_rfl,by decide⟩) b r o
theorem Xj(cs:List AV):fa Tryz.prog 42 (some (.iptr cs)) 0=if 0+1≤cs.length then some (.ret (.iptr (cs.drop 0)),[])else none:=Ny (show Bm Tryz.prog 42 0 0 1 from⟨_,_,Tryz.underlying42,rfl,rfl,by kernel_rfl,by decide⟩) cs
theorem mK(h:Aa)(b r o:Nat):ld Tryz.prog 4 h (some (.ptr b r o))=ldC (Me (h[b]?) r) o:=Zs ⟨by kernel_rfl,1,by kernel_rfl⟩ h b r o
theorem dJ(h:Aa)(c:AV)(cs:List AV):ld Tryz.prog 4 h (some (.iptr (c::cs)))=some (.ret c,[]):=ah7 ⟨by kernel_rfl,1,by kernel_rfl⟩ h c cs
theorem aN(h:Aa)(b r o:Nat):ld Tryz.prog 48 h (some (.ptr b r o))=zX (Me (h[b]?) r) o 3:=Zm ⟨by kernel_rfl,by kernel_rfl⟩ h b r o
theorem Lp(b r o:Nat):fa Tryz.prog 48 (some (.ptr b r o)) 0=some (.ret (.ptr b r (o+0)),[]):=Bf (show Bm Tryz.prog 48 0 0 1 from⟨_,_,Tryz.underlying48,rfl,rfl,by kernel_rfl,by decide⟩) b r o
theorem Ou(h:Aa)(b r o:Nat):ld Tryz.prog 44 h (some (.ptr b r o))=ldC (Me (h[b]?) r) o:=Zs ⟨by kernel_rfl,1,by kernel_rfl⟩ h b r o
theorem Qm(fl nn:Bool)(rows:List (List AV)):ln Tryz.prog 44 (some (Bj 4 fl nn rows))=some (.ret (.int .i64 rows.length),[]):=dT ⟨_,Tryz.underlying44,by kernel_rfl⟩ fl nn rows
theorem Gs(fl nn:Bool)(rows:List (List AV)):ln Tryz.prog 22 (some (Bj 11 fl nn rows))=some (.ret (.int .i64 rows.length),[]):=dT ⟨_,Tryz.underlying22,by kernel_rfl⟩ fl nn rows
theorem cM:Jw Tryz.prog 52=some (.agg [.int .i64 0,.nils,.int .i64 0,.int .i64 0,.nils,.nils]):=by kernel_rfl
theorem bB(h:Aa)(b r o:Nat)(v:AV):uO Tryz.prog 52 h (some (.ptr b r o)) (some v)=sv 6 (h[b]?) b r o (acells v):=Pv (by kernel_rfl) h b r o v
theorem aaJ(b r o:Nat):ftS Tryz.prog 52 (some (.ptr b r o))=some [.cells b o 6]:=Zg (by kernel_rfl) b r o
theorem nX(st b r len:Nat):ln Tryz.prog 53 (some (.slr st b r len))=some (.ret (.int .i64 len),[]):=vO (n:=4) ⟨_,Tryz.underlying53,by kernel_rfl⟩ st b r len
theorem aaE:ln Tryz.prog 53 (some .nils)=some (.ret (.int .i64 0),[]):=hU (n:=4) ⟨_,Tryz.underlying53,by kernel_rfl⟩
theorem Jn(b r o:Nat):fa Tryz.prog 52 (some (.ptr b r o)) 1=some (.ret (.ptr b r (o+1)),[]):=Bf (show Bm Tryz.prog 52 1 1 1 from⟨_,_,Tryz.underlying52,rfl,rfl,by kernel_rfl,by decide⟩) b r o
theorem Ei(h:Aa)(b r o:Nat):ld Tryz.prog 25 h (some (.ptr b r o))=ldC (Me (h[b]?) r) o:=Zs ⟨by kernel_rfl,1,by kernel_rfl⟩ h b r o
theorem dR(b r o:Nat):pU Tryz.prog 25 (some (.ptr b r o))=some [.cells b o 1]:=Kw (isA:=false) (n:=1) (by kernel_rfl) (by kernel_rfl) b r o
theorem Tv(b r o:Nat):fa Tryz.prog 52 (some (.ptr b r o)) 4=some (.ret (.ptr b r (o+4)),[]):=Bf (show Bm Tryz.prog 52 4 4 1 from⟨_,_,Tryz.underlying52,rfl,rfl,by kernel_rfl,by decide⟩) b r o
theorem sN(b r o:Nat):fa Tryz.prog 52 (some (.ptr b r o)) 2=some (.ret (.ptr b r (o+2)),[]):=Bf (show Bm Tryz.prog 52 2 2 1 from⟨_,_,Tryz.underlying52,rfl,rfl,by kernel_rfl,by decide⟩) b r o
theorem qO(b r o:Nat):fa Tryz.prog 52 (some (.ptr b r o)) 3=some (.ret (.ptr b r (o+3)),[]):=Bf (show Bm Tryz.prog 52 3 3 1 from⟨_,_,Tryz.underlying52,rfl,rfl,by kernel_rfl,by decide⟩) b r o
theorem Yf(b r o:Nat):fa Tryz.prog 42 (some (.ptr b r o)) 4=some (.ret (.ptr b r (o+5)),[]):=Bf (show Bm Tryz.prog 42 4 5 1 from⟨_,_,Tryz.underlying42,rfl,rfl,by kernel_rfl,by decide⟩) b r o
theorem aaU(b r len:Nat)(k:IntKind)(i:Int):ia Tryz.prog 53 (some (.slr 4 b r len)) (some (.int k i))=if 0≤i∧i<len then some (.ret (.ptr b (r+i.toNat) 0),[])else none:=vA ⟨_,Tryz.underlying53,by kernel_rfl⟩ b r len k i
theorem Td(b r o:Nat):fa Tryz.prog 57 (some (.ptr b r o)) 0=some (.ret (.ptr b r (o+0)),[]):=Bf (show Bm Tryz.prog 57 0 0 1 from⟨_,_,Tryz.underlying57,rfl,rfl,by kernel_rfl,by decide⟩) b r o
theorem Tc(b r o:Nat):fa Tryz.prog 57 (some (.ptr b r o)) 1=some (.ret (.ptr b r (o+1)),[]):=Bf (show Bm Tryz.prog 57 1 1 1 from⟨_,_,Tryz.underlying57,rfl,rfl,by kernel_rfl,by decide⟩) b r o
theorem Xq(b r o:Nat):fa Tryz.prog 57 (some (.ptr b r o)) 2=some (.ret (.ptr b r (o+2)),[]):=Bf (show Bm Tryz.prog 57 2 2 1 from⟨_,_,Tryz.underlying57,rfl,rfl,by kernel_rfl,by decide⟩) b r o
theorem Zi(fl nn:Bool)(rows:List (List AV))(k:IntKind)(i:Int):ia Tryz.prog 44 (some (Bj 4 fl nn rows)) (some (.int k i))=if 0≤i then r1 ((rows[i.toNat]?).map .iptr)else none:=dE ⟨_,Tryz.underlying44,by kernel_rfl⟩ fl nn rows k i
theorem Yj(b r o:Nat):fa Tryz.prog 59 (some (.ptr b r o)) 2=some (.ret (.ptr b r (o+2)),[]):=Bf (show Bm Tryz.prog 59 2 2 1 from⟨_,_,Tryz.underlying59,rfl,rfl,by kernel_rfl,by decide⟩) b r o
theorem Xm(b r o:Nat):fa Tryz.prog 59 (some (.ptr b r o)) 3=some (.ret (.ptr b r (o+3)),[]):=Bf (show Bm Tryz.prog 59 3 3 1 from⟨_,_,Tryz.underlying59,rfl,rfl,by kernel_rfl,by decide⟩) b r o
theorem Rb(h:Aa)(b r o:Nat):ld Tryz.prog 42 h (some (.ptr b r o))=zX (Me (h[b]?) r) o 11:=Zm ⟨by kernel_rfl,by kernel_rfl⟩ h b r o
theorem Lc(h:Aa)(cs:List AV):ld Tryz.prog 42 h (some (.iptr cs))=if 11≤cs.length then some (.ret (.agg (cs.take 11)),[])else none:=tJ ⟨by kernel_rfl,by kernel_rfl⟩ h cs
theorem abQ(b r o:Nat):pU Tryz.prog 42 (some (.ptr b r o))=some [.cells b o 11]:=Kw (isA:=true) (n:=11) (by kernel_rfl) (by kernel_rfl) b r o
theorem Ux:Jw Tryz.prog 42=some (.agg [.bool false,.int .i64 0,.int .i64 0,.int .i64 0,.nils,.int .i64 0,.int .i64 0,.int .i64 0,.int .i64 0,.int .i64 0,.int .i64 0]):=by kernel_rfl
theorem Up(h:Aa)(b r o:Nat)(v:AV):uO Tryz.prog 42 h (some (.ptr b r o)) (some v)=sv 11 (h[b]?) b r o (acells v):=Pv (by kernel_rfl) h b r o v
theorem Rr(b r o:Nat):fa Tryz.prog 42 (some (.ptr b r o)) 2=some (.ret (.ptr b r (o+2)),[]):=Bf (show Bm Tryz.prog 42 2 2 2 from⟨_,_,Tryz.underlying42,rfl,rfl,by kernel_rfl,by decide⟩) b r o
theorem Sr(b r o:Nat):fa Tryz.prog 39 (some (.ptr b r o)) 0=some (.ret (.ptr b r (o+0)),[]):=Bf (show Bm Tryz.prog 39 0 0 1 from⟨_,_,Tryz.underlying39,rfl,rfl,by kernel_rfl,by decide⟩) b r o
theorem To(b r o:Nat):fa Tryz.prog 39 (some (.ptr b r o)) 1=some (.ret (.ptr b r (o+1)),[]):=Bf (show Bm Tryz.prog 39 1 1 1 from⟨_,_,Tryz.underlying39,rfl,rfl,by kernel_rfl,by decide⟩) b r o
theorem Ya(b r o:Nat):fa Tryz.prog 42 (some (.ptr b r o)) 5=some (.ret (.ptr b r (o+6)),[]):=Bf (show Bm Tryz.prog 42 5 6 1 from⟨_,_,Tryz.underlying42,rfl,rfl,by kernel_rfl,by decide⟩) b r o
theorem Xw(b r o:Nat):fa Tryz.prog 42 (some (.ptr b r o)) 6=some (.ret (.ptr b r (o+7)),[]):=Bf (show Bm Tryz.prog 42 6 7 1 from⟨_,_,Tryz.underlying42,rfl,rfl,by kernel_rfl,by decide⟩) b r o
theorem Ye(b r o:Nat):fa Tryz.prog 42 (some (.ptr b r o)) 7=some (.ret (.ptr b r (o+8)),[]):=Bf (show Bm Tryz.prog 42 7 8 1 from⟨_,_,Tryz.underlying42,rfl,rfl,by kernel_rfl,by decide⟩) b r o
theorem Xu(b r o:Nat):fa Tryz.prog 42 (some (.ptr b r o)) 8=some (.ret (.ptr b r (o+9)),[]):=Bf (show Bm Tryz.prog 42 8 9 1 from⟨_,_,Tryz.underlying42,rfl,rfl,by kernel_rfl,by decide⟩) b r o
theorem Xo(b r o:Nat):fa Tryz.prog 59 (some (.ptr b r o)) 0=some (.ret (.ptr b r (o+0)),[]):=Bf (show Bm Tryz.prog 59 0 0 1 from⟨_,_,Tryz.underlying59,rfl,rfl,by kernel_rfl,by decide⟩) b r o
theorem uH(cs:List AV):fa Tryz.prog 59 (some (.iptr cs)) 0=if 0+1≤cs.length then some (.ret (.iptr (cs.drop 0)),[])else none:=Ny (show Bm Tryz.prog 59 0 0 1 from⟨_,_,Tryz.underlying59,rfl,rfl,by kernel_rfl,by decide⟩) cs
theorem Ph(b r o:Nat):fa Tryz.prog 24 (some (.ptr b r o)) 1=some (.ret (.ptr b r (o+1)),[]):=Bf (show Bm Tryz.prog 24 1 1 1 from⟨_,_,Tryz.underlying24,rfl,rfl,by kernel_rfl,by decide⟩) b r o
theorem Xh(b r o:Nat):fa Tryz.prog 59 (some (.ptr b r o)) 1=some (.ret (.ptr b r (o+1)),[]):=Bf (show Bm Tryz.prog 59 1 1 1 from⟨_,_,Tryz.underlying59,rfl,rfl,by kernel_rfl,by decide⟩) b r o
theorem sK(cs:List AV):fa Tryz.prog 59 (some (.iptr cs)) 1=if 1+1≤cs.length then some (.ret (.iptr (cs.drop 1)),[])else none:=Ny (show Bm Tryz.prog 59 1 1 1 from⟨_,_,Tryz.underlying59,rfl,rfl,by kernel_rfl,by decide⟩) cs
theorem Pj(b r o:Nat):fa Tryz.prog 24 (some (.ptr b r o)) 2=some (.ret (.ptr b r (o+2)),[]):=Bf (show Bm Tryz.prog 24 2 2 1 from⟨_,_,Tryz.underlying24,rfl,rfl,by kernel_rfl,by decide⟩) b r o
theorem Uc(b r o:Nat):fa Tryz.prog 48 (some (.ptr b r o)) 1=some (.ret (.ptr b r (o+1)),[]):=Bf (show Bm Tryz.prog 48 1 1 1 from⟨_,_,Tryz.underlying48,rfl,rfl,by kernel_rfl,by decide⟩) b r o
theorem Wp(h:Aa)(b r o:Nat):ld Tryz.prog 45 h (some (.ptr b r o))=ldC (Me (h[b]?) r) o:=Zs ⟨by kernel_rfl,1,by kernel_rfl⟩ h b r o
theorem acD(b r o:Nat):pU Tryz.prog 45 (some (.ptr b r o))=some [.cells b o 1]:=Kw (isA:=false) (n:=1) (by kernel_rfl) (by kernel_rfl) b r o
theorem Qp(fl nn:Bool)(rows:List (List AV)):ln Tryz.prog 45 (some (Bj 4 fl nn rows))=some (.ret (.int .i64 rows.length),[]):=dT ⟨_,Tryz.underlying45,by kernel_rfl⟩ fl nn rows
theorem aM(h:Aa)(cs:List AV):ld Tryz.prog 62 h (some (.iptr cs))=if 4≤cs.length then some (.ret (.agg (cs.take 4)),[])else none:=tJ ⟨by kernel_rfl,by kernel_rfl⟩ h cs
theorem Yw(b r o:Nat):fa Tryz.prog 62 (some (.ptr b r o)) 2=some (.ret (.ptr b r (o+2)),[]):=Bf (show Bm Tryz.prog 62 2 2 1 from⟨_,_,Tryz.underlying62,rfl,rfl,by kernel_rfl,by decide⟩) b r o
theorem qT(cs:List AV):fa Tryz.prog 62 (some (.iptr cs)) 2=if 2+1≤cs.length then some (.ret (.iptr (cs.drop 2)),[])else none:=Ny (show Bm Tryz.prog 62 2 2 1 from⟨_,_,Tryz.underlying62,rfl,rfl,by kernel_rfl,by decide⟩) cs
theorem Xr(b r o:Nat):fa Tryz.prog 24 (some (.ptr b r o)) 3=some (.ret (.ptr b r (o+3)),[]):=Bf (show Bm Tryz.prog 24 3 3 1 from⟨_,_,Tryz.underlying24,rfl,rfl,by kernel_rfl,by decide⟩) b r o
theorem Xe(b r o:Nat):fa Tryz.prog 62 (some (.ptr b r o)) 1=some (.ret (.ptr b r (o+1)),[]):=Bf (show Bm Tryz.prog 62 1 1 1 from⟨_,_,Tryz.underlying62,rfl,rfl,by kernel_rfl,by decide⟩) b r o
theorem adH:Jw Tryz.prog 62=some (.agg [.int .i64 0,.int .i64 0,.int .i64 0,.int .i64 0]):=by kernel_rfl
theorem aK(h:Aa)(b r o:Nat):ld Tryz.prog 52 h (some (.ptr b r o))=zX (Me (h[b]?) r) o 6:=Zm ⟨by kernel_rfl,by kernel_rfl⟩ h b r o
theorem ab9(b r o:Nat):pU Tryz.prog 52 (some (.ptr b r o))=some [.cells b o 6]:=Kw (isA:=true) (n:=6) (by kernel_rfl) (by kernel_rfl) b r o
theorem iO(h:Aa)(b r o:Nat):ld Tryz.prog 57 h (some (.ptr b r o))=zX (Me (h[b]?) r) o 4:=Zm ⟨by kernel_rfl,by kernel_rfl⟩ h b r o
theorem abY(b r o:Nat):pU Tryz.prog 57 (some (.ptr b r o))=some [.cells b o 4]:=Kw (isA:=true) (n:=4) (by kernel_rfl) (by kernel_rfl) b r o
theorem jT(h:Aa)(b r o:Nat):ld Tryz.prog 39 h (some (.ptr b r o))=zX (Me (h[b]?) r) o 2:=Zm ⟨by kernel_rfl,by kernel_rfl⟩ h b r o
theorem qK:Jw Tryz.prog 69=some (.agg [.int .i64 0,.int .i64 0,.int .i64 0]):=by kernel_rfl
theorem rZ(h:Aa)(b r o:Nat)(v:AV):uO Tryz.prog 69 h (some (.ptr b r o)) (some v)=sv 3 (h[b]?) b r o (acells v):=Pv (by kernel_rfl) h b r o v
theorem wM(h:Aa)(b r o:Nat):ld Tryz.prog 69 h (some (.ptr b r o))=zX (Me (h[b]?) r) o 3:=Zm ⟨by kernel_rfl,by kernel_rfl⟩ h b r o
theorem Yc(b r o:Nat):fa Tryz.prog 52 (some (.ptr b r o)) 5=some (.ret (.ptr b r (o+5)),[]):=Bf (show Bm Tryz.prog 52 5 5 1 from⟨_,_,Tryz.underlying52,rfl,rfl,by kernel_rfl,by decide⟩) b r o
theorem Of(h:Aa)(b r o:Nat):ld Tryz.prog 46 h (some (.ptr b r o))=ldC (Me (h[b]?) r) o:=Zs ⟨by kernel_rfl,1,by kernel_rfl⟩ h b r o
theorem mZ(b r o:Nat):pU Tryz.prog 46 (some (.ptr b r o))=some [.cells b o 1]:=Kw (isA:=false) (n:=1) (by kernel_rfl) (by kernel_rfl) b r o
theorem mL(st b r len:Nat):ln Tryz.prog 46 (some (.slr st b r len))=some (.ret (.int .i64 len),[]):=vO (n:=5) ⟨_,Tryz.underlying46,by kernel_rfl⟩ st b r len
theorem mM:ln Tryz.prog 46 (some .nils)=some (.ret (.int .i64 0),[]):=hU (n:=5) ⟨_,Tryz.underlying46,by kernel_rfl⟩
theorem Ut(fl nn:Bool)(rows:List (List AV)):ln Tryz.prog 46 (some (Bj 5 fl nn rows))=some (.ret (.int .i64 rows.length),[]):=dT ⟨_,Tryz.underlying46,by kernel_rfl⟩ fl nn rows
theorem sA:Jw Tryz.prog 57=some (.agg [.nils,.nils,.nils,.nils]):=by kernel_rfl
theorem sT(h:Aa)(b r o:Nat)(v:AV):uO Tryz.prog 57 h (some (.ptr b r o)) (some v)=sv 4 (h[b]?) b r o (acells v):=Pv (by kernel_rfl) h b r o v
theorem aa0(b r o:Nat):ftS Tryz.prog 57 (some (.ptr b r o))=some [.cells b o 4]:=Zg (by kernel_rfl) b r o
theorem Lx(b r o:Nat):fa Tryz.prog 52 (some (.ptr b r o)) 0=some (.ret (.ptr b r (o+0)),[]):=Bf (show Bm Tryz.prog 52 0 0 1 from⟨_,_,Tryz.underlying52,rfl,rfl,by kernel_rfl,by decide⟩) b r o
theorem vX(h:Aa)(b r o:Nat):ld Tryz.prog 59 h (some (.ptr b r o))=zX (Me (h[b]?) r) o 4:=Zm ⟨by kernel_rfl,by kernel_rfl⟩ h b r o
theorem aX(h:Aa)(cs:List AV):ld Tryz.prog 59 h (some (.iptr cs))=if 4≤cs.length then some (.ret (.agg (cs.take 4)),[])else none:=tJ ⟨by kernel_rfl,by kernel_rfl⟩ h cs
theorem bM:Jw Tryz.prog 59=some (.agg [.int .i64 0,.int .i64 0,.int .i64 0,.int .i64 0]):=by kernel_rfl
theorem bN(h:Aa)(b r o:Nat)(v:AV):uO Tryz.prog 59 h (some (.ptr b r o)) (some v)=sv 4 (h[b]?) b r o (acells v):=Pv (by kernel_rfl) h b r o v
theorem Tt(b r o:Nat):fa Tryz.prog 42 (some (.ptr b r o)) 1=some (.ret (.ptr b r (o+1)),[]):=Bf (show Bm Tryz.prog 42 1 1 1 from⟨_,_,Tryz.underlying42,rfl,rfl,by kernel_rfl,by decide⟩) b r o
theorem eT(cs:List AV):fa Tryz.prog 42 (some (.iptr cs)) 1=if 1+1≤cs.length then some (.ret (.iptr (cs.drop 1)),[])else none:=Ny (show Bm Tryz.prog 42 1 1 1 from⟨_,_,Tryz.underlying42,rfl,rfl,by kernel_rfl,by decide⟩) cs
theorem Tq(b r o:Nat):fa Tryz.prog 42 (some (.ptr b r o)) 3=some (.ret (.ptr b r (o+4)),[]):=Bf (show Bm Tryz.prog 42 3 4 1 from⟨_,_,Tryz.underlying42,rfl,rfl,by kernel_rfl,by decide⟩) b r o
theorem fH(cs:List AV):fa Tryz.prog 42 (some (.iptr cs)) 3=if 4+1≤cs.length then some (.ret (.iptr (cs.drop 4)),[])else none:=Ny (show Bm Tryz.prog 42 3 4 1 from⟨_,_,Tryz.underlying42,rfl,rfl,by kernel_rfl,by decide⟩) cs
theorem Wg(h:Aa)(b r o:Nat):ld Tryz.prog 40 h (some (.ptr b r o))=ldC (Me (h[b]?) r) o:=Zs ⟨by kernel_rfl,1,by kernel_rfl⟩ h b r o
theorem jG(h:Aa)(c:AV)(cs:List AV):ld Tryz.prog 40 h (some (.iptr (c::cs)))=some (.ret c,[]):=ah7 ⟨by kernel_rfl,1,by kernel_rfl⟩ h c cs
theorem Qr(fl nn:Bool)(rows:List (List AV)):ln Tryz.prog 40 (some (Bj 3 fl nn rows))=some (.ret (.int .i64 rows.length),[]):=dT ⟨_,Tryz.underlying40,by kernel_rfl⟩ fl nn rows
theorem fW(b r o:Nat):fa Tryz.prog 69 (some (.ptr b r o)) 0=some (.ret (.ptr b r (o+0)),[]):=Bf (show Bm Tryz.prog 69 0 0 1 from⟨_,_,Tryz.underlying69,rfl,rfl,by kernel_rfl,by decide⟩) b r o
theorem Vf(fl nn:Bool)(rows:List (List AV))(k:IntKind)(i:Int):ia Tryz.prog 40 (some (Bj 3 fl nn rows)) (some (.int k i))=if 0≤i then r1 ((rows[i.toNat]?).map .iptr)else none:=dE ⟨_,Tryz.underlying40,by kernel_rfl⟩ fl nn rows k i
theorem Xd(b r o:Nat):fa Tryz.prog 94 (some (.ptr b r o)) 1=some (.ret (.ptr b r (o+1)),[]):=Bf (show Bm Tryz.prog 94 1 1 1 from⟨_,_,Tryz.underlying94,rfl,rfl,by kernel_rfl,by decide⟩) b r o
theorem Sl(cs:List AV):fa Tryz.prog 94 (some (.iptr cs)) 1=if 1+1≤cs.length then some (.ret (.iptr (cs.drop 1)),[])else none:=Ny (show Bm Tryz.prog 94 1 1 1 from⟨_,_,Tryz.underlying94,rfl,rfl,by kernel_rfl,by decide⟩) cs
theorem fY(b r o:Nat):fa Tryz.prog 69 (some (.ptr b r o)) 1=some (.ret (.ptr b r (o+1)),[]):=Bf (show Bm Tryz.prog 69 1 1 1 from⟨_,_,Tryz.underlying69,rfl,rfl,by kernel_rfl,by decide⟩) b r o
theorem Xp(b r o:Nat):fa Tryz.prog 94 (some (.ptr b r o)) 2=some (.ret (.ptr b r (o+2)),[]):=Bf (show Bm Tryz.prog 94 2 2 1 from⟨_,_,Tryz.underlying94,rfl,rfl,by kernel_rfl,by decide⟩) b r o
theorem Ru(cs:List AV):fa Tryz.prog 94 (some (.iptr cs)) 2=if 2+1≤cs.length then some (.ret (.iptr (cs.drop 2)),[])else none:=Ny (show Bm Tryz.prog 94 2 2 1 from⟨_,_,Tryz.underlying94,rfl,rfl,by kernel_rfl,by decide⟩) cs
theorem eF(b r o:Nat):fa Tryz.prog 69 (some (.ptr b r o)) 2=some (.ret (.ptr b r (o+2)),[]):=Bf (show Bm Tryz.prog 69 2 2 1 from⟨_,_,Tryz.underlying69,rfl,rfl,by kernel_rfl,by decide⟩) b r o
theorem Jp(base len:Nat)(ps:List (Nat × AV)):rD (Db Tryz.prog base 25 len ps)=bsK 1 (.int .i64 0) base len ps:=arP (e:=3) (by kernel_rfl) (by kernel_rfl) (by kernel_rfl) base len ps
theorem Ox(h:Aa)(b r o:Nat)(v:AV):uO Tryz.prog 3 h (some (.ptr b r o)) (some v)=sv 1 (h[b]?) b r o (acells v):=Pv (by kernel_rfl) h b r o v
theorem kN(b r o:Nat):ftS Tryz.prog 3 (some (.ptr b r o))=some [.cells b o 1]:=Zg (by kernel_rfl) b r o
theorem Rq(b r o:Nat):fa Tryz.prog 24 (some (.ptr b r o)) 0=some (.ret (.ptr b r (o+0)),[]):=Bf (show Bm Tryz.prog 24 0 0 1 from⟨_,_,Tryz.underlying24,rfl,rfl,by kernel_rfl,by decide⟩) b r o
theorem Xi(b r o:Nat):fa Tryz.prog 24 (some (.ptr b r o)) 4=some (.ret (.ptr b r (o+4)),[]):=Bf (show Bm Tryz.prog 24 4 4 1 from⟨_,_,Tryz.underlying24,rfl,rfl,by kernel_rfl,by decide⟩) b r o
theorem Tn(b r o:Nat):fa Tryz.prog 48 (some (.ptr b r o)) 2=some (.ret (.ptr b r (o+2)),[]):=Bf (show Bm Tryz.prog 48 2 2 1 from⟨_,_,Tryz.underlying48,rfl,rfl,by kernel_rfl,by decide⟩) b r o
theorem abH(b r len:Nat)(k:IntKind)(i:Int):ia Tryz.prog 46 (some (.slr 5 b r len)) (some (.int k i))=if 0≤i∧i<len then some (.ret (.ptr b (r+i.toNat) 0),[])else none:=vA ⟨_,Tryz.underlying46,by kernel_rfl⟩ b r len k i
theorem dI(fl nn:Bool)(rows:List (List AV))(k:IntKind)(i:Int):ia Tryz.prog 46 (some (Bj 5 fl nn rows)) (some (.int k i))=if 0≤i then r1 ((rows[i.toNat]?).map .iptr)else none:=dE ⟨_,Tryz.underlying46,by kernel_rfl⟩ fl nn rows k i
theorem Yl(h:Aa)(b r o:Nat):ld Tryz.prog 111 h (some (.ptr b r o))=zX (Me (h[b]?) r) o 5:=Zm ⟨by kernel_rfl,by kernel_rfl⟩ h b r o
theorem Xl(h:Aa)(cs:List AV):ld Tryz.prog 111 h (some (.iptr cs))=if 5≤cs.length then some (.ret (.agg (cs.take 5)),[])else none:=tJ ⟨by kernel_rfl,by kernel_rfl⟩ h cs
theorem wI(b r o:Nat):pU Tryz.prog 111 (some (.ptr b r o))=some [.cells b o 5]:=Kw (isA:=true) (n:=5) (by kernel_rfl) (by kernel_rfl) b r o
theorem aaP(base len:Nat)(ps:List (Nat × AV)):rD (Db Tryz.prog base 53 len ps)=bsK 4 (.agg [.nils,.nils,.nils,.nils]) base len ps:=arP (e:=57) (by kernel_rfl) (by kernel_rfl) (by kernel_rfl) base len ps
theorem lZ{O:Ez}(t:List AV)(h:Aa)(s x:Operand):Eg O Tryz.prog t h (.call ⟨.builtin .append,#[s,x],#[53,53]⟩)=apO Tryz.prog 53 h (Ah t s) (Ah t x):=ai0 t h s x 53 53 _ Tryz.underlying53
theorem abW(h:Aa)(s:AV)(a b r l:Nat):apO Tryz.prog 53 h (some s) (some (.slr a b r l))=apK 4 h (some s) (srK 4 h (some (.slr a b r l))):=sW (e:=57) (b:=96) (z:=.agg [.nils,.nils,.nils,.nils]) (by kernel_rfl) (by kernel_rfl) (by kernel_rfl) (by kernel_rfl) (by decide+kernel) h s _ (fun q e=>by cases e)
theorem Yx(b r o:Nat):fa Tryz.prog 62 (some (.ptr b r o)) 0=some (.ret (.ptr b r (o+0)),[]):=Bf (show Bm Tryz.prog 62 0 0 1 from⟨_,_,Tryz.underlying62,rfl,rfl,by kernel_rfl,by decide⟩) b r o
theorem eV(b r o:Nat):fa Tryz.prog 62 (some (.ptr b r o)) 3=some (.ret (.ptr b r (o+3)),[]):=Bf (show Bm Tryz.prog 62 3 3 1 from⟨_,_,Tryz.underlying62,rfl,rfl,by kernel_rfl,by decide⟩) b r o
theorem sU(cs:List AV):fa Tryz.prog 62 (some (.iptr cs)) 3=if 3+1≤cs.length then some (.ret (.iptr (cs.drop 3)),[])else none:=Ny (show Bm Tryz.prog 62 3 3 1 from⟨_,_,Tryz.underlying62,rfl,rfl,by kernel_rfl,by decide⟩) cs
theorem sR(b r o:Nat):fa Tryz.prog 57 (some (.ptr b r o)) 3=some (.ret (.ptr b r (o+3)),[]):=Bf (show Bm Tryz.prog 57 3 3 1 from⟨_,_,Tryz.underlying57,rfl,rfl,by kernel_rfl,by decide⟩) b r o
theorem Iw{O:Ez}(t:List AV)(h:Aa)(s x:Operand):Eg O Tryz.prog t h (.call ⟨.builtin .append,#[s,x],#[25,25]⟩)=apO Tryz.prog 25 h (Ah t s) (Ah t x):=ai0 t h s x 25 25 _ Tryz.underlying25
theorem Vh(h:Aa)(s:AV)(a b r l:Nat):apO Tryz.prog 25 h (some s) (some (.slr a b r l))=apK 1 h (some s) (srK 1 h (some (.slr a b r l))):=sW (e:=3) (b:=8) (z:=.int .i64 0) (by kernel_rfl) (by kernel_rfl) (by kernel_rfl) (by kernel_rfl) (by decide+kernel) h s _ (fun q e=>by cases e)
theorem zV(h:Aa)(s:AV)(st:Nat)(fl:Bool)(rows:List (List AV)):apO Tryz.prog 25 h (some s) (some (.imm st fl rows))=apK 1 h (some s) (srK 1 h (some (.imm st fl rows))):=sW (e:=3) (b:=8) (z:=.int .i64 0) (by kernel_rfl) (by kernel_rfl) (by kernel_rfl) (by kernel_rfl) (by decide+kernel) h s _ (fun q e=>by cases e)
theorem Ur(h:Aa)(b r o:Nat)(v:AV):uO Tryz.prog 25 h (some (.ptr b r o)) (some v)=sv 1 (h[b]?) b r o (acells v):=Pv (by kernel_rfl) h b r o v
theorem dD(b r o:Nat):ftS Tryz.prog 25 (some (.ptr b r o))=some [.cells b o 1]:=Zg (by kernel_rfl) b r o
theorem Zh(fl nn:Bool)(rows:List (List AV))(k:IntKind)(i:Int):ia Tryz.prog 45 (some (Bj 4 fl nn rows)) (some (.int k i))=if 0≤i then r1 ((rows[i.toNat]?).map .iptr)else none:=dE ⟨_,Tryz.underlying45,by kernel_rfl⟩ fl nn rows k i
theorem adZ(h:Aa)(b r o:Nat)(v:AV):uO Tryz.prog 62 h (some (.ptr b r o)) (some v)=sv 4 (h[b]?) b r o (acells v):=Pv (by kernel_rfl) h b r o v
theorem Qj(b r o:Nat):fa Tryz.prog 111 (some (.ptr b r o)) 1=some (.ret (.ptr b r (o+1)),[]):=Bf (show Bm Tryz.prog 111 1 1 1 from⟨_,_,Tryz.underlying111,rfl,rfl,by kernel_rfl,by decide⟩) b r o
theorem nJ:Jw Tryz.prog 111=some (.agg [.int .i64 0,.int .i64 0,.int .i64 0,.int .i64 0,.int .i64 0]):=by kernel_rfl
theorem nS(h:Aa)(b r o:Nat)(v:AV):uO Tryz.prog 111 h (some (.ptr b r o)) (some v)=sv 5 (h[b]?) b r o (acells v):=Pv (by kernel_rfl) h b r o v
theorem Wl(b r o:Nat):fa Tryz.prog 111 (some (.ptr b r o)) 0=some (.ret (.ptr b r (o+0)),[]):=Bf (show Bm Tryz.prog 111 0 0 1 from⟨_,_,Tryz.underlying111,rfl,rfl,by kernel_rfl,by decide⟩) b r o
theorem Qi(b r o:Nat):fa Tryz.prog 111 (some (.ptr b r o)) 2=some (.ret (.ptr b r (o+2)),[]):=Bf (show Bm Tryz.prog 111 2 2 1 from⟨_,_,Tryz.underlying111,rfl,rfl,by kernel_rfl,by decide⟩) b r o
theorem Qg(b r o:Nat):fa Tryz.prog 111 (some (.ptr b r o)) 3=some (.ret (.ptr b r (o+3)),[]):=Bf (show Bm Tryz.prog 111 3 3 1 from⟨_,_,Tryz.underlying111,rfl,rfl,by kernel_rfl,by decide⟩) b r o
theorem fQ(b r o:Nat):fa Tryz.prog 42 (some (.ptr b r o)) 9=some (.ret (.ptr b r (o+10)),[]):=Bf (show Bm Tryz.prog 42 9 10 1 from⟨_,_,Tryz.underlying42,rfl,rfl,by kernel_rfl,by decide⟩) b r o
theorem tG(cs:List AV):fa Tryz.prog 42 (some (.iptr cs)) 9=if 10+1≤cs.length then some (.ret (.iptr (cs.drop 10)),[])else none:=Ny (show Bm Tryz.prog 42 9 10 1 from⟨_,_,Tryz.underlying42,rfl,rfl,by kernel_rfl,by decide⟩) cs
theorem uQ(h:Aa)(b r o:Nat):ld Tryz.prog 94 h (some (.ptr b r o))=zX (Me (h[b]?) r) o 3:=Zm ⟨by kernel_rfl,by kernel_rfl⟩ h b r o
theorem aO(h:Aa)(cs:List AV):ld Tryz.prog 94 h (some (.iptr cs))=if 3≤cs.length then some (.ret (.agg (cs.take 3)),[])else none:=tJ ⟨by kernel_rfl,by kernel_rfl⟩ h cs
theorem cD:Jw Tryz.prog 94=some (.agg [.int .i64 0,.int .i64 0,.int .i64 0]):=by kernel_rfl
theorem bQ(h:Aa)(b r o:Nat)(v:AV):uO Tryz.prog 94 h (some (.ptr b r o)) (some v)=sv 3 (h[b]?) b r o (acells v):=Pv (by kernel_rfl) h b r o v
theorem aaQ(b r o:Nat):ftS Tryz.prog 94 (some (.ptr b r o))=some [.cells b o 3]:=Zg (by kernel_rfl) b r o
theorem Xz(b r o:Nat):fa Tryz.prog 94 (some (.ptr b r o)) 0=some (.ret (.ptr b r (o+0)),[]):=Bf (show Bm Tryz.prog 94 0 0 1 from⟨_,_,Tryz.underlying94,rfl,rfl,by kernel_rfl,by decide⟩) b r o
theorem fP(cs:List AV):fa Tryz.prog 94 (some (.iptr cs)) 0=if 0+1≤cs.length then some (.ret (.iptr (cs.drop 0)),[])else none:=Ny (show Bm Tryz.prog 94 0 0 1 from⟨_,_,Tryz.underlying94,rfl,rfl,by kernel_rfl,by decide⟩) cs
theorem Qh(b r o:Nat):fa Tryz.prog 111 (some (.ptr b r o)) 4=some (.ret (.ptr b r (o+4)),[]):=Bf (show Bm Tryz.prog 111 4 4 1 from⟨_,_,Tryz.underlying111,rfl,rfl,by kernel_rfl,by decide⟩) b r o
theorem mN(base:Nat)(l c:Option AV):msO Tryz.prog 25 base l c=msK 1 (.int .i64 0) base l c:=as5 (e:=3) (n:=1) (b:=8) (by kernel_rfl) (by kernel_rfl) (by kernel_rfl) (by kernel_rfl) (by decide+kernel) base l c
theorem iP(h:Aa)(b r o:Nat)(v:AV):uO Tryz.prog 46 h (some (.ptr b r o)) (some v)=sv 1 (h[b]?) b r o (acells v):=Pv (by kernel_rfl) h b r o v
theorem nY(b r o:Nat):ftS Tryz.prog 46 (some (.ptr b r o))=some [.cells b o 1]:=Zg (by kernel_rfl) b r o
theorem vE(ps:List (Nat × AV)):dM Tryz.prog 144 ps=(Rl (fun i=>([(0,6),(6,3),(9,6),(15,4)]:List (Nat × Nat))[i]?) (acells (.agg [.int .i64 0,.int .i64 0,.int .i64 0,.int .i64 0,.int .i64 0,.nils,.nils,.nils,.nils,.int .i64 0,.nils,.int .i64 0,.int .i64 0,.nils,.nils,.nils,.nils,.nils,.nils])) ps).map .agg:=by kernel_rfl
theorem Fe(b r o:Nat):fa Tryz.prog 144 (some (.ptr b r o)) 2=some (.ret (.ptr b r (o+9)),[]):=Bf (show Bm Tryz.prog 144 2 9 6 from⟨_,_,Tryz.underlying144,rfl,rfl,by kernel_rfl,by decide⟩) b r o
theorem Io(b r o:Nat):fa Tryz.prog 144 (some (.ptr b r o)) 3=some (.ret (.ptr b r (o+15)),[]):=Bf (show Bm Tryz.prog 144 3 15 4 from⟨_,_,Tryz.underlying144,rfl,rfl,by kernel_rfl,by decide⟩) b r o
theorem dW(base len:Nat)(ps:List (Nat × AV)):rD (Db Tryz.prog base 46 len ps)=bsK 5 (.agg [.int .i64 0,.int .i64 0,.int .i64 0,.int .i64 0,.int .i64 0]) base len ps:=arP (e:=111) (by kernel_rfl) (by kernel_rfl) (by kernel_rfl) base len ps
theorem Uk{O:Ez}(t:List AV)(h:Aa)(s x:Operand):Eg O Tryz.prog t h (.call ⟨.builtin .append,#[s,x],#[46,46]⟩)=apO Tryz.prog 46 h (Ah t s) (Ah t x):=ai0 t h s x 46 46 _ Tryz.underlying46
theorem nE(h:Aa)(s:AV)(a b r l:Nat):apO Tryz.prog 46 h (some s) (some (.slr a b r l))=apK 5 h (some s) (srK 5 h (some (.slr a b r l))):=sW (e:=111) (b:=40) (z:=.agg [.int .i64 0,.int .i64 0,.int .i64 0,.int .i64 0,.int .i64 0]) (by kernel_rfl) (by kernel_rfl) (by kernel_rfl) (by kernel_rfl) (by decide+kernel) h s _ (fun q e=>by cases e)
theorem acA(h:Aa)(s:AV)(st:Nat)(fl:Bool)(rows:List (List AV)):apO Tryz.prog 46 h (some s) (some (.imm st fl rows))=apK 5 h (some s) (srK 5 h (some (.imm st fl rows))):=sW (e:=111) (b:=40) (z:=.agg [.int .i64 0,.int .i64 0,.int .i64 0,.int .i64 0,.int .i64 0]) (by kernel_rfl) (by kernel_rfl) (by kernel_rfl) (by kernel_rfl) (by decide+kernel) h s _ (fun q e=>by cases e)
theorem acC:Jw Tryz.prog 163=some (.nilf):=by kernel_rfl
theorem ab7(h:Aa)(b r o:Nat)(v:AV):uO Tryz.prog 163 h (some (.ptr b r o)) (some v)=sv 1 (h[b]?) b r o (acells v):=Pv (by kernel_rfl) h b r o v
theorem fE(h:Aa)(b r o:Nat):ld Tryz.prog 163 h (some (.ptr b r o))=ldC (Me (h[b]?) r) o:=Zs ⟨by kernel_rfl,1,by kernel_rfl⟩ h b r o
theorem wE(b r o:Nat):pU Tryz.prog 163 (some (.ptr b r o))=some [.cells b o 1]:=Kw (isA:=false) (n:=1) (by kernel_rfl) (by kernel_rfl) b r o
theorem acM(n:Nat)(fl:Bool)(rows:List (List AV)):Jy Tryz.prog .eql 25 (.imm n fl rows) .nils=some (.bool false):=fM Tryz.underlying25 n fl rows
theorem acF:Jy Tryz.prog .eql 25 .nils .nils=some (.bool true):=bX Tryz.underlying25
theorem ab8(n:Nat)(fl:Bool)(rows:List (List AV)):Jy Tryz.prog .eql 46 (.imm n fl rows) .nils=some (.bool false):=fM Tryz.underlying46 n fl rows
theorem zW:Jy Tryz.prog .eql 46 .nils .nils=some (.bool true):=bX Tryz.underlying46
theorem Jt(b r o:Nat):fa Tryz.prog 144 (some (.ptr b r o)) 0=some (.ret (.ptr b r (o+0)),[]):=Bf (show Bm Tryz.prog 144 0 0 6 from⟨_,_,Tryz.underlying144,rfl,rfl,by kernel_rfl,by decide⟩) b r o
theorem Wc(b r o:Nat):fa Tryz.prog 144 (some (.ptr b r o)) 1=some (.ret (.ptr b r (o+6)),[]):=Bf (show Bm Tryz.prog 144 1 6 3 from⟨_,_,Tryz.underlying144,rfl,rfl,by kernel_rfl,by decide⟩) b r o
theorem eX(h:Aa)(b r o:Nat):ld Tryz.prog 142 h (some (.ptr b r o))=ldC (Me (h[b]?) r) o:=Zs ⟨by kernel_rfl,1,by kernel_rfl⟩ h b r o
theorem uS(b r o:Nat):pU Tryz.prog 142 (some (.ptr b r o))=some [.cells b o 1]:=Kw (isA:=false) (n:=1) (by kernel_rfl) (by kernel_rfl) b r o
def uM:=PLift.up (aaF @Fo (aaF @Gw (aaF @aN (aaF @Lp (aaF @Ou (aaF @Qm (aaF @Jk (aaF @Gs (aaF @Zi (aaF @uH (aaF @Aw (aaF @Em (aaF @Ph (aaF @sK (aaF @Pj (aaF @cM (aaF @bB (aaF @nX (aaF @aaU (aaF @Td (aaF @Ei (aaF @dU (aaF @mR (aaF @Tc (aaF @Hk (aaF @Xj (aaF @dJ @Jv)))))))))))))))))))))))))))
def TY9:=PLift.up (aaF @nX @aaE)
def ae7:=PLift.up (aaF @Gs (aaF @Hk (aaF @fH (aaF @jG @Qr))))
def atC:=PLift.up (aaF @Rq (aaF @Aw (aaF @Ph (aaF @Pj (aaF @Xr (aaF @Xi (aaF @Fo (aaF @Gw (aaF @Gs @Jk)))))))))
def axB:=PLift.up (aaF @Lp (aaF @Ou (aaF @Qm (aaF @Uc (aaF @Wp (aaF @Qp (aaF @Tn (aaF @Of @Ut))))))))
def jS:=PLift.up (aaF @Lp (aaF @Ou (aaF @Qm (aaF @Zi (aaF @aX (aaF @bM (aaF @bN (aaF @Xo (aaF @Aw (aaF @Xh (aaF @Yj (aaF @Xm (aaF @Tn (aaF @Of (aaF @Ut (aaF @dI (aaF @Xl (aaF @Uc (aaF @Wp @Qp)))))))))))))))))))
def af7:=PLift.up (aaF @aK (aaF @cM (aaF @Jk (aaF @aN (aaF @Fo (aaF @Gw (aaF @Gs (aaF @bB (aaF @Lp (aaF @Ou (aaF @Qm (aaF @sA (aaF @sT (aaF @iO (aaF @aaP (aaF @lZ @abW))))))))))))))))
def awK:=PLift.up (aaF @Yx (aaF @Aw (aaF @Xe (aaF @Yw @eV))))
def aw7:=PLift.up (aaF @Sr (aaF @Aw @To))
def aeN:=PLift.up (aaF @Qp (aaF @Zh @aM))
def aaO:=PLift.up (aaF @Tt (aaF @Aw (aaF @Em (aaF @Rr (aaF @jT (aaF @Tq (aaF @Wg (aaF @Qr (aaF @Yf (aaF @Ya (aaF @Xw (aaF @Ye (aaF @Xu (aaF @fQ (aaF @Vf (aaF @aO (aaF @cD (aaF @bQ (aaF @Xz (aaF @fP (aaF @Xd (aaF @Sl (aaF @Xp @Ru)))))))))))))))))))))))
def auR:=PLift.up (aaF @Rq (aaF @Aw (aaF @Ph (aaF @Pj (aaF @Jp (aaF @Xr (aaF @Xi (aaF @Fo (aaF @Gw (aaF @Gs @Jk))))))))))
def avU:=PLift.up (aaF @Jk @ab2)
def aiJ:=PLift.up (aaF @Gs (aaF @Hk @Lc))
def aiM:=PLift.up (aaF @qK (aaF @rZ (aaF @fW (aaF @Aw (aaF @Rq (aaF @fY (aaF @Ph (aaF @eF @Pj))))))))
def aw3:=PLift.up (aaF @Wl (aaF @Aw (aaF @Qj (aaF @Qi (aaF @Qg @Qh)))))
def axG:=PLift.up (aaF @Lp (aaF @Ou (aaF @Qm (aaF @Uc (aaF @Wp (aaF @Qp (aaF @Tn (aaF @Of (aaF @Ut @Aw)))))))))
def acO:=PLift.up (aaF @aK (aaF @cM (aaF @Fo (aaF @Gw (aaF @Gs (aaF @Hk (aaF @Lc (aaF @Ux (aaF @Up (aaF @Jn (aaF @Ei (aaF @dR (aaF @Yf (aaF @Aw (aaF @bK (aaF @Jp (aaF @Iw (aaF @Vh (aaF @Tv (aaF @Ur (aaF @dD @bB)))))))))))))))))))))
def bA:=PLift.up (aaF @aK (aaF @ab9 (aaF @iO (aaF @abY (aaF @cM (aaF @sA (aaF @Jn (aaF @Ei (aaF @dR (aaF @Tv (aaF @Yc (aaF @Of (aaF @mZ (aaF @Ur (aaF @dD (aaF @iP (aaF @nY (aaF @Jk (aaF @aN (aaF @vE (aaF @Fe (aaF @Lx (aaF @Aw (aaF @Ox (aaF @Io (aaF @bB (aaF @aaJ (aaF @sT @aa0))))))))))))))))))))))))))))
def axI:=PLift.up (aaF @Sr (aaF @Aw @To))
def akA:=PLift.up (aaF @Gs (aaF @Hk (aaF @Lc (aaF @Ux (aaF @Up (aaF @Tt @Aw))))))
def al0:=PLift.up (aaF @Gs (aaF @Hk (aaF @Rb (aaF @Lc (aaF @Ux (aaF @Up (aaF @fV (aaF @mK (aaF @Tq (aaF @Wg (aaF @Vf (aaF @Sl (aaF @Em (aaF @Qr @Ru))))))))))))))
def amN:=PLift.up (aaF @wM (aaF @qK (aaF @Gs (aaF @fW (aaF @Aw (aaF @Em (aaF @bK (aaF @Hk (aaF @eT (aaF @Ox (aaF @kN (aaF @Xj (aaF @dJ (aaF @Lc (aaF @fY (aaF @fH (aaF @jG (aaF @Vf (aaF @Sl (aaF @eF (aaF @Qr (aaF @Ru @rZ))))))))))))))))))))))
def adJ:=PLift.up (aaF @Qp (aaF @Zh (aaF @aM (aaF @adH (aaF @adZ (aaF @Yx (aaF @Aw (aaF @Em (aaF @Xe (aaF @Yw (aaF @qT @Xr)))))))))))
def axO:=PLift.up (aaF @Rr (aaF @Sr (aaF @Aw @To)))
def abM:=PLift.up (aaF @Tq (aaF @Wg (aaF @Qr (aaF @Vf (aaF @aO (aaF @cD (aaF @bQ (aaF @Xz (aaF @fP (aaF @Aw (aaF @Em (aaF @Xd (aaF @Sl (aaF @Xp (aaF @Ru (aaF @Tt (aaF @Rr (aaF @jT (aaF @Yf (aaF @Ya (aaF @Xw (aaF @Ye (aaF @Xu (aaF @fQ @Jp))))))))))))))))))))))))
def afN:=PLift.up (aaF @Fo (aaF @Gw (aaF @Ph (aaF @Aw (aaF @Pj @Rq)))))
def axM:=PLift.up (aaF @Rb @Rb)
def afS:=PLift.up (aaF @Qn (aaF @Ov @Em))
def zP:=PLift.up (aaF @Qn (aaF @Ov (aaF @Em (aaF @Jp (aaF @Iw @Vh)))))
def acS:=PLift.up (aaF @Qn (aaF @Ov (aaF @Em (aaF @Jp (aaF @Iw @Vh)))))
def gB:=PLift.up (aaF @Ei (aaF @dU (aaF @Qn (aaF @Jp (aaF @Iw (aaF @Vh (aaF @acC (aaF @ab7 (aaF @fE (aaF @wE (aaF @Jv (aaF @Aw (aaF @bK (aaF @Ox @kN))))))))))))))
def axF:=PLift.up (aaF @Xo (aaF @Aw (aaF @Xh (aaF @Yj (aaF @Xm @Jp)))))
def au7:=PLift.up (aaF @Yl @Aw)
def asO:=PLift.up (aaF @Wl (aaF @Aw (aaF @Qj (aaF @Qi (aaF @Qg @Qh)))))
def xC:=PLift.up (aaF @acM (aaF @acF (aaF @Jp (aaF @Iw @zV))))
def agQ:=PLift.up (aaF @ab8 (aaF @zW (aaF @dW (aaF @Uk @acA))))
def Ww:=PLift.up (aaF @Fe (aaF @Yc (aaF @Of (aaF @mL (aaF @mM (aaF @abH (aaF @Yl (aaF @nJ (aaF @nS (aaF @Qj (aaF @Aw (aaF @Em (aaF @Lx (aaF @dW (aaF @Uk (aaF @nE (aaF @Qh (aaF @Jn (aaF @Ei (aaF @Qg (aaF @Jv (aaF @Tv (aaF @Jt (aaF @Fo (aaF @Gw (aaF @Hk (aaF @tG (aaF @Ox (aaF @Qi @iP)))))))))))))))))))))))))))))
def Ih:=PLift.up (aaF @Wc (aaF @Tn (aaF @Of (aaF @mZ (aaF @mL (aaF @mM (aaF @Ut (aaF @dI (aaF @Yl (aaF @Xl (aaF @wI (aaF @nJ (aaF @nS (aaF @Wl (aaF @Aw (aaF @Fe (aaF @Lx (aaF @Qj (aaF @Jn (aaF @Ei (aaF @Qi (aaF @Jv (aaF @Qh (aaF @Qg (aaF @Yc (aaF @Io (aaF @sR (aaF @Jp (aaF @Iw (aaF @Vh (aaF @Ur (aaF @Ox (aaF @dW (aaF @Uk (aaF @nE (aaF @iP @nY))))))))))))))))))))))))))))))))))))
def Ku:=PLift.up (aaF @eX (aaF @uS (aaF @Jt (aaF @Fo (aaF @Gw (aaF @acT (aaF @Gs (aaF @mN (aaF @Io (aaF @Td (aaF @Ur (aaF @dD (aaF @Ux (aaF @Up (aaF @Jk (aaF @Wc (aaF @Uc (aaF @Wp (aaF @acD (aaF @Fe (aaF @Lx (aaF @Aw (aaF @Em (aaF @bK (aaF @Zh (aaF @sU (aaF @Rb (aaF @abQ (aaF @Jn (aaF @Ei (aaF @dR (aaF @Jv (aaF @cD (aaF @bQ (aaF @aaQ (aaF @Xd (aaF @Xp (aaF @Ox @kN))))))))))))))))))))))))))))))))))))))
def tM:=PLift.up (aaF @bM (aaF @bN (aaF @Jt (aaF @Jk (aaF @Io (aaF @Td (aaF @Ei (aaF @Xo (aaF @Aw (aaF @Xh (aaF @Tc @Ur)))))))))))
def pX:=PLift.up (aaF @bM (aaF @bN (aaF @Io (aaF @Tc (aaF @Ei (aaF @Yj (aaF @Aw (aaF @Xm (aaF @Xq (aaF @Ur (aaF @Fe (aaF @sN @Ox))))))))))))
def Pn:=PLift.up (aaF @Io (aaF @Xq (aaF @Ei (aaF @dU (aaF @mR (aaF @Jv (aaF @Aw (aaF @Jt (aaF @Xi (aaF @Fe (aaF @qO (aaF @Ox @Jn))))))))))))
def Ks:=PLift.up (aaF @eX (aaF @Ux (aaF @Up (aaF @Io (aaF @Xq (aaF @Ei (aaF @Jv (aaF @Aw (aaF @Fe (aaF @Tv (aaF @Ya (aaF @Xw (aaF @Ye (aaF @Ox (aaF @fV (aaF @mK (aaF @Td (aaF @Tc @Xu))))))))))))))))))
def avR:=PLift.up (aaF @Rr (aaF @Sr (aaF @Aw @To)))
def avL:=PLift.up (aaF @Yx (aaF @Aw (aaF @Xe (aaF @Yw @eV))))
def rK:=PLift.up (aaF @Gs (aaF @Hk @Lc))
def xN:=PLift.up (aaF @Qn (aaF @Ov @Em))
def asY:=PLift.up (aaF @Fo (aaF @Gw (aaF @Hk (aaF @Xj (aaF @dJ (aaF @Ei (aaF @Ov @Em)))))))
def avD:=PLift.up (aaF @Ei (aaF @Ov (aaF @Em @fE)))
def Jb:=PLift.up (aaF @Qn (aaF @Jv (aaF @Ov (aaF @Aw (aaF @Em (aaF @mN @Ox))))))
def sL:=PLift.up (aaF @Qm (aaF @Zi @aX))
def qD:=PLift.up (aaF @Ut (aaF @dI @Xl))
def atL:=PLift.up (aaF @Jt (aaF @Fo (aaF @Gw (aaF @Hk (aaF @eT (aaF @Aw (aaF @Em (aaF @Fe (aaF @Jn (aaF @Ei @Jv))))))))))
def nM:=PLift.up (aaF @Jt (aaF @Fo (aaF @Gw (aaF @Gs (aaF @Hk (aaF @Rb (aaF @Lc (aaF @Ux (aaF @Up (aaF @Fe (aaF @Lx @Aw)))))))))))
def xE:=PLift.up (aaF @uQ (aaF @aO (aaF @cD (aaF @Tq (aaF @Wg (aaF @Vf (aaF @bQ (aaF @Qr (aaF @Xz (aaF @Aw @Tt))))))))))
def atT:=PLift.up (aaF @vX (aaF @aX (aaF @bM (aaF @Wc (aaF @Lp (aaF @Ou (aaF @Fe (aaF @Lx (aaF @Aw (aaF @Zi @bN))))))))))
def rM:=PLift.up (aaF @Qp (aaF @Zh @aM))
end Go.Proofs.YtdbiogihimdpcaaGreatDoor
namespace Go.Proofs.YtdbiogihimdpcaaGreatDoor
open Go Go.Ev Go.ChangeShapes Go.WideShapes Go.ChangeAt Go.RowKit
set_option maxRecDepth 100000
set_option maxHeartbeats 16000000
def mdL:List Nat:=[131,130,133]
def pr:Oe:=ae9 89 90 (mdL.contains ·)
noncomputable def Bn:Ez:=om Tryz.prog pr
theorem anE(f:Nat):Bn.md f=([131,130,133]:List Nat).contains f:=Eq.trans rfl rfl
def Va:=PLift.up (aaF EE.down EE.down)
def Vb:=PLift.up (aaF EF.down @anE)
def Vc:=PLift.up (aaF EG.down @anE)
theorem uY{C:R→Prop}[NoN C]{n:Nat}{k:List Ai}{c:Code}{s:St}(h:Un Bn Tryz.prog n k c C (Cj Bn Tryz.prog 5000 c [] s)):C (lpK Bn Tryz.prog n k (Bn.loop c s)):=atJ (pr:=pr) h
theorem own:ownKnob Tryz.prog.godebug=none:=by kernel_rfl
theorem apU:aaA Tryz.prog:=fun f fn hf=>by
 have h:(Tryz.prog.funcs.toList.all fun fn=> !(fn.name== "runtime.NumGoroutine"))=true:=by kernel_rfl
 have:=List.all_eq_true.1 h fn (by rw[Array.mem_toList_iff];exact Array.mem_of_getElem? hf)
 simpa using this
theorem mixed:Tryz.prog.follows .mixedOrders=true:=by kernel_rfl
theorem ak8:laidOutB Tryz.prog=true:=by kernel_rfl
def laid:List (String × DataW Unit):=[("math/bits.deBruijn32tab",Rows.laid_math_bits_deBruijn32tab),("math/bits.deBruijn64tab",Rows.laid_math_bits_deBruijn64tab),("internal/strconv.uint64pow10",Rows.laid_internal_strconv_uint64pow10)]
theorem auB:Tryz.prog.globalNamed "internal/strconv.uint64pow10" =some 0:=by kernel_rfl
theorem tab{W:World}(h:laidMetH Tryz.prog laid W):Lib.TabIs Tryz.prog W "internal/strconv.uint64pow10" .u64 Lib.pow10Tab:=by
 rw[MakeChecks.laidMetH_plain _ _ _ (by kernel_rfl)]at h
 obtain⟨ps,h,_⟩:=h
 exact bI (t:=183) (e:=174) (n:=20) auB (by kernel_rfl) (by kernel_rfl) (by kernel_rfl) (by kernel_rfl) (by kernel_rfl) h (by
  have e:(Lib.tabData .u64 Lib.pow10Tab:DataW Unit)=Rows.laid_internal_strconv_uint64pow10:=rfl
  rw[e];simp[laid])
theorem aiF{W:World}(h:laidMetH Tryz.prog laid W):Hr Tryz.prog (ad8 W 0) Bn:=
 atY apU (agF (ajT (oL apU Tryz.func89 rfl) (adF auB (tab h)) (fun n w h0 h1 ht=>Tryz.strconv_Itoa n h0 h1 w ht)) (alS (oL apU Tryz.func90 rfl) Tryz.strings_Join_none Tryz.strings_Join)) mixed
theorem adT(os:Os)(args:Array Value):laidMetH Tryz.prog laid ((World.doorLaid Tryz.prog 400 os).forCall (fun _ _=>0) ⟨#[],args,[]⟩).memory:=
 laidMetH_of_parts3 (fuel:=8) (laidMet_of_run' 8 (by kernel_rfl) (by kernel_rfl)) (by kernel_rfl) (by kernel_rfl)
end Go.Proofs.YtdbiogihimdpcaaGreatDoor
namespace Go.Proofs.YtdbiogihimdpcaaGreatDoor
open Go.Ev Go
set_option maxRecDepth 100000
set_option maxHeartbeats 16000000
structure zY(sc dc:List AV)(bx:Nat)(ov:AV)(h:Aa)(xc X:List AV)(Rx:List Nat)(rows Q:List (List AV))(Ro:List Nat):Prop where
 b0:h[0]?=some (.live 6 false false [sc])
 b1:h[1]?=some (.live 3 false false [dc])
 b2:h[2]?=some (.live 6 false false [[.int .i64 0,.nils,.int .i64 0,.int .i64 0,.nils,.nils]])
 bx3:3≤bx
 bxw:∃w,h[bx]?=some (.live 6 false w [xc])
 x:Nc (rd 5 (hf h)) xc=some (X,Rx)
 own:En 0 4 false rows ov h
 nil:rows=[]→ov=.nils
 q:Bt (rd 5 (hf h)) rows=some (Q,Ro)
 dx:∀b∈Rx++Ro,3≤b∧b≠bx
 dov:∀st b r n,ov=.slr st b r n→3≤b∧b≠bx∧b∉Rx++Ro∧b<h.length
theorem It{h:Aa}{b:Nat}{c:CB}(hb:h[b]?=some c):b<h.length:=(ai5.1 hb).1
theorem zY.call{sc dc:List AV}{bx:Nat}{ov:AV}{h:Aa}{xc X:List AV}{Rx:List Nat}{rows Q:List (List AV)}{Ro:List Nat}(I:zY sc dc bx ov h xc X Rx rows Q Ro)
 {lent:List Nat} {H1:Aa} (K:Kp lent h H1) (hl:∀b∈lent,b∈Rx):H1[0]?=h[0]?∧H1[1]?=h[1]?∧H1[2]?=h[2]?∧H1[bx]?=h[bx]?∧bx<h.length∧En 0 4 false rows ov H1:=by
 obtain⟨w,hw⟩:=I.bxw
 have nl:∀b,¬(3≤b∧b≠bx)→b∉lent:=fun b hb hh=>hb (I.dx b (aaV _ (hl b hh)))
 refine⟨K.same 0 (It I.b0) (nl _ (by omega)),K.same 1 (It I.b1) (nl _ (by omega)),K.same 2 (It I.b2) (nl _ (by omega)),K.same bx (It hw) (nl _ (by omega)),It hw,?_⟩
 rcases I.own with h1|⟨b,w',h1,h2⟩
 ·exact .inl h1
 ·refine .inr ⟨b,w',h1,?_⟩
  rw[K.same b (It h2) (fun hh=>(I.dov _ _ _ _ h1).2.2.1 (aaV _ (hl _ hh)))]
  exact h2
theorem zY.next{sc dc:List AV}{bx:Nat}{ov:AV}{h:Aa}{xc X:List AV}{Rx:List Nat}{rows Q:List (List AV)}{Ro:List Nat}(I:zY sc dc bx ov h xc X Rx rows Q Ro)
 {lent:List Nat} {H1:Aa} (K:Kp lent h H1) (hl:∀b∈lent,b∈Rx) {xc' X' fc' Qf:List AV} {Rx' Rf:List Nat} (hx:Nc (rd 5 (hf H1)) xc'=some (X',Rx')) (hf':Nc (rd 5 (hf H1)) fc'=some (Qf,Rf))
 (fr:∀b∈Rx'++Rf,h.length≤b) (a b c:CB) {k n:Nat} (hk:k=H1.length+3) (hn:n=rows.length+1):
 zY sc dc bx (.slr 4 k 0 n) (kl 0 ov (H1.set bx (.live 6 false true [xc']))++[a,b,c,.live 4 false false (rows++[fc'])]) xc' X' Rx' (rows++[fc']) (Q++[Qf]) (Ro++Rf):=by
 subst hk hn
 obtain⟨c0,c1,c2,c3,hbx,c4⟩:=I.call K hl
 have l0:=It I.b0
 have l1:=It I.b1
 have l2:=It I.b2
 have bx3:=I.bx3
 have hle:=K.len
 have get:∀j,j<H1.length→j≠bx→(∀st m r n,ov=.slr st m r n→m≠j)→(kl 0 ov (H1.set bx (.live 6 false true [xc']))++[a,b,c,.live 4 false false (rows++[fc'])])[j]?=H1[j]?:=fun j hj hb ho=>by
  rw[sM _ (by simpa using hj) ho,List.getElem?_set_ne (fun e=>hb e.symm)]
 have low:∀j,j<3→∀st m r n,ov=.slr st m r n→m≠j:=fun j hj st m r n e=>by have:=(I.dov st m r n e).1;omega
 have agr:∀R:List Nat,(∀j∈R,j<H1.length)→(∀j∈R,j≠bx)→(∀j∈R,∀st m r n,ov=.slr st m r n→m≠j)→Agr R (hf H1) (hf (kl 0 ov (H1.set bx (.live 6 false true [xc']))++[a,b,c,.live 4 false false (rows++[fc'])])):=fun R h1 h2 h3 j hj z hz=>by
  show((kl 0 ov _++_)[j]?).bind Da=_
  rw[get j (h1 j hj) (h2 j hj) (h3 j hj)];exact hz
 have fx:∀j∈Rx'++Rf,j≠bx∧∀st m r n,ov=.slr st m r n→m≠j:=fun j hj=>by
  have:=fr j hj
  exact⟨by omega,fun st m r n e=>by have:=(I.dov st m r n e).2.2.2;omega⟩
 have ltx:=pL (by omega) hx
 have ltf:=pL (by omega) hf'
 have q1:Bt (rd 5 (hf H1)) rows=some (Q,Ro):=aU I.q fun j hj z hz=>by
  rw[K.rows j (dC (by omega) I.q j hj)];exact hz
 have lto:=dC (by omega) q1
 have lto':=dC (by omega) I.q
 have dro:∀j∈Ro,j≠bx∧∀st m r n,ov=.slr st m r n→m≠j:=fun j hj=>
  ⟨(I.dx j (aaR _ hj)).2,fun st m r n e e2=>(I.dov st m r n e).2.2.1 (by rw[e2];exact aaR _ hj)⟩
 have hlen:(kl 0 ov (H1.set bx (.live 6 false true [xc']))).length=H1.length:=by rw[Ed];simp
 refine⟨?_,?_,?_,bx3,⟨true,?_⟩,?_,.inr ⟨H1.length+3,false,by simp,?_⟩,fun e=>by simp at e,?_,?_,?_⟩
 ·rw[get 0 (by omega) (by omega) (low 0 (by omega)),c0];exact I.b0
 ·rw[get 1 (by omega) (by omega) (low 1 (by omega)),c1];exact I.b1
 ·rw[get 2 (by omega) (by omega) (low 2 (by omega)),c2];exact I.b2
 ·rw[sM _ (by simp;omega) (fun st m r n e=>(I.dov st m r n e).2.1),List.getElem?_set_self (by omega)]
 ·exact iD hx (agr _ ltx (fun j hj=>(fx j (aaV _ hj)).1) (fun j hj=>(fx j (aaV _ hj)).2))
 ·rw[List.getElem?_append_right (by omega),hlen,show H1.length+3-H1.length=3 by omega];rfl
 ·exact fG (aU q1 (agr _ lto (fun j hj=>(dro j hj).1) (fun j hj=>(dro j hj).2))) (iD hf' (agr _ ltf (fun j hj=>(fx j (aaR _ hj)).1) (fun j hj=>(fx j (aaR _ hj)).2)))
 ·intro j hj
  rcases ac4.1 hj with hj|hj
  ·have:=fr j (aaV _ hj);exact⟨by omega,(fx j (aaV _ hj)).1⟩
  ·rcases ac4.1 hj with hj|hj
   ·exact I.dx j (aaR _ hj)
   ·have:=fr j (aaR _ hj);exact⟨by omega,(fx j (aaR _ hj)).1⟩
 ·intro st m r n e
  cases e
  refine⟨by omega,by omega,fun hj=>?_,by simp[hlen]⟩
  rcases ac4.1 hj with hj|hj
  ·have:=ltx _ hj;omega
  ·rcases ac4.1 hj with hj|hj
   ·have:=lto _ hj;omega
   ·have:=ltf _ hj;omega
theorem Na{f:Nat}{fn:Func}{c:Code}{args:List AV}{h:Aa}{Q:Dx→Aa→Prop}(hp:pr f=none)(hf:Tryz.prog.funcs[f]?=some fn)(hb:fn.body=some c)(hl:ac5 args.length fn.ntmps=true)
 (he:FnE Tryz.prog h.length fn.results.toList Q (Cj Bn Tryz.prog 5000 c [] ⟨mk fn.ntmps (Dh args),h⟩)):Uu Bn f args h Q:=Uu.start (pr:=pr) hp hf hb hl he
theorem auU{f:Nat}{fn:Func}{c:Code}{args:List AV}{h:Aa}{Q:Dx→Aa→Prop}(hp:pr f=none)(hf:Tryz.prog.funcs[f]?=some fn)(hb:fn.body=some c)(hl:ac5 args.length fn.ntmps=true)
 (he:FnS Tryz.prog fn.results.toList Q (Cj Bn Tryz.prog 5000 c [] ⟨mk fn.ntmps (Dh args),h⟩)):ShQ Bn f args h Q:=ShQ.start (pr:=pr) hp hf hb hl he
theorem ce{f:Nat}{fn:Func}{c:Code}{args:List AV}{h:Aa}{o:Dx}{h':Aa}(hf:Tryz.prog.funcs[f]?=some fn)(he:FnE Tryz.prog h.length fn.results.toList (fun o1 h1=>(o1,h1)=(o,h')) (Cj Bn Tryz.prog 5000 c [] ⟨mk fn.ntmps (Dh args),h⟩))(hp:pr f=none:=by exact rfl)(hb:fn.body=some c:=by exact rfl)(hl:ac5 args.length fn.ntmps=true:=by exact rfl):Bn.call (.fn f) args h=some (o,h'):=(Na hp hf hb hl he).eq
theorem csh{f:Nat}{fn:Func}{c:Code}{args:List AV}{h:Aa}{o:Dx}{h':Aa}(hf:Tryz.prog.funcs[f]?=some fn)(he:FnS Tryz.prog fn.results.toList (fun o1 h1=>(o1,h1)=(o,h')) (Cj Bn Tryz.prog 5000 c [] ⟨mk fn.ntmps (Dh args),h⟩))(hp:pr f=none:=by exact rfl)(hb:fn.body=some c:=by exact rfl)(hl:ac5 args.length fn.ntmps=true:=by exact rfl):Bn.call (.sh f) args h=some (o,h'):=(auU hp hf hb hl he).eq
theorem Rm{α σ ρ:Type}{c:Code}(N:Nat)(l:List α)(E:Nat→σ→Tm→Aa→Prop)(F:List α→σ→ρ)(Q:ρ→Ex→Tm→Aa→Prop)
 (stop:∀s t h Q',(∀e t h,Q (F [] s) e t h→Q' e ⟨mk N t,h⟩)→E l.length s t h→oV N (fun _ _=>False) Q' (Cj Bn Tryz.prog 5000 c [] ⟨mk N t,h⟩))
 (go:∀x rest i s t h J Q',(∀t' h' s',E (i+1) s' t' h'→F rest s'=F (x::rest) s→J t' h')→(∀e t h,Q (F (x::rest) s) e t h→Q' e ⟨mk N t,h⟩)→l[i]?=some x→i<l.length→E i s t h→
   oV N J Q' (Cj Bn Tryz.prog 5000 c [] ⟨mk N t,h⟩)):
 ∀s t h,E 0 s t h→LpQ Bn c ⟨mk N t,h⟩ (Ot N (Q (F l s))):=acI (pr:=pr) rfl N l E F Q stop go
theorem cnt{σ ρ:Type}{c:Code}(N:Nat)(E:Nat→σ→Tm→Aa→Prop)(F:Nat→σ→ρ)(Q:ρ→Ex→Tm→Aa→Prop)
 (stop:∀s t h Q',(∀e t h,Q (F 0 s) e t h→Q' e ⟨mk N t,h⟩)→E 0 s t h→oV N (fun _ _=>False) Q' (Cj Bn Tryz.prog 5000 c [] ⟨mk N t,h⟩))
 (go:∀n s t h J Q',(∀t' h' s',E n s' t' h'→F n s'=F (n+1) s→J t' h')→(∀e t h,Q (F (n+1) s) e t h→Q' e ⟨mk N t,h⟩)→E (n+1) s t h→oV N J Q' (Cj Bn Tryz.prog 5000 c [] ⟨mk N t,h⟩)):
 ∀n s t h,E n s t h→LpQ Bn c ⟨mk N t,h⟩ (Ot N (Q (F n s))):=afV (pr:=pr) rfl N E F Q stop go
structure Bc where
 fill:Int
 inn:Int
 out:Int
def Bc.cells(r:Bc):List AV:=[.int .i64 r.fill,.int .i64 r.inn,.int .i64 r.out]
structure Ae where
 firm:Bool
 space:Int
 lo:Int
 hi:Int
 nn:Bool
 rates:List Bc
 gas:Int
 fixed:Int
 inn:Int
 out:Int
 cut:Int
 lack:Int
def Ae.cells(c:Ae):List AV:=[.bool c.firm,.int .i64 c.space,.int .i64 c.lo,.int .i64 c.hi,Bj 3 true c.nn (c.rates.map Bc.cells),.int .i64 c.gas,.int .i64 c.fixed,.int .i64 c.inn,.int .i64 c.out,.int .i64 c.cut,.int .i64 c.lack]
structure Ac where
 space:Int
 inn:Int
 out:Int
 lead:Int
 fuel:Int
 nn:Bool
 cons:List Ae
abbrev Ac.cells(s:Ac):List AV:=[.int .i64 s.space,.int .i64 s.inn,.int .i64 s.out,.int .i64 s.lead,.int .i64 s.fuel,Bj 11 false s.nn (s.cons.map Ae.cells)]
def iv(x:Int):List AV:=[.int .i64 x]
def Gm(x lo hi:Int):Bool:=decide (lo≤x)&&decide (x≤hi)
theorem lV(x lo hi:Int):Bn.call (.fn 71) [.int .i64 x,.int .i64 lo,.int .i64 hi] []=some (.ret (.bool (Gm x lo hi)),[]):=by
 (refine ce Tryz.func71 ?_;simp only[Tryz.f71];(have hb:=trivial;with_reducible repeat' (first|simp only[hb,Va.down,seval]|refine Aj ?_ ?_<;>intro hb|refine fd ?_|fail)))
 all_goals simp[Gm, *]
theorem gA(x lo hi:Int):Bn.call (.fn 54) [.int .i64 x,.int .i64 lo,.int .i64 hi] []=some (.ret (.bool (Gm x lo hi)),[]):=by
 (refine ce Tryz.func54 ?_;simp only[Tryz.f54];(have hb:=trivial;with_reducible repeat' (first|simp only[hb,Va.down,seval]|refine Aj ?_ ?_<;>intro hb|refine fd ?_|fail)))
 all_goals simp[Gm, *]
def dK(x y:Int):Bool:=decide (0≤x)&&decide (x≤y)&&decide (y<48)
theorem akJ(x y:Int):Bn.call (.fn 66) [.agg [.int .i64 x,.int .i64 y]] []=some (.ret (.bool (dK x y)),[]):=by
 (refine ce Tryz.func66 ?_;simp only[Tryz.f66];(have hb:=trivial;with_reducible repeat' (first|simp only[hb,Va.down,seval,axI.down]|refine Aj ?_ ?_<;>intro hb|refine fd ?_|fail)))
 all_goals simp[dK, *]
theorem aeC(x:Int):Bn.call (.fn 93) [.int .i64 x] []=some (.ret (.bool (!Gm x 0 800000000)),[]):=by
 (refine ce Tryz.func93 ?_;simp only[Tryz.f93];(have hb:=trivial;with_reducible repeat' (first|simp only[hb,Va.down,seval,lV]|refine Aj ?_ ?_<;>intro hb|refine fd ?_|fail)))
theorem zQ(x:Int):Bn.call (.fn 136) [.int .i64 x] []=some (.ret (.bool (!Gm x 0 10000)),[]):=by
 (refine ce Tryz.func136 ?_;simp only[Tryz.f136];(have hb:=trivial;with_reducible repeat' (first|simp only[hb,Va.down,seval,lV]|refine Aj ?_ ?_<;>intro hb|refine fd ?_|fail)))
theorem pH(x:Int):Bn.call (.fn 19) [.int .i64 x] []=some (.ret (.bool (Gm x 0 800000000)),[]):=by
 (refine ce Tryz.func19 ?_;simp only[Tryz.f19];(have hb:=trivial;with_reducible repeat' (first|simp only[hb,Va.down,seval,gA]|refine Aj ?_ ?_<;>intro hb|refine fd ?_|fail)))
theorem xU(x:Int):Bn.call (.fn 81) [.int .i64 x] []=some (.ret (.bool (Gm x 0 100000000)),[]):=by
 (refine ce Tryz.func81 ?_;simp only[Tryz.f81];(have hb:=trivial;with_reducible repeat' (first|simp only[hb,Va.down,seval,gA]|refine Aj ?_ ?_<;>intro hb|refine fd ?_|fail)))
theorem ajC(x:Int):Bn.call (.fn 80) [.int .i64 x] []=some (.ret (.bool (Gm x 0 10000)),[]):=by
 (refine ce Tryz.func80 ?_;simp only[Tryz.f80];(have hb:=trivial;with_reducible repeat' (first|simp only[hb,Va.down,seval,gA]|refine Aj ?_ ?_<;>intro hb|refine fd ?_|fail)))
theorem vR(x:Int):Bn.call (.fn 38) [.int .i64 x] []=some (.ret (.bool (Gm x 0 47)),[]):=by
 (refine ce Tryz.func38 ?_;simp only[Tryz.f38];(have hb:=trivial;with_reducible repeat' (first|simp only[hb,Va.down,seval,gA]|refine Aj ?_ ?_<;>intro hb|refine fd ?_|fail)))
theorem aj9(x y:Int):Bn.call (.fn 31) [.agg [.int .i64 x,.int .i64 y]] []=some (.ret (.bool (dK x y)),[]):=by
 (refine ce Tryz.func31 ?_;simp only[Tryz.f31];(have hb:=trivial;with_reducible repeat' (first|simp only[hb,Va.down,seval,aw7.down,vR]|refine Aj ?_ ?_<;>intro hb|refine fd ?_|fail)))
 all_goals (refine congrArg (fun b=>(Dx.ret (AV.bool b),([]:Aa))) ?_;rw[Bool.eq_iff_iff];simp only[dK,Gm,abL,abT,acK,acY,acZ,decide_eq_true_eq,decide_eq_false_iff_not,beq_iff_eq,beq_eq_false_iff_ne,Bool.false_eq_true,false_iff,iff_false,true_iff,iff_true,ac2,ac3]at *;omega)
theorem uE(c:Ae)(f:Bool)(h:Int):Bn.call (.fn 111) [.agg [.bool f,.int .i64 c.space,.int .i64 c.lo,.int .i64 c.hi,Bj 3 true c.nn (c.rates.map Bc.cells),.int .i64 c.gas,.int .i64 c.fixed,.int .i64 c.inn,.int .i64 c.out,.int .i64 c.cut,.int .i64 c.lack],.int .i64 h] []=some (.ret (.bool (Gm h c.lo c.hi)),[]):=by
 (refine ce Tryz.func111 ?_;simp only[Tryz.f111];(have hb:=trivial;with_reducible repeat' (first|simp only[hb,Va.down,seval,avR.down,lV]|refine Aj ?_ ?_<;>intro hb|refine fd ?_|fail)))
theorem afW(c:Ae)(f:Bool)(h:Int):Bn.call (.fn 79) [.agg [.bool f,.int .i64 c.space,.int .i64 c.lo,.int .i64 c.hi,Bj 3 true c.nn (c.rates.map Bc.cells),.int .i64 c.gas,.int .i64 c.fixed,.int .i64 c.inn,.int .i64 c.out,.int .i64 c.cut,.int .i64 c.lack],.int .i64 h] []=some (.ret (.bool (Gm h c.lo c.hi)),[]):=by
 (refine ce Tryz.func79 ?_;simp only[Tryz.f79];(have hb:=trivial;with_reducible repeat' (first|simp only[hb,Va.down,seval,axO.down,gA]|refine Aj ?_ ?_<;>intro hb|refine fd ?_|fail)))
def lC{α:Type}(p:α→Bool):List α→Int→Int
 | [],_=> -1
 |x::l,i=>if p x=true then i else lC p l (i+1)
theorem Zb{α:Type}(p:α→Bool):∀(l:List α) (i:Int),0≤i→decide (0≤lC p l i)=l.any p
 | [],i,_=>rfl
 |x::l,i,h=>by
  unfold lC
  split
  ·rename_i hp;simp[h,hp]
  ·rename_i hp;rw[Zb p l (i+1) (by omega)];simp[hp]
theorem adY{l:List Int}{nn:Bool}{g:Nat}{cap:List AV}{p:Int→Bool}(hc:cap.all (Az 8)=true)(hc7:cap.all (Az 7)=true)(hp:∀x∈l,Bn.call (.fn g) (.int .i64 x::cap) []=some (.ret (.bool (p x)),[]))(hl:l.length≤maxLen):
 Bn.call (.fn 92) [Bj 1 true nn (l.map iv),.func (.func g) [] cap] []=some (.ret (.int .i64 (lC p l 0)),[]):=by
 (refine ce Tryz.func92 ?_;simp only[Tryz.f92];(have hb:=trivial;with_reducible repeat' (first|simp only[hb,Va.down,seval,afS.down,aeO]|refine Aj ?_ ?_<;>intro hb|refine fd ?_|fail)))
 refine Di (Rm 19 l (fun i (s:Int) t h=>s=i∧h=[]∧t 0=Bj 1 true nn (l.map iv)∧t 1=.func (.func g) [] cap∧t 7=.int .i64 l.length∧t 8=.int .i64 i)
  (fun rest s=>lC p rest s) (fun r e t h=>h=[]∧((e=.exit 0∧r= -1)∨(e=.ret∧t 4=.int .i64 r))) ?_ ?_ 0 _ _ ?_) (fun e t h hk=>?_)
 ·rintro s t h Q' kQ ⟨rfl,rfl,h0,h1,h7,h8⟩
  (have hb:=trivial;with_reducible repeat' (first|simp only[hb,Va.down,seval,afS.down,h0,h1,h7,h8,adA,decide_false]|refine Aj ?_ ?_<;>intro hb|refine fd ?_|fail))
  exact kQ _ _ _ ⟨rfl,.inl ⟨rfl,rfl⟩⟩
 ·rintro x rest i s t h J Q' kJ kQ hx hi ⟨rfl,rfl,h0,h1,h7,h8⟩
  have hpx:=hp x (ai6 hx)
  have hd:decide ((i:Int)<(l.length:Int))=true:=by simpa using hi
  (have hb:=trivial;with_reducible repeat' (first|simp only[hb,Va.down,seval,afS.down,h0,h1,h7,h8,hd,hx,iv,hc,hc7,hpx,Ak hi hl]|refine Aj ?_ ?_<;>intro hb|refine fd ?_|fail))
  ·exact kQ _ _ _ ⟨rfl,.inr ⟨rfl,by simp[up,lC,hb]⟩⟩
  ·exact Ao (kJ _ _ (i+1) ⟨by simp,rfl,by simp[up,h0],by simp[up,h1],by simp[up,h7],by simp[up]⟩ (by simp[lC,hb]))
 ·exact⟨rfl,rfl,by simp[up,Dh],by simp[up,Dh],by simp[up],by simp[up]⟩
 ·obtain⟨rfl,⟨rfl,hi⟩|⟨rfl,hi⟩⟩:=hk
  ·(have hb:=trivial;with_reducible repeat' (first|simp only[hb,Va.down,seval,afS.down]|refine Aj ?_ ?_<;>intro hb|refine fd ?_|fail))
   rw[hi]
  ·(have hb:=trivial;with_reducible repeat' (first|simp only[hb,Va.down,seval,afS.down,hi]|refine Aj ?_ ?_<;>intro hb|refine fd ?_|fail))
theorem mI{l:List Int}{nn:Bool}{g:Nat}{cap:List AV}{p:Int→Bool}(hc:cap.all (Az 8)=true)(hc7:cap.all (Az 7)=true)(hp:∀x∈l,Bn.call (.fn g) (.int .i64 x::cap) []=some (.ret (.bool (p x)),[]))(hl:l.length≤maxLen):
 Bn.call (.fn 50) [Bj 1 true nn (l.map iv),.func (.func g) [] cap] []=some (.ret (.bool (l.any p)),[]):=by
 (refine ce Tryz.func50 ?_;simp only[Tryz.f50];(have hb:=trivial;with_reducible repeat' (first|simp only[hb,Va.down,seval,adY hc hc7 hp hl,hc,hc7,Zb p l 0 (aiT 0)]|refine Aj ?_ ?_<;>intro hb|refine fd ?_|fail)))
theorem agG{l:List Ae}{nn:Bool}{g:Nat}{cap:List AV}{p:Ae→Bool}(hc:cap.all (Az 8)=true)(hc7:cap.all (Az 7)=true)(hp:∀x∈l,Bn.call (.fn g) (.agg [.bool x.firm,.int .i64 x.space,.int .i64 x.lo,.int .i64 x.hi,Bj 3 true x.nn (x.rates.map Bc.cells),.int .i64 x.gas,.int .i64 x.fixed,.int .i64 x.inn,.int .i64 x.out,.int .i64 x.cut,.int .i64 x.lack]::cap) []=some (.ret (.bool (p x)),[]))(hl:l.length≤maxLen):
 Bn.call (.fn 117) [Bj 11 false nn (l.map Ae.cells),.func (.func g) [] cap] []=some (.ret (.int .i64 (lC p l 0)),[]):=by
 (refine ce Tryz.func117 ?_;simp only[Tryz.f117];(have hb:=trivial;with_reducible repeat' (first|simp only[hb,Va.down,seval,rK.down,aeO]|refine Aj ?_ ?_<;>intro hb|refine fd ?_|fail)))
 refine Di (Rm 19 l (fun i (s:Int) t h=>s=i∧h=[]∧t 0=Bj 11 false nn (l.map Ae.cells)∧t 1=.func (.func g) [] cap∧t 7=.int .i64 l.length∧t 8=.int .i64 i)
  (fun rest s=>lC p rest s) (fun r e t h=>h=[]∧((e=.exit 0∧r= -1)∨(e=.ret∧t 4=.int .i64 r))) ?_ ?_ 0 _ _ ?_) (fun e t h hk=>?_)
 ·rintro s t h Q' kQ ⟨rfl,rfl,h0,h1,h7,h8⟩
  (have hb:=trivial;with_reducible repeat' (first|simp only[hb,Va.down,seval,rK.down,h0,h1,h7,h8,adA,decide_false]|refine Aj ?_ ?_<;>intro hb|refine fd ?_|fail))
  exact kQ _ _ _ ⟨rfl,.inl ⟨rfl,rfl⟩⟩
 ·rintro x rest i s t h J Q' kJ kQ hx hi ⟨rfl,rfl,h0,h1,h7,h8⟩
  have hpx:=hp x (ai6 hx)
  have hd:decide ((i:Int)<(l.length:Int))=true:=by simpa using hi
  (have hb:=trivial;with_reducible repeat' (first|simp only[hb,Va.down,seval,rK.down,h0,h1,h7,h8,hd,hx,Ae.cells,hc,hc7,hpx,Ak hi hl]|refine Aj ?_ ?_<;>intro hb|refine fd ?_|fail))
  ·exact kQ _ _ _ ⟨rfl,.inr ⟨rfl,by simp[up,lC,hb]⟩⟩
  ·exact Ao (kJ _ _ (i+1) ⟨by simp,rfl,by simp[up,h0],by simp[up,h1],by simp[up,h7],by simp[up]⟩ (by simp[lC,hb]))
 ·exact⟨rfl,rfl,by simp[up,Dh],by simp[up,Dh],by simp[up],by simp[up]⟩
 ·obtain⟨rfl,⟨rfl,hi⟩|⟨rfl,hi⟩⟩:=hk
  ·(have hb:=trivial;with_reducible repeat' (first|simp only[hb,Va.down,seval,rK.down]|refine Aj ?_ ?_<;>intro hb|refine fd ?_|fail))
   rw[hi]
  ·(have hb:=trivial;with_reducible repeat' (first|simp only[hb,Va.down,seval,rK.down,hi]|refine Aj ?_ ?_<;>intro hb|refine fd ?_|fail))
theorem aa2{l:List Ae}{nn:Bool}{g:Nat}{cap:List AV}{p:Ae→Bool}(hc:cap.all (Az 8)=true)(hc7:cap.all (Az 7)=true)(hp:∀x∈l,Bn.call (.fn g) (.agg [.bool x.firm,.int .i64 x.space,.int .i64 x.lo,.int .i64 x.hi,Bj 3 true x.nn (x.rates.map Bc.cells),.int .i64 x.gas,.int .i64 x.fixed,.int .i64 x.inn,.int .i64 x.out,.int .i64 x.cut,.int .i64 x.lack]::cap) []=some (.ret (.bool (p x)),[]))(hl:l.length≤maxLen):
 Bn.call (.fn 82) [Bj 11 false nn (l.map Ae.cells),.func (.func g) [] cap] []=some (.ret (.bool (l.any p)),[]):=by
 (refine ce Tryz.func82 ?_;simp only[Tryz.f82];(have hb:=trivial;with_reducible repeat' (first|simp only[hb,Va.down,seval,agG hc hc7 hp hl,hc,hc7,Zb p l 0 (aiT 0)]|refine Aj ?_ ?_<;>intro hb|refine fd ?_|fail)))
theorem aeQ{l:List Int}{nn:Bool}(hl:l.length≤maxLen):Bn.call (.fn 118) [Bj 1 true nn (l.map iv)] []=some (.ret (.bool (l.all fun x=>Gm x 0 10000)),[]):=by
 have h:=mI (l:=l) (nn:=nn) (g:=136) (cap:=[]) (p:=fun x=> !Gm x 0 10000) rfl rfl (fun x _=>zQ x) hl
 (refine ce Tryz.func118 ?_;simp only[Tryz.f118];(have hb:=trivial;with_reducible repeat' (first|simp only[hb,Va.down,seval,h]|refine Aj ?_ ?_<;>intro hb|refine fd ?_|fail)))
 simp[ai7]
theorem xI{l:List Int}{nn:Bool}(hl:l.length≤maxLen):Bn.call (.fn 52) [Bj 1 true nn (l.map iv)] []=some (.ret (.bool (l.all fun x=>Gm x 0 800000000)),[]):=by
 have h:=mI (l:=l) (nn:=nn) (g:=93) (cap:=[]) (p:=fun x=> !Gm x 0 800000000) rfl rfl (fun x _=>aeC x) hl
 (refine ce Tryz.func52 ?_;simp only[Tryz.f52];(have hb:=trivial;with_reducible repeat' (first|simp only[hb,Va.down,seval,h]|refine Aj ?_ ?_<;>intro hb|refine fd ?_|fail)))
 simp[ai7]
def Pz(p:Option Bc)(r:Bc):Bool:=Gm r.fill 0 1000&&Gm r.inn 0 100000000&&Gm r.out 0 100000000&&(match p with|none=>decide (r.fill=0)|some q=>decide (q.fill<r.fill)&&decide (r.inn≤q.inn)&&decide (q.out≤r.out))
def Fq:List Bc→Option Bc→Bool
 | [],_=>true
 |r::rest,p=>Pz p r&&Fq rest (some r)
def Gz(c:Ae):Bool:=Fq c.rates none&&Gm c.space 1 100000000&&dK c.lo c.hi&&Gm c.rates.length 1 6&&Gm c.gas 0 c.space&&[c.fixed,c.inn,c.out,c.cut,c.lack].all fun x=>Gm x 0 10000
theorem Ci{h:Aa}{b:Nat}{c:CB}(h0:h[b]?=some c)(l:Aa):(h++l)[b]?=some c:=by
 rw[List.getElem?_append_left (ai5.1 h0).1];exact h0
theorem vD(c:Ae)(hl:c.rates.length≤maxLen):Bn.call (.fn 84) [.agg [.bool c.firm,.int .i64 c.space,.int .i64 c.lo,.int .i64 c.hi,Bj 3 true c.nn (c.rates.map Bc.cells),.int .i64 c.gas,.int .i64 c.fixed,.int .i64 c.inn,.int .i64 c.out,.int .i64 c.cut,.int .i64 c.lack]] []=some (.ret (.bool (Gz c)),[]):=by
 have hpr:=aeQ (l:=[c.fixed,c.inn,c.out,c.cut,c.lack]) (nn:=true) (by simp[maxLen])
 simp only[List.map_cons,List.map_nil,iv,kW]at hpr
 (refine ce Tryz.func84 ?_;simp only[Tryz.f84];(have hb:=trivial;with_reducible repeat' (first|simp only[hb,Va.down,seval,abM.down,aeO]|refine Aj ?_ ?_<;>intro hb|refine fd ?_|fail)))
 refine Di (Rm 112 c.rates (fun i (s:Option Bc) t h=>(i=0∧s=none∨0<i∧s=c.rates[i-1]?)∧h[0]?=some (.live 11 false false [[.bool c.firm,.int .i64 c.space,.int .i64 c.lo,.int .i64 c.hi,Bj 3 true c.nn (c.rates.map Bc.cells),.int .i64 c.gas,.int .i64 c.fixed,.int .i64 c.inn,.int .i64 c.out,.int .i64 c.cut,.int .i64 c.lack]])∧t 1=.ptr 0 0 0∧t 6=Bj 3 true c.nn (c.rates.map Bc.cells)∧t 7=.int .i64 c.rates.length∧t 8=.int .i64 i)
  (fun rest s=>Fq rest s) (fun r e t h=>if r=true then e=.exit 0∧t 1=.ptr 0 0 0∧h[0]?=some (.live 11 false false [[.bool c.firm,.int .i64 c.space,.int .i64 c.lo,.int .i64 c.hi,Bj 3 true c.nn (c.rates.map Bc.cells),.int .i64 c.gas,.int .i64 c.fixed,.int .i64 c.inn,.int .i64 c.out,.int .i64 c.cut,.int .i64 c.lack]])else e=.ret∧t 2=.bool false) ?_ ?_ none _ _ ?_) (fun e t h hk=>?_)
 ·rintro s t h Q' kQ ⟨hs,hh,h1,h6,h7,h8⟩
  (have hb:=trivial;with_reducible repeat' (first|simp only[hb,Va.down,seval,abM.down,h1,h6,h7,h8,adA,decide_false]|refine Aj ?_ ?_<;>intro hb|refine fd ?_|fail))
  exact kQ _ _ _ (by simp[Fq,h1,hh,up])
 ·rintro x rest i s t h J Q' kJ kQ hx hi ⟨hs,hh,h1,h6,h7,h8⟩
  have hd:decide ((i:Int)<(c.rates.length:Int))=true:=by simpa using hi
  have hA:=Ci hh
  have kF:∀{p:Option Bc},Pz p x=false→Fq (x::rest) p=false:=fun h=>by simp[Fq,h]
  have kT:∀{p:Option Bc},Pz p x=true→Fq rest (some x)=Fq (x::rest) p:=fun h=>by simp[Fq,h]
  rcases hs with⟨rfl,rfl⟩|⟨hpos,rfl⟩
  ·have hw:=Ak hi hl
   simp only[Int.natCast_zero,Int.zero_add]at hd h8 hw
   (have hb:=trivial;with_reducible repeat' (first|simp only[hb,Va.down,seval,abM.down,hA,h1,h6,h7,h8,hd,hx,Bc.cells,lV,hw,Int.toNat_zero,aiT,beq_self_eq_true,adA,decide_false]|refine Aj ?_ ?_<;>intro hb|refine fd ?_|fail))
   all_goals first
    |exact kQ _ _ _ (by rw[if_neg (by rw[kF (by(rw[ai8];intro hcon;simp only[Pz,Gm,abL,abT,acK,acY,acZ,decide_eq_true_eq,decide_eq_false_iff_not,beq_iff_eq,beq_eq_false_iff_ne,ne_eq,aeG,ac2,ac3]at *;omega))];simp)];exact⟨rfl,rfl⟩)
    |exact Ao (kJ _ _ (some x) ⟨.inr ⟨by omega,by simp[hx]⟩,hA _,by simp[up,h1],by simp[up,h6],by simp[up,h7],by simp[up]<;>omega⟩ (kT (by(simp only[Pz,Gm,abL,abT,acK,acY,acZ,decide_eq_true_eq,decide_eq_false_iff_not,beq_iff_eq,beq_eq_false_iff_ne,ne_eq,aeG,ac2,ac3]at *;omega))))
  ·obtain⟨j,rfl⟩:∃j,i=j+1:=⟨i-1,by omega⟩
   obtain⟨q,hq⟩:∃q,c.rates[j]?=some q:=⟨c.rates[j],List.getElem?_eq_getElem (by omega)⟩
   have hj:IntKind.i64.wrap (((j+1:Nat):Int)-1)=(j:Int):=by unfold maxLen at hl;rw[Af (by omega) (by omega)];omega
   have hz:(((j+1:Nat):Int)==0)=false:=by rw[beq_eq_false_iff_ne];omega
   have hg:decide (0<((j+1:Nat):Int))=true:=by rw[decide_eq_true_eq];omega
   simp only[Nat.add_sub_cancel,hq]at kJ kQ
   (have hb:=trivial;with_reducible repeat' (first|simp only[hb,Va.down,seval,abM.down,hA,h1,h6,h7,h8,hd,hx,Bc.cells,lV,Ak hi hl,hj,hz,hg,hq]|refine Aj ?_ ?_<;>intro hb|refine fd ?_|fail))
   all_goals first
    |exact kQ _ _ _ (by rw[if_neg (by rw[kF (by(rw[ai8];intro hcon;simp only[Pz,Gm,abL,abT,acK,acY,acZ,decide_eq_true_eq,decide_eq_false_iff_not,beq_iff_eq,beq_eq_false_iff_ne,ne_eq,aeG,ac2,ac3]at *;omega))];simp)];exact⟨rfl,rfl⟩)
    |exact Ao (kJ _ _ (some x) ⟨.inr ⟨by omega,by simp[hx]⟩,hA _,by simp[up,h1],by simp[up,h6],by simp[up,h7],by simp[up]<;>omega⟩ (kT (by(simp only[Pz,Gm,abL,abT,acK,acY,acZ,decide_eq_true_eq,decide_eq_false_iff_not,beq_iff_eq,beq_eq_false_iff_ne,ne_eq,aeG,ac2,ac3]at *;omega))))
 ·exact⟨.inl ⟨rfl,rfl⟩,rfl,by simp[up],by simp[up],by simp[up],by simp[up]⟩
 ·split at hk
  ·obtain⟨rfl,h1,hh⟩:=hk
   have hA:=Ci hh
   rename_i hr
   (have hb:=trivial;with_reducible repeat' (first|simp only[hb,Va.down,seval,abM.down,hA,hh,h1,lV,akJ,hpr]|refine Aj ?_ ?_<;>intro hb|refine fd ?_|fail))
   all_goals simp[Gz, *]
  ·obtain⟨rfl,h2⟩:=hk
   rename_i hr
   (have hb:=trivial;with_reducible repeat' (first|simp only[hb,Va.down,seval,abM.down,h2]|refine Aj ?_ ?_<;>intro hb|refine fd ?_|fail))
   all_goals simp[Gz,hr]
end Go.Proofs.YtdbiogihimdpcaaGreatDoor
