/- The functions of the layer, walked. -/
import Derived.Test.YtdbiogihimdpcaaGreatDoorLibD
import Derived.Test.YtdbiogihimdpcaaGreatDoorChecked
import Derived.Test.YtdbiogihimdpcaaGreatDoorLibE
import Derived.Test.YtdbiogihimdpcaaGreatDoorRows
import Derived.Test.YtdbiogihimdpcaaGreatDoorTie
import Derived.Test.YtdbiogihimdpcaaGreatDoorCards
import Derived.Test.YtdbiogihimdpcaaGreatDoorShelf
import Derived.ProofKit
import Derived.LaidMore
import Derived.OpenShut
import Derived.Stop.Joined
open And renaming intro→aaS
open List renaming mem_append_right→aaW,mem_append_left→aa0,mem_append→aa6
open Nat renaming ble→abB
set_option linter.unusedSimpArgs false
set_option linter.unusedVariables false
namespace Go.Proofs.YtdbiogihimdpcaaGreatDoor
open Go.Ev
set_option maxRecDepth 100000
theorem Ea(b r o:Nat):fa Tryz.prog 24 (some (.ptr b r o)) 5=some (.ret (.ptr b r (o+5)),[]):=Cb (show Cj Tryz.prog 24 5 5 1 from⟨_,_,Tryz.underlying24,rfl,rfl,by kernel_rfl,by decide⟩) b r o
theorem En(h:Ab)(b r o:Nat):ld Tryz.prog 22 h (some (.ptr b r o))=ldC (Pl (h[b]?) r) o:=cF ⟨by kernel_rfl,1,by kernel_rfl⟩ h b r o
theorem pB(b r o:Nat):rA Tryz.prog 22 (some (.ptr b r o))=some [.cells b o 1]:=Ly (isA:=false) (n:=1) (by kernel_rfl) (by kernel_rfl) b r o
theorem gR(st b r len:Nat):ln Tryz.prog 25 (some (.slr st b r len))=some (.ret (.int .i64 len),[]):=zT (n:=1) ⟨_,Tryz.underlying25,by kernel_rfl⟩ st b r len
theorem pZ:ln Tryz.prog 25 (some .nils)=some (.ret (.int .i64 0),[]):=kP (n:=1) ⟨_,Tryz.underlying25,by kernel_rfl⟩
theorem Hz(fl nn:Bool)(rows:List (List AV)):ln Tryz.prog 25 (some (Ao 1 fl nn rows))=some (.ret (.int .i64 rows.length),[]):=fO ⟨_,Tryz.underlying25,by kernel_rfl⟩ fl nn rows
theorem Gm(h:Ab)(b r o:Nat):ld Tryz.prog 24 h (some (.ptr b r o))=ldR (Pl (h[b]?) r) o 6:=cB ⟨by kernel_rfl,by kernel_rfl⟩ h b r o
theorem bQ(b r o:Nat):rA Tryz.prog 24 (some (.ptr b r o))=some [.cells b o 6]:=Ly (isA:=true) (n:=6) (by kernel_rfl) (by kernel_rfl) b r o
theorem Ij(b r len:Nat)(k:IntKind)(i:Int):ia Tryz.prog 25 (some (.slr 1 b r len)) (some (.int k i))=if 0≤i∧i<len then some (.ret (.ptr b (r+i.toNat) 0),[])else none:=yF ⟨_,Tryz.underlying25,by kernel_rfl⟩ b r len k i
theorem Gl(fl nn:Bool)(rows:List (List AV))(k:IntKind)(i:Int):ia Tryz.prog 25 (some (Ao 1 fl nn rows)) (some (.int k i))=if 0≤i then r1 ((rows[i.toNat]?).map .iptr)else none:=fH ⟨_,Tryz.underlying25,by kernel_rfl⟩ fl nn rows k i
theorem Au(h:Ab)(b r o:Nat):ld Tryz.prog 3 h (some (.ptr b r o))=ldC (Pl (h[b]?) r) o:=cF ⟨by kernel_rfl,1,by kernel_rfl⟩ h b r o
theorem Ci(h:Ab)(c:AV)(cs:List AV):ld Tryz.prog 3 h (some (.iptr (c::cs)))=some (.ret c,[]):=ajQ ⟨by kernel_rfl,1,by kernel_rfl⟩ h c cs
theorem Ug(b r o:Nat):rA Tryz.prog 3 (some (.ptr b r o))=some [.cells b o 1]:=Ly (isA:=false) (n:=1) (by kernel_rfl) (by kernel_rfl) b r o
theorem Fq(fl nn:Bool)(rows:List (List AV))(k:IntKind)(i:Int):ia Tryz.prog 22 (some (Ao 11 fl nn rows)) (some (.int k i))=if 0≤i then r1 ((rows[i.toNat]?).map .iptr)else none:=fH ⟨_,Tryz.underlying22,by kernel_rfl⟩ fl nn rows k i
theorem bG(b r o:Nat):fa Tryz.prog 42 (some (.ptr b r o)) 0=some (.ret (.ptr b r (o+0)),[]):=Cb (show Cj Tryz.prog 42 0 0 1 from⟨_,_,Tryz.underlying42,rfl,rfl,by kernel_rfl,by decide⟩) b r o
theorem bE(cs:List AV):fa Tryz.prog 42 (some (.iptr cs)) 0=if 0+1≤cs.length then some (.ret (.iptr (cs.drop 0)),[])else none:=Rh (show Cj Tryz.prog 42 0 0 1 from⟨_,_,Tryz.underlying42,rfl,rfl,by kernel_rfl,by decide⟩) cs
theorem gB(h:Ab)(b r o:Nat):ld Tryz.prog 4 h (some (.ptr b r o))=ldC (Pl (h[b]?) r) o:=cF ⟨by kernel_rfl,1,by kernel_rfl⟩ h b r o
theorem fW(h:Ab)(c:AV)(cs:List AV):ld Tryz.prog 4 h (some (.iptr (c::cs)))=some (.ret c,[]):=ajQ ⟨by kernel_rfl,1,by kernel_rfl⟩ h c cs
theorem Uo(h:Ab)(b r o:Nat):ld Tryz.prog 48 h (some (.ptr b r o))=ldR (Pl (h[b]?) r) o 3:=cB ⟨by kernel_rfl,by kernel_rfl⟩ h b r o
theorem acR(b r o:Nat):rA Tryz.prog 48 (some (.ptr b r o))=some [.cells b o 3]:=Ly (isA:=true) (n:=3) (by kernel_rfl) (by kernel_rfl) b r o
theorem Jq(b r o:Nat):fa Tryz.prog 48 (some (.ptr b r o)) 0=some (.ret (.ptr b r (o+0)),[]):=Cb (show Cj Tryz.prog 48 0 0 1 from⟨_,_,Tryz.underlying48,rfl,rfl,by kernel_rfl,by decide⟩) b r o
theorem Lh(h:Ab)(b r o:Nat):ld Tryz.prog 44 h (some (.ptr b r o))=ldC (Pl (h[b]?) r) o:=cF ⟨by kernel_rfl,1,by kernel_rfl⟩ h b r o
theorem Qo(fl nn:Bool)(rows:List (List AV)):ln Tryz.prog 44 (some (Ao 4 fl nn rows))=some (.ret (.int .i64 rows.length),[]):=fO ⟨_,Tryz.underlying44,by kernel_rfl⟩ fl nn rows
theorem Gp(fl nn:Bool)(rows:List (List AV)):ln Tryz.prog 22 (some (Ao 11 fl nn rows))=some (.ret (.int .i64 rows.length),[]):=fO ⟨_,Tryz.underlying22,by kernel_rfl⟩ fl nn rows
theorem Lm:Nj Tryz.prog 52=some (.agg [.int .i64 0,.nils,.int .i64 0,.int .i64 0,.nils,.nils]):=by kernel_rfl
theorem Lp(h:Ab)(b r o:Nat)(v:AV):xK Tryz.prog 52 h (some (.ptr b r o)) (some v)=sv 6 (h[b]?) b r o (acells v):=Sv (by kernel_rfl) h b r o v
theorem gW(b r o:Nat):ftS Tryz.prog 52 (some (.ptr b r o))=some [.cells b o 6]:=bX (by kernel_rfl) b r o
theorem adX(st b r len:Nat):ln Tryz.prog 53 (some (.slr st b r len))=some (.ret (.int .i64 len),[]):=zT (n:=4) ⟨_,Tryz.underlying53,by kernel_rfl⟩ st b r len
theorem aeQ:ln Tryz.prog 53 (some .nils)=some (.ret (.int .i64 0),[]):=kP (n:=4) ⟨_,Tryz.underlying53,by kernel_rfl⟩
theorem Ez(b r o:Nat):fa Tryz.prog 52 (some (.ptr b r o)) 1=some (.ret (.ptr b r (o+1)),[]):=Cb (show Cj Tryz.prog 52 1 1 1 from⟨_,_,Tryz.underlying52,rfl,rfl,by kernel_rfl,by decide⟩) b r o
theorem Dm(h:Ab)(b r o:Nat):ld Tryz.prog 25 h (some (.ptr b r o))=ldC (Pl (h[b]?) r) o:=cF ⟨by kernel_rfl,1,by kernel_rfl⟩ h b r o
theorem Lu(b r o:Nat):rA Tryz.prog 25 (some (.ptr b r o))=some [.cells b o 1]:=Ly (isA:=false) (n:=1) (by kernel_rfl) (by kernel_rfl) b r o
theorem It(b r o:Nat):fa Tryz.prog 52 (some (.ptr b r o)) 4=some (.ret (.ptr b r (o+4)),[]):=Cb (show Cj Tryz.prog 52 4 4 1 from⟨_,_,Tryz.underlying52,rfl,rfl,by kernel_rfl,by decide⟩) b r o
theorem aD(b r o:Nat):fa Tryz.prog 52 (some (.ptr b r o)) 2=some (.ret (.ptr b r (o+2)),[]):=Cb (show Cj Tryz.prog 52 2 2 1 from⟨_,_,Tryz.underlying52,rfl,rfl,by kernel_rfl,by decide⟩) b r o
theorem aC(b r o:Nat):fa Tryz.prog 52 (some (.ptr b r o)) 3=some (.ret (.ptr b r (o+3)),[]):=Cb (show Cj Tryz.prog 52 3 3 1 from⟨_,_,Tryz.underlying52,rfl,rfl,by kernel_rfl,by decide⟩) b r o
theorem Zs(b r o:Nat):fa Tryz.prog 42 (some (.ptr b r o)) 4=some (.ret (.ptr b r (o+5)),[]):=Cb (show Cj Tryz.prog 42 4 5 1 from⟨_,_,Tryz.underlying42,rfl,rfl,by kernel_rfl,by decide⟩) b r o
theorem vZ(cs:List AV):fa Tryz.prog 42 (some (.iptr cs)) 4=if 5+1≤cs.length then some (.ret (.iptr (cs.drop 5)),[])else none:=Rh (show Cj Tryz.prog 42 4 5 1 from⟨_,_,Tryz.underlying42,rfl,rfl,by kernel_rfl,by decide⟩) cs
theorem ad0(b r len:Nat)(k:IntKind)(i:Int):ia Tryz.prog 53 (some (.slr 4 b r len)) (some (.int k i))=if 0≤i∧i<len then some (.ret (.ptr b (r+i.toNat) 0),[])else none:=yF ⟨_,Tryz.underlying53,by kernel_rfl⟩ b r len k i
theorem Vo(b r o:Nat):fa Tryz.prog 57 (some (.ptr b r o)) 0=some (.ret (.ptr b r (o+0)),[]):=Cb (show Cj Tryz.prog 57 0 0 1 from⟨_,_,Tryz.underlying57,rfl,rfl,by kernel_rfl,by decide⟩) b r o
theorem Vh(b r o:Nat):fa Tryz.prog 57 (some (.ptr b r o)) 1=some (.ret (.ptr b r (o+1)),[]):=Cb (show Cj Tryz.prog 57 1 1 1 from⟨_,_,Tryz.underlying57,rfl,rfl,by kernel_rfl,by decide⟩) b r o
theorem Vd(b r o:Nat):fa Tryz.prog 57 (some (.ptr b r o)) 2=some (.ret (.ptr b r (o+2)),[]):=Cb (show Cj Tryz.prog 57 2 2 1 from⟨_,_,Tryz.underlying57,rfl,rfl,by kernel_rfl,by decide⟩) b r o
theorem bN(fl nn:Bool)(rows:List (List AV))(k:IntKind)(i:Int):ia Tryz.prog 44 (some (Ao 4 fl nn rows)) (some (.int k i))=if 0≤i then r1 ((rows[i.toNat]?).map .iptr)else none:=fH ⟨_,Tryz.underlying44,by kernel_rfl⟩ fl nn rows k i
theorem Vp(b r o:Nat):fa Tryz.prog 59 (some (.ptr b r o)) 2=some (.ret (.ptr b r (o+2)),[]):=Cb (show Cj Tryz.prog 59 2 2 1 from⟨_,_,Tryz.underlying59,rfl,rfl,by kernel_rfl,by decide⟩) b r o
theorem Vw(b r o:Nat):fa Tryz.prog 59 (some (.ptr b r o)) 3=some (.ret (.ptr b r (o+3)),[]):=Cb (show Cj Tryz.prog 59 3 3 1 from⟨_,_,Tryz.underlying59,rfl,rfl,by kernel_rfl,by decide⟩) b r o
theorem Nz(h:Ab)(b r o:Nat):ld Tryz.prog 42 h (some (.ptr b r o))=ldR (Pl (h[b]?) r) o 11:=cB ⟨by kernel_rfl,by kernel_rfl⟩ h b r o
theorem Jv(h:Ab)(cs:List AV):ld Tryz.prog 42 h (some (.iptr cs))=if 11≤cs.length then some (.ret (.agg (cs.take 11)),[])else none:=vF ⟨by kernel_rfl,by kernel_rfl⟩ h cs
theorem pV(b r o:Nat):rA Tryz.prog 42 (some (.ptr b r o))=some [.cells b o 11]:=Ly (isA:=true) (n:=11) (by kernel_rfl) (by kernel_rfl) b r o
theorem Rw:Nj Tryz.prog 42=some (.agg [.bool false,.int .i64 0,.int .i64 0,.int .i64 0,.nils,.int .i64 0,.int .i64 0,.int .i64 0,.int .i64 0,.int .i64 0,.int .i64 0]):=by kernel_rfl
theorem Sj(h:Ab)(b r o:Nat)(v:AV):xK Tryz.prog 42 h (some (.ptr b r o)) (some v)=sv 11 (h[b]?) b r o (acells v):=Sv (by kernel_rfl) h b r o v
theorem Vq(b r o:Nat):fa Tryz.prog 42 (some (.ptr b r o)) 2=some (.ret (.ptr b r (o+2)),[]):=Cb (show Cj Tryz.prog 42 2 2 2 from⟨_,_,Tryz.underlying42,rfl,rfl,by kernel_rfl,by decide⟩) b r o
theorem Uy(b r o:Nat):fa Tryz.prog 39 (some (.ptr b r o)) 0=some (.ret (.ptr b r (o+0)),[]):=Cb (show Cj Tryz.prog 39 0 0 1 from⟨_,_,Tryz.underlying39,rfl,rfl,by kernel_rfl,by decide⟩) b r o
theorem Vf(b r o:Nat):fa Tryz.prog 39 (some (.ptr b r o)) 1=some (.ret (.ptr b r (o+1)),[]):=Cb (show Cj Tryz.prog 39 1 1 1 from⟨_,_,Tryz.underlying39,rfl,rfl,by kernel_rfl,by decide⟩) b r o
theorem Vr(b r o:Nat):fa Tryz.prog 42 (some (.ptr b r o)) 5=some (.ret (.ptr b r (o+6)),[]):=Cb (show Cj Tryz.prog 42 5 6 1 from⟨_,_,Tryz.underlying42,rfl,rfl,by kernel_rfl,by decide⟩) b r o
theorem Wa(b r o:Nat):fa Tryz.prog 42 (some (.ptr b r o)) 6=some (.ret (.ptr b r (o+7)),[]):=Cb (show Cj Tryz.prog 42 6 7 1 from⟨_,_,Tryz.underlying42,rfl,rfl,by kernel_rfl,by decide⟩) b r o
theorem Ve(b r o:Nat):fa Tryz.prog 42 (some (.ptr b r o)) 7=some (.ret (.ptr b r (o+8)),[]):=Cb (show Cj Tryz.prog 42 7 8 1 from⟨_,_,Tryz.underlying42,rfl,rfl,by kernel_rfl,by decide⟩) b r o
theorem Wj(b r o:Nat):fa Tryz.prog 42 (some (.ptr b r o)) 8=some (.ret (.ptr b r (o+9)),[]):=Cb (show Cj Tryz.prog 42 8 9 1 from⟨_,_,Tryz.underlying42,rfl,rfl,by kernel_rfl,by decide⟩) b r o
theorem Wc(b r o:Nat):fa Tryz.prog 59 (some (.ptr b r o)) 0=some (.ret (.ptr b r (o+0)),[]):=Cb (show Cj Tryz.prog 59 0 0 1 from⟨_,_,Tryz.underlying59,rfl,rfl,by kernel_rfl,by decide⟩) b r o
theorem Wl(b r o:Nat):fa Tryz.prog 24 (some (.ptr b r o)) 1=some (.ret (.ptr b r (o+1)),[]):=Cb (show Cj Tryz.prog 24 1 1 1 from⟨_,_,Tryz.underlying24,rfl,rfl,by kernel_rfl,by decide⟩) b r o
theorem Wq(b r o:Nat):fa Tryz.prog 59 (some (.ptr b r o)) 1=some (.ret (.ptr b r (o+1)),[]):=Cb (show Cj Tryz.prog 59 1 1 1 from⟨_,_,Tryz.underlying59,rfl,rfl,by kernel_rfl,by decide⟩) b r o
theorem Vj(b r o:Nat):fa Tryz.prog 24 (some (.ptr b r o)) 2=some (.ret (.ptr b r (o+2)),[]):=Cb (show Cj Tryz.prog 24 2 2 1 from⟨_,_,Tryz.underlying24,rfl,rfl,by kernel_rfl,by decide⟩) b r o
theorem Rk(b r o:Nat):fa Tryz.prog 48 (some (.ptr b r o)) 1=some (.ret (.ptr b r (o+1)),[]):=Cb (show Cj Tryz.prog 48 1 1 1 from⟨_,_,Tryz.underlying48,rfl,rfl,by kernel_rfl,by decide⟩) b r o
theorem Um(h:Ab)(b r o:Nat):ld Tryz.prog 45 h (some (.ptr b r o))=ldC (Pl (h[b]?) r) o:=cF ⟨by kernel_rfl,1,by kernel_rfl⟩ h b r o
theorem ad4(b r o:Nat):rA Tryz.prog 45 (some (.ptr b r o))=some [.cells b o 1]:=Ly (isA:=false) (n:=1) (by kernel_rfl) (by kernel_rfl) b r o
theorem Re(fl nn:Bool)(rows:List (List AV)):ln Tryz.prog 45 (some (Ao 4 fl nn rows))=some (.ret (.int .i64 rows.length),[]):=fO ⟨_,Tryz.underlying45,by kernel_rfl⟩ fl nn rows
theorem Yu(h:Ab)(cs:List AV):ld Tryz.prog 62 h (some (.iptr cs))=if 4≤cs.length then some (.ret (.agg (cs.take 4)),[])else none:=vF ⟨by kernel_rfl,by kernel_rfl⟩ h cs
theorem Wv(b r o:Nat):fa Tryz.prog 62 (some (.ptr b r o)) 2=some (.ret (.ptr b r (o+2)),[]):=Cb (show Cj Tryz.prog 62 2 2 1 from⟨_,_,Tryz.underlying62,rfl,rfl,by kernel_rfl,by decide⟩) b r o
theorem jC(cs:List AV):fa Tryz.prog 62 (some (.iptr cs)) 2=if 2+1≤cs.length then some (.ret (.iptr (cs.drop 2)),[])else none:=Rh (show Cj Tryz.prog 62 2 2 1 from⟨_,_,Tryz.underlying62,rfl,rfl,by kernel_rfl,by decide⟩) cs
theorem Wi(b r o:Nat):fa Tryz.prog 24 (some (.ptr b r o)) 3=some (.ret (.ptr b r (o+3)),[]):=Cb (show Cj Tryz.prog 24 3 3 1 from⟨_,_,Tryz.underlying24,rfl,rfl,by kernel_rfl,by decide⟩) b r o
theorem Vu(b r o:Nat):fa Tryz.prog 62 (some (.ptr b r o)) 1=some (.ret (.ptr b r (o+1)),[]):=Cb (show Cj Tryz.prog 62 1 1 1 from⟨_,_,Tryz.underlying62,rfl,rfl,by kernel_rfl,by decide⟩) b r o
theorem wY:Nj Tryz.prog 62=some (.agg [.int .i64 0,.int .i64 0,.int .i64 0,.int .i64 0]):=by kernel_rfl
theorem Ib(h:Ab)(b r o:Nat):ld Tryz.prog 52 h (some (.ptr b r o))=ldR (Pl (h[b]?) r) o 6:=cB ⟨by kernel_rfl,by kernel_rfl⟩ h b r o
theorem bP(b r o:Nat):rA Tryz.prog 52 (some (.ptr b r o))=some [.cells b o 6]:=Ly (isA:=true) (n:=6) (by kernel_rfl) (by kernel_rfl) b r o
theorem Up(h:Ab)(b r o:Nat):ld Tryz.prog 57 h (some (.ptr b r o))=ldR (Pl (h[b]?) r) o 4:=cB ⟨by kernel_rfl,by kernel_rfl⟩ h b r o
theorem qP(b r o:Nat):rA Tryz.prog 57 (some (.ptr b r o))=some [.cells b o 4]:=Ly (isA:=true) (n:=4) (by kernel_rfl) (by kernel_rfl) b r o
theorem nT(h:Ab)(b r o:Nat):ld Tryz.prog 39 h (some (.ptr b r o))=ldR (Pl (h[b]?) r) o 2:=cB ⟨by kernel_rfl,by kernel_rfl⟩ h b r o
theorem uV:Nj Tryz.prog 69=some (.agg [.int .i64 0,.int .i64 0,.int .i64 0]):=by kernel_rfl
theorem sQ(h:Ab)(b r o:Nat)(v:AV):xK Tryz.prog 69 h (some (.ptr b r o)) (some v)=sv 3 (h[b]?) b r o (acells v):=Sv (by kernel_rfl) h b r o v
theorem xX(h:Ab)(b r o:Nat):ld Tryz.prog 69 h (some (.ptr b r o))=ldR (Pl (h[b]?) r) o 3:=cB ⟨by kernel_rfl,by kernel_rfl⟩ h b r o
theorem fN(ps:List (Nat × AV)):bC Tryz.prog 52 ps=(Ry (fun i=>([(0,1),(1,1),(2,1),(3,1),(4,1),(5,1)]:List (Nat × Nat))[i]?) (acells (.agg [.int .i64 0,.nils,.int .i64 0,.int .i64 0,.nils,.nils])) ps).map .agg:=by kernel_rfl
theorem Lo(b r o:Nat):fa Tryz.prog 52 (some (.ptr b r o)) 5=some (.ret (.ptr b r (o+5)),[]):=Cb (show Cj Tryz.prog 52 5 5 1 from⟨_,_,Tryz.underlying52,rfl,rfl,by kernel_rfl,by decide⟩) b r o
theorem Iw(h:Ab)(b r o:Nat):ld Tryz.prog 46 h (some (.ptr b r o))=ldC (Pl (h[b]?) r) o:=cF ⟨by kernel_rfl,1,by kernel_rfl⟩ h b r o
theorem gP(b r o:Nat):rA Tryz.prog 46 (some (.ptr b r o))=some [.cells b o 1]:=Ly (isA:=false) (n:=1) (by kernel_rfl) (by kernel_rfl) b r o
theorem fU(st b r len:Nat):ln Tryz.prog 46 (some (.slr st b r len))=some (.ret (.int .i64 len),[]):=zT (n:=5) ⟨_,Tryz.underlying46,by kernel_rfl⟩ st b r len
theorem fL:ln Tryz.prog 46 (some .nils)=some (.ret (.int .i64 0),[]):=kP (n:=5) ⟨_,Tryz.underlying46,by kernel_rfl⟩
theorem Oj(fl nn:Bool)(rows:List (List AV)):ln Tryz.prog 46 (some (Ao 5 fl nn rows))=some (.ret (.int .i64 rows.length),[]):=fO ⟨_,Tryz.underlying46,by kernel_rfl⟩ fl nn rows
theorem dM:Nj Tryz.prog 57=some (.agg [.nils,.nils,.nils,.nils]):=by kernel_rfl
theorem dJ(h:Ab)(b r o:Nat)(v:AV):xK Tryz.prog 57 h (some (.ptr b r o)) (some v)=sv 4 (h[b]?) b r o (acells v):=Sv (by kernel_rfl) h b r o v
theorem aeK(b r o:Nat):ftS Tryz.prog 57 (some (.ptr b r o))=some [.cells b o 4]:=bX (by kernel_rfl) b r o
theorem He(b r o:Nat):fa Tryz.prog 52 (some (.ptr b r o)) 0=some (.ret (.ptr b r (o+0)),[]):=Cb (show Cj Tryz.prog 52 0 0 1 from⟨_,_,Tryz.underlying52,rfl,rfl,by kernel_rfl,by decide⟩) b r o
theorem ac8(ps:List (Nat × AV)):bC Tryz.prog 57 ps=(Ry (fun i=>([(0,1),(1,1),(2,1),(3,1)]:List (Nat × Nat))[i]?) (acells (.agg [.nils,.nils,.nils,.nils])) ps).map .agg:=by kernel_rfl
theorem yE(h:Ab)(b r o:Nat):ld Tryz.prog 59 h (some (.ptr b r o))=ldR (Pl (h[b]?) r) o 4:=cB ⟨by kernel_rfl,by kernel_rfl⟩ h b r o
theorem Yx(h:Ab)(cs:List AV):ld Tryz.prog 59 h (some (.iptr cs))=if 4≤cs.length then some (.ret (.agg (cs.take 4)),[])else none:=vF ⟨by kernel_rfl,by kernel_rfl⟩ h cs
theorem aE:Nj Tryz.prog 59=some (.agg [.int .i64 0,.int .i64 0,.int .i64 0,.int .i64 0]):=by kernel_rfl
theorem Zw(h:Ab)(b r o:Nat)(v:AV):xK Tryz.prog 59 h (some (.ptr b r o)) (some v)=sv 4 (h[b]?) b r o (acells v):=Sv (by kernel_rfl) h b r o v
theorem Oy(b r o:Nat):fa Tryz.prog 42 (some (.ptr b r o)) 1=some (.ret (.ptr b r (o+1)),[]):=Cb (show Cj Tryz.prog 42 1 1 1 from⟨_,_,Tryz.underlying42,rfl,rfl,by kernel_rfl,by decide⟩) b r o
theorem Ww(cs:List AV):fa Tryz.prog 42 (some (.iptr cs)) 1=if 1+1≤cs.length then some (.ret (.iptr (cs.drop 1)),[])else none:=Rh (show Cj Tryz.prog 42 1 1 1 from⟨_,_,Tryz.underlying42,rfl,rfl,by kernel_rfl,by decide⟩) cs
theorem Rz(b r o:Nat):fa Tryz.prog 42 (some (.ptr b r o)) 3=some (.ret (.ptr b r (o+4)),[]):=Cb (show Cj Tryz.prog 42 3 4 1 from⟨_,_,Tryz.underlying42,rfl,rfl,by kernel_rfl,by decide⟩) b r o
theorem jB(cs:List AV):fa Tryz.prog 42 (some (.iptr cs)) 3=if 4+1≤cs.length then some (.ret (.iptr (cs.drop 4)),[])else none:=Rh (show Cj Tryz.prog 42 3 4 1 from⟨_,_,Tryz.underlying42,rfl,rfl,by kernel_rfl,by decide⟩) cs
theorem Uw(h:Ab)(b r o:Nat):ld Tryz.prog 40 h (some (.ptr b r o))=ldC (Pl (h[b]?) r) o:=cF ⟨by kernel_rfl,1,by kernel_rfl⟩ h b r o
theorem lI(h:Ab)(c:AV)(cs:List AV):ld Tryz.prog 40 h (some (.iptr (c::cs)))=some (.ret c,[]):=ajQ ⟨by kernel_rfl,1,by kernel_rfl⟩ h c cs
theorem Rb(fl nn:Bool)(rows:List (List AV)):ln Tryz.prog 40 (some (Ao 3 fl nn rows))=some (.ret (.int .i64 rows.length),[]):=fO ⟨_,Tryz.underlying40,by kernel_rfl⟩ fl nn rows
theorem iZ(b r o:Nat):fa Tryz.prog 69 (some (.ptr b r o)) 0=some (.ret (.ptr b r (o+0)),[]):=Cb (show Cj Tryz.prog 69 0 0 1 from⟨_,_,Tryz.underlying69,rfl,rfl,by kernel_rfl,by decide⟩) b r o
theorem Tq(fl nn:Bool)(rows:List (List AV))(k:IntKind)(i:Int):ia Tryz.prog 40 (some (Ao 3 fl nn rows)) (some (.int k i))=if 0≤i then r1 ((rows[i.toNat]?).map .iptr)else none:=fH ⟨_,Tryz.underlying40,by kernel_rfl⟩ fl nn rows k i
theorem Ux(b r o:Nat):fa Tryz.prog 94 (some (.ptr b r o)) 1=some (.ret (.ptr b r (o+1)),[]):=Cb (show Cj Tryz.prog 94 1 1 1 from⟨_,_,Tryz.underlying94,rfl,rfl,by kernel_rfl,by decide⟩) b r o
theorem Ws(cs:List AV):fa Tryz.prog 94 (some (.iptr cs)) 1=if 1+1≤cs.length then some (.ret (.iptr (cs.drop 1)),[])else none:=Rh (show Cj Tryz.prog 94 1 1 1 from⟨_,_,Tryz.underlying94,rfl,rfl,by kernel_rfl,by decide⟩) cs
theorem iU(b r o:Nat):fa Tryz.prog 69 (some (.ptr b r o)) 1=some (.ret (.ptr b r (o+1)),[]):=Cb (show Cj Tryz.prog 69 1 1 1 from⟨_,_,Tryz.underlying69,rfl,rfl,by kernel_rfl,by decide⟩) b r o
theorem Vk(b r o:Nat):fa Tryz.prog 94 (some (.ptr b r o)) 2=some (.ret (.ptr b r (o+2)),[]):=Cb (show Cj Tryz.prog 94 2 2 1 from⟨_,_,Tryz.underlying94,rfl,rfl,by kernel_rfl,by decide⟩) b r o
theorem Wu(cs:List AV):fa Tryz.prog 94 (some (.iptr cs)) 2=if 2+1≤cs.length then some (.ret (.iptr (cs.drop 2)),[])else none:=Rh (show Cj Tryz.prog 94 2 2 1 from⟨_,_,Tryz.underlying94,rfl,rfl,by kernel_rfl,by decide⟩) cs
theorem iW(b r o:Nat):fa Tryz.prog 69 (some (.ptr b r o)) 2=some (.ret (.ptr b r (o+2)),[]):=Cb (show Cj Tryz.prog 69 2 2 1 from⟨_,_,Tryz.underlying69,rfl,rfl,by kernel_rfl,by decide⟩) b r o
theorem Gf(base len:Nat)(ps:List (Nat × AV)):rD (Ef Tryz.prog base 25 len ps)=bsK 1 (.int .i64 0) base len ps:=auS (e:=3) (by kernel_rfl) (by kernel_rfl) (by kernel_rfl) base len ps
theorem Kw(h:Ab)(b r o:Nat)(v:AV):xK Tryz.prog 3 h (some (.ptr b r o)) (some v)=sv 1 (h[b]?) b r o (acells v):=Sv (by kernel_rfl) h b r o v
theorem Xy(b r o:Nat):ftS Tryz.prog 3 (some (.ptr b r o))=some [.cells b o 1]:=bX (by kernel_rfl) b r o
theorem We(b r o:Nat):fa Tryz.prog 24 (some (.ptr b r o)) 0=some (.ret (.ptr b r (o+0)),[]):=Cb (show Cj Tryz.prog 24 0 0 1 from⟨_,_,Tryz.underlying24,rfl,rfl,by kernel_rfl,by decide⟩) b r o
theorem Wh(b r o:Nat):fa Tryz.prog 24 (some (.ptr b r o)) 4=some (.ret (.ptr b r (o+4)),[]):=Cb (show Cj Tryz.prog 24 4 4 1 from⟨_,_,Tryz.underlying24,rfl,rfl,by kernel_rfl,by decide⟩) b r o
theorem Ss(b r o:Nat):fa Tryz.prog 48 (some (.ptr b r o)) 2=some (.ret (.ptr b r (o+2)),[]):=Cb (show Cj Tryz.prog 48 2 2 1 from⟨_,_,Tryz.underlying48,rfl,rfl,by kernel_rfl,by decide⟩) b r o
theorem acI(b r len:Nat)(k:IntKind)(i:Int):ia Tryz.prog 46 (some (.slr 5 b r len)) (some (.int k i))=if 0≤i∧i<len then some (.ret (.ptr b (r+i.toNat) 0),[])else none:=yF ⟨_,Tryz.underlying46,by kernel_rfl⟩ b r len k i
theorem Tu(fl nn:Bool)(rows:List (List AV))(k:IntKind)(i:Int):ia Tryz.prog 46 (some (Ao 5 fl nn rows)) (some (.int k i))=if 0≤i then r1 ((rows[i.toNat]?).map .iptr)else none:=fH ⟨_,Tryz.underlying46,by kernel_rfl⟩ fl nn rows k i
theorem Rj(h:Ab)(b r o:Nat):ld Tryz.prog 111 h (some (.ptr b r o))=ldR (Pl (h[b]?) r) o 5:=cB ⟨by kernel_rfl,by kernel_rfl⟩ h b r o
theorem Or(h:Ab)(cs:List AV):ld Tryz.prog 111 h (some (.iptr cs))=if 5≤cs.length then some (.ret (.agg (cs.take 5)),[])else none:=vF ⟨by kernel_rfl,by kernel_rfl⟩ h cs
theorem yX(b r o:Nat):rA Tryz.prog 111 (some (.ptr b r o))=some [.cells b o 5]:=Ly (isA:=true) (n:=5) (by kernel_rfl) (by kernel_rfl) b r o
theorem pY(base len:Nat)(ps:List (Nat × AV)):rD (Ef Tryz.prog base 53 len ps)=bsK 4 (.agg [.nils,.nils,.nils,.nils]) base len ps:=auS (e:=57) (by kernel_rfl) (by kernel_rfl) (by kernel_rfl) base len ps
theorem cK{O:Gn}(t:List AV)(h:Ab)(s x:Operand):Fp O Tryz.prog t h (.call ⟨.builtin .append,#[s,x],#[53,53]⟩)=zY Tryz.prog 53 h (Ak t s) (Ak t x):=ajG t h s x 53 53 _ Tryz.underlying53
theorem oW(h:Ab)(s:AV)(a b r l:Nat):zY Tryz.prog 53 h (some s) (some (.slr a b r l))=apK 4 h (some s) (srK 4 h (some (.slr a b r l))):=lX (e:=57) (b:=96) (z:=.agg [.nils,.nils,.nils,.nils]) (by kernel_rfl) (by kernel_rfl) (by kernel_rfl) (by kernel_rfl) (by decide+kernel) h s _ (fun q e=>by cases e)
theorem Vx(b r o:Nat):fa Tryz.prog 62 (some (.ptr b r o)) 0=some (.ret (.ptr b r (o+0)),[]):=Cb (show Cj Tryz.prog 62 0 0 1 from⟨_,_,Tryz.underlying62,rfl,rfl,by kernel_rfl,by decide⟩) b r o
theorem iF(b r o:Nat):fa Tryz.prog 62 (some (.ptr b r o)) 3=some (.ret (.ptr b r (o+3)),[]):=Cb (show Cj Tryz.prog 62 3 3 1 from⟨_,_,Tryz.underlying62,rfl,rfl,by kernel_rfl,by decide⟩) b r o
theorem iQ(cs:List AV):fa Tryz.prog 62 (some (.iptr cs)) 3=if 3+1≤cs.length then some (.ret (.iptr (cs.drop 3)),[])else none:=Rh (show Cj Tryz.prog 62 3 3 1 from⟨_,_,Tryz.underlying62,rfl,rfl,by kernel_rfl,by decide⟩) cs
theorem iT(b r o:Nat):fa Tryz.prog 57 (some (.ptr b r o)) 3=some (.ret (.ptr b r (o+3)),[]):=Cb (show Cj Tryz.prog 57 3 3 1 from⟨_,_,Tryz.underlying57,rfl,rfl,by kernel_rfl,by decide⟩) b r o
theorem Dy{O:Gn}(t:List AV)(h:Ab)(s x:Operand):Fp O Tryz.prog t h (.call ⟨.builtin .append,#[s,x],#[25,25]⟩)=zY Tryz.prog 25 h (Ak t s) (Ak t x):=ajG t h s x 25 25 _ Tryz.underlying25
theorem Il(h:Ab)(s:AV)(a b r l:Nat):zY Tryz.prog 25 h (some s) (some (.slr a b r l))=apK 1 h (some s) (srK 1 h (some (.slr a b r l))):=lX (e:=3) (b:=8) (z:=.int .i64 0) (by kernel_rfl) (by kernel_rfl) (by kernel_rfl) (by kernel_rfl) (by decide+kernel) h s _ (fun q e=>by cases e)
theorem pI(h:Ab)(s:AV)(st:Nat)(fl:Bool)(rows:List (List AV)):zY Tryz.prog 25 h (some s) (some (.imm st fl rows))=apK 1 h (some s) (srK 1 h (some (.imm st fl rows))):=lX (e:=3) (b:=8) (z:=.int .i64 0) (by kernel_rfl) (by kernel_rfl) (by kernel_rfl) (by kernel_rfl) (by decide+kernel) h s _ (fun q e=>by cases e)
theorem acV(h:Ab)(s:AV)  :zY Tryz.prog 25 h (some s) (some .nils)=apK 1 h (some s) (srK 1 h (some .nils)):=lX (e:=3) (b:=8) (z:=.int .i64 0) (by kernel_rfl) (by kernel_rfl) (by kernel_rfl) (by kernel_rfl) (by decide+kernel) h s _ (fun q e=>by cases e)
theorem Rm(h:Ab)(b r o:Nat)(v:AV):xK Tryz.prog 25 h (some (.ptr b r o)) (some v)=sv 1 (h[b]?) b r o (acells v):=Sv (by kernel_rfl) h b r o v
theorem Xp(b r o:Nat):ftS Tryz.prog 25 (some (.ptr b r o))=some [.cells b o 1]:=bX (by kernel_rfl) b r o
theorem Ua(fl nn:Bool)(rows:List (List AV))(k:IntKind)(i:Int):ia Tryz.prog 45 (some (Ao 4 fl nn rows)) (some (.int k i))=if 0≤i then r1 ((rows[i.toNat]?).map .iptr)else none:=fH ⟨_,Tryz.underlying45,by kernel_rfl⟩ fl nn rows k i
theorem vD(h:Ab)(b r o:Nat)(v:AV):xK Tryz.prog 62 h (some (.ptr b r o)) (some v)=sv 4 (h[b]?) b r o (acells v):=Sv (by kernel_rfl) h b r o v
theorem Mc(b r o:Nat):fa Tryz.prog 111 (some (.ptr b r o)) 1=some (.ret (.ptr b r (o+1)),[]):=Cb (show Cj Tryz.prog 111 1 1 1 from⟨_,_,Tryz.underlying111,rfl,rfl,by kernel_rfl,by decide⟩) b r o
theorem bL:Nj Tryz.prog 111=some (.agg [.int .i64 0,.int .i64 0,.int .i64 0,.int .i64 0,.int .i64 0]):=by kernel_rfl
theorem bR(h:Ab)(b r o:Nat)(v:AV):xK Tryz.prog 111 h (some (.ptr b r o)) (some v)=sv 5 (h[b]?) b r o (acells v):=Sv (by kernel_rfl) h b r o v
theorem Tj(b r o:Nat):fa Tryz.prog 111 (some (.ptr b r o)) 0=some (.ret (.ptr b r (o+0)),[]):=Cb (show Cj Tryz.prog 111 0 0 1 from⟨_,_,Tryz.underlying111,rfl,rfl,by kernel_rfl,by decide⟩) b r o
theorem Na(b r o:Nat):fa Tryz.prog 111 (some (.ptr b r o)) 2=some (.ret (.ptr b r (o+2)),[]):=Cb (show Cj Tryz.prog 111 2 2 1 from⟨_,_,Tryz.underlying111,rfl,rfl,by kernel_rfl,by decide⟩) b r o
theorem Nb(b r o:Nat):fa Tryz.prog 111 (some (.ptr b r o)) 3=some (.ret (.ptr b r (o+3)),[]):=Cb (show Cj Tryz.prog 111 3 3 1 from⟨_,_,Tryz.underlying111,rfl,rfl,by kernel_rfl,by decide⟩) b r o
theorem iJ(b r o:Nat):fa Tryz.prog 42 (some (.ptr b r o)) 9=some (.ret (.ptr b r (o+10)),[]):=Cb (show Cj Tryz.prog 42 9 10 1 from⟨_,_,Tryz.underlying42,rfl,rfl,by kernel_rfl,by decide⟩) b r o
theorem iK(cs:List AV):fa Tryz.prog 42 (some (.iptr cs)) 9=if 10+1≤cs.length then some (.ret (.iptr (cs.drop 10)),[])else none:=Rh (show Cj Tryz.prog 42 9 10 1 from⟨_,_,Tryz.underlying42,rfl,rfl,by kernel_rfl,by decide⟩) cs
theorem nP(h:Ab)(b r o:Nat):ld Tryz.prog 94 h (some (.ptr b r o))=ldR (Pl (h[b]?) r) o 3:=cB ⟨by kernel_rfl,by kernel_rfl⟩ h b r o
theorem Yj(h:Ab)(cs:List AV):ld Tryz.prog 94 h (some (.iptr cs))=if 3≤cs.length then some (.ret (.agg (cs.take 3)),[])else none:=vF ⟨by kernel_rfl,by kernel_rfl⟩ h cs
theorem Xl:Nj Tryz.prog 94=some (.agg [.int .i64 0,.int .i64 0,.int .i64 0]):=by kernel_rfl
theorem Xr(h:Ab)(b r o:Nat)(v:AV):xK Tryz.prog 94 h (some (.ptr b r o)) (some v)=sv 3 (h[b]?) b r o (acells v):=Sv (by kernel_rfl) h b r o v
theorem qB(b r o:Nat):ftS Tryz.prog 94 (some (.ptr b r o))=some [.cells b o 3]:=bX (by kernel_rfl) b r o
theorem aV(b r o:Nat):fa Tryz.prog 94 (some (.ptr b r o)) 0=some (.ret (.ptr b r (o+0)),[]):=Cb (show Cj Tryz.prog 94 0 0 1 from⟨_,_,Tryz.underlying94,rfl,rfl,by kernel_rfl,by decide⟩) b r o
theorem aI(cs:List AV):fa Tryz.prog 94 (some (.iptr cs)) 0=if 0+1≤cs.length then some (.ret (.iptr (cs.drop 0)),[])else none:=Rh (show Cj Tryz.prog 94 0 0 1 from⟨_,_,Tryz.underlying94,rfl,rfl,by kernel_rfl,by decide⟩) cs
theorem Nc(b r o:Nat):fa Tryz.prog 111 (some (.ptr b r o)) 4=some (.ret (.ptr b r (o+4)),[]):=Cb (show Cj Tryz.prog 111 4 4 1 from⟨_,_,Tryz.underlying111,rfl,rfl,by kernel_rfl,by decide⟩) b r o
theorem gQ(base:Nat)(l c:Option AV):msO Tryz.prog 25 base l c=msK 1 (.int .i64 0) base l c:=ayK (e:=3) (n:=1) (b:=8) (by kernel_rfl) (by kernel_rfl) (by kernel_rfl) (by kernel_rfl) (by decide+kernel) base l c
theorem Xz(h:Ab)(b r o:Nat)(v:AV):xK Tryz.prog 46 h (some (.ptr b r o)) (some v)=sv 1 (h[b]?) b r o (acells v):=Sv (by kernel_rfl) h b r o v
theorem fS(b r o:Nat):ftS Tryz.prog 46 (some (.ptr b r o))=some [.cells b o 1]:=bX (by kernel_rfl) b r o
theorem zU(ps:List (Nat × AV)):bC Tryz.prog 144 ps=(Ry (fun i=>([(0,6),(6,3),(9,6),(15,4)]:List (Nat × Nat))[i]?) (acells (.agg [.int .i64 0,.int .i64 0,.int .i64 0,.int .i64 0,.int .i64 0,.nils,.nils,.nils,.nils,.int .i64 0,.nils,.int .i64 0,.int .i64 0,.nils,.nils,.nils,.nils,.nils,.nils])) ps).map .agg:=by kernel_rfl
theorem Gu(b r o:Nat):fa Tryz.prog 144 (some (.ptr b r o)) 2=some (.ret (.ptr b r (o+9)),[]):=Cb (show Cj Tryz.prog 144 2 9 6 from⟨_,_,Tryz.underlying144,rfl,rfl,by kernel_rfl,by decide⟩) b r o
theorem Jx(b r o:Nat):fa Tryz.prog 144 (some (.ptr b r o)) 3=some (.ret (.ptr b r (o+15)),[]):=Cb (show Cj Tryz.prog 144 3 15 4 from⟨_,_,Tryz.underlying144,rfl,rfl,by kernel_rfl,by decide⟩) b r o
theorem yM(a0 b0:Int)(a1 b1:Int)(a2 b2:Int)(a3 b3:Int)(a4 b4:Int):Ln Tryz.prog .neq 111 (.agg [.int .i64 a0,.int .i64 a1,.int .i64 a2,.int .i64 a3,.int .i64 a4]) (.agg [.int .i64 b0,.int .i64 b1,.int .i64 b2,.int .i64 b3,.int .i64 b4])=some (.bool (!((a0==b0)&&(a1==b1)&&(a2==b2)&&(a3==b3)&&(a4==b4)))):=by
 have e:Ln Tryz.prog .neq 111 (.agg [.int .i64 a0,.int .i64 a1,.int .i64 a2,.int .i64 a3,.int .i64 a4]) (.agg [.int .i64 b0,.int .i64 b1,.int .i64 b2,.int .i64 b3,.int .i64 b4])=Option.map (fun r=>AV.bool !r) (if(a0==b0)=true then(if(a1==b1)=true then(if(a2==b2)=true then(if(a3==b3)=true then(if(a4==b4)=true then some true else some false)else some false)else some false)else some false)else some false):=by kernel_rfl
 rw[e]
 cases(a0==b0)<;>cases(a1==b1)<;>cases(a2==b2)<;>cases(a3==b3)<;>cases(a4==b4)<;>rfl
theorem Xg(base len:Nat)(ps:List (Nat × AV)):rD (Ef Tryz.prog base 46 len ps)=bsK 5 (.agg [.int .i64 0,.int .i64 0,.int .i64 0,.int .i64 0,.int .i64 0]) base len ps:=auS (e:=111) (by kernel_rfl) (by kernel_rfl) (by kernel_rfl) base len ps
theorem Ko{O:Gn}(t:List AV)(h:Ab)(s x:Operand):Fp O Tryz.prog t h (.call ⟨.builtin .append,#[s,x],#[46,46]⟩)=zY Tryz.prog 46 h (Ak t s) (Ak t x):=ajG t h s x 46 46 _ Tryz.underlying46
theorem bK(h:Ab)(s:AV)(a b r l:Nat):zY Tryz.prog 46 h (some s) (some (.slr a b r l))=apK 5 h (some s) (srK 5 h (some (.slr a b r l))):=lX (e:=111) (b:=40) (z:=.agg [.int .i64 0,.int .i64 0,.int .i64 0,.int .i64 0,.int .i64 0]) (by kernel_rfl) (by kernel_rfl) (by kernel_rfl) (by kernel_rfl) (by decide+kernel) h s _ (fun q e=>by cases e)
theorem pR(h:Ab)(s:AV)(st:Nat)(fl:Bool)(rows:List (List AV)):zY Tryz.prog 46 h (some s) (some (.imm st fl rows))=apK 5 h (some s) (srK 5 h (some (.imm st fl rows))):=lX (e:=111) (b:=40) (z:=.agg [.int .i64 0,.int .i64 0,.int .i64 0,.int .i64 0,.int .i64 0]) (by kernel_rfl) (by kernel_rfl) (by kernel_rfl) (by kernel_rfl) (by decide+kernel) h s _ (fun q e=>by cases e)
theorem aeY(h:Ab)(s:AV)  :zY Tryz.prog 46 h (some s) (some .nils)=apK 5 h (some s) (srK 5 h (some .nils)):=lX (e:=111) (b:=40) (z:=.agg [.int .i64 0,.int .i64 0,.int .i64 0,.int .i64 0,.int .i64 0]) (by kernel_rfl) (by kernel_rfl) (by kernel_rfl) (by kernel_rfl) (by decide+kernel) h s _ (fun q e=>by cases e)
theorem aeO:Nj Tryz.prog 163=some (.nilf):=by kernel_rfl
theorem adK(h:Ab)(b r o:Nat)(v:AV):xK Tryz.prog 163 h (some (.ptr b r o)) (some v)=sv 1 (h[b]?) b r o (acells v):=Sv (by kernel_rfl) h b r o v
theorem iR(h:Ab)(b r o:Nat):ld Tryz.prog 163 h (some (.ptr b r o))=ldC (Pl (h[b]?) r) o:=cF ⟨by kernel_rfl,1,by kernel_rfl⟩ h b r o
theorem xU(b r o:Nat):rA Tryz.prog 163 (some (.ptr b r o))=some [.cells b o 1]:=Ly (isA:=false) (n:=1) (by kernel_rfl) (by kernel_rfl) b r o
theorem ad5(n:Nat)(fl:Bool)(rows:List (List AV)):Ln Tryz.prog .eql 25 (.imm n fl rows) .nils=some (.bool false):=iO Tryz.underlying25 n fl rows
theorem aeE:Ln Tryz.prog .eql 25 .nils .nils=some (.bool true):=dT Tryz.underlying25
theorem adM(n:Nat)(fl:Bool)(rows:List (List AV)):Ln Tryz.prog .eql 46 (.imm n fl rows) .nils=some (.bool false):=iO Tryz.underlying46 n fl rows
theorem acJ:Ln Tryz.prog .eql 46 .nils .nils=some (.bool true):=dT Tryz.underlying46
theorem Me(b r o:Nat):fa Tryz.prog 144 (some (.ptr b r o)) 0=some (.ret (.ptr b r (o+0)),[]):=Cb (show Cj Tryz.prog 144 0 0 6 from⟨_,_,Tryz.underlying144,rfl,rfl,by kernel_rfl,by decide⟩) b r o
theorem Yc(b r o:Nat):fa Tryz.prog 144 (some (.ptr b r o)) 1=some (.ret (.ptr b r (o+6)),[]):=Cb (show Cj Tryz.prog 144 1 6 3 from⟨_,_,Tryz.underlying144,rfl,rfl,by kernel_rfl,by decide⟩) b r o
theorem iP(h:Ab)(b r o:Nat):ld Tryz.prog 142 h (some (.ptr b r o))=ldC (Pl (h[b]?) r) o:=cF ⟨by kernel_rfl,1,by kernel_rfl⟩ h b r o
theorem yQ(b r o:Nat):rA Tryz.prog 142 (some (.ptr b r o))=some [.cells b o 1]:=Ly (isA:=false) (n:=1) (by kernel_rfl) (by kernel_rfl) b r o
def sG:=PLift.up (aaS @Ea (aaS @En (aaS @Uo (aaS @Jq (aaS @Lh (aaS @Qo (aaS @Gm (aaS @bQ (aaS @Lm (aaS @Lp (aaS @Ib (aaS @bP (aaS @fN (aaS @adX (aaS @aeQ (aaS @Gp (aaS @ad0 @Up)))))))))))))))))
def aiJ:=PLift.up (aaS @Gp (aaS @Fq (aaS @jB (aaS @lI @Rb))))
def ayG:=PLift.up (aaS @We (aaS @Au (aaS @Wl (aaS @Vj (aaS @Wi (aaS @Wh (aaS @Ea (aaS @En (aaS @Gp @Gm)))))))))
def ak9:=PLift.up (aaS @Hz (aaS @Gl @Ci))
def af7:=PLift.up (aaS @Gm @bQ)
def azM:=PLift.up (aaS @Jq (aaS @Lh (aaS @Qo (aaS @Rk (aaS @Um (aaS @Re (aaS @Ss (aaS @Iw @Oj))))))))
def lN:=PLift.up (aaS @Jq (aaS @Lh (aaS @Qo (aaS @bN (aaS @Yx (aaS @aE (aaS @Zw (aaS @Wc (aaS @Au (aaS @Wq (aaS @Vp (aaS @Vw (aaS @Ss (aaS @Iw (aaS @Oj (aaS @Tu (aaS @Or (aaS @Rk (aaS @Um @Re)))))))))))))))))))
def xR:=PLift.up (aaS @Ib (aaS @Lm (aaS @Gm (aaS @Uo (aaS @Ea (aaS @En (aaS @Gp (aaS @fN (aaS @Lp (aaS @Jq (aaS @Lh (aaS @Qo (aaS @dM (aaS @dJ (aaS @Up (aaS @pY (aaS @cK @oW)))))))))))))))))
def azR:=PLift.up (aaS @Vx (aaS @Au (aaS @Vu (aaS @Wv @iF))))
def aAI:=PLift.up (aaS @He (aaS @Au (aaS @Ez (aaS @Dm (aaS @aD (aaS @aC (aaS @It (aaS @Lo @Iw))))))))
def azX:=PLift.up (aaS @Vo (aaS @Dm (aaS @Vh (aaS @Vd @iT))))
def azS:=PLift.up (aaS @Uy (aaS @Au @Vf))
def av2:=PLift.up (aaS @Ib (aaS @Lm (aaS @Gm (aaS @fN @Lp))))
def aeS:=PLift.up (aaS @Ib (aaS @Lm (aaS @Ea (aaS @En (aaS @pB (aaS @Gp (aaS @Ez (aaS @Dm (aaS @Lu (aaS @Fq (aaS @vZ (aaS @Ci (aaS @Gf (aaS @Dy (aaS @Il (aaS @It (aaS @Rm (aaS @Xp @Lp))))))))))))))))))
def ac3:=PLift.up (aaS @Ib (aaS @bP (aaS @Lm (aaS @Gm (aaS @Lp (aaS @gW (aaS @Jq (aaS @Lh (aaS @Qo (aaS @Uo (aaS @dM (aaS @dJ (aaS @Up (aaS @qP (aaS @pY (aaS @cK @oW))))))))))))))))
def agH:=PLift.up (aaS @Re (aaS @Ua @Yu))
def ajJ:=PLift.up (aaS @Re (aaS @Ua (aaS @Yu (aaS @wY (aaS @vD (aaS @Vx (aaS @Au (aaS @Ci (aaS @Vu (aaS @Wv (aaS @jC @Wi)))))))))))
def yK:=PLift.up (aaS @Ib (aaS @bP (aaS @Up (aaS @Lm (aaS @dM (aaS @Gm (aaS @bQ (aaS @Uo (aaS @acR (aaS @Lp (aaS @gW (aaS @Jq (aaS @Lh (aaS @He (aaS @Au (aaS @Ug (aaS @bN (aaS @Yx (aaS @aE (aaS @Zw (aaS @Wc (aaS @Wq (aaS @Vp (aaS @Vw (aaS @aD (aaS @Kw (aaS @Xy (aaS @gR (aaS @pZ (aaS @Ea (aaS @En (aaS @Fq (aaS @Nz (aaS @Jv (aaS @Rw (aaS @Sj (aaS @Ij (aaS @Wh (aaS @Ez (aaS @Dm (aaS @Lu (aaS @aC (aaS @It (aaS @Vr (aaS @Wa (aaS @Ve (aaS @bG (aaS @gB (aaS @Wj (aaS @ac8 @dJ))))))))))))))))))))))))))))))))))))))))))))))))))
def acE:=PLift.up (aaS @Oy (aaS @Au (aaS @Ci (aaS @Vq (aaS @nT (aaS @Rz (aaS @Uw (aaS @Rb (aaS @Zs (aaS @Vr (aaS @Wa (aaS @Ve (aaS @Wj (aaS @iJ (aaS @Tq (aaS @Yj (aaS @Xl (aaS @Xr (aaS @aV (aaS @aI (aaS @Ux (aaS @Ws (aaS @Vk @Wu)))))))))))))))))))))))
def ayP:=PLift.up (aaS @We (aaS @Au (aaS @Wl (aaS @Vj (aaS @Gf (aaS @Wi (aaS @Wh (aaS @Ea (aaS @En (aaS @Gp @Gm))))))))))
def av1:=PLift.up (aaS @Gm @bQ)
def akG:=PLift.up (aaS @Gp (aaS @Fq @Jv))
def af5:=PLift.up (aaS @uV (aaS @sQ (aaS @iZ (aaS @Au (aaS @We (aaS @iU (aaS @Wl (aaS @iW @Vj))))))))
def ac7:=PLift.up (aaS @Hz (aaS @Gl (aaS @Ci (aaS @Gf (aaS @Dy @Il)))))
def uA:=PLift.up (aaS @Hz (aaS @gQ (aaS @Ea (aaS @En (aaS @Fq (aaS @bE (aaS @fW (aaS @Ij (aaS @Gl (aaS @Au (aaS @Ci @Kw)))))))))))
def adG:=PLift.up (aaS @Hz (aaS @Gl (aaS @Ci (aaS @Gf (aaS @Dy @Il)))))
def acM:=PLift.up (aaS @Hz (aaS @Gl (aaS @Ci (aaS @Gf (aaS @Dy @Il)))))
def azO:=PLift.up (aaS @Tj (aaS @Au (aaS @Mc (aaS @Na (aaS @Nb @Nc)))))
def aAB:=PLift.up (aaS @Jq (aaS @Lh (aaS @Qo (aaS @Rk (aaS @Um (aaS @Re (aaS @Ss (aaS @Iw (aaS @Oj @Au)))))))))
def ae0:=PLift.up (aaS @Ib (aaS @Lm (aaS @Ea (aaS @En (aaS @Gp (aaS @Fq (aaS @Jv (aaS @Rw (aaS @Sj (aaS @Ez (aaS @Dm (aaS @Lu (aaS @Zs (aaS @Au (aaS @Ug (aaS @Gf (aaS @Dy (aaS @Il (aaS @It (aaS @Rm (aaS @Xp @Lp)))))))))))))))))))))
def cV:=PLift.up (aaS @Ib (aaS @bP (aaS @Up (aaS @qP (aaS @Lm (aaS @dM (aaS @Ez (aaS @Dm (aaS @Lu (aaS @It (aaS @Lo (aaS @Iw (aaS @gP (aaS @Rm (aaS @Xp (aaS @Xz (aaS @fS (aaS @Gm (aaS @Uo (aaS @zU (aaS @Gu (aaS @He (aaS @Au (aaS @Kw (aaS @Jx (aaS @Lp (aaS @gW (aaS @dJ @aeK))))))))))))))))))))))))))))
def aoD:=PLift.up (aaS @Oj (aaS @Tu (aaS @Or @yM)))
def aAD:=PLift.up (aaS @Uy (aaS @Au @Vf))
def apD:=PLift.up (aaS @Gp (aaS @Fq (aaS @Jv (aaS @Rw (aaS @Sj (aaS @Oy @Au))))))
def anR:=PLift.up (aaS @Gp (aaS @Fq (aaS @Nz (aaS @Jv (aaS @Rw (aaS @Sj (aaS @bG (aaS @gB (aaS @Rz (aaS @Uw (aaS @Tq (aaS @Ws (aaS @Ci (aaS @Rb @Wu))))))))))))))
def alT:=PLift.up (aaS @xX (aaS @uV (aaS @Gp (aaS @iZ (aaS @Au (aaS @Ci (aaS @Ug (aaS @Fq (aaS @Ww (aaS @Kw (aaS @Xy (aaS @bE (aaS @fW (aaS @Jv (aaS @iU (aaS @jB (aaS @lI (aaS @Tq (aaS @Ws (aaS @iW (aaS @Rb (aaS @Wu @sQ))))))))))))))))))))))
def agO:=PLift.up (aaS @Re (aaS @Ua (aaS @Yu (aaS @wY (aaS @vD (aaS @Vx (aaS @Au (aaS @Ci (aaS @Vu (aaS @Wv (aaS @jC @Wi)))))))))))
def Pv:=PLift.up (aaS @Ib (aaS @Lm (aaS @Lp (aaS @Ss (aaS @Iw (aaS @fU (aaS @fL (aaS @Oj (aaS @Tu (aaS @Rj (aaS @Or (aaS @bL (aaS @bR (aaS @Tj (aaS @Au (aaS @Ci (aaS @Ug (aaS @He (aaS @Ez (aaS @Dm (aaS @Lu (aaS @Na (aaS @Ij (aaS @Nc (aaS @Ea (aaS @En (aaS @Nb (aaS @Fq (aaS @Ww (aaS @Mc (aaS @Lo (aaS @Gf (aaS @Dy (aaS @Il (aaS @Kw (aaS @Xy (aaS @Xg (aaS @Ko (aaS @bK @Xz)))))))))))))))))))))))))))))))))))))))
def dR:=PLift.up (aaS @Ib (aaS @Lm (aaS @Lp (aaS @Lo (aaS @Xz (aaS @Iw (aaS @Oj (aaS @Tu (aaS @Rj (aaS @Or (aaS @bL (aaS @bR (aaS @Mc (aaS @Au (aaS @Ci (aaS @Ug (aaS @He (aaS @Xg (aaS @Ko (aaS @bK (aaS @Nc (aaS @Ez (aaS @Dm (aaS @Lu (aaS @Nb (aaS @Ij (aaS @Ea (aaS @En (aaS @Na (aaS @Fq (aaS @Ww (aaS @Kw (aaS @Xy (aaS @iK @It))))))))))))))))))))))))))))))))))
def jP:=PLift.up (aaS @Ea (aaS @En (aaS @Gp (aaS @Fq (aaS @Nz (aaS @Jv (aaS @pV (aaS @Rw (aaS @Sj (aaS @Gm (aaS @Rk (aaS @Um (aaS @He (aaS @Au (aaS @Ci (aaS @Ez (aaS @Dm (aaS @Lu (aaS @Gl (aaS @Xl (aaS @Xr (aaS @qB (aaS @Ua (aaS @iQ (aaS @Ux (aaS @Oy (aaS @Vk (aaS @Gf (aaS @Dy @Il)))))))))))))))))))))))))))))
def alW:=PLift.up (aaS @Hz (aaS @Gl @Ci))
def lT:=PLift.up (aaS @Hz (aaS @Gl (aaS @Ci (aaS @Gf (aaS @Dy @Il)))))
def azJ:=PLift.up (aaS @Vq (aaS @Uy (aaS @Au @Vf)))
def ad7:=PLift.up (aaS @Rz (aaS @Uw (aaS @Rb (aaS @Tq (aaS @Yj (aaS @Xl (aaS @Xr (aaS @aV (aaS @aI (aaS @Au (aaS @Ci (aaS @Ux (aaS @Ws (aaS @Vk (aaS @Wu (aaS @Oy (aaS @Vq (aaS @nT (aaS @Zs (aaS @Vr (aaS @Wa (aaS @Ve (aaS @Wj (aaS @iJ @Gf))))))))))))))))))))))))
def ajL:=PLift.up (aaS @Ea (aaS @En (aaS @Wl (aaS @Au (aaS @Vj @We)))))
def azL:=PLift.up (aaS @Nz @Nz)
def afH:=PLift.up (aaS @Hz (aaS @Gl @Ci))
def ac9:=PLift.up (aaS @Hz (aaS @Gl (aaS @Ci (aaS @Gf (aaS @Dy @Il)))))
def aeV:=PLift.up (aaS @Hz (aaS @Gl (aaS @Ci (aaS @Gf (aaS @Dy @Il)))))
def jR:=PLift.up (aaS @Dm (aaS @gR (aaS @Hz (aaS @Gf (aaS @Dy (aaS @Il (aaS @aeO (aaS @adK (aaS @iR (aaS @xU (aaS @Ij (aaS @Au (aaS @Ug (aaS @Kw @Xy))))))))))))))
def az9:=PLift.up (aaS @Wc (aaS @Au (aaS @Wq (aaS @Vp (aaS @Vw @Gf)))))
def ayR:=PLift.up (aaS @Rj @Au)
def axX:=PLift.up (aaS @Tj (aaS @Au (aaS @Mc (aaS @Na (aaS @Nb @Nc)))))
def aaJ:=PLift.up (aaS @ad5 (aaS @aeE (aaS @Gf (aaS @Dy @pI))))
def ai0:=PLift.up (aaS @adM (aaS @acJ (aaS @Xg (aaS @Ko @pR))))
def Zj:=PLift.up (aaS @Gu (aaS @Lo (aaS @Iw (aaS @fU (aaS @fL (aaS @acI (aaS @Rj (aaS @bL (aaS @bR (aaS @Mc (aaS @Au (aaS @Ci (aaS @He (aaS @Xg (aaS @Ko (aaS @bK (aaS @Nc (aaS @Ez (aaS @Dm (aaS @Nb (aaS @Ij (aaS @It (aaS @Me (aaS @Ea (aaS @En (aaS @Fq (aaS @iK (aaS @Kw (aaS @Na @Xz)))))))))))))))))))))))))))))
def Jl:=PLift.up (aaS @Yc (aaS @Ss (aaS @Iw (aaS @gP (aaS @fU (aaS @fL (aaS @Oj (aaS @Tu (aaS @Rj (aaS @Or (aaS @yX (aaS @bL (aaS @bR (aaS @Tj (aaS @Au (aaS @Gu (aaS @He (aaS @Mc (aaS @Ez (aaS @Dm (aaS @Na (aaS @Ij (aaS @Nc (aaS @Nb (aaS @Lo (aaS @Jx (aaS @iT (aaS @Gf (aaS @Dy (aaS @Il (aaS @Rm (aaS @Kw (aaS @Xg (aaS @Ko (aaS @bK (aaS @Xz @fS))))))))))))))))))))))))))))))))))))
def Nv:=PLift.up (aaS @iP (aaS @yQ (aaS @Me (aaS @Ea (aaS @En (aaS @pB (aaS @Gp (aaS @gQ (aaS @Jx (aaS @Vo (aaS @Rm (aaS @Xp (aaS @Rw (aaS @Sj (aaS @Gm (aaS @Yc (aaS @Rk (aaS @Um (aaS @ad4 (aaS @Gu (aaS @He (aaS @Au (aaS @Ci (aaS @Ug (aaS @Ua (aaS @iQ (aaS @Nz (aaS @pV (aaS @Ez (aaS @Dm (aaS @Lu (aaS @Ij (aaS @Xl (aaS @Xr (aaS @qB (aaS @Ux (aaS @Vk (aaS @Kw @Xy))))))))))))))))))))))))))))))))))))))
def uH:=PLift.up (aaS @aE (aaS @Zw (aaS @Me (aaS @Gm (aaS @Jx (aaS @Vo (aaS @Dm (aaS @Wc (aaS @Au (aaS @Wq (aaS @Vh @Rm)))))))))))
def xF:=PLift.up (aaS @aE (aaS @Zw (aaS @Jx (aaS @Vh (aaS @Dm (aaS @Vp (aaS @Au (aaS @Vw (aaS @Vd (aaS @Rm (aaS @Gu (aaS @aD @Kw))))))))))))
def Rr:=PLift.up (aaS @Jx (aaS @Vd (aaS @Dm (aaS @gR (aaS @pZ (aaS @Ij (aaS @Au (aaS @Me (aaS @Wh (aaS @Gu (aaS @aC (aaS @Kw @Ez))))))))))))
def Nq:=PLift.up (aaS @iP (aaS @Rw (aaS @Sj (aaS @Jx (aaS @Vd (aaS @Dm (aaS @Ij (aaS @Au (aaS @Gu (aaS @It (aaS @Vr (aaS @Wa (aaS @Ve (aaS @Kw (aaS @bG (aaS @gB (aaS @Vo (aaS @Vh @Wj))))))))))))))))))
def avZ:=PLift.up (aaS @Vq (aaS @Uy (aaS @Au @Vf)))
def av6:=PLift.up (aaS @Vx (aaS @Au (aaS @Vu (aaS @Wv @iF))))
def abJ:=PLift.up (aaS @Ib (aaS @Lm (aaS @Lp (aaS @Ez (aaS @Dm (aaS @Lu (aaS @Dy (aaS @pI (aaS @acV (aaS @It (aaS @Lo (aaS @Iw (aaS @gP (aaS @Ko (aaS @pR (aaS @aeY (aaS @Rm (aaS @Xp (aaS @Xz @fS)))))))))))))))))))
def aaU:=PLift.up (aaS @nP (aaS @Yj (aaS @Xl (aaS @Rz (aaS @Uw (aaS @Rb (aaS @Tq (aaS @aI (aaS @Au (aaS @Ci (aaS @Oy @Xr)))))))))))
def wX:=PLift.up (aaS @Gp (aaS @Fq @Jv))
def aaX:=PLift.up (aaS @Hz (aaS @Gl @Ci))
def awF:=PLift.up (aaS @Ea (aaS @En (aaS @Fq (aaS @bE (aaS @fW (aaS @Dm (aaS @Gl @Ci)))))))
def av9:=PLift.up (aaS @Dm (aaS @Gl (aaS @Ci @iR)))
def Ku:=PLift.up (aaS @Hz (aaS @Ij (aaS @Gl (aaS @Au (aaS @Ci (aaS @gQ @Kw))))))
def wP:=PLift.up (aaS @Qo (aaS @bN @Yx))
def uE:=PLift.up (aaS @Oj (aaS @Tu @Or))
def av3:=PLift.up (aaS @Me (aaS @Ea (aaS @En (aaS @Fq (aaS @Ww (aaS @Au (aaS @Ci (aaS @Gu (aaS @Ez (aaS @Dm @Ij))))))))))
def pE:=PLift.up (aaS @Me (aaS @Ea (aaS @En (aaS @Gp (aaS @Fq (aaS @Nz (aaS @Jv (aaS @Rw (aaS @Sj (aaS @Gu (aaS @He @Au)))))))))))
def aa5:=PLift.up (aaS @nP (aaS @Yj (aaS @Xl (aaS @Rz (aaS @Uw (aaS @Tq (aaS @Xr (aaS @Rb (aaS @aV (aaS @Au @Oy))))))))))
def avS:=PLift.up (aaS @yE (aaS @Yx (aaS @aE (aaS @Yc (aaS @Jq (aaS @Lh (aaS @Gu (aaS @He (aaS @Au (aaS @bN @Zw))))))))))
def wV:=PLift.up (aaS @Re (aaS @Ua @Yu))
end Go.Proofs.YtdbiogihimdpcaaGreatDoor
namespace Go.Proofs.YtdbiogihimdpcaaGreatDoor
open Go Go.Ev Go.ChangeShapes Go.WideShapes Go.ChangeAt Go.RowKit
set_option maxRecDepth 100000
set_option maxHeartbeats 16000000
def mdL:List Nat:=[131,130,133]
def pr:Qk:=ahZ 89 90 (mdL.contains ·)
noncomputable def Bi:Gn:=om Tryz.prog pr
theorem apJ(f:Nat):Bi.md f=([131,130,133]:List Nat).contains f:=Eq.trans rfl rfl
def Va:=PLift.up (aaS EE.down EE.down)
def Vb:=PLift.up (aaS EF.down @apJ)
def Vc:=PLift.up (aaS EG.down @apJ)
theorem yO{C:R→Prop}[NoN C]{n:Nat}{k:List Aq}{c:Code}{s:St}(h:Un Bi Tryz.prog n k c C (Ed Bi Tryz.prog 5000 c [] s)):C (lpK Bi Tryz.prog n k (Bi.loop c s)):=av0 (pr:=pr) h
theorem own:ownKnob Tryz.prog.godebug=none:=by kernel_rfl
theorem aqT:aeN Tryz.prog:=fun f fn hf=>by
 have h:(Tryz.prog.funcs.toList.all fun fn=> !(fn.name== "runtime.NumGoroutine"))=true:=by kernel_rfl
 have:=List.all_eq_true.1 h fn (by rw[Array.mem_toList_iff];exact Array.mem_of_getElem? hf)
 simpa using this
theorem mixed:Tryz.prog.follows .mixedOrders=true:=by kernel_rfl
theorem amQ:laidOutB Tryz.prog=true:=by kernel_rfl
def laid:List (String × DataW Unit):=[("math/bits.deBruijn32tab",Rows.laid_math_bits_deBruijn32tab),("math/bits.deBruijn64tab",Rows.laid_math_bits_deBruijn64tab),("internal/strconv.uint64pow10",Rows.laid_internal_strconv_uint64pow10)]
theorem axF:Tryz.prog.globalNamed "internal/strconv.uint64pow10" =some 0:=by kernel_rfl
theorem tab{W:World}(h:laidMetH Tryz.prog laid W):Lib.TabIs Tryz.prog W "internal/strconv.uint64pow10" .u64 Lib.pow10Tab:=by
 rw[MakeChecks.laidMetH_plain _ _ _ (by kernel_rfl)]at h
 obtain⟨ps,h,_⟩:=h
 exact dW (t:=183) (e:=174) (n:=20) axF (by kernel_rfl) (by kernel_rfl) (by kernel_rfl) (by kernel_rfl) (by kernel_rfl) h (by
  have e:(Lib.tabData .u64 Lib.pow10Tab:DataW Unit)=Rows.laid_internal_strconv_uint64pow10:=rfl
  rw[e];simp[laid])
theorem afY{W:World}(h:laidMetH Tryz.prog laid W):Ir Tryz.prog (agQ W 0) Bi:=
 avV aqT (akI (aoI (rO aqT Tryz.func89 rfl) (ahN axF (tab h)) (fun n w h0 h1 ht=>Tryz.strconv_Itoa n h0 h1 w ht)) (anH (rO aqT Tryz.func90 rfl) Tryz.strings_Join_none Tryz.strings_Join)) mixed
theorem agG(os:Os)(args:Array Value):laidMetH Tryz.prog laid ((World.doorLaid Tryz.prog 400 os).forCall (fun _ _=>0) ⟨#[],args,[]⟩).memory:=
 laidMetH_of_parts3 (fuel:=8) (laidMet_of_run' 8 (by kernel_rfl) (by kernel_rfl)) (by kernel_rfl) (by kernel_rfl)
end Go.Proofs.YtdbiogihimdpcaaGreatDoor
namespace Go.Proofs.YtdbiogihimdpcaaGreatDoor
open Go.Ev Go
set_option maxRecDepth 100000
set_option maxHeartbeats 16000000
structure acT(sc dc:List AV)(bx:Nat)(ov:AV)(h:Ab)(xc X:List AV)(Rx:List Nat)(rows Q:List (List AV))(Ro:List Nat):Prop where
 b0:h[0]?=some (.live 6 false false [sc])
 b1:h[1]?=some (.live 3 false false [dc])
 b2:h[2]?=some (.live 6 false false [[.int .i64 0,.nils,.int .i64 0,.int .i64 0,.nils,.nils]])
 bx3:3≤bx
 bxw:∃w,h[bx]?=some (.live 6 false w [xc])
 x:Pj (rd 5 (hf h)) xc=some (X,Rx)
 own:Do 0 4 false rows ov h
 nil:rows=[]→ov=.nils
 q:Dq (rd 5 (hf h)) rows=some (Q,Ro)
 dx:∀b∈Rx++Ro,3≤b∧b≠bx
 dov:∀st b r n,ov=.slr st b r n→3≤b∧b≠bx∧b∉Rx++Ro∧b<h.length
theorem Jh{h:Ab}{b:Nat}{c:CB}(hb:h[b]?=some c):b<h.length:=(List.getElem?_eq_some_iff.1 hb).1
theorem acT.call{sc dc:List AV}{bx:Nat}{ov:AV}{h:Ab}{xc X:List AV}{Rx:List Nat}{rows Q:List (List AV)}{Ro:List Nat}(I:acT sc dc bx ov h xc X Rx rows Q Ro)
 {lent:List Nat} {H1:Ab} (K:Kp lent h H1) (hl:∀b∈lent,b∈Rx):H1[0]?=h[0]?∧H1[1]?=h[1]?∧H1[2]?=h[2]?∧H1[bx]?=h[bx]?∧bx<h.length∧Do 0 4 false rows ov H1:=by
 obtain⟨w,hw⟩:=I.bxw
 have nl:∀b,¬(3≤b∧b≠bx)→b∉lent:=fun b hb hh=>hb (I.dx b (aa0 _ (hl b hh)))
 refine⟨K.same 0 (Jh I.b0) (nl _ (by omega)),K.same 1 (Jh I.b1) (nl _ (by omega)),K.same 2 (Jh I.b2) (nl _ (by omega)),K.same bx (Jh hw) (nl _ (by omega)),Jh hw,?_⟩
 rcases I.own with h1|⟨b,w',h1,h2⟩
 ·exact .inl h1
 ·refine .inr ⟨b,w',h1,?_⟩
  rw[K.same b (Jh h2) (fun hh=>(I.dov _ _ _ _ h1).2.2.1 (aa0 _ (hl _ hh)))]
  exact h2
theorem acT.next{sc dc:List AV}{bx:Nat}{ov:AV}{h:Ab}{xc X:List AV}{Rx:List Nat}{rows Q:List (List AV)}{Ro:List Nat}(I:acT sc dc bx ov h xc X Rx rows Q Ro)
 {lent:List Nat} {H1:Ab} (K:Kp lent h H1) (hl:∀b∈lent,b∈Rx) {xc' X' fc' Qf:List AV} {Rx' Rf:List Nat} (hx:Pj (rd 5 (hf H1)) xc'=some (X',Rx')) (hf':Pj (rd 5 (hf H1)) fc'=some (Qf,Rf))
 (fr:∀b∈Rx'++Rf,h.length≤b) (a b c:CB) {k n:Nat} (hk:k=H1.length+3) (hn:n=rows.length+1):
 acT sc dc bx (.slr 4 k 0 n) (kl 0 ov (H1.set bx (.live 6 false true [xc']))++[a,b,c,.live 4 false false (rows++[fc'])]) xc' X' Rx' (rows++[fc']) (Q++[Qf]) (Ro++Rf):=by
 subst hk hn
 obtain⟨c0,c1,c2,c3,hbx,c4⟩:=I.call K hl
 have l0:=Jh I.b0
 have l1:=Jh I.b1
 have l2:=Jh I.b2
 have bx3:=I.bx3
 have hle:=K.len
 have get:∀j,j<H1.length→j≠bx→(∀st m r n,ov=.slr st m r n→m≠j)→(kl 0 ov (H1.set bx (.live 6 false true [xc']))++[a,b,c,.live 4 false false (rows++[fc'])])[j]?=H1[j]?:=fun j hj hb ho=>by
  rw[wU _ (by simpa using hj) ho,List.getElem?_set_ne (fun e=>hb e.symm)]
 have low:∀j,j<3→∀st m r n,ov=.slr st m r n→m≠j:=fun j hj st m r n e=>by have:=(I.dov st m r n e).1;omega
 have agr:∀R:List Nat,(∀j∈R,j<H1.length)→(∀j∈R,j≠bx)→(∀j∈R,∀st m r n,ov=.slr st m r n→m≠j)→Agr R (hf H1) (hf (kl 0 ov (H1.set bx (.live 6 false true [xc']))++[a,b,c,.live 4 false false (rows++[fc'])])):=fun R h1 h2 h3 j hj z hz=>by
  show((kl 0 ov _++_)[j]?).bind Dl=_
  rw[get j (h1 j hj) (h2 j hj) (h3 j hj)];exact hz
 have fx:∀j∈Rx'++Rf,j≠bx∧∀st m r n,ov=.slr st m r n→m≠j:=fun j hj=>by
  have:=fr j hj
  exact⟨by omega,fun st m r n e=>by have:=(I.dov st m r n e).2.2.2;omega⟩
 have ltx:=bF (by omega) hx
 have ltf:=bF (by omega) hf'
 have q1:Dq (rd 5 (hf H1)) rows=some (Q,Ro):=Yw I.q fun j hj z hz=>by
  rw[K.rows j (gV (by omega) I.q j hj)];exact hz
 have lto:=gV (by omega) q1
 have lto':=gV (by omega) I.q
 have dro:∀j∈Ro,j≠bx∧∀st m r n,ov=.slr st m r n→m≠j:=fun j hj=>
  ⟨(I.dx j (aaW _ hj)).2,fun st m r n e e2=>(I.dov st m r n e).2.2.1 (by rw[e2];exact aaW _ hj)⟩
 have hlen:(kl 0 ov (H1.set bx (.live 6 false true [xc']))).length=H1.length:=by rw[Bt];simp
 refine⟨?_,?_,?_,bx3,⟨true,?_⟩,?_,.inr ⟨H1.length+3,false,by simp,?_⟩,fun e=>by simp at e,?_,?_,?_⟩
 ·rw[get 0 (by omega) (by omega) (low 0 (by omega)),c0];exact I.b0
 ·rw[get 1 (by omega) (by omega) (low 1 (by omega)),c1];exact I.b1
 ·rw[get 2 (by omega) (by omega) (low 2 (by omega)),c2];exact I.b2
 ·rw[wU _ (by simp;omega) (fun st m r n e=>(I.dov st m r n e).2.1),List.getElem?_set_self (by omega)]
 ·exact Wb hx (agr _ ltx (fun j hj=>(fx j (aa0 _ hj)).1) (fun j hj=>(fx j (aa0 _ hj)).2))
 ·rw[List.getElem?_append_right (by omega),hlen,show H1.length+3-H1.length=3 by omega];rfl
 ·exact iS (Yw q1 (agr _ lto (fun j hj=>(dro j hj).1) (fun j hj=>(dro j hj).2))) (Wb hf' (agr _ ltf (fun j hj=>(fx j (aaW _ hj)).1) (fun j hj=>(fx j (aaW _ hj)).2)))
 ·intro j hj
  rcases aa6.1 hj with hj|hj
  ·have:=fr j (aa0 _ hj);exact⟨by omega,(fx j (aa0 _ hj)).1⟩
  ·rcases aa6.1 hj with hj|hj
   ·exact I.dx j (aaW _ hj)
   ·have:=fr j (aaW _ hj);exact⟨by omega,(fx j (aaW _ hj)).1⟩
 ·intro st m r n e
  cases e
  refine⟨by omega,by omega,fun hj=>?_,by simp[hlen]⟩
  rcases aa6.1 hj with hj|hj
  ·have:=ltx _ hj;omega
  ·rcases aa6.1 hj with hj|hj
   ·have:=lto _ hj;omega
   ·have:=ltf _ hj;omega
theorem Je{f:Nat}{fn:Func}{c:Code}{args:List AV}{h:Ab}{Q:Eo→Ab→Prop}(hp:pr f=none)(hf:Tryz.prog.funcs[f]?=some fn)(hb:fn.body=some c)(hl:abB args.length fn.ntmps=true)
 (he:FnE Tryz.prog h.length fn.results.toList Q (Ed Bi Tryz.prog 5000 c [] ⟨mk fn.ntmps (Bw args),h⟩)):Ql Bi f args h Q:=Ql.start (pr:=pr) hp hf hb hl he
theorem axW{f:Nat}{fn:Func}{c:Code}{args:List AV}{h:Ab}{Q:Eo→Ab→Prop}(hp:pr f=none)(hf:Tryz.prog.funcs[f]?=some fn)(hb:fn.body=some c)(hl:abB args.length fn.ntmps=true)
 (he:FnS Tryz.prog fn.results.toList Q (Ed Bi Tryz.prog 5000 c [] ⟨mk fn.ntmps (Bw args),h⟩)):ShQ Bi f args h Q:=ShQ.start (pr:=pr) hp hf hb hl he
theorem ce{f:Nat}{fn:Func}{c:Code}{args:List AV}{h:Ab}{o:Eo}{h':Ab}(hf:Tryz.prog.funcs[f]?=some fn)(he:FnE Tryz.prog h.length fn.results.toList (fun o1 h1=>(o1,h1)=(o,h')) (Ed Bi Tryz.prog 5000 c [] ⟨mk fn.ntmps (Bw args),h⟩))(hp:pr f=none:=by exact rfl)(hb:fn.body=some c:=by exact rfl)(hl:abB args.length fn.ntmps=true:=by exact rfl):Bi.call (.fn f) args h=some (o,h'):=(Je hp hf hb hl he).eq
theorem csh{f:Nat}{fn:Func}{c:Code}{args:List AV}{h:Ab}{o:Eo}{h':Ab}(hf:Tryz.prog.funcs[f]?=some fn)(he:FnS Tryz.prog fn.results.toList (fun o1 h1=>(o1,h1)=(o,h')) (Ed Bi Tryz.prog 5000 c [] ⟨mk fn.ntmps (Bw args),h⟩))(hp:pr f=none:=by exact rfl)(hb:fn.body=some c:=by exact rfl)(hl:abB args.length fn.ntmps=true:=by exact rfl):Bi.call (.sh f) args h=some (o,h'):=(axW hp hf hb hl he).eq
theorem Np{α σ ρ:Type}{c:Code}(N:Nat)(l:List α)(E:Nat→σ→Tm→Ab→Prop)(F:List α→σ→ρ)(Q:ρ→Ex→Tm→Ab→Prop)
 (stop:∀s t h Q',(∀e t h,Q (F [] s) e t h→Q' e ⟨mk N t,h⟩)→E l.length s t h→rI N (fun _ _=>False) Q' (Ed Bi Tryz.prog 5000 c [] ⟨mk N t,h⟩))
 (go:∀x rest i s t h J Q',(∀t' h' s',E (i+1) s' t' h'→F rest s'=F (x::rest) s→J t' h')→(∀e t h,Q (F (x::rest) s) e t h→Q' e ⟨mk N t,h⟩)→l[i]?=some x→i<l.length→E i s t h→
   rI N J Q' (Ed Bi Tryz.prog 5000 c [] ⟨mk N t,h⟩)):
 ∀s t h,E 0 s t h→LpQ Bi c ⟨mk N t,h⟩ (Ot N (Q (F l s))):=ad8 (pr:=pr) rfl N l E F Q stop go
theorem cnt{σ ρ:Type}{c:Code}(N:Nat)(E:Nat→σ→Tm→Ab→Prop)(F:Nat→σ→ρ)(Q:ρ→Ex→Tm→Ab→Prop)
 (stop:∀s t h Q',(∀e t h,Q (F 0 s) e t h→Q' e ⟨mk N t,h⟩)→E 0 s t h→rI N (fun _ _=>False) Q' (Ed Bi Tryz.prog 5000 c [] ⟨mk N t,h⟩))
 (go:∀n s t h J Q',(∀t' h' s',E n s' t' h'→F n s'=F (n+1) s→J t' h')→(∀e t h,Q (F (n+1) s) e t h→Q' e ⟨mk N t,h⟩)→E (n+1) s t h→rI N J Q' (Ed Bi Tryz.prog 5000 c [] ⟨mk N t,h⟩)):
 ∀n s t h,E n s t h→LpQ Bi c ⟨mk N t,h⟩ (Ot N (Q (F n s))):=aiA (pr:=pr) rfl N E F Q stop go
structure Bh where
 fill:Int
 inn:Int
 out:Int
def Bh.cells(r:Bh):List AV:=[.int .i64 r.fill,.int .i64 r.inn,.int .i64 r.out]
structure Ag where
 firm:Bool
 space:Int
 lo:Int
 hi:Int
 nn:Bool
 rates:List Bh
 gas:Int
 fixed:Int
 inn:Int
 out:Int
 cut:Int
 lack:Int
def Ag.cells(c:Ag):List AV:=[.bool c.firm,.int .i64 c.space,.int .i64 c.lo,.int .i64 c.hi,Ao 3 true c.nn (c.rates.map Bh.cells),.int .i64 c.gas,.int .i64 c.fixed,.int .i64 c.inn,.int .i64 c.out,.int .i64 c.cut,.int .i64 c.lack]
structure Ac where
 space:Int
 inn:Int
 out:Int
 lead:Int
 fuel:Int
 nn:Bool
 cons:List Ag
abbrev Ac.cells(s:Ac):List AV:=[.int .i64 s.space,.int .i64 s.inn,.int .i64 s.out,.int .i64 s.lead,.int .i64 s.fuel,Ao 11 false s.nn (s.cons.map Ag.cells)]
def iv(x:Int):List AV:=[.int .i64 x]
def Hw(x lo hi:Int):Bool:=decide (lo≤x)&&decide (x≤hi)
theorem oG(x lo hi:Int):Bi.call (.fn 71) [.int .i64 x,.int .i64 lo,.int .i64 hi] []=some (.ret (.bool (Hw x lo hi)),[]):=by
 (refine ce Tryz.func71 ?_;simp only[Tryz.f71];(have hb:=trivial;with_reducible repeat' (first|simp only[hb,Va.down,seval]|refine Af ?_ ?_<;>intro hb|refine fd ?_|fail)))
 all_goals simp[Hw, *]
theorem jM(x lo hi:Int):Bi.call (.fn 54) [.int .i64 x,.int .i64 lo,.int .i64 hi] []=some (.ret (.bool (Hw x lo hi)),[]):=by
 (refine ce Tryz.func54 ?_;simp only[Tryz.f54];(have hb:=trivial;with_reducible repeat' (first|simp only[hb,Va.down,seval]|refine Af ?_ ?_<;>intro hb|refine fd ?_|fail)))
 all_goals simp[Hw, *]
def gY(x y:Int):Bool:=decide (0≤x)&&decide (x≤y)&&decide (y<48)
theorem al0(x y:Int):Bi.call (.fn 66) [.agg [.int .i64 x,.int .i64 y]] []=some (.ret (.bool (gY x y)),[]):=by
 (refine ce Tryz.func66 ?_;simp only[Tryz.f66];(have hb:=trivial;with_reducible repeat' (first|simp only[hb,Va.down,seval,aAD.down]|refine Af ?_ ?_<;>intro hb|refine fd ?_|fail)))
 all_goals simp[gY, *]
theorem af8(x:Int):Bi.call (.fn 93) [.int .i64 x] []=some (.ret (.bool (!Hw x 0 800000000)),[]):=by
 (refine ce Tryz.func93 ?_;simp only[Tryz.f93];(have hb:=trivial;with_reducible repeat' (first|simp only[hb,Va.down,seval,oG]|refine Af ?_ ?_<;>intro hb|refine fd ?_|fail)))
theorem adY(x:Int):Bi.call (.fn 136) [.int .i64 x] []=some (.ret (.bool (!Hw x 0 10000)),[]):=by
 (refine ce Tryz.func136 ?_;simp only[Tryz.f136];(have hb:=trivial;with_reducible repeat' (first|simp only[hb,Va.down,seval,oG]|refine Af ?_ ?_<;>intro hb|refine fd ?_|fail)))
theorem rL(x:Int):Bi.call (.fn 19) [.int .i64 x] []=some (.ret (.bool (Hw x 0 800000000)),[]):=by
 (refine ce Tryz.func19 ?_;simp only[Tryz.f19];(have hb:=trivial;with_reducible repeat' (first|simp only[hb,Va.down,seval,jM]|refine Af ?_ ?_<;>intro hb|refine fd ?_|fail)))
theorem abS(x:Int):Bi.call (.fn 81) [.int .i64 x] []=some (.ret (.bool (Hw x 0 100000000)),[]):=by
 (refine ce Tryz.func81 ?_;simp only[Tryz.f81];(have hb:=trivial;with_reducible repeat' (first|simp only[hb,Va.down,seval,jM]|refine Af ?_ ?_<;>intro hb|refine fd ?_|fail)))
theorem anT(x:Int):Bi.call (.fn 80) [.int .i64 x] []=some (.ret (.bool (Hw x 0 10000)),[]):=by
 (refine ce Tryz.func80 ?_;simp only[Tryz.f80];(have hb:=trivial;with_reducible repeat' (first|simp only[hb,Va.down,seval,jM]|refine Af ?_ ?_<;>intro hb|refine fd ?_|fail)))
theorem xO(x:Int):Bi.call (.fn 38) [.int .i64 x] []=some (.ret (.bool (Hw x 0 47)),[]):=by
 (refine ce Tryz.func38 ?_;simp only[Tryz.f38];(have hb:=trivial;with_reducible repeat' (first|simp only[hb,Va.down,seval,jM]|refine Af ?_ ?_<;>intro hb|refine fd ?_|fail)))
theorem amM(x y:Int):Bi.call (.fn 31) [.agg [.int .i64 x,.int .i64 y]] []=some (.ret (.bool (gY x y)),[]):=by
 (refine ce Tryz.func31 ?_;simp only[Tryz.f31];(have hb:=trivial;with_reducible repeat' (first|simp only[hb,Va.down,seval,azS.down,xO]|refine Af ?_ ?_<;>intro hb|refine fd ?_|fail)))
 all_goals (refine congrArg (fun b=>(Eo.ret (AV.bool b),([]:Ab))) ?_;rw[Bool.eq_iff_iff];simp only[gY,Hw,Bool.and_eq_true,Bool.or_eq_true,Bool.not_eq_true',Bool.and_eq_false_iff,Bool.or_eq_false_iff,decide_eq_true_eq,decide_eq_false_iff_not,beq_iff_eq,beq_eq_false_iff_ne,Bool.false_eq_true,false_iff,iff_false,true_iff,iff_true,Bool.not_true,Bool.not_false]at *;omega)
theorem vT(c:Ag)(f:Bool)(h:Int):Bi.call (.fn 111) [.agg [.bool f,.int .i64 c.space,.int .i64 c.lo,.int .i64 c.hi,Ao 3 true c.nn (c.rates.map Bh.cells),.int .i64 c.gas,.int .i64 c.fixed,.int .i64 c.inn,.int .i64 c.out,.int .i64 c.cut,.int .i64 c.lack],.int .i64 h] []=some (.ret (.bool (Hw h c.lo c.hi)),[]):=by
 (refine ce Tryz.func111 ?_;simp only[Tryz.f111];(have hb:=trivial;with_reducible repeat' (first|simp only[hb,Va.down,seval,avZ.down,oG]|refine Af ?_ ?_<;>intro hb|refine fd ?_|fail)))
theorem mI(c:Ag)(f:Bool)(h:Int):Bi.call (.fn 79) [.agg [.bool f,.int .i64 c.space,.int .i64 c.lo,.int .i64 c.hi,Ao 3 true c.nn (c.rates.map Bh.cells),.int .i64 c.gas,.int .i64 c.fixed,.int .i64 c.inn,.int .i64 c.out,.int .i64 c.cut,.int .i64 c.lack],.int .i64 h] []=some (.ret (.bool (Hw h c.lo c.hi)),[]):=by
 (refine ce Tryz.func79 ?_;simp only[Tryz.f79];(have hb:=trivial;with_reducible repeat' (first|simp only[hb,Va.down,seval,azJ.down,jM]|refine Af ?_ ?_<;>intro hb|refine fd ?_|fail)))
end Go.Proofs.YtdbiogihimdpcaaGreatDoor
