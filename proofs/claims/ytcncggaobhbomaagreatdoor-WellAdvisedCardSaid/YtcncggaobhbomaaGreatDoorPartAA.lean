/- The functions of the layer, walked. -/
import Derived.Test.YtcncggaobhbomaaGreatDoorLibE
import Derived.Test.YtcncggaobhbomaaGreatDoorChecked
import Derived.Test.YtcncggaobhbomaaGreatDoorLibD
import Derived.Test.YtcncggaobhbomaaGreatDoorRows
import Derived.Test.YtcncggaobhbomaaGreatDoorTie
import Derived.Test.YtcncggaobhbomaaGreatDoorCards
import Derived.Test.YtcncggaobhbomaaGreatDoorShelf
import Derived.ProofKit
import Derived.LaidMore
import Derived.OpenShut
import Derived.Stop.Joined
open And renaming intro→aaN
open List renaming length_map→adC,replicate→adQ,getElem?_append_left→ae2,getElem?_eq_some_iff→afJ,take→af8,getElem?_set_ne→ai0,take_of_length_le→ajM,all_eq_true→ajV,getElem?_append_right→ajY,drop→aj6,flatMap_cons→aj8,cons_append→akX,nil_append→akY,getElem?_set_self→ak0,mem_of_getElem?→ak2,getElem?_eq_getElem→alC,take_succ_cons→aoR,drop_succ_cons→aq3,set_cons_succ→aq4,length_take→aq5
open Nat renaming ble→ag1
open Int renaming lt_irrefl→akZ
open Bool renaming and_eq_true→aq6
set_option linter.unusedSimpArgs false
set_option linter.unusedVariables false
namespace Go.Proofs.YtcncggaobhbomaaGreatDoor
open Go.Ev
set_option maxRecDepth 100000
theorem Ym(h:Qa)(b r o:Nat):ld Tryz.prog 24 h (some (.ptr b r o))=ldR (Zf (h[b]?) r) o 3:=tC ⟨by kernel_rfl,by kernel_rfl⟩ h b r o
theorem vK(b r o:Nat):ftL Tryz.prog 24 (some (.ptr b r o))=some [.cells b o 3]:=Zc (isA:=true) (n:=3) (by kernel_rfl) (by kernel_rfl) b r o
theorem dJ(fl nn:Bool)(rows:List (List AV)):ln Tryz.prog 25 (some (Rn 3 fl nn rows))=some (.ret (.int .i64 rows.length),[]):=nY ⟨_,Tryz.underlying25,by kernel_rfl⟩ fl nn rows
theorem Ss(b r o:Nat):fa Tryz.prog 24 (some (.ptr b r o)) 2=some (.ret (.ptr b r (o+2)),[]):=Ul (show Vh Tryz.prog 24 2 2 1 from⟨_,_,Tryz.underlying24,rfl,rfl,by kernel_rfl,by decide⟩) b r o
theorem Tv(h:Qa)(b r o:Nat):ld Tryz.prog 22 h (some (.ptr b r o))=ldC (Zf (h[b]?) r) o:=jV ⟨by kernel_rfl,1,by kernel_rfl⟩ h b r o
theorem aiG(b r o:Nat):ftL Tryz.prog 22 (some (.ptr b r o))=some [.cells b o 1]:=Zc (isA:=false) (n:=1) (by kernel_rfl) (by kernel_rfl) b r o
theorem ai2(st:Nat)(fl:Bool)(rows:List (List AV)):ln Tryz.prog 22 (some (.imm st fl rows))=some (.ret (.int .i64 rows.length),[]):=ad4 (n:=9) ⟨_,Tryz.underlying22,by kernel_rfl⟩ st fl rows
theorem aiL(st b r len:Nat):ln Tryz.prog 22 (some (.slr st b r len))=some (.ret (.int .i64 len),[]):=yM (n:=9) ⟨_,Tryz.underlying22,by kernel_rfl⟩ st b r len
theorem Um(fl nn:Bool)(rows:List (List AV)):ln Tryz.prog 22 (some (Rn 9 fl nn rows))=some (.ret (.int .i64 rows.length),[]):=nY ⟨_,Tryz.underlying22,by kernel_rfl⟩ fl nn rows
theorem sG:Vl Tryz.prog 36=some (.agg [.int .i64 0,.int .i64 0]):=by kernel_rfl
theorem qX(h:Qa)(b r o:Nat)(v:AV):vN Tryz.prog 36 h (some (.ptr b r o)) (some v)=sv 2 (h[b]?) b r o (Qf v):=Xs (by kernel_rfl) h b r o v
theorem ajG(b r o:Nat):ftS Tryz.prog 36 (some (.ptr b r o))=some [.cells b o 2]:=iO (by kernel_rfl) b r o
theorem bL(h:Qa)(b r o:Nat):ld Tryz.prog 36 h (some (.ptr b r o))=ldR (Zf (h[b]?) r) o 2:=tC ⟨by kernel_rfl,by kernel_rfl⟩ h b r o
theorem vZ(b r o:Nat):ftL Tryz.prog 36 (some (.ptr b r o))=some [.cells b o 2]:=Zc (isA:=true) (n:=2) (by kernel_rfl) (by kernel_rfl) b r o
theorem vH(ps:List (Nat × AV)):bG Tryz.prog 36 ps=(Xx (fun i=>([(0,1),(1,1)]:List (Nat × Nat))[i]?) (Qf (.agg [.int .i64 0,.int .i64 0])) ps).map .agg:=by kernel_rfl
theorem ajZ(b r len:Nat)(k:IntKind)(i:Int):ia Tryz.prog 22 (some (.slr 9 b r len)) (some (.int k i))=if 0≤i∧i<len then some (.ret (.ptr b (r+i.toNat) 0),[])else none:=yP ⟨_,Tryz.underlying22,by kernel_rfl⟩ b r len k i
theorem Zj(fl nn:Bool)(rows:List (List AV))(k:IntKind)(i:Int):ia Tryz.prog 22 (some (Rn 9 fl nn rows)) (some (.int k i))=if 0≤i then r1 ((rows[i.toNat]?).map .iptr)else none:=nP ⟨_,Tryz.underlying22,by kernel_rfl⟩ fl nn rows k i
theorem eS(h:Qa)(b r o:Nat):ld Tryz.prog 46 h (some (.ptr b r o))=ldR (Zf (h[b]?) r) o 9:=tC ⟨by kernel_rfl,by kernel_rfl⟩ h b r o
theorem Yk(h:Qa)(cs:List AV):ld Tryz.prog 46 h (some (.iptr cs))=if 9≤cs.length then some (.ret (.agg (cs.take 9)),[])else none:=agE ⟨by kernel_rfl,by kernel_rfl⟩ h cs
theorem wP(b r o:Nat):ftL Tryz.prog 46 (some (.ptr b r o))=some [.cells b o 9]:=Zc (isA:=true) (n:=9) (by kernel_rfl) (by kernel_rfl) b r o
theorem iE:Vl Tryz.prog 46=some (.agg [.int .i64 0,.int .i64 0,.bool false,.bool false,.int .i64 0,.int .i64 0,.bool false,.int .i64 0,.int .i64 0]):=by kernel_rfl
theorem gV(h:Qa)(b r o:Nat)(v:AV):vN Tryz.prog 46 h (some (.ptr b r o)) (some v)=sv 9 (h[b]?) b r o (Qf v):=Xs (by kernel_rfl) h b r o v
theorem ajW(b r o:Nat):ftS Tryz.prog 46 (some (.ptr b r o))=some [.cells b o 9]:=iO (by kernel_rfl) b r o
theorem cM(b r o:Nat):fa Tryz.prog 46 (some (.ptr b r o)) 5=some (.ret (.ptr b r (o+5)),[]):=Ul (show Vh Tryz.prog 46 5 5 1 from⟨_,_,Tryz.underlying46,rfl,rfl,by kernel_rfl,by decide⟩) b r o
theorem Sz(h:Qa)(b r o:Nat):ld Tryz.prog 3 h (some (.ptr b r o))=ldC (Zf (h[b]?) r) o:=jV ⟨by kernel_rfl,1,by kernel_rfl⟩ h b r o
theorem jG(h:Qa)(c:AV)(cs:List AV):ld Tryz.prog 3 h (some (.iptr (c::cs)))=some (.ret c,[]):=awZ ⟨by kernel_rfl,1,by kernel_rfl⟩ h c cs
theorem ac8(b r o:Nat):ftL Tryz.prog 3 (some (.ptr b r o))=some [.cells b o 1]:=Zc (isA:=false) (n:=1) (by kernel_rfl) (by kernel_rfl) b r o
theorem ag7(h:Qa)(b r o:Nat)(v:AV):vN Tryz.prog 3 h (some (.ptr b r o)) (some v)=sv 1 (h[b]?) b r o (Qf v):=Xs (by kernel_rfl) h b r o v
theorem Zs(b r o:Nat):fa Tryz.prog 46 (some (.ptr b r o)) 3=some (.ret (.ptr b r (o+3)),[]):=Ul (show Vh Tryz.prog 46 3 3 1 from⟨_,_,Tryz.underlying46,rfl,rfl,by kernel_rfl,by decide⟩) b r o
theorem agN(h:Qa)(b r o:Nat)(v:AV):vN Tryz.prog 4 h (some (.ptr b r o)) (some v)=sv 1 (h[b]?) b r o (Qf v):=Xs (by kernel_rfl) h b r o v
theorem alR:Vl Tryz.prog 75=some (.agg [.int .i64 0,.bool false,.bool false]):=by kernel_rfl
theorem akU(fl nn:Bool)(rows:List (List AV)):ln Tryz.prog 49 (some (Rn 1 fl nn rows))=some (.ret (.int .i64 rows.length),[]):=nY ⟨_,Tryz.underlying49,by kernel_rfl⟩ fl nn rows
theorem cI(b r o:Nat):fa Tryz.prog 36 (some (.ptr b r o)) 0=some (.ret (.ptr b r (o+0)),[]):=Ul (show Vh Tryz.prog 36 0 0 1 from⟨_,_,Tryz.underlying36,rfl,rfl,by kernel_rfl,by decide⟩) b r o
theorem eA(h:Qa)(b r o:Nat):ld Tryz.prog 34 h (some (.ptr b r o))=ldC (Zf (h[b]?) r) o:=jV ⟨by kernel_rfl,1,by kernel_rfl⟩ h b r o
theorem wT(b r o:Nat):ftL Tryz.prog 34 (some (.ptr b r o))=some [.cells b o 1]:=Zc (isA:=false) (n:=1) (by kernel_rfl) (by kernel_rfl) b r o
theorem akL(fl nn:Bool)(rows:List (List AV))(k:IntKind)(i:Int):ia Tryz.prog 49 (some (Rn 1 fl nn rows)) (some (.int k i))=if 0≤i then r1 ((rows[i.toNat]?).map .iptr)else none:=nP ⟨_,Tryz.underlying49,by kernel_rfl⟩ fl nn rows k i
theorem Wx(h:Qa)(b r o:Nat):ld Tryz.prog 4 h (some (.ptr b r o))=ldC (Zf (h[b]?) r) o:=jV ⟨by kernel_rfl,1,by kernel_rfl⟩ h b r o
theorem xC(h:Qa)(c:AV)(cs:List AV):ld Tryz.prog 4 h (some (.iptr (c::cs)))=some (.ret c,[]):=awZ ⟨by kernel_rfl,1,by kernel_rfl⟩ h c cs
theorem zF:Vl Tryz.prog 24=some (.agg [.int .i64 0,.int .i64 0,.nils]):=by kernel_rfl
theorem aaF(h:Qa)(b r o:Nat)(v:AV):vN Tryz.prog 24 h (some (.ptr b r o)) (some v)=sv 3 (h[b]?) b r o (Qf v):=Xs (by kernel_rfl) h b r o v
theorem ahZ(b r o:Nat):ftS Tryz.prog 24 (some (.ptr b r o))=some [.cells b o 3]:=iO (by kernel_rfl) b r o
theorem cF(b r o:Nat):fa Tryz.prog 24 (some (.ptr b r o)) 1=some (.ret (.ptr b r (o+1)),[]):=Ul (show Vh Tryz.prog 24 1 1 1 from⟨_,_,Tryz.underlying24,rfl,rfl,by kernel_rfl,by decide⟩) b r o
theorem cA(b r o:Nat):fa Tryz.prog 36 (some (.ptr b r o)) 1=some (.ret (.ptr b r (o+1)),[]):=Ul (show Vh Tryz.prog 36 1 1 1 from⟨_,_,Tryz.underlying36,rfl,rfl,by kernel_rfl,by decide⟩) b r o
theorem ajO(ps:List (Nat × AV)):bG Tryz.prog 24 ps=(Xx (fun i=>([(0,1),(1,1),(2,1)]:List (Nat × Nat))[i]?) (Qf (.agg [.int .i64 0,.int .i64 0,.nils])) ps).map .agg:=by kernel_rfl
theorem eG(h:Qa)(b r o:Nat):ld Tryz.prog 50 h (some (.ptr b r o))=ldC (Zf (h[b]?) r) o:=jV ⟨by kernel_rfl,1,by kernel_rfl⟩ h b r o
theorem ar5:Vl Tryz.prog 3=some (.int .i64 0):=by kernel_rfl
theorem nZ(base len:Nat)(ps:List (Nat × AV)):rD (Ru Tryz.prog base 50 len ps)=bsK 1 (.int .i64 0) base len ps:=asB (e:=3) (by kernel_rfl) (by kernel_rfl) (by kernel_rfl) base len ps
theorem aeW(h:Qa)(b r o:Nat):ld Tryz.prog 69 h (some (.ptr b r o))=ldC (Zf (h[b]?) r) o:=jV ⟨by kernel_rfl,1,by kernel_rfl⟩ h b r o
theorem wE(ps:List (Nat × AV)):bG Tryz.prog 85 ps=(Xx (fun i=>([(0,24),(24,1)]:List (Nat × Nat))[i]?) (Qf (.agg [.int .i64 0,.bool false,.int .i64 0,.bool false,.int .i64 0,.bool false,.int .i64 0,.bool false,.int .i64 0,.bool false,.int .i64 0,.bool false,.int .i64 0,.bool false,.int .i64 0,.bool false,.int .i64 0,.bool false,.int .i64 0,.bool false,.int .i64 0,.bool false,.int .i64 0,.bool false,.int .i64 0])) ps).map .agg:=by kernel_rfl
theorem uF:Vl Tryz.prog 85=some (.agg [.int .i64 0,.bool false,.int .i64 0,.bool false,.int .i64 0,.bool false,.int .i64 0,.bool false,.int .i64 0,.bool false,.int .i64 0,.bool false,.int .i64 0,.bool false,.int .i64 0,.bool false,.int .i64 0,.bool false,.int .i64 0,.bool false,.int .i64 0,.bool false,.int .i64 0,.bool false,.int .i64 0]):=by kernel_rfl
theorem sU(h:Qa)(b r o:Nat)(v:AV):vN Tryz.prog 85 h (some (.ptr b r o)) (some v)=sv 25 (h[b]?) b r o (Qf v):=Xs (by kernel_rfl) h b r o v
theorem eQ(h:Qa)(b r o:Nat):ld Tryz.prog 85 h (some (.ptr b r o))=ldR (Zf (h[b]?) r) o 25:=tC ⟨by kernel_rfl,by kernel_rfl⟩ h b r o
theorem adT(h:Qa)(cs:List AV):ld Tryz.prog 85 h (some (.iptr cs))=if 25≤cs.length then some (.ret (.agg (cs.take 25)),[])else none:=agE ⟨by kernel_rfl,by kernel_rfl⟩ h cs
theorem xH(b r o:Nat):ftL Tryz.prog 85 (some (.ptr b r o))=some [.cells b o 25]:=Zc (isA:=true) (n:=25) (by kernel_rfl) (by kernel_rfl) b r o
theorem zZ:Vl Tryz.prog 86=some (.nilm):=by kernel_rfl
theorem acE(h:Qa)(b r o:Nat)(v:AV):vN Tryz.prog 86 h (some (.ptr b r o)) (some v)=sv 1 (h[b]?) b r o (Qf v):=Xs (by kernel_rfl) h b r o v
theorem eP(h:Qa)(b r o:Nat):ld Tryz.prog 86 h (some (.ptr b r o))=ldC (Zf (h[b]?) r) o:=jV ⟨by kernel_rfl,1,by kernel_rfl⟩ h b r o
theorem vI(b r o:Nat):ftL Tryz.prog 86 (some (.ptr b r o))=some [.cells b o 1]:=Zc (isA:=false) (n:=1) (by kernel_rfl) (by kernel_rfl) b r o
theorem wW(b r len:Nat)(k:IntKind)(i:Int):ia Tryz.prog 91 (some (.slr 4 b r len)) (some (.int k i))=if 0≤i∧i<len then some (.ret (.ptr b (r+i.toNat) 0),[])else none:=yP ⟨_,Tryz.underlying91,by kernel_rfl⟩ b r len k i
theorem vL(fl nn:Bool)(rows:List (List AV))(k:IntKind)(i:Int):ia Tryz.prog 91 (some (Rn 4 fl nn rows)) (some (.int k i))=if 0≤i then r1 ((rows[i.toNat]?).map .iptr)else none:=nP ⟨_,Tryz.underlying91,by kernel_rfl⟩ fl nn rows k i
theorem zR(b r o:Nat):fa Tryz.prog 94 (some (.ptr b r o)) 0=some (.ret (.ptr b r (o+0)),[]):=Ul (show Vh Tryz.prog 94 0 0 2 from⟨_,_,Tryz.underlying94,rfl,rfl,by kernel_rfl,by decide⟩) b r o
theorem nR(b r len:Nat)(k:IntKind)(i:Int):ia Tryz.prog 50 (some (.slr 1 b r len)) (some (.int k i))=if 0≤i∧i<len then some (.ret (.ptr b (r+i.toNat) 0),[])else none:=yP ⟨_,Tryz.underlying50,by kernel_rfl⟩ b r len k i
theorem akP(fl nn:Bool)(rows:List (List AV))(k:IntKind)(i:Int):ia Tryz.prog 50 (some (Rn 1 fl nn rows)) (some (.int k i))=if 0≤i then r1 ((rows[i.toNat]?).map .iptr)else none:=nP ⟨_,Tryz.underlying50,by kernel_rfl⟩ fl nn rows k i
theorem cE(b r o:Nat):fa Tryz.prog 24 (some (.ptr b r o)) 0=some (.ret (.ptr b r (o+0)),[]):=Ul (show Vh Tryz.prog 24 0 0 1 from⟨_,_,Tryz.underlying24,rfl,rfl,by kernel_rfl,by decide⟩) b r o
theorem gX(b r o:Nat):fa Tryz.prog 46 (some (.ptr b r o)) 0=some (.ret (.ptr b r (o+0)),[]):=Ul (show Vh Tryz.prog 46 0 0 1 from⟨_,_,Tryz.underlying46,rfl,rfl,by kernel_rfl,by decide⟩) b r o
theorem gW(b r o:Nat):fa Tryz.prog 46 (some (.ptr b r o)) 1=some (.ret (.ptr b r (o+1)),[]):=Ul (show Vh Tryz.prog 46 1 1 1 from⟨_,_,Tryz.underlying46,rfl,rfl,by kernel_rfl,by decide⟩) b r o
theorem hZ(b r o:Nat):fa Tryz.prog 46 (some (.ptr b r o)) 2=some (.ret (.ptr b r (o+2)),[]):=Ul (show Vh Tryz.prog 46 2 2 1 from⟨_,_,Tryz.underlying46,rfl,rfl,by kernel_rfl,by decide⟩) b r o
theorem Zu(b r o:Nat):fa Tryz.prog 46 (some (.ptr b r o)) 4=some (.ret (.ptr b r (o+4)),[]):=Ul (show Vh Tryz.prog 46 4 4 1 from⟨_,_,Tryz.underlying46,rfl,rfl,by kernel_rfl,by decide⟩) b r o
theorem iG(b r o:Nat):fa Tryz.prog 46 (some (.ptr b r o)) 7=some (.ret (.ptr b r (o+7)),[]):=Ul (show Vh Tryz.prog 46 7 7 1 from⟨_,_,Tryz.underlying46,rfl,rfl,by kernel_rfl,by decide⟩) b r o
theorem gU(b r o:Nat):fa Tryz.prog 46 (some (.ptr b r o)) 8=some (.ret (.ptr b r (o+8)),[]):=Ul (show Vh Tryz.prog 46 8 8 1 from⟨_,_,Tryz.underlying46,rfl,rfl,by kernel_rfl,by decide⟩) b r o
theorem uY{O:Uo}(t:List AV)(h:Qa)(s x:Operand):Tt O Tryz.prog t h (.call ⟨.builtin .append,#[s,x],#[22,22]⟩)=apO Tryz.prog 22 h (Qe t s) (Qe t x):=agY t h s x 22 22 _ Tryz.underlying22
theorem aj1(h:Qa)(s:AV)(st:Nat)(fl:Bool)(rows:List (List AV)):apO Tryz.prog 22 h (some s) (some (.imm st fl rows))=apK 9 h (some s) (srK 9 h (some (.imm st fl rows))):=adI (e:=46) (b:=64) (z:=.agg [.int .i64 0,.int .i64 0,.bool false,.bool false,.int .i64 0,.int .i64 0,.bool false,.int .i64 0,.int .i64 0]) (by kernel_rfl) (by kernel_rfl) (by kernel_rfl) (by kernel_rfl) (by decide+kernel) h s _ (fun q e=>by cases e)
theorem apI(h:Qa)(b r o:Nat)(v:AV):vN Tryz.prog 22 h (some (.ptr b r o)) (some v)=sv 1 (h[b]?) b r o (Qf v):=Xs (by kernel_rfl) h b r o v
theorem jK(fl nn:Bool)(rows:List (List AV))(k:IntKind)(i:Int):ia Tryz.prog 25 (some (Rn 3 fl nn rows)) (some (.int k i))=if 0≤i then r1 ((rows[i.toNat]?).map .iptr)else none:=nP ⟨_,Tryz.underlying25,by kernel_rfl⟩ fl nn rows k i
theorem pS(b r o:Nat):fa Tryz.prog 75 (some (.ptr b r o)) 0=some (.ret (.ptr b r (o+0)),[]):=Ul (show Vh Tryz.prog 75 0 0 1 from⟨_,_,Tryz.underlying75,rfl,rfl,by kernel_rfl,by decide⟩) b r o
theorem gI(cs:List AV):fa Tryz.prog 75 (some (.iptr cs)) 0=if 0+1≤cs.length then some (.ret (.iptr (cs.drop 0)),[])else none:=xX (show Vh Tryz.prog 75 0 0 1 from⟨_,_,Tryz.underlying75,rfl,rfl,by kernel_rfl,by decide⟩) cs
theorem aaZ(b r o:Nat):fa Tryz.prog 75 (some (.ptr b r o)) 1=some (.ret (.ptr b r (o+1)),[]):=Ul (show Vh Tryz.prog 75 1 1 1 from⟨_,_,Tryz.underlying75,rfl,rfl,by kernel_rfl,by decide⟩) b r o
theorem acY(cs:List AV):fa Tryz.prog 75 (some (.iptr cs)) 1=if 1+1≤cs.length then some (.ret (.iptr (cs.drop 1)),[])else none:=xX (show Vh Tryz.prog 75 1 1 1 from⟨_,_,Tryz.underlying75,rfl,rfl,by kernel_rfl,by decide⟩) cs
theorem ab3(b r o:Nat):fa Tryz.prog 75 (some (.ptr b r o)) 2=some (.ret (.ptr b r (o+2)),[]):=Ul (show Vh Tryz.prog 75 2 2 1 from⟨_,_,Tryz.underlying75,rfl,rfl,by kernel_rfl,by decide⟩) b r o
theorem aaC(cs:List AV):fa Tryz.prog 75 (some (.iptr cs)) 2=if 2+1≤cs.length then some (.ret (.iptr (cs.drop 2)),[])else none:=xX (show Vh Tryz.prog 75 2 2 1 from⟨_,_,Tryz.underlying75,rfl,rfl,by kernel_rfl,by decide⟩) cs
theorem gJ:Vl Tryz.prog 82=some (.agg [.int .i64 0,.bool false,.int .i64 0,.bool false,.int .i64 0,.bool false,.int .i64 0,.bool false,.int .i64 0,.bool false,.int .i64 0,.bool false,.int .i64 0,.bool false,.int .i64 0,.bool false,.int .i64 0,.bool false,.int .i64 0,.bool false,.int .i64 0,.bool false,.int .i64 0,.bool false]):=by kernel_rfl
theorem fQ(h:Qa)(b r o:Nat)(v:AV):vN Tryz.prog 82 h (some (.ptr b r o)) (some v)=sv 24 (h[b]?) b r o (Qf v):=Xs (by kernel_rfl) h b r o v
theorem Wq(b r o:Nat):fa Tryz.prog 106 (some (.ptr b r o)) 0=some (.ret (.ptr b r (o+0)),[]):=Ul (show Vh Tryz.prog 106 0 0 3 from⟨_,_,Tryz.underlying106,rfl,rfl,by kernel_rfl,by decide⟩) b r o
theorem Xj(h:Qa)(b r o:Nat):ld Tryz.prog 82 h (some (.ptr b r o))=ldR (Zf (h[b]?) r) o 24:=tC ⟨by kernel_rfl,by kernel_rfl⟩ h b r o
theorem ah2(b r o:Nat):ftL Tryz.prog 82 (some (.ptr b r o))=some [.cells b o 24]:=Zc (isA:=true) (n:=24) (by kernel_rfl) (by kernel_rfl) b r o
theorem Wn(b r o:Nat):fa Tryz.prog 80 (some (.ptr b r o)) 0=some (.ret (.ptr b r (o+0)),[]):=Ul (show Vh Tryz.prog 80 0 0 1 from⟨_,_,Tryz.underlying80,rfl,rfl,by kernel_rfl,by decide⟩) b r o
theorem sX(h:Qa)(b r o:Nat)(v:AV):vN Tryz.prog 78 h (some (.ptr b r o)) (some v)=sv 1 (h[b]?) b r o (Qf v):=Xs (by kernel_rfl) h b r o v
theorem Wa(h:Qa)(b r o:Nat):ld Tryz.prog 80 h (some (.ptr b r o))=ldR (Zf (h[b]?) r) o 2:=tC ⟨by kernel_rfl,by kernel_rfl⟩ h b r o
theorem ahC(b r o:Nat):ftL Tryz.prog 80 (some (.ptr b r o))=some [.cells b o 2]:=Zc (isA:=true) (n:=2) (by kernel_rfl) (by kernel_rfl) b r o
theorem cT{O:Uo}(t:List AV)(h:Qa)(s x:Operand):Tt O Tryz.prog t h (.call ⟨.builtin .append,#[s,x],#[50,50]⟩)=apO Tryz.prog 50 h (Qe t s) (Qe t x):=agY t h s x 50 50 _ Tryz.underlying50
theorem nM(h:Qa)(s:AV)(a b r l:Nat):apO Tryz.prog 50 h (some s) (some (.slr a b r l))=apK 1 h (some s) (srK 1 h (some (.slr a b r l))):=adI (e:=3) (b:=8) (z:=.int .i64 0) (by kernel_rfl) (by kernel_rfl) (by kernel_rfl) (by kernel_rfl) (by decide+kernel) h s _ (fun q e=>by cases e)
theorem ajE(h:Qa)(s:AV)  :apO Tryz.prog 50 h (some s) (some .nils)=apK 1 h (some s) (srK 1 h (some .nils)):=adI (e:=3) (b:=8) (z:=.int .i64 0) (by kernel_rfl) (by kernel_rfl) (by kernel_rfl) (by kernel_rfl) (by decide+kernel) h s _ (fun q e=>by cases e)
theorem fK(b r o:Nat):fa Tryz.prog 46 (some (.ptr b r o)) 6=some (.ret (.ptr b r (o+6)),[]):=Ul (show Vh Tryz.prog 46 6 6 1 from⟨_,_,Tryz.underlying46,rfl,rfl,by kernel_rfl,by decide⟩) b r o
theorem wU(st b r len:Nat):ln Tryz.prog 50 (some (.slr st b r len))=some (.ret (.int .i64 len),[]):=yM (n:=1) ⟨_,Tryz.underlying50,by kernel_rfl⟩ st b r len
theorem ajQ:ln Tryz.prog 50 (some .nils)=some (.ret (.int .i64 0),[]):=yF (n:=1) ⟨_,Tryz.underlying50,by kernel_rfl⟩
theorem ahP(fl nn:Bool)(rows:List (List AV)):ln Tryz.prog 50 (some (Rn 1 fl nn rows))=some (.ret (.int .i64 rows.length),[]):=nY ⟨_,Tryz.underlying50,by kernel_rfl⟩ fl nn rows
theorem aiD(base len:Nat)(ps:List (Nat × AV)):rD (Ru Tryz.prog base 22 len ps)=bsK 9 (.agg [.int .i64 0,.int .i64 0,.bool false,.bool false,.int .i64 0,.int .i64 0,.bool false,.int .i64 0,.int .i64 0]) base len ps:=asB (e:=46) (by kernel_rfl) (by kernel_rfl) (by kernel_rfl) base len ps
theorem an0:Vl Tryz.prog 50=some (.nils):=by kernel_rfl
theorem yG(b r o:Nat):fa Tryz.prog 106 (some (.ptr b r o)) 1=some (.ret (.ptr b r (o+3)),[]):=Ul (show Vh Tryz.prog 106 1 3 1 from⟨_,_,Tryz.underlying106,rfl,rfl,by kernel_rfl,by decide⟩) b r o
theorem ad5(ps:List (Nat × AV)):bG Tryz.prog 106 ps=(Xx (fun i=>([(0,3),(3,1)]:List (Nat × Nat))[i]?) (Qf (.agg [.int .i64 0,.int .i64 0,.nils,.int .i64 0])) ps).map .agg:=by kernel_rfl
theorem uA(h:Qa)(cs:List AV):ld Tryz.prog 75 h (some (.iptr cs))=if 3≤cs.length then some (.ret (.agg (cs.take 3)),[])else none:=agE ⟨by kernel_rfl,by kernel_rfl⟩ h cs
theorem aqX(h:Qa)(b r o:Nat)(v:AV):vN Tryz.prog 75 h (some (.ptr b r o)) (some v)=sv 3 (h[b]?) b r o (Qf v):=Xs (by kernel_rfl) h b r o v
theorem Yr(b r o:Nat):fa Tryz.prog 80 (some (.ptr b r o)) 1=some (.ret (.ptr b r (o+1)),[]):=Ul (show Vh Tryz.prog 80 1 1 1 from⟨_,_,Tryz.underlying80,rfl,rfl,by kernel_rfl,by decide⟩) b r o
theorem wC(base len:Nat)(ps:List (Nat × AV)):rD (Ru Tryz.prog base 92 len ps)=bsK 25 (.agg [.int .i64 0,.bool false,.int .i64 0,.bool false,.int .i64 0,.bool false,.int .i64 0,.bool false,.int .i64 0,.bool false,.int .i64 0,.bool false,.int .i64 0,.bool false,.int .i64 0,.bool false,.int .i64 0,.bool false,.int .i64 0,.bool false,.int .i64 0,.bool false,.int .i64 0,.bool false,.int .i64 0]) base len ps:=asB (e:=85) (by kernel_rfl) (by kernel_rfl) (by kernel_rfl) base len ps
theorem ajP(st b r len:Nat):ln Tryz.prog 92 (some (.slr st b r len))=some (.ret (.int .i64 len),[]):=yM (n:=25) ⟨_,Tryz.underlying92,by kernel_rfl⟩ st b r len
theorem aiN(fl nn:Bool)(rows:List (List AV)):ln Tryz.prog 92 (some (Rn 25 fl nn rows))=some (.ret (.int .i64 rows.length),[]):=nY ⟨_,Tryz.underlying92,by kernel_rfl⟩ fl nn rows
theorem aiY(b r len:Nat)(k:IntKind)(i:Int):ia Tryz.prog 92 (some (.slr 25 b r len)) (some (.int k i))=if 0≤i∧i<len then some (.ret (.ptr b (r+i.toNat) 0),[])else none:=yP ⟨_,Tryz.underlying92,by kernel_rfl⟩ b r len k i
theorem akR(fl nn:Bool)(rows:List (List AV))(k:IntKind)(i:Int):ia Tryz.prog 92 (some (Rn 25 fl nn rows)) (some (.int k i))=if 0≤i then r1 ((rows[i.toNat]?).map .iptr)else none:=nP ⟨_,Tryz.underlying92,by kernel_rfl⟩ fl nn rows k i
theorem ahG(st b r len:Nat):ln Tryz.prog 91 (some (.slr st b r len))=some (.ret (.int .i64 len),[]):=yM (n:=4) ⟨_,Tryz.underlying91,by kernel_rfl⟩ st b r len
theorem ai6:ln Tryz.prog 91 (some .nils)=some (.ret (.int .i64 0),[]):=yF (n:=4) ⟨_,Tryz.underlying91,by kernel_rfl⟩
theorem xB(fl nn:Bool)(rows:List (List AV)):ln Tryz.prog 91 (some (Rn 4 fl nn rows))=some (.ret (.int .i64 rows.length),[]):=nY ⟨_,Tryz.underlying91,by kernel_rfl⟩ fl nn rows
theorem bO(h:Qa)(b r o:Nat):ld Tryz.prog 94 h (some (.ptr b r o))=ldR (Zf (h[b]?) r) o 4:=tC ⟨by kernel_rfl,by kernel_rfl⟩ h b r o
theorem sF(h:Qa)(cs:List AV):ld Tryz.prog 94 h (some (.iptr cs))=if 4≤cs.length then some (.ret (.agg (cs.take 4)),[])else none:=agE ⟨by kernel_rfl,by kernel_rfl⟩ h cs
theorem uH:Vl Tryz.prog 94=some (.agg [.int .i64 0,.int .i64 0,.int .i64 0,.nils]):=by kernel_rfl
theorem sC(h:Qa)(b r o:Nat)(v:AV):vN Tryz.prog 94 h (some (.ptr b r o)) (some v)=sv 4 (h[b]?) b r o (Qf v):=Xs (by kernel_rfl) h b r o v
theorem akE(b r o:Nat):ftS Tryz.prog 94 (some (.ptr b r o))=some [.cells b o 4]:=iO (by kernel_rfl) b r o
theorem gK(b r o:Nat):fa Tryz.prog 94 (some (.ptr b r o)) 2=some (.ret (.ptr b r (o+3)),[]):=Ul (show Vh Tryz.prog 94 2 3 1 from⟨_,_,Tryz.underlying94,rfl,rfl,by kernel_rfl,by decide⟩) b r o
theorem lC(h:Qa)(b r o:Nat):ld Tryz.prog 92 h (some (.ptr b r o))=ldC (Zf (h[b]?) r) o:=jV ⟨by kernel_rfl,1,by kernel_rfl⟩ h b r o
theorem ahO(b r o:Nat):ftL Tryz.prog 92 (some (.ptr b r o))=some [.cells b o 1]:=Zc (isA:=false) (n:=1) (by kernel_rfl) (by kernel_rfl) b r o
theorem jS{O:Uo}(t:List AV)(h:Qa)(s x:Operand):Tt O Tryz.prog t h (.call ⟨.builtin .append,#[s,x],#[92,92]⟩)=apO Tryz.prog 92 h (Qe t s) (Qe t x):=agY t h s x 92 92 _ Tryz.underlying92
theorem wQ(h:Qa)(s:AV)(a b r l:Nat):apO Tryz.prog 92 h (some s) (some (.slr a b r l))=apK 25 h (some s) (srK 25 h (some (.slr a b r l))):=adI (e:=85) (b:=200) (z:=.agg [.int .i64 0,.bool false,.int .i64 0,.bool false,.int .i64 0,.bool false,.int .i64 0,.bool false,.int .i64 0,.bool false,.int .i64 0,.bool false,.int .i64 0,.bool false,.int .i64 0,.bool false,.int .i64 0,.bool false,.int .i64 0,.bool false,.int .i64 0,.bool false,.int .i64 0,.bool false,.int .i64 0]) (by kernel_rfl) (by kernel_rfl) (by kernel_rfl) (by kernel_rfl) (by decide+kernel) h s _ (fun q e=>by cases e)
theorem oR(b r o:Nat):fa Tryz.prog 85 (some (.ptr b r o)) 0=some (.ret (.ptr b r (o+0)),[]):=Ul (show Vh Tryz.prog 85 0 0 24 from⟨_,_,Tryz.underlying85,rfl,rfl,by kernel_rfl,by decide⟩) b r o
theorem abB(b r o:Nat):fa Tryz.prog 94 (some (.ptr b r o)) 1=some (.ret (.ptr b r (o+2)),[]):=Ul (show Vh Tryz.prog 94 1 2 1 from⟨_,_,Tryz.underlying94,rfl,rfl,by kernel_rfl,by decide⟩) b r o
theorem ai7(base:Nat)(l c:Option AV):msO Tryz.prog 50 base l c=msK 1 (.int .i64 0) base l c:=beN (e:=3) (n:=1) (b:=8) (by kernel_rfl) (by kernel_rfl) (by kernel_rfl) (by kernel_rfl) (by decide+kernel) base l c
theorem bT(h:Qa)(b r o:Nat):ld Tryz.prog 78 h (some (.ptr b r o))=ldC (Zf (h[b]?) r) o:=jV ⟨by kernel_rfl,1,by kernel_rfl⟩ h b r o
theorem ajK(n:Nat)(fl:Bool)(rows:List (List AV)):Ze Tryz.prog .eql 22 (.imm n fl rows) .nils=some (.bool false):=adK Tryz.underlying22 n fl rows
theorem nD(h:Qa)(b r o:Nat)(v:AV):vN Tryz.prog 50 h (some (.ptr b r o)) (some v)=sv 1 (h[b]?) b r o (Qf v):=Xs (by kernel_rfl) h b r o v
theorem aeP(ps:List (Nat × AV)):bG Tryz.prog 128 ps=(Xx (fun i=>([(0,1)]:List (Nat × Nat))[i]?) (Qf (.agg [.nils])) ps).map .agg:=by kernel_rfl
theorem aiE:Vl Tryz.prog 126=some (.nilp):=by kernel_rfl
theorem ahL(h:Qa)(b r o:Nat)(v:AV):vN Tryz.prog 126 h (some (.ptr b r o)) (some v)=sv 1 (h[b]?) b r o (Qf v):=Xs (by kernel_rfl) h b r o v
theorem acJ(h:Qa)(b r o:Nat):ld Tryz.prog 126 h (some (.ptr b r o))=ldC (Zf (h[b]?) r) o:=jV ⟨by kernel_rfl,1,by kernel_rfl⟩ h b r o
theorem ab1(b r o:Nat):fa Tryz.prog 85 (some (.ptr b r o)) 1=some (.ret (.ptr b r (o+24)),[]):=Ul (show Vh Tryz.prog 85 1 24 1 from⟨_,_,Tryz.underlying85,rfl,rfl,by kernel_rfl,by decide⟩) b r o
theorem akQ(ps:List (Nat × AV)):bG Tryz.prog 94 ps=(Xx (fun i=>([(0,2),(2,1),(3,1)]:List (Nat × Nat))[i]?) (Qf (.agg [.int .i64 0,.int .i64 0,.int .i64 0,.nils])) ps).map .agg:=by kernel_rfl
theorem aoF(h:Qa)(b r o:Nat)(v:AV):vN Tryz.prog 92 h (some (.ptr b r o)) (some v)=sv 1 (h[b]?) b r o (Qf v):=Xs (by kernel_rfl) h b r o v
theorem aj7(b r o:Nat):ftS Tryz.prog 92 (some (.ptr b r o))=some [.cells b o 1]:=iO (by kernel_rfl) b r o
theorem aiA(base len:Nat)(ps:List (Nat × AV)):rD (Ru Tryz.prog base 91 len ps)=bsK 4 (.agg [.int .i64 0,.int .i64 0,.int .i64 0,.nils]) base len ps:=asB (e:=94) (by kernel_rfl) (by kernel_rfl) (by kernel_rfl) base len ps
theorem uZ{O:Uo}(t:List AV)(h:Qa)(s x:Operand):Tt O Tryz.prog t h (.call ⟨.builtin .append,#[s,x],#[91,91]⟩)=apO Tryz.prog 91 h (Qe t s) (Qe t x):=agY t h s x 91 91 _ Tryz.underlying91
theorem akO(h:Qa)(s:AV)(a b r l:Nat):apO Tryz.prog 91 h (some s) (some (.slr a b r l))=apK 4 h (some s) (srK 4 h (some (.slr a b r l))):=adI (e:=94) (b:=48) (z:=.agg [.int .i64 0,.int .i64 0,.int .i64 0,.nils]) (by kernel_rfl) (by kernel_rfl) (by kernel_rfl) (by kernel_rfl) (by decide+kernel) h s _ (fun q e=>by cases e)
theorem dN(h:Qa)(b r o:Nat)(v:AV):vN Tryz.prog 80 h (some (.ptr b r o)) (some v)=sv 2 (h[b]?) b r o (Qf v):=Xs (by kernel_rfl) h b r o v
theorem aiX(b r o:Nat):ftS Tryz.prog 80 (some (.ptr b r o))=some [.cells b o 2]:=iO (by kernel_rfl) b r o
theorem dY(b r o:Nat):fa Tryz.prog 128 (some (.ptr b r o)) 0=some (.ret (.ptr b r (o+0)),[]):=Ul (show Vh Tryz.prog 128 0 0 1 from⟨_,_,Tryz.underlying128,rfl,rfl,by kernel_rfl,by decide⟩) b r o
theorem gB:Vl Tryz.prog 80=some (.agg [.int .i64 0,.bool false]):=by kernel_rfl
theorem jA(ps:List (Nat × AV)):bG Tryz.prog 80 ps=(Xx (fun i=>([(0,1),(1,1)]:List (Nat × Nat))[i]?) (Qf (.agg [.int .i64 0,.bool false])) ps).map .agg:=by kernel_rfl
def Yv:=PLift.up (aaN @Ym (aaN @dJ (aaN @akU (aaN @Ss (aaN @Tv (aaN @ai2 (aaN @aiL (aaN @Um (aaN @sG (aaN @qX (aaN @cI (aaN @eA (aaN @akL (aaN @xC (aaN @bL (aaN @zF (aaN @aaF (aaN @cF (aaN @Sz @cA)))))))))))))))))))
def TY9:=PLift.up (aaN @Ss (aaN @Tv @Um))
def ad7:=PLift.up (aaN @Ss (aaN @Tv (aaN @Um @Ym)))
def al9:=PLift.up (aaN @bL (aaN @vZ (aaN @sG (aaN @Ss (aaN @Tv (aaN @Um (aaN @vH (aaN @qX (aaN @ajG (aaN @Ym (aaN @wE (aaN @uF (aaN @sU (aaN @eQ (aaN @xH (aaN @zZ (aaN @acE (aaN @eP (aaN @vI (aaN @wW @zR))))))))))))))))))))
def aaA:=PLift.up (aaN @cE (aaN @Sz (aaN @cF (aaN @Ss (aaN @Tv (aaN @Um (aaN @Zj (aaN @Yk (aaN @iE (aaN @gV (aaN @gX (aaN @gW (aaN @Zs (aaN @Wx (aaN @hZ (aaN @Zu (aaN @cM (aaN @iG @gU))))))))))))))))))
def bgA:=PLift.up (aaN @Ss (aaN @Tv @Um))
def abE:=PLift.up (aaN @dJ (aaN @Ss (aaN @Tv (aaN @aiG (aaN @jK (aaN @gI (aaN @jG (aaN @Zj (aaN @eS (aaN @Yk (aaN @iE (aaN @gV (aaN @ajW (aaN @Zs (aaN @Wx (aaN @xC (aaN @acY @aaC)))))))))))))))))
def yO:=PLift.up (aaN @Ym (aaN @gJ (aaN @fQ (aaN @Wq (aaN @Ss (aaN @Tv (aaN @Um (aaN @Xj (aaN @Wn (aaN @sX (aaN @Wa (aaN @nZ (aaN @cT @nM)))))))))))))
def ae5:=PLift.up (aaN @Ym (aaN @vK (aaN @zF (aaN @cI (aaN @eA (aaN @wT (aaN @cA (aaN @Sz (aaN @Ss (aaN @Tv (aaN @Um (aaN @ajO (aaN @aaF (aaN @ahZ (aaN @gJ (aaN @fQ (aaN @ajZ (aaN @Zj (aaN @eS (aaN @Yk (aaN @wP (aaN @Wa (aaN @Xj (aaN @bL (aaN @apI (aaN @Zs (aaN @agN (aaN @fK (aaN @Zu @ag7)))))))))))))))))))))))))))))
def akF:=PLift.up (aaN @ahP (aaN @akP @jG))
def abO:=PLift.up (aaN @dJ (aaN @Ym (aaN @jK (aaN @gI @jG))))
def baI:=PLift.up (aaN @Ym (aaN @vK @ad5))
def aa0:=PLift.up (aaN @dJ (aaN @jK (aaN @uA (aaN @alR (aaN @aqX (aaN @pS (aaN @gI (aaN @Sz (aaN @jG (aaN @Ss (aaN @Tv @Um)))))))))))
def alT:=PLift.up (aaN @dJ (aaN @jK @uA))
def atV:=PLift.up (aaN @Xj (aaN @gJ (aaN @Wq (aaN @Ss (aaN @Tv (aaN @Um (aaN @Zj (aaN @Yk (aaN @iE (aaN @gV (aaN @Zs (aaN @Wx (aaN @Yr (aaN @agN (aaN @fK (aaN @Wn (aaN @sX (aaN @yG (aaN @Sz (aaN @Zu (aaN @cM @fQ)))))))))))))))))))))
def Yu:=PLift.up (aaN @eQ (aaN @xH (aaN @uF (aaN @wC (aaN @zZ (aaN @acE (aaN @ajP (aaN @aiY (aaN @sU (aaN @ahG (aaN @ai6 (aaN @wW (aaN @bO (aaN @uH (aaN @sC (aaN @gK (aaN @lC (aaN @eP (aaN @vI (aaN @jS (aaN @wQ (aaN @oR @Xj))))))))))))))))))))))
def aiW:=PLift.up (aaN @xB (aaN @vL @sF))
def bgM:=PLift.up (aaN @bO (aaN @eP @eQ))
def atW:=PLift.up (aaN @gK (aaN @lC (aaN @aiN (aaN @akR (aaN @eQ (aaN @adT (aaN @uF (aaN @sU (aaN @abB @Sz)))))))))
def baT:=PLift.up (aaN @Xj (aaN @nR (aaN @Sz (aaN @Wq (aaN @Ss (aaN @Tv @Um))))))
def bgT:=PLift.up (aaN @fK (aaN @Wx (aaN @Zu (aaN @Sz @cM))))
def bfU:=PLift.up (aaN @Wn (aaN @bT (aaN @Yr @Wx)))
def asL:=PLift.up (aaN @hZ (aaN @Wx (aaN @Yr (aaN @Wn @bT))))
def azF:=PLift.up (aaN @Wq (aaN @cF (aaN @Sz (aaN @Xj (aaN @cI (aaN @eA (aaN @gJ (aaN @fQ (aaN @cA (aaN @Wn (aaN @sX @bL)))))))))))
def bf7:=PLift.up (aaN @ajK (aaN @aiD (aaN @uY @aj1)))
def bgG:=PLift.up (aaN @iG (aaN @Sz @gU))
def fE:=PLift.up (aaN @Wq (aaN @cE (aaN @Sz (aaN @ar5 (aaN @ai7 (aaN @an0 (aaN @nD (aaN @eG (aaN @wU (aaN @nR (aaN @ag7 (aaN @aeP (aaN @aiE (aaN @ahL (aaN @acJ @Wa)))))))))))))))
def bf8:=PLift.up (aaN @cE (aaN @Sz (aaN @cF (aaN @Ss (aaN @Tv @Um)))))
def rV:=PLift.up (aaN @Wq (aaN @Ss (aaN @Tv (aaN @Um (aaN @Zj (aaN @eS (aaN @Yk (aaN @wP (aaN @iE (aaN @gV (aaN @vH (aaN @sG (aaN @qX (aaN @oR (aaN @Wa (aaN @Xj (aaN @ah2 (aaN @bL (aaN @vZ (aaN @ab1 (aaN @Sz (aaN @ac8 (aaN @wE (aaN @wC (aaN @akQ (aaN @uH (aaN @sC (aaN @akE (aaN @gK (aaN @lC (aaN @ahO (aaN @jS (aaN @wQ (aaN @aoF (aaN @aj7 (aaN @bO (aaN @aiA (aaN @uZ @akO))))))))))))))))))))))))))))))))))))))
def avN:=PLift.up (aaN @xB (aaN @vL (aaN @bO (aaN @sF (aaN @uH @sC)))))
def bgP:=PLift.up (aaN @bO @eP)
def asH:=PLift.up (aaN @Xj (aaN @gJ (aaN @cA (aaN @Sz (aaN @ac8 (aaN @cI (aaN @eA (aaN @wT (aaN @Wa (aaN @ahC (aaN @dN (aaN @aiX @fQ))))))))))))
def avI:=PLift.up (aaN @dY (aaN @eG (aaN @nZ (aaN @cT (aaN @nM @nD)))))
def atI:=PLift.up (aaN @dY (aaN @eG (aaN @wU (aaN @ajQ (aaN @nR (aaN @Sz @nD))))))
def ahM:=PLift.up (aaN @nZ (aaN @dY (aaN @eG (aaN @cT (aaN @nM (aaN @ajE @nD))))))
def bf6:=PLift.up (aaN @eS (aaN @cE @Sz))
def bf2:=PLift.up (aaN @gX (aaN @Sz (aaN @gW (aaN @hZ (aaN @Wx (aaN @Zs (aaN @Zu (aaN @cM (aaN @iG @gU)))))))))
def atZ:=PLift.up (aaN @pS (aaN @Sz (aaN @Wa (aaN @gB (aaN @dN (aaN @Yr (aaN @Wx (aaN @aaZ (aaN @ab3 (aaN @Wn @bT))))))))))
def aiV:=PLift.up (aaN @aeW (aaN @Wq (aaN @Ss (aaN @Tv (aaN @Um (aaN @Zj (aaN @Yk (aaN @iE (aaN @gV (aaN @Sz (aaN @gX @gW)))))))))))
def aaP:=PLift.up (aaN @Um (aaN @Zj @Yk))
def a8J:=PLift.up (aaN @Wa (aaN @gB (aaN @Wn (aaN @bT (aaN @jA @dN)))))
def a1M:=PLift.up (aaN @Wa (aaN @gB (aaN @Wn (aaN @bT (aaN @jA @dN)))))
def beC:=PLift.up (aaN @Wa (aaN @gB (aaN @Yr (aaN @Wx (aaN @jA @dN)))))
def a8N:=PLift.up (aaN @Wa (aaN @gB (aaN @Yr (aaN @Wx (aaN @jA @dN)))))
end Go.Proofs.YtcncggaobhbomaaGreatDoor
namespace Go.Proofs.YtcncggaobhbomaaGreatDoor
open Go Go.Ev Go.ChangeShapes Go.WideShapes Go.ChangeAt Go.RowKit
set_option maxRecDepth 100000
set_option maxHeartbeats 16000000
def mdL:List Nat:=[60,75,79,76,80,65,41]
def pr:aC:=xU 63 86 60 (mdL.contains ·)
noncomputable def Up:Uo:=om Tryz.prog pr
theorem bbP(f:Nat):Up.md f=([60,75,79,76,80,65,41]:List Nat).contains f:=Eq.trans rfl rfl
def Va:=PLift.up (aaN EE.down EVu.down)
def Vc:=PLift.up (aaN EG.down (aaN EVu.down @bbP))
theorem own:ownKnob Tryz.prog.godebug=none:=by kernel_rfl
theorem asG:ahE Tryz.prog:=fun f fn hf=>by
 have h:(Tryz.prog.funcs.toList.all fun fn=> !(fn.name== "runtime.NumGoroutine"))=true:=by kernel_rfl
 have:=ajV.1 h fn (by rw[Array.mem_toList_iff];exact Array.mem_of_getElem? hf)
 simpa using this
theorem mixed:Tryz.prog.follows .mixedOrders=true:=by kernel_rfl
theorem asW:laidOutB Tryz.prog=true:=by kernel_rfl
def laid:List (String × DataW Unit):=[("math/bits.deBruijn32tab",Rows.laid_math_bits_deBruijn32tab),("math/bits.deBruijn64tab",Rows.laid_math_bits_deBruijn64tab),("internal/strconv.uint64pow10",Rows.laid_internal_strconv_uint64pow10)]
theorem a8L:Tryz.prog.globalNamed "internal/strconv.uint64pow10" =some 0:=by kernel_rfl
theorem tab{W:World}(h:laidMetH Tryz.prog laid W):Lib.TabIs Tryz.prog W "internal/strconv.uint64pow10" .u64 Lib.pow10Tab:=by
 rw[MakeChecks.laidMetH_plain _ _ _ (by kernel_rfl)]at h
 obtain⟨ps,h,_⟩:=h
 exact mK (t:=192) (e:=158) (n:=20) a8L (by kernel_rfl) (by kernel_rfl) (by kernel_rfl) (by kernel_rfl) (by kernel_rfl) h (by
  have e:(Lib.tabData .u64 Lib.pow10Tab:DataW Unit)=Rows.laid_internal_strconv_uint64pow10:=rfl
  rw[e];simp[laid])
theorem ao6{W:World}(h:laidMetH Tryz.prog laid W):Vx Tryz.prog (anY W 0) Up:=
 a1X asG (akG (asX (qV asG Tryz.func63 rfl) (an5 a8L (tab h)) (fun n w h0 h1 ht=>Tryz.strconv_Itoa n h0 h1 w ht)) (asA (qV asG Tryz.func86 rfl) Tryz.strings_Join_none Tryz.strings_Join) (at6 (qV asG Tryz.func60 rfl) Tryz.slices_Sort_int)) mixed
theorem aoS(os:Os)(args:Array Value):laidMetH Tryz.prog laid ((World.doorLaid Tryz.prog 400 os).forCall (fun _ _=>0) ⟨#[],args,[]⟩).memory:=
 laidMetH_of_parts3 (fuel:=8) (laidMet_of_run' 8 (by kernel_rfl) (by kernel_rfl)) (by kernel_rfl) (by kernel_rfl)
theorem baQ{f:Nat}{fn:Func}{c:Code}{args:List AV}{h:Qa}{Q:Tu→Qa→Prop}(hp:pr f=none)(hf:Tryz.prog.funcs[f]?=some fn)(hb:fn.body=some c)(hl:ag1 args.length fn.ntmps=true)
 (he:FnE Tryz.prog h.length fn.results.toList Q (Rx Up Tryz.prog 5000 c [] ⟨mk fn.ntmps (aU args),h⟩)):ClQ Up f args h Q:=ClQ.start (pr:=pr) hp hf hb hl he
theorem ae0{f:Nat}{fn:Func}{c:Code}{args:List AV}{h:Qa}{Q:Tu→Qa→Prop}(hp:pr f=none)(hf:Tryz.prog.funcs[f]?=some fn)(hb:fn.body=some c)(hl:ag1 args.length fn.ntmps=true)
 (he:FnS Tryz.prog fn.results.toList Q (Rx Up Tryz.prog 5000 c [] ⟨mk fn.ntmps (aU args),h⟩))  (hs:pr.sh f=none:=by exact rfl):ShQ Up f args h Q:=ShQ.start (pr:=pr) hp hf hb hl he hs
theorem ce{f:Nat}{fn:Func}{c:Code}{args:List AV}{h:Qa}{o:Tu}{h':Qa}(hf:Tryz.prog.funcs[f]?=some fn)(he:FnE Tryz.prog h.length fn.results.toList (fun o1 h1=>(o1,h1)=(o,h')) (Rx Up Tryz.prog 5000 c [] ⟨mk fn.ntmps (aU args),h⟩))(hp:pr f=none:=by exact rfl)(hb:fn.body=some c:=by exact rfl)(hl:ag1 args.length fn.ntmps=true:=by exact rfl):Up.call (.fn f) args h=some (o,h'):=(baQ hp hf hb hl he).eq
theorem csh{f:Nat}{fn:Func}{c:Code}{args:List AV}{h:Qa}{o:Tu}{h':Qa}(hf:Tryz.prog.funcs[f]?=some fn)(he:FnS Tryz.prog fn.results.toList (fun o1 h1=>(o1,h1)=(o,h')) (Rx Up Tryz.prog 5000 c [] ⟨mk fn.ntmps (aU args),h⟩))(hp:pr f=none:=by exact rfl)(hb:fn.body=some c:=by exact rfl)(hl:ag1 args.length fn.ntmps=true:=by exact rfl)(hs:pr.sh f=none:=by exact rfl):Up.call (.sh f) args h=some (o,h'):=(ae0 hp hf hb hl he hs).eq
theorem lst{α σ ρ:Type}{c:Code}(N:Nat)(l:List α)(E:Nat→σ→Tm→Qa→Prop)(F:List α→σ→ρ)(Q:ρ→Ex→Tm→Qa→Prop)
 (stop:∀s t h Q',(∀e t h,Q (F [] s) e t h→Q' e ⟨mk N t,h⟩)→E l.length s t h→zB N (fun _ _=>False) Q' (Rx Up Tryz.prog 5000 c [] ⟨mk N t,h⟩))
 (go:∀x rest i s t h J Q',(∀t' h' s',E (i+1) s' t' h'→F rest s'=F (x::rest) s→J t' h')→(∀e t h,Q (F (x::rest) s) e t h→Q' e ⟨mk N t,h⟩)→l[i]?=some x→i<l.length→E i s t h→
   zB N J Q' (Rx Up Tryz.prog 5000 c [] ⟨mk N t,h⟩)):
 ∀s t h,E 0 s t h→LpQ Up c ⟨mk N t,h⟩ (Ot N (Q (F l s))):=aiR (pr:=pr) rfl N l E F Q stop go
theorem cnt{σ ρ:Type}{c:Code}(N:Nat)(E:Nat→σ→Tm→Qa→Prop)(F:Nat→σ→ρ)(Q:ρ→Ex→Tm→Qa→Prop)
 (stop:∀s t h Q',(∀e t h,Q (F 0 s) e t h→Q' e ⟨mk N t,h⟩)→E 0 s t h→zB N (fun _ _=>False) Q' (Rx Up Tryz.prog 5000 c [] ⟨mk N t,h⟩))
 (go:∀n s t h J Q',(∀t' h' s',E n s' t' h'→F n s'=F (n+1) s→J t' h')→(∀e t h,Q (F (n+1) s) e t h→Q' e ⟨mk N t,h⟩)→E (n+1) s t h→zB N J Q' (Rx Up Tryz.prog 5000 c [] ⟨mk N t,h⟩)):
 ∀n s t h,E n s t h→LpQ Up c ⟨mk N t,h⟩ (Ot N (Q (F n s))):=aqK (pr:=pr) rfl N E F Q stop go
def iv(x:Int):List AV:=[.int .i64 x]
theorem Qg{h:Qa}{b:Nat}{c:CB}(h0:h[b]?=some c)(l:Qa):(h++l)[b]?=some c:=by
 rw[ae2 (afJ.1 h0).1];exact h0
end Go.Proofs.YtcncggaobhbomaaGreatDoor
namespace Go.Proofs.YtcncggaobhbomaaGreatDoor
open Go.Ev Go
set_option maxRecDepth 100000
set_option maxHeartbeats 16000000
structure Qc where
 one:Int
 other:Int
 valve:Bool
 opn:Bool
 tested:Int
 valid:Int
 bad:Bool
 test:Int
 change:Int
def Qc.cells(p:Qc):List AV:=[.int .i64 p.one,.int .i64 p.other,.bool p.valve,.bool p.opn,.int .i64 p.tested,.int .i64 p.valid,.bool p.bad,.int .i64 p.test,.int .i64 p.change]
structure Qh where
 rooms:Int
 need:Int
 nn:Bool
 parts:List Qc
abbrev Qh.cells(w:Qh):List AV:=[.int .i64 w.rooms,.int .i64 w.need,Rn 9 true w.nn (w.parts.map Qc.cells)]
theorem qS{α:Type}{f:α→List AV}{p:List AV→Prop}{q:α→Prop}(hf:∀r,p r→∃x,r=f x∧q x):∀{rows:List (List AV)},(∀r∈rows,p r)→∃l:List α,rows=l.map f∧∀x∈l,q x
 | [],_=>⟨[],rfl,fun x hx=>by simp at hx⟩
 |r::rows,h=>by
  obtain⟨x,rfl,hx⟩:=hf r (h r (List.mem_cons_self ..))
  obtain⟨l,rfl,hl⟩:=qS hf (fun r hr=>h r (List.mem_cons_of_mem _ hr))
  exact⟨x::l,rfl,fun y hy=>by
   rcases List.mem_cons.1 hy with rfl|hy
   ·exact hx
   ·exact hl y hy⟩
def i64(n:Int):Prop:= -9223372036854775808≤n∧n≤9223372036854775807
theorem cQ{n:Nat}{r:List AV}(h:Ty Tryz.prog (n+1) 3 r):∃x,r=[.int .i64 x]∧i64 x:=by
 simp only[Ty,Tryz.underlying3]at h
 obtain⟨x,rfl,h1,h2⟩:=h
 exact⟨x,rfl,h1,h2⟩
theorem iZ{n:Nat}{r:List AV}(h:Ty Tryz.prog (n+1) 4 r):∃x,r=[.bool x]:=by
 simp only[Ty,Tryz.underlying4]at h
 exact h
def Qc.fits(p:Qc):Prop:=i64 p.one∧i64 p.other∧i64 p.tested∧i64 p.valid∧i64 p.test∧i64 p.change
theorem asS{n:Nat}{r:List AV}(h:Ty Tryz.prog (n+2) 46 r):∃x:Qc,r=x.cells∧x.fits:=by
 unfold Ty at h
 simp only[Tryz.underlying46,aiP]at h
 obtain⟨a0,b0,rfl,h0,a1,b1,rfl,h1,a2,b2,rfl,h2,a3,b3,rfl,h3,a4,b4,rfl,h4,a5,b5,rfl,h5,a6,b6,rfl,h6,a7,b7,rfl,h7,a8,b8,rfl,h8,rfl⟩:=h
 obtain⟨x0,rfl,k0⟩:=cQ h0
 obtain⟨x1,rfl,k1⟩:=cQ h1
 obtain⟨x2,rfl⟩:=iZ h2
 obtain⟨x3,rfl⟩:=iZ h3
 obtain⟨x4,rfl,k4⟩:=cQ h4
 obtain⟨x5,rfl,k5⟩:=cQ h5
 obtain⟨x6,rfl⟩:=iZ h6
 obtain⟨x7,rfl,k7⟩:=cQ h7
 obtain⟨x8,rfl,k8⟩:=cQ h8
 exact⟨⟨x0,x1,x2,x3,x4,x5,x6,x7,x8⟩,rfl,k0,k1,k4,k5,k7,k8⟩
structure Qh.small(w:Qh):Prop where
 parts:w.parts.length≤maxLen
 fits:∀p∈w.parts,p.fits
 rooms:i64 w.rooms
 need:i64 w.need
theorem atL{n:Nat}{r:List AV}(h:Ty Tryz.prog (n+4) 24 r):∃w:Qh,r=w.cells∧w.small:=by
 unfold Ty at h
 simp only[Tryz.underlying24,aiP]at h
 obtain⟨a0,b0,rfl,h0,a1,b1,rfl,h1,a2,b2,rfl,h2,rfl⟩:=h
 obtain⟨x0,rfl,k0⟩:=cQ h0
 obtain⟨x1,rfl,k1⟩:=cQ h1
 unfold Ty at h2
 simp only[Tryz.underlying22]at h2
 obtain⟨n2,rows2,rfl,hl2,hrows2⟩:=h2
 obtain⟨l2,rfl,hm⟩:=qS (fun r hr=>asS hr) hrows2
 have e2:Tryz.prog.cellsOf 46=9:=by kernel_rfl
 have f2:zD Tryz.prog (n+2) 46=true:=by
  simp only[zD,Tryz.underlying46,Tryz.underlying3,Tryz.underlying4];rfl
 rw[e2,f2]
 exact⟨⟨x0,x1,n2,l2⟩,rfl,by simpa using hl2,hm,k0,k1⟩
theorem asQ{av:AV}(h:zC Tryz.prog 7 24 av):∃w:Qh,av=.agg w.cells∧w.small:=by
 unfold zC at h
 simp only[Tryz.underlying24]at h
 obtain⟨cs,rfl,h⟩:=h
 obtain⟨s,rfl,hs⟩:=atL h
 exact⟨s,rfl,hs⟩
theorem alU{av:AV}(h:zC Tryz.prog 7 3 av):∃x,av=.int .i64 x∧i64 x:=by
 unfold zC at h
 simp only[Tryz.underlying3]at h
 obtain⟨x,hx,hi⟩:=cQ h
 simp only[List.cons.injEq,and_true]at hx
 exact⟨x,hx,hi⟩
end Go.Proofs.YtcncggaobhbomaaGreatDoor
namespace Go.Proofs.YtcncggaobhbomaaGreatDoor
open Go.Ev Go Go.Ev.Net
set_option maxRecDepth 100000
set_option maxHeartbeats 16000000
def Ye(x lo hi:Int):Bool:=decide (lo≤x)&&decide (x≤hi)
theorem yK(x lo hi:Int):Up.call (.fn 50) [.int .i64 x,.int .i64 lo,.int .i64 hi] []=some (.ret (.bool (Ye x lo hi)),[]):=by
 (refine ce Tryz.func50 ?_;simp only[Tryz.f50];(have hb:=trivial;with_reducible repeat' (first|simp only[hb,Va.down,seval]|refine Qp ?_ ?_<;>intro hb|refine fd ?_|fail)))
 all_goals simp[Ye, *]
theorem nX(x lo hi:Int):Up.call (.fn 39) [.int .i64 x,.int .i64 lo,.int .i64 hi] []=some (.ret (.bool (Ye x lo hi)),[]):=by
 (refine ce Tryz.func39 ?_;simp only[Tryz.f39];(have hb:=trivial;with_reducible repeat' (first|simp only[hb,Va.down,seval]|refine Qp ?_ ?_<;>intro hb|refine fd ?_|fail)))
 all_goals simp[Ye, *]
def aS(d:Int):Bool:=Ye d 0 5000
theorem ao3(d:Int):Up.call (.fn 18) [.int .i64 d] []=some (.ret (.bool (aS d)),[]):=by
 (refine ce Tryz.func18 ?_;simp only[Tryz.f18];(have hb:=trivial;with_reducible repeat' (first|simp only[hb,Va.down,seval,yK]|refine Qp ?_ ?_<;>intro hb|refine fd ?_|fail)))
 rfl
def Re(p:Qc)(d:Int):Int:=if p.bad=true then 2 else if IntKind.i64.wrap (p.tested+p.valid)<d then 1 else 0
def aeY(p:Qc)(d:Int):Bool:=Re p d==0&& !p.opn
theorem zM(p:Qc)(d:Int):Up.call (.fn 52) [.agg [.int .i64 p.one,.int .i64 p.other,.bool p.valve,.bool p.opn,.int .i64 p.tested,.int .i64 p.valid,.bool p.bad,.int .i64 p.test,.int .i64 p.change],.int .i64 d] []=some (.ret (.int .i64 (Re p d)),[]):=by
 (refine ce Tryz.func52 ?_;simp only[Tryz.f52];(have hb:=trivial;with_reducible repeat' (first|simp only[hb,Va.down,seval,bgT.down]|refine Qp ?_ ?_<;>intro hb|refine fd ?_|fail)))
 all_goals simp_all[Re]
def Zq(n:Nat):List AV:=[.int .i64 (n:Int)]
def ad0(w:Qh)(d:Int):List Bool:=w.parts.map fun p=>aeY p d
theorem Yg{h:Qa}{b:Nat}(hb:b<h.length)(l:Qa)(c:CB):(h++l).set b c=h.set b c++l:=List.set_append_left _ _ hb
theorem Qv{h:Qa}{b:Nat}{c:CB}(e:h[b]?=some c):b<h.length:=(afJ.1 e).1
theorem bP{h:Qa}{b:Nat}(c:CB)(l:Qa):(h.set b c++l)[h.length]?=l[0]?:=by
 rw[ajY (by simp)];simp
theorem Zy{h:Qa}{b:Nat}(c:CB)(l:Qa)(k:Nat):(h.set b c++l)[h.length+k]?=l[k]?:=by
 rw[ajY (by simp)];simp
theorem qJ{h:Qa}{b b':Nat}{x:CB}(c:CB)(hne:b≠b')(hb:h[b']?=some x)(l:Qa):(h.set b c++l)[b']?=some x:=by
 have hlt:b'<h.length:=(afJ.1 hb).1
 rw[ae2 (by simpa using hlt),ai0 hne];exact hb
def zE(w:Qh)(ts:List Bool):List Net.Edge:=List.zipWith (fun p t=>(p.one.toNat,p.other.toNat,if t=true then 1 else 0)) w.parts ts
structure qK(w:Qh)(N:Nat):Prop where
 rooms:w.rooms=(N:Int)
 n2:2≤N
 n8:N≤8
 len:w.parts.length≤1000
 ne:w.parts≠[]
 part:∀p∈w.parts,(0≤p.one∧p.one<(N:Int))∧(0≤p.other∧p.other<(N:Int))∧p.one≠p.other
theorem avT{w:Qh}{ts:List Bool}{i:Nat}{e:Net.Edge}(h:(zE w ts)[i]?=some e):∃p t,w.parts[i]?=some p∧ts[i]?=some t∧e=(p.one.toNat,p.other.toNat,if t=true then 1 else 0):=by
 unfold zE at h
 rw[List.getElem?_zipWith]at h
 cases h1:w.parts[i]? with
 |none=>simp[h1]at h
 |some p=>
  cases h2:ts[i]? with
  |none=>simp[h1,h2]at h
  |some t=>simp[h1,h2]at h;exact⟨p,t,rfl,rfl,h.symm⟩
theorem uK{w:Qh}{N:Nat}(hw:qK w N)(ts:List Bool):uO (zE w ts) N:=fun a b c h=>by
 obtain⟨i,hi⟩:=List.getElem?_of_mem h
 obtain⟨p,t,h1,_,he⟩:=avT hi
 cases he
 have:=hw.part p (ak2 h1)
 refine⟨by omega,by omega,by omega,?_⟩
 split<;>omega
theorem yD{d:List Nat}{a:Nat}(h:a<d.length):(d.map Zq)[a]?=some [.int .i64 (d.getD a 0:Nat)]:=by
 rw[List.getElem?_map,alC h,List.getD_eq_getElem?_getD,alC h];rfl
def amY(w:Qh)(N:Nat)(d:Int):Nat:=uU (zE w (ad0 w d)) N w.parts.length
theorem bcM(b:Bool):Up.call (.fn 78) [.bool b] []=some (.ret (.int .i64 (if b=true then 1 else 0)),[]):=by
 cases b<;>(refine ce Tryz.func78 ?_;simp only[Tryz.f78];(have hb:=trivial;with_reducible repeat' (first|simp only[hb,Va.down,seval]|refine Qp ?_ ?_<;>intro hb|refine fd ?_|fail)))
theorem agP(c:Int)(o:Bool):Up.call (.fn 53) [.agg [.int .i64 c,.bool o]] []=some (.ret (.bool (c==0&& !o)),[]):=by
 cases hc:(c==0)<;>(refine ce Tryz.func53 ?_;simp only[Tryz.f53];(have hb:=trivial;with_reducible repeat' (first|simp only[hb,Va.down,seval,bfU.down,hc]|refine Qp ?_ ?_<;>intro hb|refine fd ?_|fail)))
theorem Tn(b r o:Nat)(i:Int):ia Tryz.prog 82 (some (.ptr b r o)) (some (.int .i64 i))=if 0≤i∧i<12 then some (.ret (.ptr b r (o+i.toNat*2)),[])else none:=by
 have h:Wt Tryz.prog 82 (.ptr b r o) (.int .i64 i)=if 0≤i∧i<12 then some (.ptr b r (o+i.toNat*2))else none:=by
  unfold Wt
  simp only[Tryz.underlying82]
  have hz:Zo Tryz.prog 80=some 2:=by kernel_rfl
  rw[hz]
  simp
 simp only[ia,Option.bind_some,h]
 split<;>rfl
def Qb(w:Qh)(d:Int):List (Int × Bool):=w.parts.map (fun p=>(Re p d,p.opn))++adQ (12-w.parts.length) (0,false)
def Sv(l:List (Int × Bool)):List AV:=l.flatMap fun x=>[.int .i64 x.1,.bool x.2]
theorem Rh(l:List (Int × Bool)):(Sv l).length=2*l.length:=by
 induction l with
 |nil=>rfl
 |cons x l ih=>simp[Sv]at ih ⊢;omega
theorem aaR:∀(L:List (Int × Bool)) (i:Nat) (a:Int) (b b':Bool),L[i]?=some (a,b)→af8 (i*2+1) (Sv L)++([.bool b']++aj6 (i*2+2) (Sv L))=Sv (L.set i (a,b'))
 | [],i,a,b,b',h=>by simp at h
 |x::L,0,a,b,b',h=>by simp at h;subst h;simp[Sv]
 |x::L,i+1,a,b,b',h=>by
  have ih:=aaR L i a b b' (by simpa using h)
  rw[show(i+1)*2+1=(i*2+1)+1+1 by omega,show(i+1)*2+2=(i*2+2)+1+1 by omega]
  simp only[Sv,aj8,akX,akY,aoR,aq3,aq4]at ih ⊢
  rw[←ih]
theorem lK:∀(L:List (Int × Bool)) (i:Nat) (a a':Int) (b:Bool),L[i]?=some (a,b)→af8 (i*2) (Sv L)++([.int .i64 a']++aj6 (i*2+1) (Sv L))=Sv (L.set i (a',b))
 | [],i,a,a',b,h=>by simp at h
 |x::L,0,a,a',b,h=>by simp at h;subst h;simp[Sv]
 |x::L,i+1,a,a',b,h=>by
  have ih:=lK L i a a' b (by simpa using h)
  rw[show(i+1)*2=(i*2)+1+1 by omega,show(i*2)+1+1+1=(i*2+1)+1+1 by omega]
  simp only[Sv,aj8,akX,akY,aoR,aq3,aq4]at ih ⊢
  rw[←ih]
def pcI(w:Qh)(d:Int)(i:Nat):List (Int × Bool):=(w.parts.take i).map (fun p=>(Re p d,p.opn))++adQ (12-i) (0,false)
theorem axV{w:Qh}{d:Int}{i:Nat}(hi:i<w.parts.length)(h12:w.parts.length≤12):(pcI w d i)[i]?=some (0,false):=by
 have hl:((w.parts.take i).map fun p=>(Re p d,p.opn)).length=i:=by rw[adC,aq5];omega
 unfold pcI
 rw[ajY (by omega),hl,Nat.sub_self,List.getElem?_replicate,if_pos (by omega)]
theorem ap7{w:Qh}{d:Int}{i:Nat}{p:Qc}(hx:w.parts[i]?=some p)(h12:w.parts.length≤12):(pcI w d i).set i (Re p d,p.opn)=pcI w d (i+1):=by
 have hi:i<w.parts.length:=(afJ.1 hx).1
 have hl:((w.parts.take i).map fun p=>(Re p d,p.opn)).length=i:=by rw[adC,aq5];omega
 unfold pcI
 rw[List.set_append_right _ _ (by omega),hl,Nat.sub_self,List.take_add_one,hx]
 have e:12-i=(12-(i+1))+1:=by omega
 rw[e,List.replicate_succ]
 simp
theorem tQ(w:Qh)(d:Int)(wf:Bool)(h12:w.parts.length≤12):Up.call (.fn 40) [.ptr 0 0 0] [.live 4 false wf [[.int .i64 w.rooms,.int .i64 w.need,Rn 9 true w.nn (w.parts.map Qc.cells),.int .i64 d]]]=some (.ret (.agg (Sv (Qb w d))),[.live 4 false wf [[.int .i64 w.rooms,.int .i64 w.need,Rn 9 true w.nn (w.parts.map Qc.cells),.int .i64 d]]]):=by
 refine ce Tryz.func40 ?_
 simp only[Tryz.f40]
 (have hb:=trivial;with_reducible repeat' (first|simp only[hb,Va.down,seval,atV.down,adC]|refine Qp ?_ ?_<;>intro hb|refine fd ?_|fail))
 refine Wz (lst 44 w.parts (fun i (_:Unit) t h=>t 0=.ptr 0 0 0∧t 2=.ptr 1 0 0∧t 3=.ptr 2 0 0∧t 10=Rn 9 true w.nn (w.parts.map Qc.cells)∧t 11=.int .i64 (w.parts.length:Nat)∧t 12=.int .i64 (i:Int)∧h[0]?=some (.live 4 false wf [[.int .i64 w.rooms,.int .i64 w.need,Rn 9 true w.nn (w.parts.map Qc.cells),.int .i64 d]])∧h[1]?=some (.live 24 true false [Sv (adQ 12 (0,false))])∧∃f,h[2]?=some (.live 24 true f [Sv (pcI w d i)])) (fun _ _=>())
  (fun _ e t h=>e=.exit 0∧t 2=.ptr 1 0 0∧t 3=.ptr 2 0 0∧h[0]?=some (.live 4 false wf [[.int .i64 w.rooms,.int .i64 w.need,Rn 9 true w.nn (w.parts.map Qc.cells),.int .i64 d]])∧h[1]?=some (.live 24 true false [Sv (adQ 12 (0,false))])∧∃f,h[2]?=some (.live 24 true f [Sv (pcI w d w.parts.length)])) ?_ ?_ () _ _ ?_) (fun e t h hk=>?_)
 ·rintro _ t h Q' kQ ⟨h0,h2,h3,h10,h11,h12',hA,hB,f,hC⟩
  (have hb:=trivial;with_reducible repeat' (first|simp only[hb,Va.down,seval,atV.down,h11,h12',akZ,decide_false]|refine Qp ?_ ?_<;>intro hb|refine fd ?_|fail))
  exact kQ _ _ _ ⟨rfl,by simp[up,h2],by simp[up,h3],hA,hB,f,hC⟩
 ·rintro p rest i _ t h J Q' kJ kQ hx hi ⟨h0,h2,h3,h10,h11,h12',hA,hB,f,hC⟩
  have hdd:decide ((i:Int)<(w.parts.length:Int))=true:=decide_eq_true (by omega)
  have hww:=Tc hi (by unfold maxLen;omega)
  have hA1:=Qg hA
  have hC1:=Qg hC
  have hl2:=Qv hC
  have i1:((i:Int)<12)=True:=eq_true (by omega)
  have hpl:(Sv (pcI w d i)).length=24:=by rw[Rh];simp[pcI];omega
  have hS:=Yg hl2
  have i2:(i*2≤22)=True:=eq_true (by omega)
  have i3:(i*2≤23)=True:=eq_true (by omega)
  have hat:=axV (d:=d) hi h12
  have hnx:=ap7 (d:=d) hx h12
  generalize hL:pcI w d i=L at *
  have s1:=aaR L i 0 false p.opn hat
  have tk1:af8 (23-i*2) [AV.bool p.opn]=[AV.bool p.opn]:=ajM (by simp;omega)
  have hat2:(L.set i (0,p.opn))[i]?=some (0,p.opn):=ak0 (by have:=(afJ.1 hat).1;exact this)
  have s2:=fun v=>lK (L.set i (0,p.opn)) i 0 v p.opn hat2
  have tk2:∀v,af8 (24-i*2) [AV.int .i64 v]=[AV.int .i64 v]:=fun v=>ajM (by simp;omega)
  simp only[akX,akY]at s1 s2
  have hpl2:(Sv (L.set i (0,p.opn))).length=24:=by rw[Rh]at hpl ⊢;simpa using hpl
  have hg2:∀c l,(h.set 2 c++l)[2]?=some c:=fun c l=>by rw[ae2 (by simpa using hl2),ak0 hl2]
  have hg0:∀c l,(h.set 2 c++l)[0]?=h[0]?:=fun c l=>by rw[ae2 (by simp;omega),ai0 (by omega)]
  have hg1:∀c l,(h.set 2 c++l)[1]?=h[1]?:=fun c l=>by rw[ae2 (by simp;omega),ai0 (by omega)]
  have hgs:∀c l c',(h.set 2 c++l).set 2 c'=h.set 2 c'++l:=fun c l c'=>by rw[Yg (by simpa using hl2),List.set_set]
  have ss2:∀v:Int,(L.set i (0,p.opn)).set i (v,p.opn)=L.set i (v,p.opn):=fun v=>List.set_set ..
  have nx:∀(v:Int) (t':Tm) (l':Qa),Re p d=v→t' 0=.ptr 0 0 0∧t' 2=.ptr 1 0 0∧t' 3=.ptr 2 0 0∧t' 10=Rn 9 true w.nn (w.parts.map Qc.cells)∧t' 11=.int .i64 (w.parts.length:Nat)∧t' 12=.int .i64 ((i+1:Nat):Int)→J t' (h.set 2 (.live 24 true true [Sv (L.set i (v,p.opn))])++l'):=fun v t' l' hv ht=>by
   rw[←hv,hnx]
   exact kJ _ _ () ⟨ht.1,ht.2.1,ht.2.2.1,ht.2.2.2.1,ht.2.2.2.2.1,ht.2.2.2.2.2,by rw[hg0];exact hA,by rw[hg1];exact hB,true,hg2 _ _⟩ rfl
  (have hb:=trivial;with_reducible repeat' (first|simp only[hb,Va.down,seval,atV.down,h0,h2,h3,h10,h11,h12',hdd,hww,hx,hA,hA1,hC,hC1,hS,Tn,i1,i2,i3,hpl,hpl2,s1,s2,tk1,tk2,ss2,hg2,hg0,hg1,hgs,bP,Zy,List.length_set,Qc.cells]|refine Qp ?_ ?_<;>intro hb|refine fd ?_|fail))
  ·refine Qj (nx 2 _ _ (by simp[Re, *]) ⟨by simp[up,h0],by simp[up,h2],by simp[up,h3],by simp[up,h10],by simp[up,h11],by simp[up]⟩)
  ·refine Qj (nx 1 _ _ (by simp[Re];simp_all) ⟨by simp[up,h0],by simp[up,h2],by simp[up,h3],by simp[up,h10],by simp[up,h11],by simp[up]⟩)
  ·refine Qj (nx 0 _ _ (by simp[Re];simp_all) ⟨by simp[up,h0],by simp[up,h2],by simp[up,h3],by simp[up,h10],by simp[up,h11],by simp[up]⟩)
 ·exact⟨by simp[up,aU],by simp[up],by simp[up],by simp[up],by simp[up],by simp[up],rfl,rfl,false,rfl⟩
 obtain⟨rfl,h2,h3,hA,hB,f,hC⟩:=hk
 have hL:pcI w d w.parts.length=Qb w d:=by unfold pcI Qb;rw[ajM (Nat.le_refl _)]
 rw[hL]at hC
 have hpl:(Sv (Qb w d)).length=24:=by rw[Rh];simp[Qb];omega
 have hpz:(Sv (adQ 12 (0,false))).length=24:=by rw[Rh];simp
 have htk:af8 24 (Sv (Qb w d))=Sv (Qb w d):=ajM (by omega)
 have hl1:=Qv hB
 generalize Sv (adQ 12 (0,false))=zs at *
 have hdz:aj6 24 zs=[]:=List.drop_eq_nil_iff.2 (by omega)
 have hcell:(Sv (Qb w d)).all AV.isCell=true:=by
  have:∀l:List (Int × Bool),(Sv l).all AV.isCell=true:=fun l=>by
   induction l with
   |nil=>rfl
   |cons x l ih=>simp only[Sv,aj8,List.all_append]at ih ⊢;rw[ih];rfl
  exact this _
 have hform:∀x∈Sv (Qb w d),(∃n,x=.int .i64 n)∨∃b,x=.bool b:=fun x hx=>by
  simp only[Sv,List.mem_flatMap,List.mem_cons,List.not_mem_nil,or_false]at hx
  obtain⟨y,_,rfl|rfl⟩:=hx
  ·exact .inl ⟨_,rfl⟩
  ·exact .inr ⟨_,rfl⟩
 have hflat:(Sv (Qb w d)).all AV.flat=true:=ajV.2 fun x hx=>by rcases hform x hx with⟨n,rfl⟩|⟨b,rfl⟩<;>rfl
 have hrf:Rl.refL (Rl 7) [0] (Sv (Qb w d))=some (Sv (Qb w d),[0]):=Vt fun x hx=>by rcases hform x hx with⟨n,rfl⟩|⟨b,rfl⟩<;>rfl
 have hg1:∀c,(h.set 1 c)[1]?=some c:=fun c=>ak0 hl1
 have hg0:∀c,(h.set 1 c)[0]?=h[0]?:=fun c=>ai0 (by omega)
 generalize Sv (Qb w d)=ps at *
 (have hb:=trivial;with_reducible repeat' (first|simp only[hb,Va.down,seval,atV.down,h2,h3,hA,hB,hC,hpl,hpz,htk,hdz,hcell,hflat,hrf,hg1,hg0]|refine Qp ?_ ?_<;>intro hb|refine fd ?_|fail))
def Xa(N:Int)(p:Qc):Bool:=Ye p.one 0 (IntKind.i64.wrap (N-1))&&Ye p.other 0 (IntKind.i64.wrap (N-1))&& !(p.one==p.other)&& !(p.opn&& !p.valve)&&aS p.tested&&aS p.valid&&Ye p.test 1 1000&&Ye p.change 1 1000
def abW(w:Qh):Bool:=Ye w.rooms 2 8&&Ye w.need 0 12&&Ye (w.parts.length:Int) 1 12
def Vw(w:Qh):Bool:=abW w&&w.parts.all (Xa w.rooms)
theorem aoJ(w:Qh)(hs:w.small):Up.call (.fn 17) [.agg [.int .i64 w.rooms,.int .i64 w.need,Rn 9 true w.nn (w.parts.map Qc.cells)]] []=some (.ret (.bool (Vw w)),[]):=by
 have k1:=yK w.rooms 2 8
 have k2:=yK w.need 0 12
 have k3:=yK (w.parts.length:Int) 1 12
 have hh:abW w=(Ye w.rooms 2 8&&Ye w.need 0 12&&Ye (w.parts.length:Int) 1 12):=rfl
 unfold Vw
 generalize Ye w.rooms 2 8=c1 at *
 generalize Ye w.need 0 12=c2 at *
 generalize Ye (w.parts.length:Int) 1 12=c3 at *
 cases c1
 ·rw[hh]
  (refine ce Tryz.func17 ?_;simp only[Tryz.f17];(have hb:=trivial;with_reducible repeat' (first|simp only[hb,Va.down,seval,aaA.down,k1,k2,k3,adC]|refine Qp ?_ ?_<;>intro hb|refine fd ?_|fail)))
 cases c2
 ·rw[hh]
  (refine ce Tryz.func17 ?_;simp only[Tryz.f17];(have hb:=trivial;with_reducible repeat' (first|simp only[hb,Va.down,seval,aaA.down,k1,k2,k3,adC]|refine Qp ?_ ?_<;>intro hb|refine fd ?_|fail)))
 cases c3
 ·rw[hh]
  (refine ce Tryz.func17 ?_;simp only[Tryz.f17];(have hb:=trivial;with_reducible repeat' (first|simp only[hb,Va.down,seval,aaA.down,k1,k2,k3,adC]|refine Qp ?_ ?_<;>intro hb|refine fd ?_|fail)))
 rw[hh]
 simp only[Bool.and_self,Bool.true_and]
 (refine ce Tryz.func17 ?_;simp only[Tryz.f17];(have hb:=trivial;with_reducible repeat' (first|simp only[hb,Va.down,seval,aaA.down,k1,k2,k3,adC]|refine Qp ?_ ?_<;>intro hb|refine fd ?_|fail)))
 refine Wz (lst 90 w.parts (fun i (zz:Unit) t h=>t 1=.ptr 0 0 0∧t 3=.int .i64 i∧(h[0]?=some (.live 3 false false [[.int .i64 w.rooms,.int .i64 w.need,Rn 9 true w.nn (w.parts.map Qc.cells)]]))) (fun rest zz=>rest.all (Xa w.rooms)) (fun r e t h=>(e=.exit 0∧r=true)∨(e=.ret∧t 2=.bool false∧r=false)) ?_ ?_ () _ _ ?_) (fun e t h hk=>?_)
 ·rintro _ t h Q' kQ ⟨h1,h3,hA⟩
  (have hb:=trivial;with_reducible repeat' (first|simp only[hb,Va.down,seval,aaA.down,h1,h3,akZ,decide_false,hA,adC]|refine Qp ?_ ?_<;>intro hb|refine fd ?_|fail))
  exact kQ _ _ _ (.inl ⟨rfl,rfl⟩)
 ·rintro x rest i _ t h J Q' kJ kQ hx hi ⟨h1,h3,hA⟩
  have hd:decide ((i:Int)<(w.parts.length:Int))=true:=decide_eq_true (by omega)
  have hw:=Tc hi hs.parts
  have q1:=yK x.one 0 (IntKind.i64.wrap (w.rooms-1))
  have q2:=yK x.other 0 (IntKind.i64.wrap (w.rooms-1))
  have q4:=ao3 x.tested
  have q5:=ao3 x.valid
  have q6:=yK x.test 1 1000
  have q7:=yK x.change 1 1000
  have hp:Xa w.rooms x=(Ye x.one 0 (IntKind.i64.wrap (w.rooms-1))&&Ye x.other 0 (IntKind.i64.wrap (w.rooms-1))&& !(x.one==x.other)&& !(x.opn&& !x.valve)&&aS x.tested&&aS x.valid&&Ye x.test 1 1000&&Ye x.change 1 1000):=rfl
  have hA1:=Qg hA
  generalize Ye x.one 0 (IntKind.i64.wrap (w.rooms-1))=d1 at *
  generalize Ye x.other 0 (IntKind.i64.wrap (w.rooms-1))=d2 at *
  cases hq3:(x.one==x.other)
  all_goals rw[hq3]at hp
  all_goals generalize aS x.tested=d4 at *
  all_goals generalize aS x.valid=d5 at *
  all_goals generalize Ye x.test 1 1000=d6 at *
  all_goals generalize Ye x.change 1 1000=d7 at *
  all_goals (have hb:=trivial;with_reducible repeat' (first|simp only[hb,Va.down,seval,aaA.down,h1,h3,hd,hx,hw,hA,hA1,q1,q2,hq3,q4,q5,q6,q7,Qc.cells,adC]|refine Qp ?_ ?_<;>intro hb|refine fd ?_|fail))
  all_goals first|(refine kQ _ _ _ (.inr ⟨rfl,by simp[up],?_⟩);simp_all;done)|(refine Qj (kJ _ _ () ⟨?_,?_,hA1 _⟩ ?_);(simp[up,h1]);(simp[up]);(simp_all))
 ·exact⟨by simp[up,aU],by simp[up],rfl⟩
 rcases hk with⟨rfl,hr⟩|⟨rfl,h2,hr⟩
 ·rw[hr]
  (have hb:=trivial;with_reducible repeat' (first|simp only[hb,Va.down,seval,aaA.down]|refine Qp ?_ ?_<;>intro hb|refine fd ?_|fail))
 ·rw[hr]
  (have hb:=trivial;with_reducible repeat' (first|simp only[hb,Va.down,seval,aaA.down,h2]|refine Qp ?_ ?_<;>intro hb|refine fd ?_|fail))
theorem agT{w:Qh}(h:Vw w=true):∃N,qK w N∧w.parts.length≤12:=by
 simp only[Vw,abW,Ye,aq6,decide_eq_true_eq,ajV]at h
 obtain⟨⟨⟨⟨h1,h2⟩,h3,h4⟩,h5,h6⟩,h7⟩:=h
 refine⟨w.rooms.toNat,⟨by omega,by omega,by omega,by omega,fun e=>by rw[e]at h5;simp at h5,fun p hp=>?_⟩,by omega⟩
 have:=h7 p hp
 simp only[Xa,Ye,aq6,decide_eq_true_eq,Bool.not_eq_true',beq_eq_false_iff_ne]at this
 obtain⟨⟨⟨⟨⟨⟨⟨a1,a2⟩,a3⟩,_⟩,_⟩,_⟩,_⟩,_⟩:=this
 rw[Us (by omega) (by omega)]at a1 a2
 refine⟨by omega,by omega,a3⟩
def xZ{α:Type}(p:α→Bool):List α→Int→Int
 | [],_=> -1
 |x::l,i=>if p x=true then i else xZ p l (i+1)
theorem xP{α:Type}(p:α→Bool):∀(l:List α) (i:Int),0≤i→decide (0≤xZ p l i)=l.any p
 | [],i,_=>rfl
 |x::l,i,h=>by
  unfold xZ
  split
  ·rename_i hp;simp[h,hp]
  ·rename_i hp;rw[xP p l (i+1) (by omega)];simp[hp]
theorem aJY(p:Qc)(N:Int):Up.call (.fn 85) [.agg [.int .i64 p.one,.int .i64 p.other,.bool p.valve,.bool p.opn,.int .i64 p.tested,.int .i64 p.valid,.bool p.bad,.int .i64 p.test,.int .i64 p.change],.int .i64 N] []=some (.ret (.bool (Xa N p)),[]):=by
 have q1:=nX p.one 0 (IntKind.i64.wrap (N-1))
 have q2:=nX p.other 0 (IntKind.i64.wrap (N-1))
 have q4:=nX p.tested 0 5000
 have q5:=nX p.valid 0 5000
 have q6:=nX p.test 1 1000
 have q7:=nX p.change 1 1000
 have hp:Xa N p=(Ye p.one 0 (IntKind.i64.wrap (N-1))&&Ye p.other 0 (IntKind.i64.wrap (N-1))&& !(p.one==p.other)&& !(p.opn&& !p.valve)&&Ye p.tested 0 5000&&Ye p.valid 0 5000&&Ye p.test 1 1000&&Ye p.change 1 1000):=rfl
 generalize Ye p.one 0 (IntKind.i64.wrap (N-1))=d1 at *
 generalize Ye p.other 0 (IntKind.i64.wrap (N-1))=d2 at *
 generalize Ye p.tested 0 5000=d4 at *
 generalize Ye p.valid 0 5000=d5 at *
 generalize Ye p.test 1 1000=d6 at *
 generalize Ye p.change 1 1000=d7 at *
 cases hq3:(p.one==p.other)
 all_goals rw[hq3]at hp
 all_goals rw[hp]
 all_goals (refine ce Tryz.func85 ?_;simp only[Tryz.f85];(have hb:=trivial;with_reducible repeat' (first|simp only[hb,Va.down,seval,bf2.down,q1,q2,hq3,q4,q5,q6,q7]|refine Qp ?_ ?_<;>intro hb|refine fd ?_|fail)))
 all_goals simp_all
theorem arW(w:Qh)(x:Qc):Up.call (.fn 84) [.agg [.int .i64 x.one,.int .i64 x.other,.bool x.valve,.bool x.opn,.int .i64 x.tested,.int .i64 x.valid,.bool x.bad,.int .i64 x.test,.int .i64 x.change],.ptr 0 0 0] [.live 3 false false [[.int .i64 w.rooms,.int .i64 w.need,Rn 9 true w.nn (w.parts.map Qc.cells)]]]=some (.ret (.bool (!Xa w.rooms x)),[.live 3 false false [[.int .i64 w.rooms,.int .i64 w.need,Rn 9 true w.nn (w.parts.map Qc.cells)]]]):=by
 have h:=aJY x w.rooms
 (refine ce Tryz.func84 ?_;simp only[Tryz.f84];(have hb:=trivial;with_reducible repeat' (first|simp only[hb,Va.down,seval,bf6.down,h]|refine Qp ?_ ?_<;>intro hb|refine fd ?_|fail)))
theorem ajH{l:List Qc}{nn:Bool}{g:Nat}{mm:Qh}{p:Qc→Bool}(hp:∀x∈l,Up.call (.fn g) (.agg [.int .i64 x.one,.int .i64 x.other,.bool x.valve,.bool x.opn,.int .i64 x.tested,.int .i64 x.valid,.bool x.bad,.int .i64 x.test,.int .i64 x.change]::[.ptr 0 0 0]) [.live 3 false false [[.int .i64 mm.rooms,.int .i64 mm.need,Rn 9 true mm.nn (mm.parts.map Qc.cells)]]]=some (.ret (.bool (p x)),[.live 3 false false [[.int .i64 mm.rooms,.int .i64 mm.need,Rn 9 true mm.nn (mm.parts.map Qc.cells)]]]))(hl:l.length≤maxLen):
 Up.call (.fn 105) [Rn 9 true nn (l.map Qc.cells),.func (.func g) [] [.ptr 0 0 0]] [.live 3 false false [[.int .i64 mm.rooms,.int .i64 mm.need,Rn 9 true mm.nn (mm.parts.map Qc.cells)]]]=some (.ret (.int .i64 (xZ p l 0)),[.live 3 false false [[.int .i64 mm.rooms,.int .i64 mm.need,Rn 9 true mm.nn (mm.parts.map Qc.cells)]]]):=by
 (refine ce Tryz.func105 ?_;simp only[Tryz.f105];(have hb:=trivial;with_reducible repeat' (first|simp only[hb,Va.down,seval,aaP.down,adC]|refine Qp ?_ ?_<;>intro hb|refine fd ?_|fail)))
 refine Wz (lst 19 l (fun i (s:Int) t h=>s=i∧h=[.live 3 false false [[.int .i64 mm.rooms,.int .i64 mm.need,Rn 9 true mm.nn (mm.parts.map Qc.cells)]]]∧t 0=Rn 9 true nn (l.map Qc.cells)∧t 1=.func (.func g) [] [.ptr 0 0 0]∧t 7=.int .i64 l.length∧t 8=.int .i64 i)
  (fun rest s=>xZ p rest s) (fun r e t h=>h=[.live 3 false false [[.int .i64 mm.rooms,.int .i64 mm.need,Rn 9 true mm.nn (mm.parts.map Qc.cells)]]]∧((e=.exit 0∧r= -1)∨(e=.ret∧t 4=.int .i64 r))) ?_ ?_ 0 _ _ ?_) (fun e t h hk=>?_)
 ·rintro s t h Q' kQ ⟨rfl,rfl,h0,h1,h7,h8⟩
  (have hb:=trivial;with_reducible repeat' (first|simp only[hb,Va.down,seval,aaP.down,h0,h1,h7,h8,akZ,decide_false]|refine Qp ?_ ?_<;>intro hb|refine fd ?_|fail))
  exact kQ _ _ _ ⟨rfl,.inl ⟨rfl,rfl⟩⟩
 ·rintro x rest i s t h J Q' kJ kQ hx hi ⟨rfl,rfl,h0,h1,h7,h8⟩
  have hpx:=hp x (ak2 hx)
  have hd:decide ((i:Int)<(l.length:Int))=true:=by simpa using hi
  (have hb:=trivial;with_reducible repeat' (first|simp only[hb,Va.down,seval,aaP.down,h0,h1,h7,h8,hd,hx,Qc.cells,hpx,Tc hi hl]|refine Qp ?_ ?_<;>intro hb|refine fd ?_|fail))
  ·exact kQ _ _ _ ⟨rfl,.inr ⟨rfl,by simp[up,xZ,hb]⟩⟩
  ·exact Qj (kJ _ _ (i+1) ⟨by simp,rfl,by simp[up,h0],by simp[up,h1],by simp[up,h7],by simp[up]⟩ (by simp[xZ,hb]))
 ·exact⟨rfl,rfl,by simp[up,aU],by simp[up,aU],by simp[up],by simp[up]⟩
 ·obtain⟨rfl,⟨rfl,hi⟩|⟨rfl,hi⟩⟩:=hk
  ·(have hb:=trivial;with_reducible repeat' (first|simp only[hb,Va.down,seval,aaP.down]|refine Qp ?_ ?_<;>intro hb|refine fd ?_|fail))
   rw[hi]
  ·(have hb:=trivial;with_reducible repeat' (first|simp only[hb,Va.down,seval,aaP.down,hi]|refine Qp ?_ ?_<;>intro hb|refine fd ?_|fail))
theorem adS{l:List Qc}{nn:Bool}{g:Nat}{mm:Qh}{p:Qc→Bool}(hp:∀x∈l,Up.call (.fn g) (.agg [.int .i64 x.one,.int .i64 x.other,.bool x.valve,.bool x.opn,.int .i64 x.tested,.int .i64 x.valid,.bool x.bad,.int .i64 x.test,.int .i64 x.change]::[.ptr 0 0 0]) [.live 3 false false [[.int .i64 mm.rooms,.int .i64 mm.need,Rn 9 true mm.nn (mm.parts.map Qc.cells)]]]=some (.ret (.bool (p x)),[.live 3 false false [[.int .i64 mm.rooms,.int .i64 mm.need,Rn 9 true mm.nn (mm.parts.map Qc.cells)]]]))(hl:l.length≤maxLen):
 Up.call (.fn 83) [Rn 9 true nn (l.map Qc.cells),.func (.func g) [] [.ptr 0 0 0]] [.live 3 false false [[.int .i64 mm.rooms,.int .i64 mm.need,Rn 9 true mm.nn (mm.parts.map Qc.cells)]]]=some (.ret (.bool (l.any p)),[.live 3 false false [[.int .i64 mm.rooms,.int .i64 mm.need,Rn 9 true mm.nn (mm.parts.map Qc.cells)]]]):=by
 (refine ce Tryz.func83 ?_;simp only[Tryz.f83];(have hb:=trivial;with_reducible repeat' (first|simp only[hb,Va.down,seval,ajH hp hl,xP p l 0 (Int.le_refl 0)]|refine Qp ?_ ?_<;>intro hb|refine fd ?_|fail)))
theorem ayM(w:Qh)(hs:w.small):Up.call (.fn 61) [.agg [.int .i64 w.rooms,.int .i64 w.need,Rn 9 true w.nn (w.parts.map Qc.cells)]] []=some (.ret (.bool (Vw w)),[]):=by
 have k1:=nX w.rooms 2 8
 have k2:=nX w.need 0 12
 have k3:=nX (w.parts.length:Int) 1 12
 have hcM:=adS (mm:=w) (l:=w.parts) (nn:=w.nn) (g:=84) (p:=fun x=> !Xa w.rooms x) (fun x _=>arW w x) hs.parts
 have q1:w.parts.all (Xa w.rooms)= !(w.parts.any fun x=> !Xa w.rooms x):=List.all_eq_not_any_not
 have hh:abW w=(Ye w.rooms 2 8&&Ye w.need 0 12&&Ye (w.parts.length:Int) 1 12):=rfl
 unfold Vw
 rw[hh,q1]
 generalize Ye w.rooms 2 8=c1 at *
 generalize Ye w.need 0 12=c2 at *
 generalize Ye (w.parts.length:Int) 1 12=c3 at *
 generalize(w.parts.any fun x=> !Xa w.rooms x)=c4 at *
 cases c1<;>cases c2<;>cases c3
 all_goals (refine ce Tryz.func61 ?_;simp only[Tryz.f61];(have hb:=trivial;with_reducible repeat' (first|simp only[hb,Va.down,seval,bf8.down,k1,k2,k3,hcM,adC]|refine Qp ?_ ?_<;>intro hb|refine fd ?_|fail)))
 all_goals simp
theorem yW(w:Qh)(hs:w.small)(d:Int):Up.call (.fn 34) [.agg [.int .i64 w.rooms,.int .i64 w.need,Rn 9 true w.nn (w.parts.map Qc.cells)],.int .i64 d] []=some (.ret (.tup [.ptr 0 0 0,.bool (Vw w&&aS d)]),[.live 4 false false [[.int .i64 w.rooms,.int .i64 w.need,Rn 9 true w.nn (w.parts.map Qc.cells),.int .i64 d]]]):=by
 have h:=ayM w hs
 have hd:=nX d 0 5000
 rw[show Ye d 0 5000=aS d from rfl]at hd
 generalize Vw w=c at *
 generalize aS d=e at *
 cases c
 ·(refine ce Tryz.func34 ?_;simp only[Tryz.f34];(have hb:=trivial;with_reducible repeat' (first|simp only[hb,Va.down,seval,baI.down,h,hd]|refine Qp ?_ ?_<;>intro hb|refine fd ?_|fail)))
 ·(refine ce Tryz.func34 ?_;simp only[Tryz.f34];(have hb:=trivial;with_reducible repeat' (first|simp only[hb,Va.down,seval,baI.down,h,hd]|refine Qp ?_ ?_<;>intro hb|refine fd ?_|fail)))
end Go.Proofs.YtcncggaobhbomaaGreatDoor
