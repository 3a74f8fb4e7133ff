/- The functions of the layer, walked. -/
import Derived.Test.YtcncggaobhbomaaGreatDoorLibE
import Derived.Test.YtcncggaobhbomaaGreatDoorChecked
import Derived.Test.YtcncggaobhbomaaGreatDoorLibF
import Derived.Test.YtcncggaobhbomaaGreatDoorLibD
import Derived.Test.YtcncggaobhbomaaGreatDoorRows
import Derived.Test.YtcncggaobhbomaaGreatDoorTie
import Derived.Test.YtcncggaobhbomaaGreatDoorCards
import Derived.Test.YtcncggaobhbomaaGreatDoorShelf
import Derived.ProofKit
import Derived.LaidMore
import Derived.OpenShut
import Derived.Stop.Joined
open And renaming intro→aaB
open List renaming length_map→aaM,getElem?_eq_some_iff→abV,getElem?_eq_getElem→abZ,replicate→ab9,length_replicate→acH,getElem?_set_ne→aeQ,getD_eq_getElem?_getD→afC,map_set→afO,getElem?_set_self→afU,getElem?_append_left→ag0,getElem?_append_right→ag1,length_eq_zero_iff→ag2,length_set→ag5,mem_of_getElem?→aiJ,getElem?_map→ai9,take_of_length_le→akD
open Nat renaming ble→aeN
open Int renaming lt_irrefl→ae5
open Bool renaming false_eq_true→amE
set_option linter.unusedSimpArgs false
set_option linter.unusedVariables false
namespace Go.Proofs.YtcncggaobhbomaaGreatDoor
open Go.Ev
set_option maxRecDepth 100000
theorem Uf(h:Qa)(b r o:Nat):ld Tryz.prog 24 h (some (.ptr b r o))=ldR (Yz (h[b]?) r) o 3:=vY ⟨by kernel_rfl,by kernel_rfl⟩ h b r o
theorem kZ(b r o:Nat):ftL Tryz.prog 24 (some (.ptr b r o))=some [.cells b o 3]:=Zn (isA:=true) (n:=3) (by kernel_rfl) (by kernel_rfl) b r o
theorem eV(fl nn:Bool)(rows:List (List AV)):ln Tryz.prog 25 (some (Rh 3 fl nn rows))=some (.ret (.int .i64 rows.length),[]):=abD ⟨_,Tryz.underlying25,by kernel_rfl⟩ fl nn rows
theorem Qu(b r o:Nat):fa Tryz.prog 24 (some (.ptr b r o)) 2=some (.ret (.ptr b r (o+2)),[]):=Uo (show Ui Tryz.prog 24 2 2 1 from⟨_,_,Tryz.underlying24,rfl,rfl,by kernel_rfl,by decide⟩) b r o
theorem Rb(h:Qa)(b r o:Nat):ld Tryz.prog 22 h (some (.ptr b r o))=ldC (Yz (h[b]?) r) o:=lM ⟨by kernel_rfl,1,by kernel_rfl⟩ h b r o
theorem zO(b r o:Nat):ftL Tryz.prog 22 (some (.ptr b r o))=some [.cells b o 1]:=Zn (isA:=false) (n:=1) (by kernel_rfl) (by kernel_rfl) b r o
theorem alR(st:Nat)(fl:Bool)(rows:List (List AV)):ln Tryz.prog 22 (some (.imm st fl rows))=some (.ret (.int .i64 rows.length),[]):=ah3 (n:=9) ⟨_,Tryz.underlying22,by kernel_rfl⟩ st fl rows
theorem al3(st b r len:Nat):ln Tryz.prog 22 (some (.slr st b r len))=some (.ret (.int .i64 len),[]):=xA (n:=9) ⟨_,Tryz.underlying22,by kernel_rfl⟩ st b r len
theorem Tc(fl nn:Bool)(rows:List (List AV)):ln Tryz.prog 22 (some (Rh 9 fl nn rows))=some (.ret (.int .i64 rows.length),[]):=abD ⟨_,Tryz.underlying22,by kernel_rfl⟩ fl nn rows
theorem nV:Vi Tryz.prog 36=some (.agg [.int .i64 0,.int .i64 0]):=by kernel_rfl
theorem pJ(h:Qa)(b r o:Nat)(v:AV):st_ Tryz.prog 36 h (some (.ptr b r o)) (some v)=sv 2 (h[b]?) b r o (Qg v):=Yi (by kernel_rfl) h b r o v
theorem amI(b r o:Nat):ftS Tryz.prog 36 (some (.ptr b r o))=some [.cells b o 2]:=gA (by kernel_rfl) b r o
theorem Xf(h:Qa)(b r o:Nat):ld Tryz.prog 36 h (some (.ptr b r o))=ldR (Yz (h[b]?) r) o 2:=vY ⟨by kernel_rfl,by kernel_rfl⟩ h b r o
theorem pT(b r o:Nat):ftL Tryz.prog 36 (some (.ptr b r o))=some [.cells b o 2]:=Zn (isA:=true) (n:=2) (by kernel_rfl) (by kernel_rfl) b r o
theorem eP(ps:List (Nat × AV)):eI Tryz.prog 36 ps=(Za (fun i=>([(0,1),(1,1)]:List (Nat × Nat))[i]?) (Qg (.agg [.int .i64 0,.int .i64 0])) ps).map .agg:=by kernel_rfl
theorem anR(a0 b0:Int)(a1 b1:Int):Yk Tryz.prog .eql 36 (.agg [.int .i64 a0,.int .i64 a1]) (.agg [.int .i64 b0,.int .i64 b1])=some (.bool (((a0==b0)&&(a1==b1)))):=by
 have e:Yk Tryz.prog .eql 36 (.agg [.int .i64 a0,.int .i64 a1]) (.agg [.int .i64 b0,.int .i64 b1])=Option.map AV.bool (if(a0==b0)=true then(if(a1==b1)=true then some true else some false)else some false):=by kernel_rfl
 rw[e]
 cases(a0==b0)<;>cases(a1==b1)<;>rfl
theorem aoJ(fl:Bool)(rows:List (List AV))(k:IntKind)(i:Int):ia Tryz.prog 22 (some (.imm 9 fl rows)) (some (.int k i))=if 0≤i then r1 ((rows[i.toNat]?).map .iptr)else none:=tV ⟨_,Tryz.underlying22,by kernel_rfl⟩ fl rows k i
theorem yW(b r len:Nat)(k:IntKind)(i:Int):ia Tryz.prog 22 (some (.slr 9 b r len)) (some (.int k i))=if 0≤i∧i<len then some (.ret (.ptr b (r+i.toNat) 0),[])else none:=qK ⟨_,Tryz.underlying22,by kernel_rfl⟩ b r len k i
theorem Vf(fl nn:Bool)(rows:List (List AV))(k:IntKind)(i:Int):ia Tryz.prog 22 (some (Rh 9 fl nn rows)) (some (.int k i))=if 0≤i then r1 ((rows[i.toNat]?).map .iptr)else none:=xO ⟨_,Tryz.underlying22,by kernel_rfl⟩ fl nn rows k i
theorem Yv(h:Qa)(b r o:Nat):ld Tryz.prog 46 h (some (.ptr b r o))=ldR (Yz (h[b]?) r) o 9:=vY ⟨by kernel_rfl,by kernel_rfl⟩ h b r o
theorem Vn(h:Qa)(cs:List AV):ld Tryz.prog 46 h (some (.iptr cs))=if 9≤cs.length then some (.ret (.agg (cs.take 9)),[])else none:=ajV ⟨by kernel_rfl,by kernel_rfl⟩ h cs
theorem apD(b r o:Nat):ftL Tryz.prog 46 (some (.ptr b r o))=some [.cells b o 9]:=Zn (isA:=true) (n:=9) (by kernel_rfl) (by kernel_rfl) b r o
theorem aU:Vi Tryz.prog 46=some (.agg [.int .i64 0,.int .i64 0,.bool false,.bool false,.int .i64 0,.int .i64 0,.bool false,.int .i64 0,.int .i64 0]):=by kernel_rfl
theorem Zo(h:Qa)(b r o:Nat)(v:AV):st_ Tryz.prog 46 h (some (.ptr b r o)) (some v)=sv 9 (h[b]?) b r o (Qg v):=Yi (by kernel_rfl) h b r o v
theorem alH(b r o:Nat):ftS Tryz.prog 46 (some (.ptr b r o))=some [.cells b o 9]:=gA (by kernel_rfl) b r o
theorem aQ(b r o:Nat):fa Tryz.prog 46 (some (.ptr b r o)) 5=some (.ret (.ptr b r (o+5)),[]):=Uo (show Ui Tryz.prog 46 5 5 1 from⟨_,_,Tryz.underlying46,rfl,rfl,by kernel_rfl,by decide⟩) b r o
theorem Rm(h:Qa)(b r o:Nat):ld Tryz.prog 3 h (some (.ptr b r o))=ldC (Yz (h[b]?) r) o:=lM ⟨by kernel_rfl,1,by kernel_rfl⟩ h b r o
theorem cE(h:Qa)(c:AV)(cs:List AV):ld Tryz.prog 3 h (some (.iptr (c::cs)))=some (.ret c,[]):=at7 ⟨by kernel_rfl,1,by kernel_rfl⟩ h c cs
theorem aeL(b r o:Nat):ftL Tryz.prog 3 (some (.ptr b r o))=some [.cells b o 1]:=Zn (isA:=false) (n:=1) (by kernel_rfl) (by kernel_rfl) b r o
theorem nG(h:Qa)(b r o:Nat)(v:AV):st_ Tryz.prog 3 h (some (.ptr b r o)) (some v)=sv 1 (h[b]?) b r o (Qg v):=Yi (by kernel_rfl) h b r o v
theorem arU(b r o:Nat):ftS Tryz.prog 3 (some (.ptr b r o))=some [.cells b o 1]:=gA (by kernel_rfl) b r o
theorem Xp(b r o:Nat):fa Tryz.prog 46 (some (.ptr b r o)) 3=some (.ret (.ptr b r (o+3)),[]):=Uo (show Ui Tryz.prog 46 3 3 1 from⟨_,_,Tryz.underlying46,rfl,rfl,by kernel_rfl,by decide⟩) b r o
theorem jN(cs:List AV):fa Tryz.prog 46 (some (.iptr cs)) 3=if 3+1≤cs.length then some (.ret (.iptr (cs.drop 3)),[])else none:=bX (show Ui Tryz.prog 46 3 3 1 from⟨_,_,Tryz.underlying46,rfl,rfl,by kernel_rfl,by decide⟩) cs
theorem tJ(h:Qa)(b r o:Nat)(v:AV):st_ Tryz.prog 4 h (some (.ptr b r o)) (some v)=sv 1 (h[b]?) b r o (Qg v):=Yi (by kernel_rfl) h b r o v
theorem arE:Vi Tryz.prog 75=some (.agg [.int .i64 0,.bool false,.bool false]):=by kernel_rfl
theorem Xh(b r o:Nat):fa Tryz.prog 36 (some (.ptr b r o)) 0=some (.ret (.ptr b r (o+0)),[]):=Uo (show Ui Tryz.prog 36 0 0 1 from⟨_,_,Tryz.underlying36,rfl,rfl,by kernel_rfl,by decide⟩) b r o
theorem Yu(h:Qa)(b r o:Nat):ld Tryz.prog 34 h (some (.ptr b r o))=ldC (Yz (h[b]?) r) o:=lM ⟨by kernel_rfl,1,by kernel_rfl⟩ h b r o
theorem alI(b r o:Nat):ftL Tryz.prog 34 (some (.ptr b r o))=some [.cells b o 1]:=Zn (isA:=false) (n:=1) (by kernel_rfl) (by kernel_rfl) b r o
theorem anS(fl nn:Bool)(rows:List (List AV))(k:IntKind)(i:Int):ia Tryz.prog 49 (some (Rh 1 fl nn rows)) (some (.int k i))=if 0≤i then r1 ((rows[i.toNat]?).map .iptr)else none:=xO ⟨_,Tryz.underlying49,by kernel_rfl⟩ fl nn rows k i
theorem Wm(h:Qa)(b r o:Nat):ld Tryz.prog 4 h (some (.ptr b r o))=ldC (Yz (h[b]?) r) o:=lM ⟨by kernel_rfl,1,by kernel_rfl⟩ h b r o
theorem fF(h:Qa)(c:AV)(cs:List AV):ld Tryz.prog 4 h (some (.iptr (c::cs)))=some (.ret c,[]):=at7 ⟨by kernel_rfl,1,by kernel_rfl⟩ h c cs
theorem iH:Vi Tryz.prog 24=some (.agg [.int .i64 0,.int .i64 0,.nils]):=by kernel_rfl
theorem jI(h:Qa)(b r o:Nat)(v:AV):st_ Tryz.prog 24 h (some (.ptr b r o)) (some v)=sv 3 (h[b]?) b r o (Qg v):=Yi (by kernel_rfl) h b r o v
theorem aoW(b r o:Nat):ftS Tryz.prog 24 (some (.ptr b r o))=some [.cells b o 3]:=gA (by kernel_rfl) b r o
theorem dW(b r o:Nat):fa Tryz.prog 24 (some (.ptr b r o)) 1=some (.ret (.ptr b r (o+1)),[]):=Uo (show Ui Tryz.prog 24 1 1 1 from⟨_,_,Tryz.underlying24,rfl,rfl,by kernel_rfl,by decide⟩) b r o
theorem Ze(b r o:Nat):fa Tryz.prog 36 (some (.ptr b r o)) 1=some (.ret (.ptr b r (o+1)),[]):=Uo (show Ui Tryz.prog 36 1 1 1 from⟨_,_,Tryz.underlying36,rfl,rfl,by kernel_rfl,by decide⟩) b r o
theorem amA(fl:Bool)(rows:List (List AV))(k:IntKind)(i:Int):ia Tryz.prog 62 (some (.imm 1 fl rows)) (some (.int k i))=if 0≤i then r1 ((rows[i.toNat]?).map .iptr)else none:=tV ⟨_,Tryz.underlying62,by kernel_rfl⟩ fl rows k i
theorem aaE(b r len:Nat)(k:IntKind)(i:Int):ia Tryz.prog 62 (some (.slr 1 b r len)) (some (.int k i))=if 0≤i∧i<len then some (.ret (.ptr b (r+i.toNat) 0),[])else none:=qK ⟨_,Tryz.underlying62,by kernel_rfl⟩ b r len k i
theorem aD(h:Qa)(b r o:Nat):ld Tryz.prog 50 h (some (.ptr b r o))=ldC (Yz (h[b]?) r) o:=lM ⟨by kernel_rfl,1,by kernel_rfl⟩ h b r o
theorem ahW(h:Qa)(c:AV)(cs:List AV):ld Tryz.prog 50 h (some (.iptr (c::cs)))=some (.ret c,[]):=at7 ⟨by kernel_rfl,1,by kernel_rfl⟩ h c cs
theorem ayD:Vi Tryz.prog 3=some (.int .i64 0):=by kernel_rfl
theorem qW(base len:Nat)(ps:List (Nat × AV)):rD (Rn Tryz.prog base 50 len ps)=bsK 1 (.int .i64 0) base len ps:=apF (e:=3) (by kernel_rfl) (by kernel_rfl) (by kernel_rfl) base len ps
theorem ahF(h:Qa)(b r o:Nat):ld Tryz.prog 69 h (some (.ptr b r o))=ldC (Yz (h[b]?) r) o:=lM ⟨by kernel_rfl,1,by kernel_rfl⟩ h b r o
theorem aaA(ps:List (Nat × AV)):eI Tryz.prog 85 ps=(Za (fun i=>([(0,24),(24,1)]:List (Nat × Nat))[i]?) (Qg (.agg [.int .i64 0,.bool false,.int .i64 0,.bool false,.int .i64 0,.bool false,.int .i64 0,.bool false,.int .i64 0,.bool false,.int .i64 0,.bool false,.int .i64 0,.bool false,.int .i64 0,.bool false,.int .i64 0,.bool false,.int .i64 0,.bool false,.int .i64 0,.bool false,.int .i64 0,.bool false,.int .i64 0])) ps).map .agg:=by kernel_rfl
theorem uE:Vi Tryz.prog 85=some (.agg [.int .i64 0,.bool false,.int .i64 0,.bool false,.int .i64 0,.bool false,.int .i64 0,.bool false,.int .i64 0,.bool false,.int .i64 0,.bool false,.int .i64 0,.bool false,.int .i64 0,.bool false,.int .i64 0,.bool false,.int .i64 0,.bool false,.int .i64 0,.bool false,.int .i64 0,.bool false,.int .i64 0]):=by kernel_rfl
theorem wQ(h:Qa)(b r o:Nat)(v:AV):st_ Tryz.prog 85 h (some (.ptr b r o)) (some v)=sv 25 (h[b]?) b r o (Qg v):=Yi (by kernel_rfl) h b r o v
theorem fP(h:Qa)(b r o:Nat):ld Tryz.prog 85 h (some (.ptr b r o))=ldR (Yz (h[b]?) r) o 25:=vY ⟨by kernel_rfl,by kernel_rfl⟩ h b r o
theorem aiE(h:Qa)(cs:List AV):ld Tryz.prog 85 h (some (.iptr cs))=if 25≤cs.length then some (.ret (.agg (cs.take 25)),[])else none:=ajV ⟨by kernel_rfl,by kernel_rfl⟩ h cs
theorem zT(b r o:Nat):ftL Tryz.prog 85 (some (.ptr b r o))=some [.cells b o 25]:=Zn (isA:=true) (n:=25) (by kernel_rfl) (by kernel_rfl) b r o
theorem acN:Vi Tryz.prog 86=some (.nilm):=by kernel_rfl
theorem aeP(h:Qa)(b r o:Nat)(v:AV):st_ Tryz.prog 86 h (some (.ptr b r o)) (some v)=sv 1 (h[b]?) b r o (Qg v):=Yi (by kernel_rfl) h b r o v
theorem gP(h:Qa)(b r o:Nat):ld Tryz.prog 86 h (some (.ptr b r o))=ldC (Yz (h[b]?) r) o:=lM ⟨by kernel_rfl,1,by kernel_rfl⟩ h b r o
theorem zV(b r o:Nat):ftL Tryz.prog 86 (some (.ptr b r o))=some [.cells b o 1]:=Zn (isA:=false) (n:=1) (by kernel_rfl) (by kernel_rfl) b r o
theorem yO(b r len:Nat)(k:IntKind)(i:Int):ia Tryz.prog 91 (some (.slr 4 b r len)) (some (.int k i))=if 0≤i∧i<len then some (.ret (.ptr b (r+i.toNat) 0),[])else none:=qK ⟨_,Tryz.underlying91,by kernel_rfl⟩ b r len k i
theorem zK(fl nn:Bool)(rows:List (List AV))(k:IntKind)(i:Int):ia Tryz.prog 91 (some (Rh 4 fl nn rows)) (some (.int k i))=if 0≤i then r1 ((rows[i.toNat]?).map .iptr)else none:=xO ⟨_,Tryz.underlying91,by kernel_rfl⟩ fl nn rows k i
theorem agL(b r o:Nat):fa Tryz.prog 94 (some (.ptr b r o)) 0=some (.ret (.ptr b r (o+0)),[]):=Uo (show Ui Tryz.prog 94 0 0 2 from⟨_,_,Tryz.underlying94,rfl,rfl,by kernel_rfl,by decide⟩) b r o
theorem wN(st b r len:Nat):ln Tryz.prog 100 (some (.slr st b r len))=some (.ret (.int .i64 len),[]):=xA (n:=2) ⟨_,Tryz.underlying100,by kernel_rfl⟩ st b r len
theorem vA(b r len:Nat)(k:IntKind)(i:Int):ia Tryz.prog 100 (some (.slr 2 b r len)) (some (.int k i))=if 0≤i∧i<len then some (.ret (.ptr b (r+i.toNat) 0),[])else none:=qK ⟨_,Tryz.underlying100,by kernel_rfl⟩ b r len k i
theorem anB(fl:Bool)(rows:List (List AV))(k:IntKind)(i:Int):ia Tryz.prog 50 (some (.imm 1 fl rows)) (some (.int k i))=if 0≤i then r1 ((rows[i.toNat]?).map .iptr)else none:=tV ⟨_,Tryz.underlying50,by kernel_rfl⟩ fl rows k i
theorem aK(b r len:Nat)(k:IntKind)(i:Int):ia Tryz.prog 50 (some (.slr 1 b r len)) (some (.int k i))=if 0≤i∧i<len then some (.ret (.ptr b (r+i.toNat) 0),[])else none:=qK ⟨_,Tryz.underlying50,by kernel_rfl⟩ b r len k i
theorem bA(b r o:Nat):fa Tryz.prog 24 (some (.ptr b r o)) 0=some (.ret (.ptr b r (o+0)),[]):=Uo (show Ui Tryz.prog 24 0 0 1 from⟨_,_,Tryz.underlying24,rfl,rfl,by kernel_rfl,by decide⟩) b r o
theorem iZ(b r o:Nat):fa Tryz.prog 46 (some (.ptr b r o)) 0=some (.ret (.ptr b r (o+0)),[]):=Uo (show Ui Tryz.prog 46 0 0 1 from⟨_,_,Tryz.underlying46,rfl,rfl,by kernel_rfl,by decide⟩) b r o
theorem adJ(cs:List AV):fa Tryz.prog 46 (some (.iptr cs)) 0=if 0+1≤cs.length then some (.ret (.iptr (cs.drop 0)),[])else none:=bX (show Ui Tryz.prog 46 0 0 1 from⟨_,_,Tryz.underlying46,rfl,rfl,by kernel_rfl,by decide⟩) cs
theorem jM(b r o:Nat):fa Tryz.prog 46 (some (.ptr b r o)) 1=some (.ret (.ptr b r (o+1)),[]):=Uo (show Ui Tryz.prog 46 1 1 1 from⟨_,_,Tryz.underlying46,rfl,rfl,by kernel_rfl,by decide⟩) b r o
theorem afE(cs:List AV):fa Tryz.prog 46 (some (.iptr cs)) 1=if 1+1≤cs.length then some (.ret (.iptr (cs.drop 1)),[])else none:=bX (show Ui Tryz.prog 46 1 1 1 from⟨_,_,Tryz.underlying46,rfl,rfl,by kernel_rfl,by decide⟩) cs
theorem dP(b r o:Nat):fa Tryz.prog 46 (some (.ptr b r o)) 2=some (.ret (.ptr b r (o+2)),[]):=Uo (show Ui Tryz.prog 46 2 2 1 from⟨_,_,Tryz.underlying46,rfl,rfl,by kernel_rfl,by decide⟩) b r o
theorem afB(cs:List AV):fa Tryz.prog 46 (some (.iptr cs)) 2=if 2+1≤cs.length then some (.ret (.iptr (cs.drop 2)),[])else none:=bX (show Ui Tryz.prog 46 2 2 1 from⟨_,_,Tryz.underlying46,rfl,rfl,by kernel_rfl,by decide⟩) cs
theorem Zg(b r o:Nat):fa Tryz.prog 46 (some (.ptr b r o)) 4=some (.ret (.ptr b r (o+4)),[]):=Uo (show Ui Tryz.prog 46 4 4 1 from⟨_,_,Tryz.underlying46,rfl,rfl,by kernel_rfl,by decide⟩) b r o
theorem iL(b r o:Nat):fa Tryz.prog 46 (some (.ptr b r o)) 7=some (.ret (.ptr b r (o+7)),[]):=Uo (show Ui Tryz.prog 46 7 7 1 from⟨_,_,Tryz.underlying46,rfl,rfl,by kernel_rfl,by decide⟩) b r o
theorem af1(cs:List AV):fa Tryz.prog 46 (some (.iptr cs)) 7=if 7+1≤cs.length then some (.ret (.iptr (cs.drop 7)),[])else none:=bX (show Ui Tryz.prog 46 7 7 1 from⟨_,_,Tryz.underlying46,rfl,rfl,by kernel_rfl,by decide⟩) cs
theorem jL(b r o:Nat):fa Tryz.prog 46 (some (.ptr b r o)) 8=some (.ret (.ptr b r (o+8)),[]):=Uo (show Ui Tryz.prog 46 8 8 1 from⟨_,_,Tryz.underlying46,rfl,rfl,by kernel_rfl,by decide⟩) b r o
theorem af2(cs:List AV):fa Tryz.prog 46 (some (.iptr cs)) 8=if 8+1≤cs.length then some (.ret (.iptr (cs.drop 8)),[])else none:=bX (show Ui Tryz.prog 46 8 8 1 from⟨_,_,Tryz.underlying46,rfl,rfl,by kernel_rfl,by decide⟩) cs
theorem lL{O:Ue}(t:List AV)(h:Qa)(s x:Operand):Td O Tryz.prog t h (.call ⟨.builtin .append,#[s,x],#[22,22]⟩)=apO Tryz.prog 22 h (Qe t s) (Qe t x):=xE t h s x 22 22 _ Tryz.underlying22
theorem zZ(h:Qa)(s:AV)(st:Nat)(fl:Bool)(rows:List (List AV)):apO Tryz.prog 22 h (some s) (some (.imm st fl rows))=apK 9 h (some s) (srK 9 h (some (.imm st fl rows))):=sJ (e:=46) (b:=64) (z:=.agg [.int .i64 0,.int .i64 0,.bool false,.bool false,.int .i64 0,.int .i64 0,.bool false,.int .i64 0,.int .i64 0]) (by kernel_rfl) (by kernel_rfl) (by kernel_rfl) (by kernel_rfl) (by decide+kernel) h s _ (fun q e=>by cases e)
theorem afI(h:Qa)(b r o:Nat)(v:AV):st_ Tryz.prog 22 h (some (.ptr b r o)) (some v)=sv 1 (h[b]?) b r o (Qg v):=Yi (by kernel_rfl) h b r o v
theorem kX(fl nn:Bool)(rows:List (List AV))(k:IntKind)(i:Int):ia Tryz.prog 25 (some (Rh 3 fl nn rows)) (some (.int k i))=if 0≤i then r1 ((rows[i.toNat]?).map .iptr)else none:=xO ⟨_,Tryz.underlying25,by kernel_rfl⟩ fl nn rows k i
theorem rG(b r o:Nat):fa Tryz.prog 75 (some (.ptr b r o)) 0=some (.ret (.ptr b r (o+0)),[]):=Uo (show Ui Tryz.prog 75 0 0 1 from⟨_,_,Tryz.underlying75,rfl,rfl,by kernel_rfl,by decide⟩) b r o
theorem iG(cs:List AV):fa Tryz.prog 75 (some (.iptr cs)) 0=if 0+1≤cs.length then some (.ret (.iptr (cs.drop 0)),[])else none:=bX (show Ui Tryz.prog 75 0 0 1 from⟨_,_,Tryz.underlying75,rfl,rfl,by kernel_rfl,by decide⟩) cs
theorem afS(b r o:Nat):fa Tryz.prog 75 (some (.ptr b r o)) 1=some (.ret (.ptr b r (o+1)),[]):=Uo (show Ui Tryz.prog 75 1 1 1 from⟨_,_,Tryz.underlying75,rfl,rfl,by kernel_rfl,by decide⟩) b r o
theorem aeU(cs:List AV):fa Tryz.prog 75 (some (.iptr cs)) 1=if 1+1≤cs.length then some (.ret (.iptr (cs.drop 1)),[])else none:=bX (show Ui Tryz.prog 75 1 1 1 from⟨_,_,Tryz.underlying75,rfl,rfl,by kernel_rfl,by decide⟩) cs
theorem ad5(b r o:Nat):fa Tryz.prog 75 (some (.ptr b r o)) 2=some (.ret (.ptr b r (o+2)),[]):=Uo (show Ui Tryz.prog 75 2 2 1 from⟨_,_,Tryz.underlying75,rfl,rfl,by kernel_rfl,by decide⟩) b r o
theorem adU(cs:List AV):fa Tryz.prog 75 (some (.iptr cs)) 2=if 2+1≤cs.length then some (.ret (.iptr (cs.drop 2)),[])else none:=bX (show Ui Tryz.prog 75 2 2 1 from⟨_,_,Tryz.underlying75,rfl,rfl,by kernel_rfl,by decide⟩) cs
theorem wA:Vi Tryz.prog 82=some (.agg [.int .i64 0,.bool false,.int .i64 0,.bool false,.int .i64 0,.bool false,.int .i64 0,.bool false,.int .i64 0,.bool false,.int .i64 0,.bool false,.int .i64 0,.bool false,.int .i64 0,.bool false,.int .i64 0,.bool false,.int .i64 0,.bool false,.int .i64 0,.bool false,.int .i64 0,.bool false]):=by kernel_rfl
theorem vV(h:Qa)(b r o:Nat)(v:AV):st_ Tryz.prog 82 h (some (.ptr b r o)) (some v)=sv 24 (h[b]?) b r o (Qg v):=Yi (by kernel_rfl) h b r o v
theorem Xx(b r o:Nat):fa Tryz.prog 106 (some (.ptr b r o)) 0=some (.ret (.ptr b r (o+0)),[]):=Uo (show Ui Tryz.prog 106 0 0 3 from⟨_,_,Tryz.underlying106,rfl,rfl,by kernel_rfl,by decide⟩) b r o
theorem aG(h:Qa)(b r o:Nat):ld Tryz.prog 82 h (some (.ptr b r o))=ldR (Yz (h[b]?) r) o 24:=vY ⟨by kernel_rfl,by kernel_rfl⟩ h b r o
theorem amF(b r o:Nat):ftL Tryz.prog 82 (some (.ptr b r o))=some [.cells b o 24]:=Zn (isA:=true) (n:=24) (by kernel_rfl) (by kernel_rfl) b r o
theorem Xr(b r o:Nat):fa Tryz.prog 80 (some (.ptr b r o)) 0=some (.ret (.ptr b r (o+0)),[]):=Uo (show Ui Tryz.prog 80 0 0 1 from⟨_,_,Tryz.underlying80,rfl,rfl,by kernel_rfl,by decide⟩) b r o
theorem acW(h:Qa)(b r o:Nat)(v:AV):st_ Tryz.prog 78 h (some (.ptr b r o)) (some v)=sv 1 (h[b]?) b r o (Qg v):=Yi (by kernel_rfl) h b r o v
theorem Xs(h:Qa)(b r o:Nat):ld Tryz.prog 80 h (some (.ptr b r o))=ldR (Yz (h[b]?) r) o 2:=vY ⟨by kernel_rfl,by kernel_rfl⟩ h b r o
theorem al0(b r o:Nat):ftL Tryz.prog 80 (some (.ptr b r o))=some [.cells b o 2]:=Zn (isA:=true) (n:=2) (by kernel_rfl) (by kernel_rfl) b r o
theorem eC{O:Ue}(t:List AV)(h:Qa)(s x:Operand):Td O Tryz.prog t h (.call ⟨.builtin .append,#[s,x],#[50,50]⟩)=apO Tryz.prog 50 h (Qe t s) (Qe t x):=xE t h s x 50 50 _ Tryz.underlying50
theorem qI(h:Qa)(s:AV)(a b r l:Nat):apO Tryz.prog 50 h (some s) (some (.slr a b r l))=apK 1 h (some s) (srK 1 h (some (.slr a b r l))):=sJ (e:=3) (b:=8) (z:=.int .i64 0) (by kernel_rfl) (by kernel_rfl) (by kernel_rfl) (by kernel_rfl) (by decide+kernel) h s _ (fun q e=>by cases e)
theorem amP(h:Qa)(s:AV)  :apO Tryz.prog 50 h (some s) (some .nils)=apK 1 h (some s) (srK 1 h (some .nils)):=sJ (e:=3) (b:=8) (z:=.int .i64 0) (by kernel_rfl) (by kernel_rfl) (by kernel_rfl) (by kernel_rfl) (by decide+kernel) h s _ (fun q e=>by cases e)
theorem aX(b r o:Nat):fa Tryz.prog 46 (some (.ptr b r o)) 6=some (.ret (.ptr b r (o+6)),[]):=Uo (show Ui Tryz.prog 46 6 6 1 from⟨_,_,Tryz.underlying46,rfl,rfl,by kernel_rfl,by decide⟩) b r o
theorem aaF(st b r len:Nat):ln Tryz.prog 50 (some (.slr st b r len))=some (.ret (.int .i64 len),[]):=xA (n:=1) ⟨_,Tryz.underlying50,by kernel_rfl⟩ st b r len
theorem ao4:ln Tryz.prog 50 (some .nils)=some (.ret (.int .i64 0),[]):=abC (n:=1) ⟨_,Tryz.underlying50,by kernel_rfl⟩
theorem asF:Vi Tryz.prog 50=some (.nils):=by kernel_rfl
theorem al5(base len:Nat)(ps:List (Nat × AV)):rD (Rn Tryz.prog base 62 len ps)=bsK 1 (.nils) base len ps:=apF (e:=50) (by kernel_rfl) (by kernel_rfl) (by kernel_rfl) base len ps
theorem xY{O:Ue}(t:List AV)(h:Qa)(s x:Operand):Td O Tryz.prog t h (.call ⟨.builtin .append,#[s,x],#[62,62]⟩)=apO Tryz.prog 62 h (Qe t s) (Qe t x):=xE t h s x 62 62 _ Tryz.underlying62
theorem aoT(h:Qa)(s:AV)(a b r l:Nat):apO Tryz.prog 62 h (some s) (some (.slr a b r l))=apK 1 h (some s) (srK 1 h (some (.slr a b r l))):=sJ (e:=50) (b:=24) (z:=.nils) (by kernel_rfl) (by kernel_rfl) (by kernel_rfl) (by kernel_rfl) (by decide+kernel) h s _ (fun q e=>by cases e)
theorem ab2(b r o:Nat):fa Tryz.prog 106 (some (.ptr b r o)) 1=some (.ret (.ptr b r (o+3)),[]):=Uo (show Ui Tryz.prog 106 1 3 1 from⟨_,_,Tryz.underlying106,rfl,rfl,by kernel_rfl,by decide⟩) b r o
theorem aiU(ps:List (Nat × AV)):eI Tryz.prog 106 ps=(Za (fun i=>([(0,3),(3,1)]:List (Nat × Nat))[i]?) (Qg (.agg [.int .i64 0,.int .i64 0,.nils,.int .i64 0])) ps).map .agg:=by kernel_rfl
theorem vP(h:Qa)(cs:List AV):ld Tryz.prog 75 h (some (.iptr cs))=if 3≤cs.length then some (.ret (.agg (cs.take 3)),[])else none:=ajV ⟨by kernel_rfl,by kernel_rfl⟩ h cs
theorem aqE(h:Qa)(b r o:Nat)(v:AV):st_ Tryz.prog 75 h (some (.ptr b r o)) (some v)=sv 3 (h[b]?) b r o (Qg v):=Yi (by kernel_rfl) h b r o v
theorem Zi(b r o:Nat):fa Tryz.prog 80 (some (.ptr b r o)) 1=some (.ret (.ptr b r (o+1)),[]):=Uo (show Ui Tryz.prog 80 1 1 1 from⟨_,_,Tryz.underlying80,rfl,rfl,by kernel_rfl,by decide⟩) b r o
theorem zD(base len:Nat)(ps:List (Nat × AV)):rD (Rn Tryz.prog base 92 len ps)=bsK 25 (.agg [.int .i64 0,.bool false,.int .i64 0,.bool false,.int .i64 0,.bool false,.int .i64 0,.bool false,.int .i64 0,.bool false,.int .i64 0,.bool false,.int .i64 0,.bool false,.int .i64 0,.bool false,.int .i64 0,.bool false,.int .i64 0,.bool false,.int .i64 0,.bool false,.int .i64 0,.bool false,.int .i64 0]) base len ps:=apF (e:=85) (by kernel_rfl) (by kernel_rfl) (by kernel_rfl) base len ps
theorem anF(st b r len:Nat):ln Tryz.prog 92 (some (.slr st b r len))=some (.ret (.int .i64 len),[]):=xA (n:=25) ⟨_,Tryz.underlying92,by kernel_rfl⟩ st b r len
theorem alO(fl nn:Bool)(rows:List (List AV)):ln Tryz.prog 92 (some (Rh 25 fl nn rows))=some (.ret (.int .i64 rows.length),[]):=abD ⟨_,Tryz.underlying92,by kernel_rfl⟩ fl nn rows
theorem amS(b r len:Nat)(k:IntKind)(i:Int):ia Tryz.prog 92 (some (.slr 25 b r len)) (some (.int k i))=if 0≤i∧i<len then some (.ret (.ptr b (r+i.toNat) 0),[])else none:=qK ⟨_,Tryz.underlying92,by kernel_rfl⟩ b r len k i
theorem an6(fl nn:Bool)(rows:List (List AV))(k:IntKind)(i:Int):ia Tryz.prog 92 (some (Rh 25 fl nn rows)) (some (.int k i))=if 0≤i then r1 ((rows[i.toNat]?).map .iptr)else none:=xO ⟨_,Tryz.underlying92,by kernel_rfl⟩ fl nn rows k i
theorem alF(st b r len:Nat):ln Tryz.prog 91 (some (.slr st b r len))=some (.ret (.int .i64 len),[]):=xA (n:=4) ⟨_,Tryz.underlying91,by kernel_rfl⟩ st b r len
theorem alN:ln Tryz.prog 91 (some .nils)=some (.ret (.int .i64 0),[]):=abC (n:=4) ⟨_,Tryz.underlying91,by kernel_rfl⟩
theorem zX(fl nn:Bool)(rows:List (List AV)):ln Tryz.prog 91 (some (Rh 4 fl nn rows))=some (.ret (.int .i64 rows.length),[]):=abD ⟨_,Tryz.underlying91,by kernel_rfl⟩ fl nn rows
theorem cY(h:Qa)(b r o:Nat):ld Tryz.prog 94 h (some (.ptr b r o))=ldR (Yz (h[b]?) r) o 4:=vY ⟨by kernel_rfl,by kernel_rfl⟩ h b r o
theorem vD(h:Qa)(cs:List AV):ld Tryz.prog 94 h (some (.iptr cs))=if 4≤cs.length then some (.ret (.agg (cs.take 4)),[])else none:=ajV ⟨by kernel_rfl,by kernel_rfl⟩ h cs
theorem uL:Vi Tryz.prog 94=some (.agg [.int .i64 0,.int .i64 0,.int .i64 0,.nils]):=by kernel_rfl
theorem tR(h:Qa)(b r o:Nat)(v:AV):st_ Tryz.prog 94 h (some (.ptr b r o)) (some v)=sv 4 (h[b]?) b r o (Qg v):=Yi (by kernel_rfl) h b r o v
theorem apG(b r o:Nat):ftS Tryz.prog 94 (some (.ptr b r o))=some [.cells b o 4]:=gA (by kernel_rfl) b r o
theorem iK(b r o:Nat):fa Tryz.prog 94 (some (.ptr b r o)) 2=some (.ret (.ptr b r (o+3)),[]):=Uo (show Ui Tryz.prog 94 2 3 1 from⟨_,_,Tryz.underlying94,rfl,rfl,by kernel_rfl,by decide⟩) b r o
theorem mI(h:Qa)(b r o:Nat):ld Tryz.prog 92 h (some (.ptr b r o))=ldC (Yz (h[b]?) r) o:=lM ⟨by kernel_rfl,1,by kernel_rfl⟩ h b r o
theorem alJ(b r o:Nat):ftL Tryz.prog 92 (some (.ptr b r o))=some [.cells b o 1]:=Zn (isA:=false) (n:=1) (by kernel_rfl) (by kernel_rfl) b r o
theorem lI{O:Ue}(t:List AV)(h:Qa)(s x:Operand):Td O Tryz.prog t h (.call ⟨.builtin .append,#[s,x],#[92,92]⟩)=apO Tryz.prog 92 h (Qe t s) (Qe t x):=xE t h s x 92 92 _ Tryz.underlying92
theorem zC(h:Qa)(s:AV)(a b r l:Nat):apO Tryz.prog 92 h (some s) (some (.slr a b r l))=apK 25 h (some s) (srK 25 h (some (.slr a b r l))):=sJ (e:=85) (b:=200) (z:=.agg [.int .i64 0,.bool false,.int .i64 0,.bool false,.int .i64 0,.bool false,.int .i64 0,.bool false,.int .i64 0,.bool false,.int .i64 0,.bool false,.int .i64 0,.bool false,.int .i64 0,.bool false,.int .i64 0,.bool false,.int .i64 0,.bool false,.int .i64 0,.bool false,.int .i64 0,.bool false,.int .i64 0]) (by kernel_rfl) (by kernel_rfl) (by kernel_rfl) (by kernel_rfl) (by decide+kernel) h s _ (fun q e=>by cases e)
theorem sG(b r o:Nat):fa Tryz.prog 85 (some (.ptr b r o)) 0=some (.ret (.ptr b r (o+0)),[]):=Uo (show Ui Tryz.prog 85 0 0 24 from⟨_,_,Tryz.underlying85,rfl,rfl,by kernel_rfl,by decide⟩) b r o
theorem adE(b r o:Nat):fa Tryz.prog 94 (some (.ptr b r o)) 1=some (.ret (.ptr b r (o+2)),[]):=Uo (show Ui Tryz.prog 94 1 2 1 from⟨_,_,Tryz.underlying94,rfl,rfl,by kernel_rfl,by decide⟩) b r o
theorem yX(base:Nat)(l c:Option AV):msO Tryz.prog 50 base l c=msK 1 (.int .i64 0) base l c:=biL (e:=3) (n:=1) (b:=8) (by kernel_rfl) (by kernel_rfl) (by kernel_rfl) (by kernel_rfl) (by decide+kernel) base l c
theorem ahO(base len:Nat)(ps:List (Nat × AV)):rD (Rn Tryz.prog base 100 len ps)=bsK 2 (.agg [.int .i64 0,.int .i64 0]) base len ps:=apF (e:=36) (by kernel_rfl) (by kernel_rfl) (by kernel_rfl) base len ps
theorem sO{O:Ue}(t:List AV)(h:Qa)(s x:Operand):Td O Tryz.prog t h (.call ⟨.builtin .append,#[s,x],#[100,100]⟩)=apO Tryz.prog 100 h (Qe t s) (Qe t x):=xE t h s x 100 100 _ Tryz.underlying100
theorem ah1(h:Qa)(s:AV)(a b r l:Nat):apO Tryz.prog 100 h (some s) (some (.slr a b r l))=apK 2 h (some s) (srK 2 h (some (.slr a b r l))):=sJ (e:=36) (b:=16) (z:=.agg [.int .i64 0,.int .i64 0]) (by kernel_rfl) (by kernel_rfl) (by kernel_rfl) (by kernel_rfl) (by decide+kernel) h s _ (fun q e=>by cases e)
theorem cI(h:Qa)(b r o:Nat):ld Tryz.prog 78 h (some (.ptr b r o))=ldC (Yz (h[b]?) r) o:=lM ⟨by kernel_rfl,1,by kernel_rfl⟩ h b r o
theorem nA(h:Qa)(b r o:Nat)(v:AV):st_ Tryz.prog 50 h (some (.ptr b r o)) (some v)=sv 1 (h[b]?) b r o (Qg v):=Yi (by kernel_rfl) h b r o v
theorem ahM(ps:List (Nat × AV)):eI Tryz.prog 128 ps=(Za (fun i=>([(0,1)]:List (Nat × Nat))[i]?) (Qg (.agg [.nils])) ps).map .agg:=by kernel_rfl
theorem amH:Vi Tryz.prog 126=some (.nilp):=by kernel_rfl
theorem aoA(h:Qa)(b r o:Nat)(v:AV):st_ Tryz.prog 126 h (some (.ptr b r o)) (some v)=sv 1 (h[b]?) b r o (Qg v):=Yi (by kernel_rfl) h b r o v
theorem agF(h:Qa)(b r o:Nat):ld Tryz.prog 126 h (some (.ptr b r o))=ldC (Yz (h[b]?) r) o:=lM ⟨by kernel_rfl,1,by kernel_rfl⟩ h b r o
theorem adG(b r o:Nat):fa Tryz.prog 85 (some (.ptr b r o)) 1=some (.ret (.ptr b r (o+24)),[]):=Uo (show Ui Tryz.prog 85 1 24 1 from⟨_,_,Tryz.underlying85,rfl,rfl,by kernel_rfl,by decide⟩) b r o
theorem an8(ps:List (Nat × AV)):eI Tryz.prog 94 ps=(Za (fun i=>([(0,2),(2,1),(3,1)]:List (Nat × Nat))[i]?) (Qg (.agg [.int .i64 0,.int .i64 0,.int .i64 0,.nils])) ps).map .agg:=by kernel_rfl
theorem as0(h:Qa)(b r o:Nat)(v:AV):st_ Tryz.prog 92 h (some (.ptr b r o)) (some v)=sv 1 (h[b]?) b r o (Qg v):=Yi (by kernel_rfl) h b r o v
theorem an3(b r o:Nat):ftS Tryz.prog 92 (some (.ptr b r o))=some [.cells b o 1]:=gA (by kernel_rfl) b r o
theorem al1(base len:Nat)(ps:List (Nat × AV)):rD (Rn Tryz.prog base 91 len ps)=bsK 4 (.agg [.int .i64 0,.int .i64 0,.int .i64 0,.nils]) base len ps:=apF (e:=94) (by kernel_rfl) (by kernel_rfl) (by kernel_rfl) base len ps
theorem yG{O:Ue}(t:List AV)(h:Qa)(s x:Operand):Td O Tryz.prog t h (.call ⟨.builtin .append,#[s,x],#[91,91]⟩)=apO Tryz.prog 91 h (Qe t s) (Qe t x):=xE t h s x 91 91 _ Tryz.underlying91
theorem ao7(h:Qa)(s:AV)(a b r l:Nat):apO Tryz.prog 91 h (some s) (some (.slr a b r l))=apK 4 h (some s) (srK 4 h (some (.slr a b r l))):=sJ (e:=94) (b:=48) (z:=.agg [.int .i64 0,.int .i64 0,.int .i64 0,.nils]) (by kernel_rfl) (by kernel_rfl) (by kernel_rfl) (by kernel_rfl) (by decide+kernel) h s _ (fun q e=>by cases e)
theorem eR(h:Qa)(b r o:Nat)(v:AV):st_ Tryz.prog 80 h (some (.ptr b r o)) (some v)=sv 2 (h[b]?) b r o (Qg v):=Yi (by kernel_rfl) h b r o v
theorem amO(b r o:Nat):ftS Tryz.prog 80 (some (.ptr b r o))=some [.cells b o 2]:=gA (by kernel_rfl) b r o
theorem fR(b r o:Nat):fa Tryz.prog 128 (some (.ptr b r o)) 0=some (.ret (.ptr b r (o+0)),[]):=Uo (show Ui Tryz.prog 128 0 0 1 from⟨_,_,Tryz.underlying128,rfl,rfl,by kernel_rfl,by decide⟩) b r o
theorem iO:Vi Tryz.prog 80=some (.agg [.int .i64 0,.bool false]):=by kernel_rfl
theorem alW(base len:Nat)(ps:List (Nat × AV)):rD (Rn Tryz.prog base 49 len ps)=bsK 1 (.bool false) base len ps:=apF (e:=4) (by kernel_rfl) (by kernel_rfl) (by kernel_rfl) base len ps
theorem xT{O:Ue}(t:List AV)(h:Qa)(s x:Operand):Td O Tryz.prog t h (.call ⟨.builtin .append,#[s,x],#[49,49]⟩)=apO Tryz.prog 49 h (Qe t s) (Qe t x):=xE t h s x 49 49 _ Tryz.underlying49
theorem am9(h:Qa)(s:AV)(a b r l:Nat):apO Tryz.prog 49 h (some s) (some (.slr a b r l))=apK 1 h (some s) (srK 1 h (some (.slr a b r l))):=sJ (e:=4) (b:=1) (z:=.bool false) (by kernel_rfl) (by kernel_rfl) (by kernel_rfl) (by kernel_rfl) (by decide+kernel) h s _ (fun q e=>by cases e)
theorem kP(ps:List (Nat × AV)):eI Tryz.prog 80 ps=(Za (fun i=>([(0,1),(1,1)]:List (Nat × Nat))[i]?) (Qg (.agg [.int .i64 0,.bool false])) ps).map .agg:=by kernel_rfl
def TY4:=PLift.up (aaB @Uf (aaB @eV (aaB @Qu (aaB @Rb (aaB @Tc (aaB @nV (aaB @pJ (aaB @Xf (aaB @eP @anR)))))))))
def TY9:=PLift.up (aaB @Qu (aaB @Rb @Tc))
def aiX:=PLift.up (aaB @Qu (aaB @Rb (aaB @Tc @Uf)))
def xX:=PLift.up (aaB @Xf (aaB @pT (aaB @nV (aaB @Qu (aaB @Rb (aaB @Tc (aaB @eP (aaB @pJ (aaB @amI (aaB @Uf (aaB @aaA (aaB @uE (aaB @wQ (aaB @fP (aaB @zT (aaB @acN (aaB @aeP (aaB @gP (aaB @zV (aaB @yO @agL))))))))))))))))))))
def aa1:=PLift.up (aaB @Xf (aaB @nV (aaB @Uf (aaB @kZ (aaB @eP (aaB @pJ (aaB @iH (aaB @jI (aaB @aoW (aaB @wN (aaB @vA (aaB @aaE (aaB @aD (aaB @aK @Rm))))))))))))))
def afZ:=PLift.up (aaB @bA (aaB @Rm (aaB @dW (aaB @Qu (aaB @Rb (aaB @Tc (aaB @Vf (aaB @Vn (aaB @aU (aaB @Zo (aaB @iZ (aaB @jM (aaB @Xp (aaB @Wm (aaB @dP (aaB @Zg (aaB @aQ (aaB @iL @jL))))))))))))))))))
def bnH:=PLift.up (aaB @Qu (aaB @Rb @Tc))
def bo0:=PLift.up (aaB @Uf (aaB @iH (aaB @jI (aaB @Qu (aaB @Rb (aaB @lL (aaB @zZ (aaB @afI (aaB @Yv (aaB @yW @Zo))))))))))
def agI:=PLift.up (aaB @eV (aaB @Qu (aaB @Rb (aaB @zO (aaB @kX (aaB @iG (aaB @cE (aaB @Vf (aaB @Yv (aaB @Vn (aaB @aU (aaB @Zo (aaB @alH (aaB @Xp (aaB @Wm (aaB @fF (aaB @aeU @adU)))))))))))))))))
def af6:=PLift.up (aaB @eV (aaB @Uf (aaB @kX (aaB @iG @cE))))
def blT:=PLift.up (aaB @Uf (aaB @kZ @aiU))
def agM:=PLift.up (aaB @eV (aaB @kX (aaB @vP (aaB @arE (aaB @aqE (aaB @rG (aaB @iG (aaB @Rm (aaB @cE (aaB @Qu (aaB @Rb @Tc)))))))))))
def aqM:=PLift.up (aaB @eV (aaB @kX @vP))
def aM0:=PLift.up (aaB @aG (aaB @wA (aaB @Xx (aaB @Qu (aaB @Rb (aaB @Tc (aaB @Vf (aaB @Vn (aaB @aU (aaB @Zo (aaB @Xp (aaB @Wm (aaB @Zi (aaB @tJ (aaB @aX (aaB @Xr (aaB @acW (aaB @ab2 (aaB @Rm (aaB @Zg (aaB @aQ @vV)))))))))))))))))))))
def Zl:=PLift.up (aaB @fP (aaB @zT (aaB @uE (aaB @zD (aaB @acN (aaB @aeP (aaB @anF (aaB @amS (aaB @wQ (aaB @alF (aaB @alN (aaB @yO (aaB @cY (aaB @uL (aaB @tR (aaB @iK (aaB @mI (aaB @gP (aaB @zV (aaB @lI (aaB @zC (aaB @sG @aG))))))))))))))))))))))
def anH:=PLift.up (aaB @zX (aaB @zK @vD))
def bnD:=PLift.up (aaB @cY (aaB @gP @fP))
def aKY:=PLift.up (aaB @iK (aaB @mI (aaB @alO (aaB @an6 (aaB @fP (aaB @aiE (aaB @uE (aaB @wQ (aaB @adE @Rm)))))))))
def Zk:=PLift.up (aaB @Qu (aaB @Rb (aaB @alR (aaB @yX (aaB @aK (aaB @nG (aaB @Uf (aaB @iH (aaB @jI (aaB @al5 (aaB @xY (aaB @aoT (aaB @aaE (aaB @aD (aaB @Rm (aaB @wN (aaB @vA @Xf)))))))))))))))))
def ar0:=PLift.up (aaB @Uf (aaB @iH (aaB @jI (aaB @Qu (aaB @Rb (aaB @zO (aaB @lL (aaB @zZ (aaB @afI (aaB @al3 (aaB @yW (aaB @Xp (aaB @tJ (aaB @aX (aaB @Zg (aaB @nG (aaB @arU @aQ)))))))))))))))))
def atV:=PLift.up (aaB @Qu (aaB @Rb (aaB @Tc (aaB @Vf (aaB @Vn (aaB @jN @fF))))))
def adB:=PLift.up (aaB @Qu (aaB @Rb (aaB @Tc (aaB @eP (aaB @ahO (aaB @sO @ah1))))))
def yI:=PLift.up (aaB @Uf (aaB @kZ (aaB @Xf (aaB @pT (aaB @amA (aaB @ahW (aaB @anB (aaB @cE (aaB @Xh @Yu)))))))))
def biE:=PLift.up (aaB @aG (aaB @aK (aaB @Rm (aaB @Xx (aaB @Qu (aaB @Rb @Tc))))))
def boH:=PLift.up (aaB @aX (aaB @Wm (aaB @Zg (aaB @Rm @aQ))))
def bnI:=PLift.up (aaB @Xr (aaB @cI (aaB @Zi @Wm)))
def aAV:=PLift.up (aaB @dP (aaB @Wm (aaB @Zi (aaB @Xr @cI))))
def a1M:=PLift.up (aaB @Xx (aaB @dW (aaB @Rm (aaB @aG (aaB @Xh (aaB @Yu (aaB @wA (aaB @vV (aaB @Ze (aaB @Xr (aaB @acW @Xf)))))))))))
def bo8:=PLift.up (aaB @iL (aaB @Rm @jL))
def hZ:=PLift.up (aaB @Xx (aaB @bA (aaB @Rm (aaB @ayD (aaB @yX (aaB @asF (aaB @nA (aaB @aD (aaB @aaF (aaB @aK (aaB @nG (aaB @ahM (aaB @amH (aaB @aoA (aaB @agF @Xs)))))))))))))))
def bnM:=PLift.up (aaB @bA (aaB @Rm (aaB @dW (aaB @Qu (aaB @Rb @Tc)))))
def wE:=PLift.up (aaB @Xx (aaB @Qu (aaB @Rb (aaB @Tc (aaB @Vf (aaB @Yv (aaB @Vn (aaB @apD (aaB @aU (aaB @Zo (aaB @eP (aaB @nV (aaB @pJ (aaB @sG (aaB @Xs (aaB @aG (aaB @amF (aaB @Xf (aaB @pT (aaB @adG (aaB @Rm (aaB @aeL (aaB @aaA (aaB @zD (aaB @an8 (aaB @uL (aaB @tR (aaB @apG (aaB @iK (aaB @mI (aaB @alJ (aaB @lI (aaB @zC (aaB @as0 (aaB @an3 (aaB @cY (aaB @al1 (aaB @yG @ao7))))))))))))))))))))))))))))))))))))))
def azY:=PLift.up (aaB @zX (aaB @zK (aaB @cY (aaB @vD (aaB @uL @tR)))))
def boA:=PLift.up (aaB @cY @gP)
def ahA:=PLift.up (aaB @Qu (aaB @Rb (aaB @Tc (aaB @Vf (aaB @jN (aaB @fF @afB))))))
def ayK:=PLift.up (aaB @Qu (aaB @Rb (aaB @Ze (aaB @Rm (aaB @Vf (aaB @Yv (aaB @Vn (aaB @aU (aaB @Zo (aaB @Xh (aaB @Yu (aaB @dP (aaB @Wm @Xp)))))))))))))
def ar2:=PLift.up (aaB @dW (aaB @Rm (aaB @Uf (aaB @Xh (aaB @Yu (aaB @Qu (aaB @Rb (aaB @Ze (aaB @aoJ (aaB @Yv (aaB @Vn (aaB @aU (aaB @Zo (aaB @aX (aaB @tJ @Xf)))))))))))))))
def avB:=PLift.up (aaB @Uf (aaB @iH (aaB @Qu (aaB @Rb (aaB @Ze (aaB @Rm (aaB @Vf (aaB @Yv (aaB @Vn (aaB @aU (aaB @Zo (aaB @Xh (aaB @Yu (aaB @Xp (aaB @tJ (aaB @Zg (aaB @nG (aaB @aX @jI))))))))))))))))))
def boM:=PLift.up (aaB @Xh (aaB @Yu (aaB @Qu (aaB @Rb (aaB @Ze (aaB @Rm (aaB @cE (aaB @Vf (aaB @af1 @af2)))))))))
def az6:=PLift.up (aaB @aG (aaB @wA (aaB @Ze (aaB @Rm (aaB @aeL (aaB @Xh (aaB @Yu (aaB @alI (aaB @Xs (aaB @al0 (aaB @eR (aaB @amO @vV))))))))))))
def aEZ:=PLift.up (aaB @fR (aaB @aD (aaB @qW (aaB @eC (aaB @qI @nA)))))
def aC4:=PLift.up (aaB @fR (aaB @aD (aaB @aaF (aaB @ao4 (aaB @aK (aaB @Rm @nA))))))
def alM:=PLift.up (aaB @qW (aaB @fR (aaB @aD (aaB @eC (aaB @qI (aaB @amP @nA))))))
def bnE:=PLift.up (aaB @Yv (aaB @bA @Rm))
def boE:=PLift.up (aaB @iZ (aaB @Rm (aaB @jM (aaB @dP (aaB @Wm (aaB @Xp (aaB @Zg (aaB @aQ (aaB @iL @jL)))))))))
def ayH:=PLift.up (aaB @rG (aaB @Rm (aaB @Xs (aaB @iO (aaB @eR (aaB @Zi (aaB @Wm (aaB @afS (aaB @ad5 (aaB @Xr @cI))))))))))
def boX:=PLift.up (aaB @Uf @kZ)
def amC:=PLift.up (aaB @ahF (aaB @Xx (aaB @Qu (aaB @Rb (aaB @Tc (aaB @Vf (aaB @Vn (aaB @aU (aaB @Zo (aaB @Rm (aaB @iZ @jM)))))))))))
def agJ:=PLift.up (aaB @Tc (aaB @Vf @Vn))
def aTY:=PLift.up (aaB @Uf (aaB @aK (aaB @Rm (aaB @Qu (aaB @Rb @Tc)))))
def acO:=PLift.up (aaB @Qu (aaB @Rb (aaB @Tc (aaB @Vf (aaB @Vn (aaB @jN (aaB @fF (aaB @alW (aaB @xT @am9)))))))))
def biY:=PLift.up (aaB @Xs (aaB @iO (aaB @Xr (aaB @cI (aaB @kP @eR)))))
def bmI:=PLift.up (aaB @Xs (aaB @iO (aaB @Xr (aaB @cI (aaB @kP @eR)))))
def bmN:=PLift.up (aaB @Xs (aaB @iO (aaB @Zi (aaB @Wm (aaB @kP @eR)))))
def bmK:=PLift.up (aaB @Xs (aaB @iO (aaB @Zi (aaB @Wm (aaB @kP @eR)))))
def iJ:=PLift.up (aaB @qW (aaB @bA (aaB @Rm (aaB @cE (aaB @eC (aaB @qI (aaB @Qu (aaB @Rb (aaB @Tc (aaB @Vf (aaB @adJ (aaB @afE (aaB @anS (aaB @fF (aaB @aK @nG)))))))))))))))
end Go.Proofs.YtcncggaobhbomaaGreatDoor
namespace Go.Proofs.YtcncggaobhbomaaGreatDoor
open Go Go.Ev Go.ChangeShapes Go.WideShapes Go.ChangeAt Go.RowKit
set_option maxRecDepth 100000
set_option maxHeartbeats 16000000
def mdL:List Nat:=[60,75,79,76,80,65,41]
def pr:aW:=aaW 63 86 60 (mdL.contains ·)
noncomputable def Ub:Ue:=om Tryz.prog pr
theorem blD(f:Nat):Ub.md f=([60,75,79,76,80,65,41]:List Nat).contains f:=Eq.trans rfl rfl
def Va:=PLift.up (aaB EE.down EVu.down)
def Vc:=PLift.up (aaB EG.down (aaB EVu.down @blD))
theorem own:ownKnob Tryz.prog.godebug=none:=by kernel_rfl
theorem aAI:amR Tryz.prog:=fun f fn hf=>by
 have h:(Tryz.prog.funcs.toList.all fun fn=> !(fn.name== "runtime.NumGoroutine"))=true:=by kernel_rfl
 have:=List.all_eq_true.1 h fn (by rw[Array.mem_toList_iff];exact Array.mem_of_getElem? hf)
 simpa using this
theorem mixed:Tryz.prog.follows .mixedOrders=true:=by kernel_rfl
theorem aQD:laidOutB Tryz.prog=true:=by kernel_rfl
def laid:List (String × DataW Unit):=[("math/bits.deBruijn32tab",Rows.laid_math_bits_deBruijn32tab),("math/bits.deBruijn64tab",Rows.laid_math_bits_deBruijn64tab),("internal/strconv.uint64pow10",Rows.laid_internal_strconv_uint64pow10)]
theorem blS:Tryz.prog.globalNamed "internal/strconv.uint64pow10" =some 0:=by kernel_rfl
theorem tab{W:World}(h:laidMetH Tryz.prog laid W):Lib.TabIs Tryz.prog W "internal/strconv.uint64pow10" .u64 Lib.pow10Tab:=by
 rw[MakeChecks.laidMetH_plain _ _ _ (by kernel_rfl)]at h
 obtain⟨ps,h,_⟩:=h
 exact pN (t:=192) (e:=158) (n:=20) blS (by kernel_rfl) (by kernel_rfl) (by kernel_rfl) (by kernel_rfl) (by kernel_rfl) h (by
  have e:(Lib.tabData .u64 Lib.pow10Tab:DataW Unit)=Rows.laid_internal_strconv_uint64pow10:=rfl
  rw[e];simp[laid])
theorem aqY{W:World}(h:laidMetH Tryz.prog laid W):Vy Tryz.prog (atA W 0) Ub:=
 bmH aAI (apB (ayT (wT aAI Tryz.func63 rfl) (auZ blS (tab h)) (fun n w h0 h1 ht=>Tryz.strconv_Itoa n h0 h1 w ht)) (aJI (wT aAI Tryz.func86 rfl) Tryz.strings_Join_none Tryz.strings_Join) (aM7 (wT aAI Tryz.func60 rfl) Tryz.slices_Sort_int)) mixed
theorem ap8(os:Os)(args:Array Value):laidMetH Tryz.prog laid ((World.doorLaid Tryz.prog 400 os).forCall (fun _ _=>0) ⟨#[],args,[]⟩).memory:=
 laidMetH_of_parts3 (fuel:=8) (laidMet_of_run' 8 (by kernel_rfl) (by kernel_rfl)) (by kernel_rfl) (by kernel_rfl)
theorem aAE{f:Nat}{fn:Func}{c:Code}{args:List AV}{h:Qa}{Q:Tz→Qa→Prop}(hp:pr f=none)(hf:Tryz.prog.funcs[f]?=some fn)(hb:fn.body=some c)(hl:aeN args.length fn.ntmps=true)
 (he:FnE Tryz.prog h.length fn.results.toList Q (Sm Ub Tryz.prog 5000 c [] ⟨mk fn.ntmps (bF args),h⟩)):ClQ Ub f args h Q:=ClQ.start (pr:=pr) hp hf hb hl he
theorem aiM{f:Nat}{fn:Func}{c:Code}{args:List AV}{h:Qa}{Q:Tz→Qa→Prop}(hp:pr f=none)(hf:Tryz.prog.funcs[f]?=some fn)(hb:fn.body=some c)(hl:aeN args.length fn.ntmps=true)
 (he:FnS Tryz.prog fn.results.toList Q (Sm Ub Tryz.prog 5000 c [] ⟨mk fn.ntmps (bF args),h⟩))  (hs:pr.sh f=none:=by exact rfl):ShQ Ub f args h Q:=ShQ.start (pr:=pr) hp hf hb hl he hs
theorem ce{f:Nat}{fn:Func}{c:Code}{args:List AV}{h:Qa}{o:Tz}{h':Qa}(hf:Tryz.prog.funcs[f]?=some fn)(he:FnE Tryz.prog h.length fn.results.toList (fun o1 h1=>(o1,h1)=(o,h')) (Sm Ub Tryz.prog 5000 c [] ⟨mk fn.ntmps (bF args),h⟩))(hp:pr f=none:=by exact rfl)(hb:fn.body=some c:=by exact rfl)(hl:aeN args.length fn.ntmps=true:=by exact rfl):Ub.call (.fn f) args h=some (o,h'):=(aAE hp hf hb hl he).eq
theorem csh{f:Nat}{fn:Func}{c:Code}{args:List AV}{h:Qa}{o:Tz}{h':Qa}(hf:Tryz.prog.funcs[f]?=some fn)(he:FnS Tryz.prog fn.results.toList (fun o1 h1=>(o1,h1)=(o,h')) (Sm Ub Tryz.prog 5000 c [] ⟨mk fn.ntmps (bF args),h⟩))(hp:pr f=none:=by exact rfl)(hb:fn.body=some c:=by exact rfl)(hl:aeN args.length fn.ntmps=true:=by exact rfl)(hs:pr.sh f=none:=by exact rfl):Ub.call (.sh f) args h=some (o,h'):=(aiM hp hf hb hl he hs).eq
theorem lst{α σ ρ:Type}{c:Code}(N:Nat)(l:List α)(E:Nat→σ→Tm→Qa→Prop)(F:List α→σ→ρ)(Q:ρ→Ex→Tm→Qa→Prop)
 (stop:∀s t h Q',(∀e t h,Q (F [] s) e t h→Q' e ⟨mk N t,h⟩)→E l.length s t h→Rnd N (fun _ _=>False) Q' (Sm Ub Tryz.prog 5000 c [] ⟨mk N t,h⟩))
 (go:∀x rest i s t h J Q',(∀t' h' s',E (i+1) s' t' h'→F rest s'=F (x::rest) s→J t' h')→(∀e t h,Q (F (x::rest) s) e t h→Q' e ⟨mk N t,h⟩)→l[i]?=some x→i<l.length→E i s t h→
   Rnd N J Q' (Sm Ub Tryz.prog 5000 c [] ⟨mk N t,h⟩)):
 ∀s t h,E 0 s t h→LpQ Ub c ⟨mk N t,h⟩ (Ot N (Q (F l s))):=alP (pr:=pr) rfl N l E F Q stop go
theorem cnt{σ ρ:Type}{c:Code}(N:Nat)(E:Nat→σ→Tm→Qa→Prop)(F:Nat→σ→ρ)(Q:ρ→Ex→Tm→Qa→Prop)
 (stop:∀s t h Q',(∀e t h,Q (F 0 s) e t h→Q' e ⟨mk N t,h⟩)→E 0 s t h→Rnd N (fun _ _=>False) Q' (Sm Ub Tryz.prog 5000 c [] ⟨mk N t,h⟩))
 (go:∀n s t h J Q',(∀t' h' s',E n s' t' h'→F n s'=F (n+1) s→J t' h')→(∀e t h,Q (F (n+1) s) e t h→Q' e ⟨mk N t,h⟩)→E (n+1) s t h→Rnd N J Q' (Sm Ub Tryz.prog 5000 c [] ⟨mk N t,h⟩)):
 ∀n s t h,E n s t h→LpQ Ub c ⟨mk N t,h⟩ (Ot N (Q (F n s))):=ar5 (pr:=pr) rfl N E F Q stop go
theorem Qh{h:Qa}{b:Nat}{c:CB}(h0:h[b]?=some c)(l:Qa):(h++l)[b]?=some c:=by
 rw[ag0 (abV.1 h0).1];exact h0
end Go.Proofs.YtcncggaobhbomaaGreatDoor
namespace Go.Proofs.YtcncggaobhbomaaGreatDoor
open Go.Ev Go
set_option maxRecDepth 100000
set_option maxHeartbeats 16000000
structure Qb where
 one:Int
 other:Int
 valve:Bool
 opn:Bool
 tested:Int
 valid:Int
 bad:Bool
 test:Int
 change:Int
def Qb.cells(p:Qb):List AV:=[.int .i64 p.one,.int .i64 p.other,.bool p.valve,.bool p.opn,.int .i64 p.tested,.int .i64 p.valid,.bool p.bad,.int .i64 p.test,.int .i64 p.change]
structure Qf where
 rooms:Int
 need:Int
 nn:Bool
 parts:List Qb
abbrev Qf.cells(w:Qf):List AV:=[.int .i64 w.rooms,.int .i64 w.need,Rh 9 true w.nn (w.parts.map Qb.cells)]
theorem aaP{α:Type}{f:α→List AV}{p:List AV→Prop}{q:α→Prop}(hf:∀r,p r→∃x,r=f x∧q x):∀{rows:List (List AV)},(∀r∈rows,p r)→∃l:List α,rows=l.map f∧∀x∈l,q x
 | [],_=>⟨[],rfl,fun x hx=>by simp at hx⟩
 |r::rows,h=>by
  obtain⟨x,rfl,hx⟩:=hf r (h r (List.mem_cons_self ..))
  obtain⟨l,rfl,hl⟩:=aaP hf (fun r hr=>h r (List.mem_cons_of_mem _ hr))
  exact⟨x::l,rfl,fun y hy=>by
   rcases List.mem_cons.1 hy with rfl|hy
   ·exact hx
   ·exact hl y hy⟩
def i64(n:Int):Prop:= -9223372036854775808≤n∧n≤9223372036854775807
theorem eA{n:Nat}{r:List AV}(h:Ty Tryz.prog (n+1) 3 r):∃x,r=[.int .i64 x]∧i64 x:=by
 simp only[Ty,Tryz.underlying3]at h
 obtain⟨x,rfl,h1,h2⟩:=h
 exact⟨x,rfl,h1,h2⟩
theorem oC{n:Nat}{r:List AV}(h:Ty Tryz.prog (n+1) 4 r):∃x,r=[.bool x]:=by
 simp only[Ty,Tryz.underlying4]at h
 exact h
def Qb.fits(p:Qb):Prop:=i64 p.one∧i64 p.other∧i64 p.tested∧i64 p.valid∧i64 p.test∧i64 p.change
theorem aIS{n:Nat}{r:List AV}(h:Ty Tryz.prog (n+2) 46 r):∃x:Qb,r=x.cells∧x.fits:=by
 unfold Ty at h
 simp only[Tryz.underlying46,alU]at h
 obtain⟨a0,b0,rfl,h0,a1,b1,rfl,h1,a2,b2,rfl,h2,a3,b3,rfl,h3,a4,b4,rfl,h4,a5,b5,rfl,h5,a6,b6,rfl,h6,a7,b7,rfl,h7,a8,b8,rfl,h8,rfl⟩:=h
 obtain⟨x0,rfl,k0⟩:=eA h0
 obtain⟨x1,rfl,k1⟩:=eA h1
 obtain⟨x2,rfl⟩:=oC h2
 obtain⟨x3,rfl⟩:=oC h3
 obtain⟨x4,rfl,k4⟩:=eA h4
 obtain⟨x5,rfl,k5⟩:=eA h5
 obtain⟨x6,rfl⟩:=oC h6
 obtain⟨x7,rfl,k7⟩:=eA h7
 obtain⟨x8,rfl,k8⟩:=eA h8
 exact⟨⟨x0,x1,x2,x3,x4,x5,x6,x7,x8⟩,rfl,k0,k1,k4,k5,k7,k8⟩
structure Qf.small(w:Qf):Prop where
 parts:w.parts.length≤maxLen
 fits:∀p∈w.parts,p.fits
 rooms:i64 w.rooms
 need:i64 w.need
theorem axZ{n:Nat}{r:List AV}(h:Ty Tryz.prog (n+4) 24 r):∃w:Qf,r=w.cells∧w.small:=by
 unfold Ty at h
 simp only[Tryz.underlying24,alU]at h
 obtain⟨a0,b0,rfl,h0,a1,b1,rfl,h1,a2,b2,rfl,h2,rfl⟩:=h
 obtain⟨x0,rfl,k0⟩:=eA h0
 obtain⟨x1,rfl,k1⟩:=eA h1
 unfold Ty at h2
 simp only[Tryz.underlying22]at h2
 obtain⟨n2,rows2,rfl,hl2,hrows2⟩:=h2
 obtain⟨l2,rfl,hm⟩:=aaP (fun r hr=>aIS hr) hrows2
 have e2:Tryz.prog.cellsOf 46=9:=by kernel_rfl
 have f2:flT Tryz.prog (n+2) 46=true:=by
  simp only[flT,Tryz.underlying46,Tryz.underlying3,Tryz.underlying4];rfl
 rw[e2,f2]
 exact⟨⟨x0,x1,n2,l2⟩,rfl,by simpa using hl2,hm,k0,k1⟩
theorem axU{av:AV}(h:TyV Tryz.prog 7 24 av):∃w:Qf,av=.agg w.cells∧w.small:=by
 unfold TyV at h
 simp only[Tryz.underlying24]at h
 obtain⟨cs,rfl,h⟩:=h
 obtain⟨s,rfl,hs⟩:=axZ h
 exact⟨s,rfl,hs⟩
theorem arT{av:AV}(h:TyV Tryz.prog 7 3 av):∃x,av=.int .i64 x∧i64 x:=by
 unfold TyV at h
 simp only[Tryz.underlying3]at h
 obtain⟨x,hx,hi⟩:=eA h
 simp only[List.cons.injEq,and_true]at hx
 exact⟨x,hx,hi⟩
end Go.Proofs.YtcncggaobhbomaaGreatDoor
namespace Go.Proofs.YtcncggaobhbomaaGreatDoor
open Go.Ev Go Go.Ev.Net
set_option maxRecDepth 100000
set_option maxHeartbeats 16000000
def Yw(x lo hi:Int):Bool:=decide (lo≤x)&&decide (x≤hi)
theorem aaS(x lo hi:Int):Ub.call (.fn 50) [.int .i64 x,.int .i64 lo,.int .i64 hi] []=some (.ret (.bool (Yw x lo hi)),[]):=by
 (refine ce Tryz.func50 ?_;simp only[Tryz.f50];(have hb:=trivial;with_reducible repeat' (first|simp only[hb,Va.down,seval]|refine Qm ?_ ?_<;>intro hb|refine fd ?_|fail)))
 all_goals simp[Yw, *]
theorem pW(x lo hi:Int):Ub.call (.fn 39) [.int .i64 x,.int .i64 lo,.int .i64 hi] []=some (.ret (.bool (Yw x lo hi)),[]):=by
 (refine ce Tryz.func39 ?_;simp only[Tryz.f39];(have hb:=trivial;with_reducible repeat' (first|simp only[hb,Va.down,seval]|refine Qm ?_ ?_<;>intro hb|refine fd ?_|fail)))
 all_goals simp[Yw, *]
def lF(d:Int):Bool:=Yw d 0 5000
theorem aq9(d:Int):Ub.call (.fn 18) [.int .i64 d] []=some (.ret (.bool (lF d)),[]):=by
 (refine ce Tryz.func18 ?_;simp only[Tryz.f18];(have hb:=trivial;with_reducible repeat' (first|simp only[hb,Va.down,seval,aaS]|refine Qm ?_ ?_<;>intro hb|refine fd ?_|fail)))
 rfl
def Qs(p:Qb)(d:Int):Int:=if p.bad=true then 2 else if IntKind.i64.wrap (p.tested+p.valid)<d then 1 else 0
def lW(p:Qb)(d:Int):Bool:=Qs p d==0&& !p.opn
theorem dN(p:Qb)(d:Int):Ub.call (.fn 52) [.agg [.int .i64 p.one,.int .i64 p.other,.bool p.valve,.bool p.opn,.int .i64 p.tested,.int .i64 p.valid,.bool p.bad,.int .i64 p.test,.int .i64 p.change],.int .i64 d] []=some (.ret (.int .i64 (Qs p d)),[]):=by
 (refine ce Tryz.func52 ?_;simp only[Tryz.f52];(have hb:=trivial;with_reducible repeat' (first|simp only[hb,Va.down,seval,boH.down]|refine Qm ?_ ?_<;>intro hb|refine fd ?_|fail)))
 all_goals simp_all[Qs]
def bvv(b:Bool):List AV:=[.bool b]
def Zv(n:Nat):List AV:=[.int .i64 (n:Int)]
def jK(w:Qf)(d:Int):List Bool:=w.parts.map fun p=>lW p d
theorem Ya{h:Qa}{b:Nat}(hb:b<h.length)(l:Qa)(c:CB):(h++l).set b c=h.set b c++l:=List.set_append_left _ _ hb
theorem Qr{h:Qa}{b:Nat}{c:CB}(e:h[b]?=some c):b<h.length:=(abV.1 e).1
theorem Xg{h:Qa}{b:Nat}(c:CB)(l:Qa):(h.set b c++l)[h.length]?=l[0]?:=by
 rw[ag1 (by simp)];simp
theorem Vz{h:Qa}{b:Nat}(c:CB)(l:Qa)(k:Nat):(h.set b c++l)[h.length+k]?=l[k]?:=by
 rw[ag1 (by simp)];simp
theorem tB{h:Qa}{b b':Nat}{x:CB}(c:CB)(hne:b≠b')(hb:h[b']?=some x)(l:Qa):(h.set b c++l)[b']?=some x:=by
 have hlt:b'<h.length:=(abV.1 hb).1
 rw[ag0 (by simpa using hlt),aeQ hne];exact hb
def aUO(v:AV)(i:Nat)(rows:List (List AV))(h:Qa):Prop:=(i=0∧v=.nils)∨(0<i∧∃b,0<b∧v=.slr 1 b 0 i∧h[b]?=some (.live 1 true false rows))
theorem aPZ(w:Qf)(d:Int)(hs:w.parts.length≤1000)(hne:w.parts≠[]):Ub.call (.fn 111) [.agg [.int .i64 w.rooms,.int .i64 w.need,Rh 9 true w.nn (w.parts.map Qb.cells)],.int .i64 d] []=some (.ret (.slr 1 0 0 w.parts.length),[.live 1 true false ((jK w d).map bvv)]):=by
 (refine ce Tryz.func111 ?_;simp only[Tryz.f111];(have hb:=trivial;with_reducible repeat' (first|simp only[hb,Va.down,seval,acO.down,aaM]|refine Qm ?_ ?_<;>intro hb|refine fd ?_|fail)))
 refine Uj (lst 35 w.parts (fun i (zz:List Bool) t h=>t 1=.int .i64 d∧t 2=.ptr 0 0 0∧t 6=.int .i64 i∧(h[0]?=some (.live 3 false false [[.int .i64 w.rooms,.int .i64 w.need,Rh 9 true w.nn (w.parts.map Qb.cells)]])∧zz.length=i∧aUO (t 5) i (zz.map bvv) h)) (fun rest zz=>zz++rest.map (fun p=>lW p d)) (fun r e t h=>e=.exit 0∧aUO (t 5) w.parts.length (r.map bvv) h) ?_ ?_ ([]) _ _ ?_) (fun e t h hk=>?_)
 ·rintro a t h Q' kQ ⟨h1,h2,h6,⟨hA,hp,hc⟩⟩
  (have hb:=trivial;with_reducible repeat' (first|simp only[hb,Va.down,seval,acO.down,h1,h2,h6,ae5,decide_false,hA,aaM]|refine Qm ?_ ?_<;>intro hb|refine fd ?_|fail))
  exact kQ _ _ _ ⟨rfl,by simpa [up]using hc⟩
 ·rintro x rest i a t h J Q' kJ kQ hx hi ⟨h1,h2,h6,⟨hA,hp,hc⟩⟩
  have hd:decide ((i:Int)<(w.parts.length:Int))=true:=decide_eq_true (by omega)
  have hw:=Sl hi (by unfold maxLen;omega)
  have hV:=dN x d
  have htb:lW x d=(Qs x d==0&& !x.opn):=rfl
  have hA1:=Qh hA
  have h0l:0<h.length:=(abV.1 hA).1
  generalize Qs x d=cx at *
  rcases hc with⟨rfl,ho⟩|⟨h0,b,hb0,ho,hb⟩
  ·simp only[Int.natCast_zero]at hd
   obtain rfl:a=[]:=ag2.1 hp
   cases hq:(cx==0)
   all_goals (have hb:=trivial;with_reducible repeat' (first|simp only[hb,Va.down,seval,acO.down,h1,h2,h6,ho,hd,hw,hx,hA,hA1,hV,hq,Qb.cells,aaM]|refine Qm ?_ ?_<;>intro hb|refine fd ?_|fail))
   all_goals (refine Qq (kJ _ _ [lW x d] ⟨?_,?_,?_,⟨hA1 _,rfl,.inr ⟨by omega,h.length+1,by omega,by simp[up],by rw[akO];simp[bvv,htb,hq]⟩⟩⟩ ?_);(simp[up,h1]);(simp[up,h2]);(simp[up]);(simp))
  ·have hbl:b<h.length:=(abV.1 hb).1
   have hB:=Qh hb
   have hS:=Ya hbl
   have hi39:(i+1≤549755813888)=True:=eq_true (by omega)
   cases hq:(cx==0)
   all_goals (have hb:=trivial;with_reducible repeat' (first|simp only[hb,Va.down,seval,acO.down,h1,h2,h6,ho,hd,hw,hx,hA,hA1,hV,hq,Qb.cells,aaM,hB,hS,Xg,Vz,ag5,hp,hi39]|refine Qm ?_ ?_<;>intro hb|refine fd ?_|fail))
   all_goals (refine Qq (kJ _ _ (a++[lW x d]) ⟨?_,?_,?_,⟨tB _ (by omega) hA _,by simp[hp],.inr ⟨by omega,h.length+1,by omega,by simp[up],by rw[Vz];simp[bvv,htb,hq]⟩⟩⟩ ?_);(simp[up,h1]);(simp[up,h2]);(simp[up]);(simp))
 ·exact⟨by simp[up,bF],by simp[up,bF],by simp[up],⟨rfl,rfl,.inl ⟨rfl,by simp[up]⟩⟩⟩
 obtain⟨rfl,⟨hn,ho⟩|⟨hn,b,hb0,ho,hb⟩⟩:=hk
 ·exact(hne (ag2.1 hn)).elim
 ·(with_reducible repeat' (first|simp only[hb,Va.down,seval,acO.down,ho,hb]|refine Qm ?_ ?_<;>intro hb|refine fd ?_|fail))
  rfl
def oO(w:Qf)(ts:List Bool):List Net.Edge:=List.zipWith (fun p t=>(p.one.toNat,p.other.toNat,if t=true then 1 else 0)) w.parts ts
structure mX(w:Qf)(N:Nat):Prop where
 rooms:w.rooms=(N:Int)
 n2:2≤N
 n8:N≤8
 len:w.parts.length≤1000
 ne:w.parts≠[]
 part:∀p∈w.parts,(0≤p.one∧p.one<(N:Int))∧(0≤p.other∧p.other<(N:Int))∧p.one≠p.other
theorem ajZ{w:Qf}{ts:List Bool}{i:Nat}{e:Net.Edge}(h:(oO w ts)[i]?=some e):∃p t,w.parts[i]?=some p∧ts[i]?=some t∧e=(p.one.toNat,p.other.toNat,if t=true then 1 else 0):=by
 unfold oO at h
 rw[List.getElem?_zipWith]at h
 cases h1:w.parts[i]? with
 |none=>simp[h1]at h
 |some p=>
  cases h2:ts[i]? with
  |none=>simp[h1,h2]at h
  |some t=>simp[h1,h2]at h;exact⟨p,t,rfl,rfl,h.symm⟩
theorem qP{w:Qf}{N:Nat}(hw:mX w N)(ts:List Bool):xP (oO w ts) N:=fun a b c h=>by
 obtain⟨i,hi⟩:=List.getElem?_of_mem h
 obtain⟨p,t,h1,_,he⟩:=ajZ hi
 cases he
 have:=hw.part p (aiJ h1)
 refine⟨by omega,by omega,by omega,?_⟩
 split<;>omega
theorem aNR{w:Qf}{ts:List Bool}(h:ts.length=w.parts.length):(oO w ts).length=w.parts.length:=by simp[oO,h]
theorem aaY{d:List Nat}{a:Nat}(h:a<d.length):(d.map Zv)[a]?=some [.int .i64 (d.getD a 0:Nat)]:=by
 rw[ai9,abZ h,afC,abZ h];rfl
theorem avJ{N:Nat}(h:2≤N):Vq N 0 1000=0::ab9 (N-1) 1000:=by
 obtain⟨n,rfl⟩:∃n,N=n+1:=⟨N-1,by omega⟩
 simp[Vq,List.replicate_succ]
theorem avK(x y:Nat):(if(x:Int)<(y:Int)then(x:Int)else(y:Int))=((min y x:Nat):Int):=by split<;>omega
theorem agN{w:Qf}{N:Nat}(hw:mX w N){ts:List Bool}{nn:Bool}(ht:ts.length=w.parts.length):
 ∃f,Ub.call (.fn 128) [.agg [.int .i64 w.rooms,.int .i64 w.need,Rh 9 true w.nn (w.parts.map Qb.cells)],Rh 1 true nn (ts.map bvv)] []=some (.ret (.slr 1 0 0 N),[.live 1 true f ((dD (oO w ts) N (Vq N 0 1000)).map Zv)]):=by
 have key:ClQ Ub 128 [.agg [.int .i64 w.rooms,.int .i64 w.need,Rh 9 true w.nn (w.parts.map Qb.cells)],Rh 1 true nn (ts.map bvv)] [] fun o h'=>∃f,(o,h')=(.ret (.slr 1 0 0 N),[.live 1 true f ((dD (oO w ts) N (Vq N 0 1000)).map Zv)]):=by
  have hr:=hw.rooms
  have n2:=hw.n2
  have n8:=hw.n8
  have hE:=qP hw ts
  have hEl:=aNR ht
  generalize hEE:oO w ts=E at *
  refine aAE rfl Tryz.func128 rfl rfl ?_
  simp only[Tryz.f128]
  simp only[hr]
  (have hb:=trivial;with_reducible repeat' (first|simp only[hb,Va.down,seval,iJ.down,aaM]|refine Qm ?_ ?_<;>intro hb|refine fd ?_|fail))
  refine Uj (lst 80 (ab9 (N-1) ()) (fun i (_:Unit) t h=>t 1=Rh 1 true nn (ts.map bvv)∧t 2=.ptr 0 0 0∧t 6=.int .i64 ((i+1:Nat):Int)∧h[0]?=some (.live 3 false false [[.int .i64 (N:Int),.int .i64 w.need,Rh 9 true w.nn (w.parts.map Qb.cells)]])∧∃b,0<b∧t 5=.slr 1 b 0 (i+1)∧h[b]?=some (.live 1 true false ((0::ab9 i 1000).map Zv))) (fun _ _=>())
   (fun _ e t h=>e=.exit 0∧t 1=Rh 1 true nn (ts.map bvv)∧t 2=.ptr 0 0 0∧h[0]?=some (.live 3 false false [[.int .i64 (N:Int),.int .i64 w.need,Rh 9 true w.nn (w.parts.map Qb.cells)]])∧∃b,0<b∧t 5=.slr 1 b 0 N∧h[b]?=some (.live 1 true false ((Vq N 0 1000).map Zv))) ?_ ?_ () _ _ ?_) (fun e t h hk=>?_)
  ·rintro _ t h Q' kQ ⟨h1,h2,h6,h0,b,hb0,h5,hvb⟩
   rw[acH,show N-1+1=N by omega]at h6 h5
   rw[acH]at hvb
   (have hb:=trivial;with_reducible repeat' (first|simp only[hb,Va.down,seval,iJ.down,h1,h2,h6,h0,h5,ae5,decide_false]|refine Qm ?_ ?_<;>intro hb|refine fd ?_|fail))
   exact kQ _ _ _ ⟨rfl,by simp[up,h1],by simp[up,h2],h0,b,hb0,by simp[up,h5],by rw[avJ n2];exact hvb⟩
  ·rintro x rest i _ t h J Q' kJ kQ hx hi ⟨h1,h2,h6,h0,b,hb0,h5,hvb⟩
   rw[acH]at hi
   have hdd:decide (((i+1:Nat):Int)<(N:Int))=true:=decide_eq_true (by omega)
   have hww:IntKind.i64.wrap (((i+1:Nat):Int)+1)=((i+1+1:Nat):Int):=by rw[Re (by omega) (by omega)];omega
   have hbl:=Qr hvb
   have hB:=Qh hvb
   have hS:=Ya hbl
   have hA1:=Qh h0
   have hi39:(i+1+1≤549755813888)=True:=eq_true (by omega)
   have hlr:((0::ab9 i 1000).map Zv).length=i+1:=by simp
   (have hb:=trivial;with_reducible repeat' (first|simp only[hb,Va.down,seval,iJ.down,h1,h2,h6,h0,h5,hvb,hdd,hww,hB,hS,hA1,hi39,hlr,Xg,Vz,ag5]|refine Qm ?_ ?_<;>intro hb|refine fd ?_|fail))
   exact Qq (kJ _ _ () ⟨by simp[up,h1],by simp[up,h2],by simp[up];omega,tB _ (by omega) h0 _,h.length+1,by omega,by simp[up],by rw[Vz];simp[Zv,List.replicate_succ']⟩ rfl)
  ·exact⟨by simp[up,bF],by simp[up],by simp[up],rfl,1,by omega,by simp[up],rfl⟩
  obtain⟨rfl,h1,h2,h0,b,hb0,h5,hvb⟩:=hk
  (have hb:=trivial;with_reducible repeat' (first|simp only[hb,Va.down,seval,iJ.down,h1,h2,h5]|refine Qm ?_ ?_<;>intro hb|refine fd ?_|fail))
  refine Uj (lst 80 (ab9 N ()) (fun k (_:Unit) t h=>t 1=Rh 1 true nn (ts.map bvv)∧t 2=.ptr 0 0 0∧t 5=.slr 1 b 0 N∧t 7=.int .i64 (k:Int)∧h[0]?=some (.live 3 false false [[.int .i64 (N:Int),.int .i64 w.need,Rh 9 true w.nn (w.parts.map Qb.cells)]])∧∃f,h[b]?=some (.live 1 true f ((dD E k (Vq N 0 1000)).map Zv))) (fun _ _=>())
   (fun _ e t h=>e=.exit 2∧t 5=.slr 1 b 0 N∧∃f,h[b]?=some (.live 1 true f ((dD E N (Vq N 0 1000)).map Zv))) ?_ ?_ () _ _ ?_) (fun e t h hk=>?_)
  ·rintro _ t h Q' kQ ⟨h1,h2,h5,h7,h0,f,hvb⟩
   rw[acH]at h7 hvb
   (have hb:=trivial;with_reducible repeat' (first|simp only[hb,Va.down,seval,iJ.down,h1,h2,h5,h7,h0,ae5,decide_false]|refine Qm ?_ ?_<;>intro hb|refine fd ?_|fail))
   exact kQ _ _ _ ⟨rfl,by simp[up,h5],f,hvb⟩
  ·rintro x rest k _ t h J Q' kJ kQ hx hi ⟨h1,h2,h5,h7,h0,f,hvb⟩
   rw[acH]at hi
   have hdk:decide ((k:Int)<(N:Int))=true:=decide_eq_true (by omega)
   have hwk:IntKind.i64.wrap ((k:Int)+1)=((k+1:Nat):Int):=by rw[Re (by omega) (by omega)];omega
   have hIk:=uK (far:=1000) hE k (abB (E:=E) (N:=N) (s:=0) (far:=1000) (by omega))
   generalize hdk0:dD E k (Vq N 0 1000)=d0 at *
   (have hb:=trivial;with_reducible repeat' (first|simp only[hb,Va.down,seval,iJ.down,h1,h2,h5,h7,h0,hdk]|refine Qm ?_ ?_<;>intro hb|refine fd ?_|fail))
   refine Uj (lst 80 E (fun i (_:Unit) t h=>t 1=Rh 1 true nn (ts.map bvv)∧t 2=.ptr 0 0 0∧t 5=.slr 1 b 0 N∧t 7=.int .i64 (k:Int)∧t 8=.int .i64 (i:Int)∧h[0]?=some (.live 3 false false [[.int .i64 (N:Int),.int .i64 w.need,Rh 9 true w.nn (w.parts.map Qb.cells)]])∧∃f,h[b]?=some (.live 1 true f (((E.take i).foldl fM d0).map Zv))) (fun _ _=>())
    (fun _ e t h=>e=.exit 4∧t 1=Rh 1 true nn (ts.map bvv)∧t 2=.ptr 0 0 0∧t 5=.slr 1 b 0 N∧t 7=.int .i64 (k:Int)∧h[0]?=some (.live 3 false false [[.int .i64 (N:Int),.int .i64 w.need,Rh 9 true w.nn (w.parts.map Qb.cells)]])∧∃f,h[b]?=some (.live 1 true f ((aN0 E d0).map Zv))) ?_ ?_ () _ _ ?_) (fun e t h hk=>?_)
   ·rintro _ t h Q'' kQ ⟨h1,h2,h5,h7,h8,h0,f,hvb⟩
    rw[hEl]at h8
    rw[akD (Nat.le_refl _)]at hvb
    (have hb:=trivial;with_reducible repeat' (first|simp only[hb,Va.down,seval,iJ.down,h1,h2,h5,h8,h0,ae5,decide_false,aaM]|refine Qm ?_ ?_<;>intro hb|refine fd ?_|fail))
    exact kQ _ _ _ ⟨rfl,by simp[up,h1],by simp[up,h2],by simp[up,h5],by simp[up,h7],h0,f,hvb⟩
   ·rintro e rest i _ t h J' Q'' kJ kQ hx hi ⟨h1,h2,h5,h7,h8,h0,f,hvb⟩
    rw[hEl]at hi
    obtain⟨p,tt,hp,htt,he⟩:=ajZ (w:=w) (ts:=ts) (by rw[hEE];exact hx)
    have hpo:=hw.part p (aiJ hp)
    have hdi:decide ((i:Int)<(w.parts.length:Int))=true:=decide_eq_true (by omega)
    have hlen:=hw.len
    have hwi:IntKind.i64.wrap ((i:Int)+1)=((i+1:Nat):Int):=by rw[Re (by omega) (by omega)];omega
    have hI:=aiV (L:=E.take i) (fun e hm=>List.mem_of_mem_take hm) hE hIk
    have htk:(E.take (i+1)).foldl fM d0=fM ((E.take i).foldl fM d0) e:=by rw[List.take_add_one,hx];simp[List.foldl_append]
    generalize hdd0:(E.take i).foldl fM d0=d at *
    have hdl:=hI.len
    have hra:d[p.one.toNat]?=some (d.getD p.one.toNat 0):=by rw[afC,abZ (by omega)];rfl
    have hrb:d[p.other.toNat]?=some (d.getD p.other.toNat 0):=by rw[afC,abZ (by omega)];rfl
    have o1:(0≤p.one)=True:=eq_true hpo.1.1
    have o2:(p.one<(N:Int))=True:=eq_true hpo.1.2
    have o3:(0≤p.other)=True:=eq_true hpo.2.1.1
    have o4:(p.other<(N:Int))=True:=eq_true hpo.2.1.2
    have la:=hI.le p.one.toNat (by omega)
    have lb:=hI.le p.other.toNat (by omega)
    have hab:p.one.toNat≠p.other.toNat:=by have:=hpo.2.2;omega
    have htk2:(E.take (i+1)).foldl fM d0=(d.set p.other.toNat (min (d.getD p.other.toNat 0) (d.getD p.one.toNat 0+if tt=true then 1 else 0))).set p.one.toNat (min (d.getD p.one.toNat 0) (d.getD p.other.toNat 0+if tt=true then 1 else 0)):=by rw[htk,he];rfl
    clear htk
    generalize d.getD p.one.toNat 0=da at *
    generalize d.getD p.other.toNat 0=db at *
    have hrr:∀r,((d.map Zv).set p.other.toNat r)[p.one.toNat]?=some [.int .i64 (da:Nat)]:=fun r=>by rw[aeQ (fun e=>hab e.symm),ai9,hra];rfl
    have hbl:=Qr hvb
    have hsb:∀c,(h.set b c)[b]?=some c:=fun c=>afU hbl
    have hss:∀c c',(h.set b c).set b c'=h.set b c':=fun c c'=>List.set_set ..
    have w0:∀n:Nat,n≤1000→IntKind.i64.wrap ((n:Int)+0)=(n:Int):=fun n hn=>by rw[Re (by omega) (by omega)];omega
    have w1:∀n:Nat,n≤1000→IntKind.i64.wrap ((n:Int)+1)=((n+1:Nat):Int):=fun n hn=>by rw[Re (by omega) (by omega)];omega
    have w0a:=w0 da la
    have w0b:=w0 db lb
    have w1a:=w1 da la
    have w1b:=w1 db lb
    cases tt with
    |false=>
     (have hb:=trivial;with_reducible repeat' (first|simp only[hb,Va.down,seval,iJ.down,h1,h2,h5,h8,h0,hvb,hdi,hwi,hp,htt,hra,hrb,hrr,o1,o2,o3,o4,hsb,hss,w0a,w0b,bvv,Zv,Qb.cells,aaM]|refine Qm ?_ ?_<;>intro hb|refine fd ?_|fail))
     refine Qq (kJ _ _ () ⟨by simp[up,h1],by simp[up,h2],by simp[up,h5],by simp[up,h7],by simp[up],by rw[aeQ (by omega)];exact h0,true,?_⟩ rfl)
     rw[afU hbl,htk2,afO,afO]
     simp only[Zv,avK,amE,if_false,if_true,Nat.add_zero]
    |true=>
     (have hb:=trivial;with_reducible repeat' (first|simp only[hb,Va.down,seval,iJ.down,h1,h2,h5,h8,h0,hvb,hdi,hwi,hp,htt,hra,hrb,hrr,o1,o2,o3,o4,hsb,hss,w1a,w1b,bvv,Zv,Qb.cells,aaM]|refine Qm ?_ ?_<;>intro hb|refine fd ?_|fail))
     refine Qq (kJ _ _ () ⟨by simp[up,h1],by simp[up,h2],by simp[up,h5],by simp[up,h7],by simp[up],by rw[aeQ (by omega)];exact h0,true,?_⟩ rfl)
     rw[afU hbl,htk2,afO,afO]
     simp only[Zv,avK,amE,if_false,if_true,Nat.add_zero]
   ·exact⟨by simp[up,h1],by simp[up,h2],by simp[up,h5],by simp[up,h7],by simp[up],h0,f,hvb⟩
   obtain⟨rfl,h1,h2,h5,h7,h0,f,hvb⟩:=hk
   (have hb:=trivial;with_reducible repeat' (first|simp only[hb,Va.down,seval,iJ.down,h1,h2,h5,h7,hwk]|refine Qm ?_ ?_<;>intro hb|refine fd ?_|fail))
   exact Qq (kJ _ _ () ⟨by simp[up,h1],by simp[up,h2],by simp[up,h5],by simp[up],h0,f,by rw[nM,hdk0];exact hvb⟩ rfl)
  ·exact⟨by simp[up,h1],by simp[up,h2],by simp[up,h5],by simp[up],h0,false,hvb⟩
  obtain⟨rfl,h5,f,hvb⟩:=hk
  have hlr:((dD E N (Vq N 0 1000)).map Zv).length=N:=by simp[tU,Vq]
  (have hb:=trivial;with_reducible repeat' (first|simp only[hb,Va.down,seval,iJ.down,h5,hvb]|refine Qm ?_ ?_<;>intro hb|refine fd ?_|fail))
  exact⟨f,rfl⟩
 obtain⟨o,h',hc,f,e⟩:=key
 cases e
 exact⟨f,hc⟩
theorem aOK{w:Qf}{N:Nat}(hw:mX w N)(E:List Net.Edge):(dD E N (Vq N 0 1000)).length=N:=by rw[tU];simp[Vq]
theorem azZ{w:Qf}{N:Nat}(hw:mX w N){ts:List Bool}{nn:Bool}(ht:ts.length=w.parts.length):
 Ub.call (.fn 110) [.agg [.int .i64 w.rooms,.int .i64 w.need,Rh 9 true w.nn (w.parts.map Qb.cells)],Rh 1 true nn (ts.map bvv)] []=some (.ret (.int .i64 (sV (oO w ts) N w.parts.length:Nat)),[]):=by
 obtain⟨f,hD⟩:=agN hw (nn:=nn) ht
 have hl:=aOK hw (oO w ts)
 have n2:=hw.n2
 have hlen:=hw.len
 unfold sV
 generalize dD (oO w ts) N (Vq N 0 1000)=d at *
 have hd:d[1]?=some (d.getD 1 0):=by rw[afC,abZ (by omega)];rfl
 generalize d.getD 1 0=x at *
 have h1N:((1:Int)<(N:Int))=True:=eq_true (by omega)
 have hwl:IntKind.i64.wrap ((w.parts.length:Int)+1)=((w.parts.length+1:Nat):Int):=by rw[Re (by omega) (by omega)];omega
 have hln:((d.map Zv).length=N):=by simp[hl]
 by_cases hx:1000≤x
 ·have hge:decide ((1000:Int)≤(x:Int))=true:=decide_eq_true (by omega)
  rw[if_pos hx]
  (refine ce Tryz.func110 ?_;simp only[Tryz.f110];(have hb:=trivial;with_reducible repeat' (first|simp only[hb,Va.down,seval,aTY.down,hD,hd,h1N,hge,hwl,Zv,aaM]|refine Qm ?_ ?_<;>intro hb|refine fd ?_|fail)))
 ·have hge:decide ((1000:Int)≤(x:Int))=false:=decide_eq_false (by omega)
  rw[if_neg hx]
  (refine ce Tryz.func110 ?_;simp only[Tryz.f110];(have hb:=trivial;with_reducible repeat' (first|simp only[hb,Va.down,seval,aTY.down,hD,hd,h1N,hge,hwl,Zv,aaM]|refine Qm ?_ ?_<;>intro hb|refine fd ?_|fail)))
theorem vC(w:Qf)(d:Int):(jK w d).length=w.parts.length:=by simp[jK]
def eQ(w:Qf)(N:Nat)(d:Int):Nat:=sV (oO w (jK w d)) N w.parts.length
theorem aeF{w:Qf}{N:Nat}(hw:mX w N)(d:Int):
 Ub.call (.fn 91) [.agg [.int .i64 w.rooms,.int .i64 w.need,Rh 9 true w.nn (w.parts.map Qb.cells)],.int .i64 d] []=some (.ret (.int .i64 (eQ w N d:Nat)),[]):=by
 have h1:=aPZ w d hw.len hw.ne
 have h2:=azZ hw (nn:=true) (vC w d)
 rw[fE]at h2
 have hl:=vC w d
 have htk:List.take w.parts.length ((jK w d).map bvv)=(jK w d).map bvv:=akD (by simp[hl])
 (refine ce Tryz.func91 ?_;simp only[Tryz.f91];(have hb:=trivial;with_reducible repeat' (first|simp only[hb,Va.down,seval,boX.down,h1,h2,hl,htk]|refine Qm ?_ ?_<;>intro hb|refine fdl ?_|fail)))
 rfl
end Go.Proofs.YtcncggaobhbomaaGreatDoor
