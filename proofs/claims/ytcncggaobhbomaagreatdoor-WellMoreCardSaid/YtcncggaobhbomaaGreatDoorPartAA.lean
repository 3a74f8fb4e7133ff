/- The functions of the layer, walked. -/
import Derived.Test.YtcncggaobhbomaaGreatDoorLibE
import Derived.Test.YtcncggaobhbomaaGreatDoorChecked
import Derived.Test.YtcncggaobhbomaaGreatDoorLibD
import Derived.Test.YtcncggaobhbomaaGreatDoorRows
import Derived.Test.YtcncggaobhbomaaGreatDoorTie
import Derived.Test.YtcncggaobhbomaaGreatDoorCards
import Derived.Test.YtcncggaobhbomaaGreatDoorShelf
import Derived.ProofKit
import Derived.LaidMore
import Derived.OpenShut
import Derived.Stop.Joined
open And renaming intro→abT
open List renaming length_map→abV,replicate→acG,getElem?_append_left→ac4,getElem?_eq_some_iff→adA,take→adD,getElem?_set_ne→adP,take_of_length_le→ad8,all_eq_true→agF,getElem?_append_right→ahF,drop→ahS,flatMap_cons→ah9,cons_append→aiF,nil_append→ai3,getElem?_set_self→ai5,mem_of_getElem?→ajT,getElem?_eq_getElem→anI,take_succ_cons→aoP,drop_succ_cons→aoQ,set_cons_succ→aoR,length_take→aoS
open Nat renaming ble→adM
open Int renaming lt_irrefl→ai4
open Bool renaming and_eq_true→aoT
set_option linter.unusedSimpArgs false
set_option linter.unusedVariables false
namespace Go.Proofs.YtcncggaobhbomaaGreatDoor
open Go.Ev
set_option maxRecDepth 100000
theorem Ww(h:Qa)(b r o:Nat):ld Tryz.prog 24 h (some (.ptr b r o))=ldR (Yr (h[b]?) r) o 3:=rM ⟨by kernel_rfl,by kernel_rfl⟩ h b r o
theorem ag4(b r o:Nat):ftL Tryz.prog 24 (some (.ptr b r o))=some [.cells b o 3]:=Zb (isA:=true) (n:=3) (by kernel_rfl) (by kernel_rfl) b r o
theorem gQ(fl nn:Bool)(rows:List (List AV)):ln Tryz.prog 25 (some (Rw 3 fl nn rows))=some (.ret (.int .i64 rows.length),[]):=xI ⟨_,Tryz.underlying25,by kernel_rfl⟩ fl nn rows
theorem Tc(b r o:Nat):fa Tryz.prog 24 (some (.ptr b r o)) 2=some (.ret (.ptr b r (o+2)),[]):=Uc (show Ve Tryz.prog 24 2 2 1 from⟨_,_,Tryz.underlying24,rfl,rfl,by kernel_rfl,by decide⟩) b r o
theorem Ub(h:Qa)(b r o:Nat):ld Tryz.prog 22 h (some (.ptr b r o))=ldC (Yr (h[b]?) r) o:=iI ⟨by kernel_rfl,1,by kernel_rfl⟩ h b r o
theorem ag1(st:Nat)(fl:Bool)(rows:List (List AV)):ln Tryz.prog 22 (some (.imm st fl rows))=some (.ret (.int .i64 rows.length),[]):=ab1 (n:=9) ⟨_,Tryz.underlying22,by kernel_rfl⟩ st fl rows
theorem Vi(fl nn:Bool)(rows:List (List AV)):ln Tryz.prog 22 (some (Rw 9 fl nn rows))=some (.ret (.int .i64 rows.length),[]):=xI ⟨_,Tryz.underlying22,by kernel_rfl⟩ fl nn rows
theorem sF:Uz Tryz.prog 36=some (.agg [.int .i64 0,.int .i64 0]):=by kernel_rfl
theorem rF(h:Qa)(b r o:Nat)(v:AV):uA Tryz.prog 36 h (some (.ptr b r o)) (some v)=sv 2 (h[b]?) b r o (Qe v):=Xk (by kernel_rfl) h b r o v
theorem agK(b r o:Nat):ftS Tryz.prog 36 (some (.ptr b r o))=some [.cells b o 2]:=oR (by kernel_rfl) b r o
theorem jE(h:Qa)(b r o:Nat):ld Tryz.prog 36 h (some (.ptr b r o))=ldR (Yr (h[b]?) r) o 2:=rM ⟨by kernel_rfl,by kernel_rfl⟩ h b r o
theorem vO(b r o:Nat):ftL Tryz.prog 36 (some (.ptr b r o))=some [.cells b o 2]:=Zb (isA:=true) (n:=2) (by kernel_rfl) (by kernel_rfl) b r o
theorem uI(ps:List (Nat × AV)):bU Tryz.prog 36 ps=(Yd (fun i=>([(0,1),(1,1)]:List (Nat × Nat))[i]?) (Qe (.agg [.int .i64 0,.int .i64 0])) ps).map .agg:=by kernel_rfl
theorem ahK(fl:Bool)(rows:List (List AV))(k:IntKind)(i:Int):ia Tryz.prog 22 (some (.imm 9 fl rows)) (some (.int k i))=if 0≤i then r1 ((rows[i.toNat]?).map .iptr)else none:=abZ ⟨_,Tryz.underlying22,by kernel_rfl⟩ fl rows k i
theorem agL(b r len:Nat)(k:IntKind)(i:Int):ia Tryz.prog 22 (some (.slr 9 b r len)) (some (.int k i))=if 0≤i∧i<len then some (.ret (.ptr b (r+i.toNat) 0),[])else none:=wX ⟨_,Tryz.underlying22,by kernel_rfl⟩ b r len k i
theorem cH(fl nn:Bool)(rows:List (List AV))(k:IntKind)(i:Int):ia Tryz.prog 22 (some (Rw 9 fl nn rows)) (some (.int k i))=if 0≤i then r1 ((rows[i.toNat]?).map .iptr)else none:=xA ⟨_,Tryz.underlying22,by kernel_rfl⟩ fl nn rows k i
theorem cO(h:Qa)(b r o:Nat):ld Tryz.prog 46 h (some (.ptr b r o))=ldR (Yr (h[b]?) r) o 9:=rM ⟨by kernel_rfl,by kernel_rfl⟩ h b r o
theorem Za(h:Qa)(cs:List AV):ld Tryz.prog 46 h (some (.iptr cs))=if 9≤cs.length then some (.ret (.agg (cs.take 9)),[])else none:=aeD ⟨by kernel_rfl,by kernel_rfl⟩ h cs
theorem ai1(b r o:Nat):ftL Tryz.prog 46 (some (.ptr b r o))=some [.cells b o 9]:=Zb (isA:=true) (n:=9) (by kernel_rfl) (by kernel_rfl) b r o
theorem fC:Uz Tryz.prog 46=some (.agg [.int .i64 0,.int .i64 0,.bool false,.bool false,.int .i64 0,.int .i64 0,.bool false,.int .i64 0,.int .i64 0]):=by kernel_rfl
theorem cM(h:Qa)(b r o:Nat)(v:AV):uA Tryz.prog 46 h (some (.ptr b r o)) (some v)=sv 9 (h[b]?) b r o (Qe v):=Xk (by kernel_rfl) h b r o v
theorem bD(b r o:Nat):fa Tryz.prog 46 (some (.ptr b r o)) 5=some (.ret (.ptr b r (o+5)),[]):=Uc (show Ve Tryz.prog 46 5 5 1 from⟨_,_,Tryz.underlying46,rfl,rfl,by kernel_rfl,by decide⟩) b r o
theorem Ta(h:Qa)(b r o:Nat):ld Tryz.prog 3 h (some (.ptr b r o))=ldC (Yr (h[b]?) r) o:=iI ⟨by kernel_rfl,1,by kernel_rfl⟩ h b r o
theorem vL(h:Qa)(c:AV)(cs:List AV):ld Tryz.prog 3 h (some (.iptr (c::cs)))=some (.ret c,[]):=a35 ⟨by kernel_rfl,1,by kernel_rfl⟩ h c cs
theorem yW(b r o:Nat):ftL Tryz.prog 3 (some (.ptr b r o))=some [.cells b o 1]:=Zb (isA:=false) (n:=1) (by kernel_rfl) (by kernel_rfl) b r o
theorem ae1(h:Qa)(b r o:Nat)(v:AV):uA Tryz.prog 3 h (some (.ptr b r o)) (some v)=sv 1 (h[b]?) b r o (Qe v):=Xk (by kernel_rfl) h b r o v
theorem bG(b r o:Nat):fa Tryz.prog 46 (some (.ptr b r o)) 3=some (.ret (.ptr b r (o+3)),[]):=Uc (show Ve Tryz.prog 46 3 3 1 from⟨_,_,Tryz.underlying46,rfl,rfl,by kernel_rfl,by decide⟩) b r o
theorem aeF(h:Qa)(b r o:Nat)(v:AV):uA Tryz.prog 4 h (some (.ptr b r o)) (some v)=sv 1 (h[b]?) b r o (Qe v):=Xk (by kernel_rfl) h b r o v
theorem aj9:Uz Tryz.prog 75=some (.agg [.int .i64 0,.bool false,.bool false]):=by kernel_rfl
theorem tB{O:Ud}(t:List AV)(h:Qa)(s x:Operand):Ss O Tryz.prog t h (.call ⟨.builtin .append,#[s,x],#[25,25]⟩)=apO Tryz.prog 25 h (Qc t s) (Qc t x):=aaB t h s x 25 25 _ Tryz.underlying25
theorem ah4(h:Qa)(s:AV)(st:Nat)(fl:Bool)(rows:List (List AV)):apO Tryz.prog 25 h (some s) (some (.imm st fl rows))=apK 3 h (some s) (srK 3 h (some (.imm st fl rows))):=vK (e:=75) (b:=16) (z:=.agg [.int .i64 0,.bool false,.bool false]) (by kernel_rfl) (by kernel_rfl) (by kernel_rfl) (by kernel_rfl) (by decide+kernel) h s _ (fun q e=>by cases e)
theorem mR(b r o:Nat):fa Tryz.prog 36 (some (.ptr b r o)) 0=some (.ret (.ptr b r (o+0)),[]):=Uc (show Ve Tryz.prog 36 0 0 1 from⟨_,_,Tryz.underlying36,rfl,rfl,by kernel_rfl,by decide⟩) b r o
theorem rG(h:Qa)(b r o:Nat):ld Tryz.prog 34 h (some (.ptr b r o))=ldC (Yr (h[b]?) r) o:=iI ⟨by kernel_rfl,1,by kernel_rfl⟩ h b r o
theorem af6(b r o:Nat):ftL Tryz.prog 34 (some (.ptr b r o))=some [.cells b o 1]:=Zb (isA:=false) (n:=1) (by kernel_rfl) (by kernel_rfl) b r o
theorem Yb(h:Qa)(b r o:Nat):ld Tryz.prog 4 h (some (.ptr b r o))=ldC (Yr (h[b]?) r) o:=iI ⟨by kernel_rfl,1,by kernel_rfl⟩ h b r o
theorem alC:Uz Tryz.prog 24=some (.agg [.int .i64 0,.int .i64 0,.nils]):=by kernel_rfl
theorem al8(h:Qa)(b r o:Nat)(v:AV):uA Tryz.prog 24 h (some (.ptr b r o)) (some v)=sv 3 (h[b]?) b r o (Qe v):=Xk (by kernel_rfl) h b r o v
theorem eG(b r o:Nat):fa Tryz.prog 24 (some (.ptr b r o)) 1=some (.ret (.ptr b r (o+1)),[]):=Uc (show Ve Tryz.prog 24 1 1 1 from⟨_,_,Tryz.underlying24,rfl,rfl,by kernel_rfl,by decide⟩) b r o
theorem mU(b r o:Nat):fa Tryz.prog 36 (some (.ptr b r o)) 1=some (.ret (.ptr b r (o+1)),[]):=Uc (show Ve Tryz.prog 36 1 1 1 from⟨_,_,Tryz.underlying36,rfl,rfl,by kernel_rfl,by decide⟩) b r o
theorem dH(h:Qa)(b r o:Nat):ld Tryz.prog 50 h (some (.ptr b r o))=ldC (Yr (h[b]?) r) o:=iI ⟨by kernel_rfl,1,by kernel_rfl⟩ h b r o
theorem aqC:Uz Tryz.prog 3=some (.int .i64 0):=by kernel_rfl
theorem tU(base len:Nat)(ps:List (Nat × AV)):rD (Rq Tryz.prog base 50 len ps)=bsK 1 (.int .i64 0) base len ps:=ayV (e:=3) (by kernel_rfl) (by kernel_rfl) (by kernel_rfl) base len ps
theorem ab7(h:Qa)(b r o:Nat):ld Tryz.prog 69 h (some (.ptr b r o))=ldC (Yr (h[b]?) r) o:=iI ⟨by kernel_rfl,1,by kernel_rfl⟩ h b r o
theorem vE(ps:List (Nat × AV)):bU Tryz.prog 85 ps=(Yd (fun i=>([(0,24),(24,1)]:List (Nat × Nat))[i]?) (Qe (.agg [.int .i64 0,.bool false,.int .i64 0,.bool false,.int .i64 0,.bool false,.int .i64 0,.bool false,.int .i64 0,.bool false,.int .i64 0,.bool false,.int .i64 0,.bool false,.int .i64 0,.bool false,.int .i64 0,.bool false,.int .i64 0,.bool false,.int .i64 0,.bool false,.int .i64 0,.bool false,.int .i64 0])) ps).map .agg:=by kernel_rfl
theorem rZ:Uz Tryz.prog 85=some (.agg [.int .i64 0,.bool false,.int .i64 0,.bool false,.int .i64 0,.bool false,.int .i64 0,.bool false,.int .i64 0,.bool false,.int .i64 0,.bool false,.int .i64 0,.bool false,.int .i64 0,.bool false,.int .i64 0,.bool false,.int .i64 0,.bool false,.int .i64 0,.bool false,.int .i64 0,.bool false,.int .i64 0]):=by kernel_rfl
theorem sM(h:Qa)(b r o:Nat)(v:AV):uA Tryz.prog 85 h (some (.ptr b r o)) (some v)=sv 25 (h[b]?) b r o (Qe v):=Xk (by kernel_rfl) h b r o v
theorem dD(h:Qa)(b r o:Nat):ld Tryz.prog 85 h (some (.ptr b r o))=ldR (Yr (h[b]?) r) o 25:=rM ⟨by kernel_rfl,by kernel_rfl⟩ h b r o
theorem acE(h:Qa)(cs:List AV):ld Tryz.prog 85 h (some (.iptr cs))=if 25≤cs.length then some (.ret (.agg (cs.take 25)),[])else none:=aeD ⟨by kernel_rfl,by kernel_rfl⟩ h cs
theorem uX(b r o:Nat):ftL Tryz.prog 85 (some (.ptr b r o))=some [.cells b o 25]:=Zb (isA:=true) (n:=25) (by kernel_rfl) (by kernel_rfl) b r o
theorem abC:Uz Tryz.prog 86=some (.nilm):=by kernel_rfl
theorem aaX(h:Qa)(b r o:Nat)(v:AV):uA Tryz.prog 86 h (some (.ptr b r o)) (some v)=sv 1 (h[b]?) b r o (Qe v):=Xk (by kernel_rfl) h b r o v
theorem cU(h:Qa)(b r o:Nat):ld Tryz.prog 86 h (some (.ptr b r o))=ldC (Yr (h[b]?) r) o:=iI ⟨by kernel_rfl,1,by kernel_rfl⟩ h b r o
theorem vB(b r o:Nat):ftL Tryz.prog 86 (some (.ptr b r o))=some [.cells b o 1]:=Zb (isA:=false) (n:=1) (by kernel_rfl) (by kernel_rfl) b r o
theorem vJ(b r len:Nat)(k:IntKind)(i:Int):ia Tryz.prog 91 (some (.slr 4 b r len)) (some (.int k i))=if 0≤i∧i<len then some (.ret (.ptr b (r+i.toNat) 0),[])else none:=wX ⟨_,Tryz.underlying91,by kernel_rfl⟩ b r len k i
theorem uV(fl nn:Bool)(rows:List (List AV))(k:IntKind)(i:Int):ia Tryz.prog 91 (some (Rw 4 fl nn rows)) (some (.int k i))=if 0≤i then r1 ((rows[i.toNat]?).map .iptr)else none:=xA ⟨_,Tryz.underlying91,by kernel_rfl⟩ fl nn rows k i
theorem aaD(b r o:Nat):fa Tryz.prog 94 (some (.ptr b r o)) 0=some (.ret (.ptr b r (o+0)),[]):=Uc (show Ve Tryz.prog 94 0 0 2 from⟨_,_,Tryz.underlying94,rfl,rfl,by kernel_rfl,by decide⟩) b r o
theorem lS(b r len:Nat)(k:IntKind)(i:Int):ia Tryz.prog 50 (some (.slr 1 b r len)) (some (.int k i))=if 0≤i∧i<len then some (.ret (.ptr b (r+i.toNat) 0),[])else none:=wX ⟨_,Tryz.underlying50,by kernel_rfl⟩ b r len k i
theorem bC(b r o:Nat):fa Tryz.prog 24 (some (.ptr b r o)) 0=some (.ret (.ptr b r (o+0)),[]):=Uc (show Ve Tryz.prog 24 0 0 1 from⟨_,_,Tryz.underlying24,rfl,rfl,by kernel_rfl,by decide⟩) b r o
theorem fD(b r o:Nat):fa Tryz.prog 46 (some (.ptr b r o)) 0=some (.ret (.ptr b r (o+0)),[]):=Uc (show Ve Tryz.prog 46 0 0 1 from⟨_,_,Tryz.underlying46,rfl,rfl,by kernel_rfl,by decide⟩) b r o
theorem fL(b r o:Nat):fa Tryz.prog 46 (some (.ptr b r o)) 1=some (.ret (.ptr b r (o+1)),[]):=Uc (show Ve Tryz.prog 46 1 1 1 from⟨_,_,Tryz.underlying46,rfl,rfl,by kernel_rfl,by decide⟩) b r o
theorem eM(b r o:Nat):fa Tryz.prog 46 (some (.ptr b r o)) 2=some (.ret (.ptr b r (o+2)),[]):=Uc (show Ve Tryz.prog 46 2 2 1 from⟨_,_,Tryz.underlying46,rfl,rfl,by kernel_rfl,by decide⟩) b r o
theorem fF(b r o:Nat):fa Tryz.prog 46 (some (.ptr b r o)) 4=some (.ret (.ptr b r (o+4)),[]):=Uc (show Ve Tryz.prog 46 4 4 1 from⟨_,_,Tryz.underlying46,rfl,rfl,by kernel_rfl,by decide⟩) b r o
theorem fH(b r o:Nat):fa Tryz.prog 46 (some (.ptr b r o)) 7=some (.ret (.ptr b r (o+7)),[]):=Uc (show Ve Tryz.prog 46 7 7 1 from⟨_,_,Tryz.underlying46,rfl,rfl,by kernel_rfl,by decide⟩) b r o
theorem fB(b r o:Nat):fa Tryz.prog 46 (some (.ptr b r o)) 8=some (.ret (.ptr b r (o+8)),[]):=Uc (show Ve Tryz.prog 46 8 8 1 from⟨_,_,Tryz.underlying46,rfl,rfl,by kernel_rfl,by decide⟩) b r o
theorem sV{O:Ud}(t:List AV)(h:Qa)(s x:Operand):Ss O Tryz.prog t h (.call ⟨.builtin .append,#[s,x],#[22,22]⟩)=apO Tryz.prog 22 h (Qc t s) (Qc t x):=aaB t h s x 22 22 _ Tryz.underlying22
theorem ahA(h:Qa)(s:AV)(st:Nat)(fl:Bool)(rows:List (List AV)):apO Tryz.prog 22 h (some s) (some (.imm st fl rows))=apK 9 h (some s) (srK 9 h (some (.imm st fl rows))):=vK (e:=46) (b:=64) (z:=.agg [.int .i64 0,.int .i64 0,.bool false,.bool false,.int .i64 0,.int .i64 0,.bool false,.int .i64 0,.int .i64 0]) (by kernel_rfl) (by kernel_rfl) (by kernel_rfl) (by kernel_rfl) (by decide+kernel) h s _ (fun q e=>by cases e)
theorem anD(h:Qa)(b r o:Nat)(v:AV):uA Tryz.prog 22 h (some (.ptr b r o)) (some v)=sv 1 (h[b]?) b r o (Qe v):=Xk (by kernel_rfl) h b r o v
theorem mP(fl nn:Bool)(rows:List (List AV))(k:IntKind)(i:Int):ia Tryz.prog 25 (some (Rw 3 fl nn rows)) (some (.int k i))=if 0≤i then r1 ((rows[i.toNat]?).map .iptr)else none:=xA ⟨_,Tryz.underlying25,by kernel_rfl⟩ fl nn rows k i
theorem nU(b r o:Nat):fa Tryz.prog 75 (some (.ptr b r o)) 0=some (.ret (.ptr b r (o+0)),[]):=Uc (show Ve Tryz.prog 75 0 0 1 from⟨_,_,Tryz.underlying75,rfl,rfl,by kernel_rfl,by decide⟩) b r o
theorem nN(cs:List AV):fa Tryz.prog 75 (some (.iptr cs)) 0=if 0+1≤cs.length then some (.ret (.iptr (cs.drop 0)),[])else none:=aqZ (show Ve Tryz.prog 75 0 0 1 from⟨_,_,Tryz.underlying75,rfl,rfl,by kernel_rfl,by decide⟩) cs
theorem aa2(b r o:Nat):fa Tryz.prog 75 (some (.ptr b r o)) 1=some (.ret (.ptr b r (o+1)),[]):=Uc (show Ve Tryz.prog 75 1 1 1 from⟨_,_,Tryz.underlying75,rfl,rfl,by kernel_rfl,by decide⟩) b r o
theorem zO(b r o:Nat):fa Tryz.prog 75 (some (.ptr b r o)) 2=some (.ret (.ptr b r (o+2)),[]):=Uc (show Ve Tryz.prog 75 2 2 1 from⟨_,_,Tryz.underlying75,rfl,rfl,by kernel_rfl,by decide⟩) b r o
theorem sD:Uz Tryz.prog 82=some (.agg [.int .i64 0,.bool false,.int .i64 0,.bool false,.int .i64 0,.bool false,.int .i64 0,.bool false,.int .i64 0,.bool false,.int .i64 0,.bool false,.int .i64 0,.bool false,.int .i64 0,.bool false,.int .i64 0,.bool false,.int .i64 0,.bool false,.int .i64 0,.bool false,.int .i64 0,.bool false]):=by kernel_rfl
theorem pX(h:Qa)(b r o:Nat)(v:AV):uA Tryz.prog 82 h (some (.ptr b r o)) (some v)=sv 24 (h[b]?) b r o (Qe v):=Xk (by kernel_rfl) h b r o v
theorem Xd(b r o:Nat):fa Tryz.prog 106 (some (.ptr b r o)) 0=some (.ret (.ptr b r (o+0)),[]):=Uc (show Ve Tryz.prog 106 0 0 3 from⟨_,_,Tryz.underlying106,rfl,rfl,by kernel_rfl,by decide⟩) b r o
theorem Yv(h:Qa)(b r o:Nat):ld Tryz.prog 82 h (some (.ptr b r o))=ldR (Yr (h[b]?) r) o 24:=rM ⟨by kernel_rfl,by kernel_rfl⟩ h b r o
theorem ah6(b r o:Nat):ftL Tryz.prog 82 (some (.ptr b r o))=some [.cells b o 24]:=Zb (isA:=true) (n:=24) (by kernel_rfl) (by kernel_rfl) b r o
theorem Wv(b r o:Nat):fa Tryz.prog 80 (some (.ptr b r o)) 0=some (.ret (.ptr b r (o+0)),[]):=Uc (show Ve Tryz.prog 80 0 0 1 from⟨_,_,Tryz.underlying80,rfl,rfl,by kernel_rfl,by decide⟩) b r o
theorem xQ(h:Qa)(b r o:Nat)(v:AV):uA Tryz.prog 78 h (some (.ptr b r o)) (some v)=sv 1 (h[b]?) b r o (Qe v):=Xk (by kernel_rfl) h b r o v
theorem Wt(h:Qa)(b r o:Nat):ld Tryz.prog 80 h (some (.ptr b r o))=ldR (Yr (h[b]?) r) o 2:=rM ⟨by kernel_rfl,by kernel_rfl⟩ h b r o
theorem ai0(b r o:Nat):ftL Tryz.prog 80 (some (.ptr b r o))=some [.cells b o 2]:=Zb (isA:=true) (n:=2) (by kernel_rfl) (by kernel_rfl) b r o
theorem gV{O:Ud}(t:List AV)(h:Qa)(s x:Operand):Ss O Tryz.prog t h (.call ⟨.builtin .append,#[s,x],#[50,50]⟩)=apO Tryz.prog 50 h (Qc t s) (Qc t x):=aaB t h s x 50 50 _ Tryz.underlying50
theorem uP(h:Qa)(s:AV)(a b r l:Nat):apO Tryz.prog 50 h (some s) (some (.slr a b r l))=apK 1 h (some s) (srK 1 h (some (.slr a b r l))):=vK (e:=3) (b:=8) (z:=.int .i64 0) (by kernel_rfl) (by kernel_rfl) (by kernel_rfl) (by kernel_rfl) (by decide+kernel) h s _ (fun q e=>by cases e)
theorem agJ(h:Qa)(s:AV)  :apO Tryz.prog 50 h (some s) (some .nils)=apK 1 h (some s) (srK 1 h (some .nils)):=vK (e:=3) (b:=8) (z:=.int .i64 0) (by kernel_rfl) (by kernel_rfl) (by kernel_rfl) (by kernel_rfl) (by decide+kernel) h s _ (fun q e=>by cases e)
theorem zS(b r o:Nat):fa Tryz.prog 46 (some (.ptr b r o)) 6=some (.ret (.ptr b r (o+6)),[]):=Uc (show Ve Tryz.prog 46 6 6 1 from⟨_,_,Tryz.underlying46,rfl,rfl,by kernel_rfl,by decide⟩) b r o
theorem tP(st b r len:Nat):ln Tryz.prog 50 (some (.slr st b r len))=some (.ret (.int .i64 len),[]):=acL (n:=1) ⟨_,Tryz.underlying50,by kernel_rfl⟩ st b r len
theorem aiA:ln Tryz.prog 50 (some .nils)=some (.ret (.int .i64 0),[]):=wB (n:=1) ⟨_,Tryz.underlying50,by kernel_rfl⟩
theorem akM:Uz Tryz.prog 50=some (.nils):=by kernel_rfl
theorem wG(b r o:Nat):fa Tryz.prog 106 (some (.ptr b r o)) 1=some (.ret (.ptr b r (o+3)),[]):=Uc (show Ve Tryz.prog 106 1 3 1 from⟨_,_,Tryz.underlying106,rfl,rfl,by kernel_rfl,by decide⟩) b r o
theorem adT(ps:List (Nat × AV)):bU Tryz.prog 106 ps=(Yd (fun i=>([(0,3),(3,1)]:List (Nat × Nat))[i]?) (Qe (.agg [.int .i64 0,.int .i64 0,.nils,.int .i64 0])) ps).map .agg:=by kernel_rfl
theorem rC(h:Qa)(cs:List AV):ld Tryz.prog 75 h (some (.iptr cs))=if 3≤cs.length then some (.ret (.agg (cs.take 3)),[])else none:=aeD ⟨by kernel_rfl,by kernel_rfl⟩ h cs
theorem ajW(h:Qa)(b r o:Nat)(v:AV):uA Tryz.prog 75 h (some (.ptr b r o)) (some v)=sv 3 (h[b]?) b r o (Qe v):=Xk (by kernel_rfl) h b r o v
theorem Ye(b r o:Nat):fa Tryz.prog 80 (some (.ptr b r o)) 1=some (.ret (.ptr b r (o+1)),[]):=Uc (show Ve Tryz.prog 80 1 1 1 from⟨_,_,Tryz.underlying80,rfl,rfl,by kernel_rfl,by decide⟩) b r o
theorem uC(base len:Nat)(ps:List (Nat × AV)):rD (Rq Tryz.prog base 92 len ps)=bsK 25 (.agg [.int .i64 0,.bool false,.int .i64 0,.bool false,.int .i64 0,.bool false,.int .i64 0,.bool false,.int .i64 0,.bool false,.int .i64 0,.bool false,.int .i64 0,.bool false,.int .i64 0,.bool false,.int .i64 0,.bool false,.int .i64 0,.bool false,.int .i64 0,.bool false,.int .i64 0,.bool false,.int .i64 0]) base len ps:=ayV (e:=85) (by kernel_rfl) (by kernel_rfl) (by kernel_rfl) base len ps
theorem aiV(st b r len:Nat):ln Tryz.prog 92 (some (.slr st b r len))=some (.ret (.int .i64 len),[]):=acL (n:=25) ⟨_,Tryz.underlying92,by kernel_rfl⟩ st b r len
theorem ahN(fl nn:Bool)(rows:List (List AV)):ln Tryz.prog 92 (some (Rw 25 fl nn rows))=some (.ret (.int .i64 rows.length),[]):=xI ⟨_,Tryz.underlying92,by kernel_rfl⟩ fl nn rows
theorem ahZ(b r len:Nat)(k:IntKind)(i:Int):ia Tryz.prog 92 (some (.slr 25 b r len)) (some (.int k i))=if 0≤i∧i<len then some (.ret (.ptr b (r+i.toNat) 0),[])else none:=wX ⟨_,Tryz.underlying92,by kernel_rfl⟩ b r len k i
theorem agV(fl nn:Bool)(rows:List (List AV))(k:IntKind)(i:Int):ia Tryz.prog 92 (some (Rw 25 fl nn rows)) (some (.int k i))=if 0≤i then r1 ((rows[i.toNat]?).map .iptr)else none:=xA ⟨_,Tryz.underlying92,by kernel_rfl⟩ fl nn rows k i
theorem af8(st b r len:Nat):ln Tryz.prog 91 (some (.slr st b r len))=some (.ret (.int .i64 len),[]):=acL (n:=4) ⟨_,Tryz.underlying91,by kernel_rfl⟩ st b r len
theorem aiW:ln Tryz.prog 91 (some .nils)=some (.ret (.int .i64 0),[]):=wB (n:=4) ⟨_,Tryz.underlying91,by kernel_rfl⟩
theorem uZ(fl nn:Bool)(rows:List (List AV)):ln Tryz.prog 91 (some (Rw 4 fl nn rows))=some (.ret (.int .i64 rows.length),[]):=xI ⟨_,Tryz.underlying91,by kernel_rfl⟩ fl nn rows
theorem aO(h:Qa)(b r o:Nat):ld Tryz.prog 94 h (some (.ptr b r o))=ldR (Yr (h[b]?) r) o 4:=rM ⟨by kernel_rfl,by kernel_rfl⟩ h b r o
theorem pT(h:Qa)(cs:List AV):ld Tryz.prog 94 h (some (.iptr cs))=if 4≤cs.length then some (.ret (.agg (cs.take 4)),[])else none:=aeD ⟨by kernel_rfl,by kernel_rfl⟩ h cs
theorem rA:Uz Tryz.prog 94=some (.agg [.int .i64 0,.int .i64 0,.int .i64 0,.nils]):=by kernel_rfl
theorem pP(h:Qa)(b r o:Nat)(v:AV):uA Tryz.prog 94 h (some (.ptr b r o)) (some v)=sv 4 (h[b]?) b r o (Qe v):=Xk (by kernel_rfl) h b r o v
theorem agW(b r o:Nat):ftS Tryz.prog 94 (some (.ptr b r o))=some [.cells b o 4]:=oR (by kernel_rfl) b r o
theorem eD(b r o:Nat):fa Tryz.prog 94 (some (.ptr b r o)) 2=some (.ret (.ptr b r (o+3)),[]):=Uc (show Ve Tryz.prog 94 2 3 1 from⟨_,_,Tryz.underlying94,rfl,rfl,by kernel_rfl,by decide⟩) b r o
theorem iP(h:Qa)(b r o:Nat):ld Tryz.prog 92 h (some (.ptr b r o))=ldC (Yr (h[b]?) r) o:=iI ⟨by kernel_rfl,1,by kernel_rfl⟩ h b r o
theorem aiG(b r o:Nat):ftL Tryz.prog 92 (some (.ptr b r o))=some [.cells b o 1]:=Zb (isA:=false) (n:=1) (by kernel_rfl) (by kernel_rfl) b r o
theorem gY{O:Ud}(t:List AV)(h:Qa)(s x:Operand):Ss O Tryz.prog t h (.call ⟨.builtin .append,#[s,x],#[92,92]⟩)=apO Tryz.prog 92 h (Qc t s) (Qc t x):=aaB t h s x 92 92 _ Tryz.underlying92
theorem uS(h:Qa)(s:AV)(a b r l:Nat):apO Tryz.prog 92 h (some s) (some (.slr a b r l))=apK 25 h (some s) (srK 25 h (some (.slr a b r l))):=vK (e:=85) (b:=200) (z:=.agg [.int .i64 0,.bool false,.int .i64 0,.bool false,.int .i64 0,.bool false,.int .i64 0,.bool false,.int .i64 0,.bool false,.int .i64 0,.bool false,.int .i64 0,.bool false,.int .i64 0,.bool false,.int .i64 0,.bool false,.int .i64 0,.bool false,.int .i64 0,.bool false,.int .i64 0,.bool false,.int .i64 0]) (by kernel_rfl) (by kernel_rfl) (by kernel_rfl) (by kernel_rfl) (by decide+kernel) h s _ (fun q e=>by cases e)
theorem nE(b r o:Nat):fa Tryz.prog 85 (some (.ptr b r o)) 0=some (.ret (.ptr b r (o+0)),[]):=Uc (show Ve Tryz.prog 85 0 0 24 from⟨_,_,Tryz.underlying85,rfl,rfl,by kernel_rfl,by decide⟩) b r o
theorem yE(b r o:Nat):fa Tryz.prog 94 (some (.ptr b r o)) 1=some (.ret (.ptr b r (o+2)),[]):=Uc (show Ve Tryz.prog 94 1 2 1 from⟨_,_,Tryz.underlying94,rfl,rfl,by kernel_rfl,by decide⟩) b r o
theorem agX(base:Nat)(l c:Option AV):msO Tryz.prog 50 base l c=msK 1 (.int .i64 0) base l c:=aJY (e:=3) (n:=1) (b:=8) (by kernel_rfl) (by kernel_rfl) (by kernel_rfl) (by kernel_rfl) (by decide+kernel) base l c
theorem aM(h:Qa)(b r o:Nat):ld Tryz.prog 78 h (some (.ptr b r o))=ldC (Yr (h[b]?) r) o:=iI ⟨by kernel_rfl,1,by kernel_rfl⟩ h b r o
theorem jU(h:Qa)(b r o:Nat)(v:AV):uA Tryz.prog 50 h (some (.ptr b r o)) (some v)=sv 1 (h[b]?) b r o (Qe v):=Xk (by kernel_rfl) h b r o v
theorem ab3(ps:List (Nat × AV)):bU Tryz.prog 128 ps=(Yd (fun i=>([(0,1)]:List (Nat × Nat))[i]?) (Qe (.agg [.nils])) ps).map .agg:=by kernel_rfl
theorem afW:Uz Tryz.prog 126=some (.nilp):=by kernel_rfl
theorem aiK(h:Qa)(b r o:Nat)(v:AV):uA Tryz.prog 126 h (some (.ptr b r o)) (some v)=sv 1 (h[b]?) b r o (Qe v):=Xk (by kernel_rfl) h b r o v
theorem zF(h:Qa)(b r o:Nat):ld Tryz.prog 126 h (some (.ptr b r o))=ldC (Yr (h[b]?) r) o:=iI ⟨by kernel_rfl,1,by kernel_rfl⟩ h b r o
theorem xY(b r o:Nat):fa Tryz.prog 85 (some (.ptr b r o)) 1=some (.ret (.ptr b r (o+24)),[]):=Uc (show Ve Tryz.prog 85 1 24 1 from⟨_,_,Tryz.underlying85,rfl,rfl,by kernel_rfl,by decide⟩) b r o
theorem ahP(ps:List (Nat × AV)):bU Tryz.prog 94 ps=(Yd (fun i=>([(0,2),(2,1),(3,1)]:List (Nat × Nat))[i]?) (Qe (.agg [.int .i64 0,.int .i64 0,.int .i64 0,.nils])) ps).map .agg:=by kernel_rfl
theorem al6(h:Qa)(b r o:Nat)(v:AV):uA Tryz.prog 92 h (some (.ptr b r o)) (some v)=sv 1 (h[b]?) b r o (Qe v):=Xk (by kernel_rfl) h b r o v
theorem aiI(b r o:Nat):ftS Tryz.prog 92 (some (.ptr b r o))=some [.cells b o 1]:=oR (by kernel_rfl) b r o
theorem aiZ(base len:Nat)(ps:List (Nat × AV)):rD (Rq Tryz.prog base 91 len ps)=bsK 4 (.agg [.int .i64 0,.int .i64 0,.int .i64 0,.nils]) base len ps:=ayV (e:=94) (by kernel_rfl) (by kernel_rfl) (by kernel_rfl) base len ps
theorem tD{O:Ud}(t:List AV)(h:Qa)(s x:Operand):Ss O Tryz.prog t h (.call ⟨.builtin .append,#[s,x],#[91,91]⟩)=apO Tryz.prog 91 h (Qc t s) (Qc t x):=aaB t h s x 91 91 _ Tryz.underlying91
theorem agM(h:Qa)(s:AV)(a b r l:Nat):apO Tryz.prog 91 h (some s) (some (.slr a b r l))=apK 4 h (some s) (srK 4 h (some (.slr a b r l))):=vK (e:=94) (b:=48) (z:=.agg [.int .i64 0,.int .i64 0,.int .i64 0,.nils]) (by kernel_rfl) (by kernel_rfl) (by kernel_rfl) (by kernel_rfl) (by decide+kernel) h s _ (fun q e=>by cases e)
theorem cJ(h:Qa)(b r o:Nat)(v:AV):uA Tryz.prog 80 h (some (.ptr b r o)) (some v)=sv 2 (h[b]?) b r o (Qe v):=Xk (by kernel_rfl) h b r o v
theorem ahB(b r o:Nat):ftS Tryz.prog 80 (some (.ptr b r o))=some [.cells b o 2]:=oR (by kernel_rfl) b r o
theorem cT(b r o:Nat):fa Tryz.prog 128 (some (.ptr b r o)) 0=some (.ret (.ptr b r (o+0)),[]):=Uc (show Ve Tryz.prog 128 0 0 1 from⟨_,_,Tryz.underlying128,rfl,rfl,by kernel_rfl,by decide⟩) b r o
theorem eT:Uz Tryz.prog 80=some (.agg [.int .i64 0,.bool false]):=by kernel_rfl
theorem fV(ps:List (Nat × AV)):bU Tryz.prog 80 ps=(Yd (fun i=>([(0,1),(1,1)]:List (Nat × Nat))[i]?) (Qe (.agg [.int .i64 0,.bool false])) ps).map .agg:=by kernel_rfl
def nF:=PLift.up (abT @Ww (abT @gQ (abT @Tc (abT @Ub (abT @ahK (abT @cO (abT @Za (abT @fC (abT @cM (abT @bD (abT @Ta (abT @ae1 (abT @bG (abT @aeF (abT @ag1 (abT @sF (abT @rF (abT @tB @ah4))))))))))))))))))
def TY9:=PLift.up (abT @Tc (abT @Ub @Vi))
def adO:=PLift.up (abT @Tc (abT @Ub (abT @Vi @Ww)))
def amZ:=PLift.up (abT @jE (abT @vO (abT @sF (abT @Tc (abT @Ub (abT @Vi (abT @uI (abT @rF (abT @agK (abT @Ww (abT @vE (abT @rZ (abT @sM (abT @dD (abT @uX (abT @abC (abT @aaX (abT @cU (abT @vB (abT @vJ @aaD))))))))))))))))))))
def yL:=PLift.up (abT @bC (abT @Ta (abT @eG (abT @Tc (abT @Ub (abT @Vi (abT @cH (abT @Za (abT @fC (abT @cM (abT @fD (abT @fL (abT @bG (abT @Yb (abT @eM (abT @fF (abT @bD (abT @fH @fB))))))))))))))))))
def bb5:=PLift.up (abT @Tc (abT @Ub @Vi))
def bbR:=PLift.up (abT @Ww @Ww)
def bb4:=PLift.up (abT @Ww (abT @alC (abT @al8 (abT @Tc (abT @Ub (abT @sV (abT @ahA (abT @anD (abT @cO (abT @agL @cM))))))))))
def aaM:=PLift.up (abT @gQ (abT @Ww (abT @mP (abT @nN @vL))))
def aR1:=PLift.up (abT @Ww (abT @ag4 @adT))
def abG:=PLift.up (abT @gQ (abT @mP (abT @rC (abT @aj9 (abT @ajW (abT @nU (abT @nN (abT @Ta (abT @vL (abT @Tc (abT @Ub @Vi)))))))))))
def akX:=PLift.up (abT @gQ (abT @mP @rC))
def ar5:=PLift.up (abT @Yv (abT @sD (abT @Xd (abT @Tc (abT @Ub (abT @Vi (abT @cH (abT @Za (abT @fC (abT @cM (abT @bG (abT @Yb (abT @Ye (abT @aeF (abT @zS (abT @Wv (abT @xQ (abT @wG (abT @Ta (abT @fF (abT @bD @pX)))))))))))))))))))))
def Yi:=PLift.up (abT @dD (abT @uX (abT @rZ (abT @uC (abT @abC (abT @aaX (abT @aiV (abT @ahZ (abT @sM (abT @af8 (abT @aiW (abT @vJ (abT @aO (abT @rA (abT @pP (abT @eD (abT @iP (abT @cU (abT @vB (abT @gY (abT @uS (abT @nE @Yv))))))))))))))))))))))
def ag7:=PLift.up (abT @uZ (abT @uV @pT))
def bcN:=PLift.up (abT @aO (abT @cU @dD))
def asG:=PLift.up (abT @eD (abT @iP (abT @ahN (abT @agV (abT @dD (abT @acE (abT @rZ (abT @sM (abT @yE @Ta)))))))))
def az5:=PLift.up (abT @Yv (abT @lS (abT @Ta (abT @Xd (abT @Tc (abT @Ub @Vi))))))
def bbZ:=PLift.up (abT @Wv (abT @aM (abT @Ye @Yb)))
def atF:=PLift.up (abT @eM (abT @Yb (abT @Ye (abT @Wv @aM))))
def av7:=PLift.up (abT @Xd (abT @eG (abT @Ta (abT @Yv (abT @mR (abT @rG (abT @sD (abT @pX (abT @mU (abT @Wv (abT @xQ @jE)))))))))))
def bcP:=PLift.up (abT @fH (abT @Ta @fB))
def dZ:=PLift.up (abT @Xd (abT @bC (abT @Ta (abT @aqC (abT @agX (abT @akM (abT @jU (abT @dH (abT @tP (abT @lS (abT @ae1 (abT @ab3 (abT @afW (abT @aiK (abT @zF @Wt)))))))))))))))
def bcX:=PLift.up (abT @bC (abT @Ta (abT @eG (abT @Tc (abT @Ub @Vi)))))
def qA:=PLift.up (abT @Xd (abT @Tc (abT @Ub (abT @Vi (abT @cH (abT @cO (abT @Za (abT @ai1 (abT @fC (abT @cM (abT @uI (abT @sF (abT @rF (abT @nE (abT @Wt (abT @Yv (abT @ah6 (abT @jE (abT @vO (abT @xY (abT @Ta (abT @yW (abT @vE (abT @uC (abT @ahP (abT @rA (abT @pP (abT @agW (abT @eD (abT @iP (abT @aiG (abT @gY (abT @uS (abT @al6 (abT @aiI (abT @aO (abT @aiZ (abT @tD @agM))))))))))))))))))))))))))))))))))))))
def arW:=PLift.up (abT @uZ (abT @uV (abT @aO (abT @pT (abT @rA @pP)))))
def bcL:=PLift.up (abT @aO @cU)
def arV:=PLift.up (abT @Yv (abT @sD (abT @mU (abT @Ta (abT @yW (abT @mR (abT @rG (abT @af6 (abT @Wt (abT @ai0 (abT @cJ (abT @ahB @pX))))))))))))
def asS:=PLift.up (abT @cT (abT @dH (abT @tU (abT @gV (abT @uP @jU)))))
def asC:=PLift.up (abT @cT (abT @dH (abT @tP (abT @aiA (abT @lS (abT @Ta @jU))))))
def afZ:=PLift.up (abT @tU (abT @cT (abT @dH (abT @gV (abT @uP (abT @agJ @jU))))))
def bcF:=PLift.up (abT @cO (abT @bC @Ta))
def bc9:=PLift.up (abT @fD (abT @Ta (abT @fL (abT @eM (abT @Yb (abT @bG (abT @fF (abT @bD (abT @fH @fB)))))))))
def apB:=PLift.up (abT @nU (abT @Ta (abT @Wt (abT @eT (abT @cJ (abT @Ye (abT @Yb (abT @aa2 (abT @zO (abT @Wv @aM))))))))))
def ag6:=PLift.up (abT @ab7 (abT @Xd (abT @Tc (abT @Ub (abT @Vi (abT @cH (abT @Za (abT @fC (abT @cM (abT @Ta (abT @fD @fL)))))))))))
def zX:=PLift.up (abT @Vi (abT @cH @Za))
def a3Z:=PLift.up (abT @Wt (abT @eT (abT @Wv (abT @aM (abT @fV @cJ)))))
def a78:=PLift.up (abT @Wt (abT @eT (abT @Wv (abT @aM (abT @fV @cJ)))))
def aNV:=PLift.up (abT @Wt (abT @eT (abT @Ye (abT @Yb (abT @fV @cJ)))))
def aHS:=PLift.up (abT @Wt (abT @eT (abT @Ye (abT @Yb (abT @fV @cJ)))))
end Go.Proofs.YtcncggaobhbomaaGreatDoor
namespace Go.Proofs.YtcncggaobhbomaaGreatDoor
open Go Go.Ev Go.ChangeShapes Go.WideShapes Go.ChangeAt Go.RowKit
set_option maxRecDepth 100000
set_option maxHeartbeats 16000000
def mdL:List Nat:=[60,75,79,76,80,65,41]
def pr:Zp:=xJ 63 86 60 (mdL.contains ·)
noncomputable def Uu:Ud:=om Tryz.prog pr
theorem aM7(f:Nat):Uu.md f=([60,75,79,76,80,65,41]:List Nat).contains f:=Eq.trans rfl rfl
def Va:=PLift.up (abT EE.down EVu.down)
def Vc:=PLift.up (abT EG.down (abT EVu.down @aM7))
theorem own:ownKnob Tryz.prog.godebug=none:=by kernel_rfl
theorem aqY:aiO Tryz.prog:=fun f fn hf=>by
 have h:(Tryz.prog.funcs.toList.all fun fn=> !(fn.name== "runtime.NumGoroutine"))=true:=by kernel_rfl
 have:=agF.1 h fn (by rw[Array.mem_toList_iff];exact Array.mem_of_getElem? hf)
 simpa using this
theorem mixed:Tryz.prog.follows .mixedOrders=true:=by kernel_rfl
theorem aq8:laidOutB Tryz.prog=true:=by kernel_rfl
def laid:List (String × DataW Unit):=[("math/bits.deBruijn32tab",Rows.laid_math_bits_deBruijn32tab),("math/bits.deBruijn64tab",Rows.laid_math_bits_deBruijn64tab),("internal/strconv.uint64pow10",Rows.laid_internal_strconv_uint64pow10)]
theorem aIF:Tryz.prog.globalNamed "internal/strconv.uint64pow10" =some 0:=by kernel_rfl
theorem tab{W:World}(h:laidMetH Tryz.prog laid W):Lib.TabIs Tryz.prog W "internal/strconv.uint64pow10" .u64 Lib.pow10Tab:=by
 rw[MakeChecks.laidMetH_plain _ _ _ (by kernel_rfl)]at h
 obtain⟨ps,h,_⟩:=h
 exact kH (t:=192) (e:=158) (n:=20) aIF (by kernel_rfl) (by kernel_rfl) (by kernel_rfl) (by kernel_rfl) (by kernel_rfl) h (by
  have e:(Lib.tabData .u64 Lib.pow10Tab:DataW Unit)=Rows.laid_internal_strconv_uint64pow10:=rfl
  rw[e];simp[laid])
theorem alX{W:World}(h:laidMetH Tryz.prog laid W):Vl Tryz.prog (akY W 0) Uu:=
 a8G aqY (ah7 (apL (qV aqY Tryz.func63 rfl) (anH aIF (tab h)) (fun n w h0 h1 ht=>Tryz.strconv_Itoa n h0 h1 w ht)) (aqG (qV aqY Tryz.func86 rfl) Tryz.strings_Join_none Tryz.strings_Join) (asN (qV aqY Tryz.func60 rfl) Tryz.slices_Sort_int)) mixed
theorem ak9(os:Os)(args:Array Value):laidMetH Tryz.prog laid ((World.doorLaid Tryz.prog 400 os).forCall (fun _ _=>0) ⟨#[],args,[]⟩).memory:=
 laidMetH_of_parts3 (fuel:=8) (laidMet_of_run' 8 (by kernel_rfl) (by kernel_rfl)) (by kernel_rfl) (by kernel_rfl)
theorem a8L{f:Nat}{fn:Func}{c:Code}{args:List AV}{h:Qa}{Q:Tj→Qa→Prop}(hp:pr f=none)(hf:Tryz.prog.funcs[f]?=some fn)(hb:fn.body=some c)(hl:adM args.length fn.ntmps=true)
 (he:FnE Tryz.prog h.length fn.results.toList Q (Rj Uu Tryz.prog 5000 c [] ⟨mk fn.ntmps (dU args),h⟩)):ClQ Uu f args h Q:=ClQ.start (pr:=pr) hp hf hb hl he
theorem ac9{f:Nat}{fn:Func}{c:Code}{args:List AV}{h:Qa}{Q:Tj→Qa→Prop}(hp:pr f=none)(hf:Tryz.prog.funcs[f]?=some fn)(hb:fn.body=some c)(hl:adM args.length fn.ntmps=true)
 (he:FnS Tryz.prog fn.results.toList Q (Rj Uu Tryz.prog 5000 c [] ⟨mk fn.ntmps (dU args),h⟩))  (hs:pr.sh f=none:=by exact rfl):yR Uu f args h Q:=yR.start (pr:=pr) hp hf hb hl he hs
theorem ce{f:Nat}{fn:Func}{c:Code}{args:List AV}{h:Qa}{o:Tj}{h':Qa}(hf:Tryz.prog.funcs[f]?=some fn)(he:FnE Tryz.prog h.length fn.results.toList (fun o1 h1=>(o1,h1)=(o,h')) (Rj Uu Tryz.prog 5000 c [] ⟨mk fn.ntmps (dU args),h⟩))(hp:pr f=none:=by exact rfl)(hb:fn.body=some c:=by exact rfl)(hl:adM args.length fn.ntmps=true:=by exact rfl):Uu.call (.fn f) args h=some (o,h'):=(a8L hp hf hb hl he).eq
theorem csh{f:Nat}{fn:Func}{c:Code}{args:List AV}{h:Qa}{o:Tj}{h':Qa}(hf:Tryz.prog.funcs[f]?=some fn)(he:FnS Tryz.prog fn.results.toList (fun o1 h1=>(o1,h1)=(o,h')) (Rj Uu Tryz.prog 5000 c [] ⟨mk fn.ntmps (dU args),h⟩))(hp:pr f=none:=by exact rfl)(hb:fn.body=some c:=by exact rfl)(hl:adM args.length fn.ntmps=true:=by exact rfl)(hs:pr.sh f=none:=by exact rfl):Uu.call (.sh f) args h=some (o,h'):=(ac9 hp hf hb hl he hs).eq
theorem lst{α σ ρ:Type}{c:Code}(N:Nat)(l:List α)(E:Nat→σ→Tm→Qa→Prop)(F:List α→σ→ρ)(Q:ρ→Ex→Tm→Qa→Prop)
 (stop:∀s t h Q',(∀e t h,Q (F [] s) e t h→Q' e ⟨mk N t,h⟩)→E l.length s t h→xB N (fun _ _=>False) Q' (Rj Uu Tryz.prog 5000 c [] ⟨mk N t,h⟩))
 (go:∀x rest i s t h J Q',(∀t' h' s',E (i+1) s' t' h'→F rest s'=F (x::rest) s→J t' h')→(∀e t h,Q (F (x::rest) s) e t h→Q' e ⟨mk N t,h⟩)→l[i]?=some x→i<l.length→E i s t h→
   xB N J Q' (Rj Uu Tryz.prog 5000 c [] ⟨mk N t,h⟩)):
 ∀s t h,E 0 s t h→LpQ Uu c ⟨mk N t,h⟩ (Ot N (Q (F l s))):=afX (pr:=pr) rfl N l E F Q stop go
theorem cnt{σ ρ:Type}{c:Code}(N:Nat)(E:Nat→σ→Tm→Qa→Prop)(F:Nat→σ→ρ)(Q:ρ→Ex→Tm→Qa→Prop)
 (stop:∀s t h Q',(∀e t h,Q (F 0 s) e t h→Q' e ⟨mk N t,h⟩)→E 0 s t h→xB N (fun _ _=>False) Q' (Rj Uu Tryz.prog 5000 c [] ⟨mk N t,h⟩))
 (go:∀n s t h J Q',(∀t' h' s',E n s' t' h'→F n s'=F (n+1) s→J t' h')→(∀e t h,Q (F (n+1) s) e t h→Q' e ⟨mk N t,h⟩)→E (n+1) s t h→xB N J Q' (Rj Uu Tryz.prog 5000 c [] ⟨mk N t,h⟩)):
 ∀n s t h,E n s t h→LpQ Uu c ⟨mk N t,h⟩ (Ot N (Q (F n s))):=akP (pr:=pr) rfl N E F Q stop go
theorem Qi{h:Qa}{b:Nat}{c:CB}(h0:h[b]?=some c)(l:Qa):(h++l)[b]?=some c:=by
 rw[ac4 (adA.1 h0).1];exact h0
end Go.Proofs.YtcncggaobhbomaaGreatDoor
namespace Go.Proofs.YtcncggaobhbomaaGreatDoor
open Go.Ev Go
set_option maxRecDepth 100000
set_option maxHeartbeats 16000000
structure Qd where
 one:Int
 other:Int
 valve:Bool
 opn:Bool
 tested:Int
 valid:Int
 bad:Bool
 test:Int
 change:Int
def Qd.cells(p:Qd):List AV:=[.int .i64 p.one,.int .i64 p.other,.bool p.valve,.bool p.opn,.int .i64 p.tested,.int .i64 p.valid,.bool p.bad,.int .i64 p.test,.int .i64 p.change]
structure Qj where
 rooms:Int
 need:Int
 nn:Bool
 parts:List Qd
abbrev Qj.cells(w:Qj):List AV:=[.int .i64 w.rooms,.int .i64 w.need,Rw 9 true w.nn (w.parts.map Qd.cells)]
theorem wY{α:Type}{f:α→List AV}{p:List AV→Prop}{q:α→Prop}(hf:∀r,p r→∃x,r=f x∧q x):∀{rows:List (List AV)},(∀r∈rows,p r)→∃l:List α,rows=l.map f∧∀x∈l,q x
 | [],_=>⟨[],rfl,fun x hx=>by simp at hx⟩
 |r::rows,h=>by
  obtain⟨x,rfl,hx⟩:=hf r (h r (List.mem_cons_self ..))
  obtain⟨l,rfl,hl⟩:=wY hf (fun r hr=>h r (List.mem_cons_of_mem _ hr))
  exact⟨x::l,rfl,fun y hy=>by
   rcases List.mem_cons.1 hy with rfl|hy
   ·exact hx
   ·exact hl y hy⟩
def i64(n:Int):Prop:= -9223372036854775808≤n∧n≤9223372036854775807
theorem bT{n:Nat}{r:List AV}(h:Ty Tryz.prog (n+1) 3 r):∃x,r=[.int .i64 x]∧i64 x:=by
 simp only[Ty,Tryz.underlying3]at h
 obtain⟨x,rfl,h1,h2⟩:=h
 exact⟨x,rfl,h1,h2⟩
theorem kE{n:Nat}{r:List AV}(h:Ty Tryz.prog (n+1) 4 r):∃x,r=[.bool x]:=by
 simp only[Ty,Tryz.underlying4]at h
 exact h
def Qd.fits(p:Qd):Prop:=i64 p.one∧i64 p.other∧i64 p.tested∧i64 p.valid∧i64 p.test∧i64 p.change
theorem aqN{n:Nat}{r:List AV}(h:Ty Tryz.prog (n+2) 46 r):∃x:Qd,r=x.cells∧x.fits:=by
 unfold Ty at h
 simp only[Tryz.underlying46,ahY]at h
 obtain⟨a0,b0,rfl,h0,a1,b1,rfl,h1,a2,b2,rfl,h2,a3,b3,rfl,h3,a4,b4,rfl,h4,a5,b5,rfl,h5,a6,b6,rfl,h6,a7,b7,rfl,h7,a8,b8,rfl,h8,rfl⟩:=h
 obtain⟨x0,rfl,k0⟩:=bT h0
 obtain⟨x1,rfl,k1⟩:=bT h1
 obtain⟨x2,rfl⟩:=kE h2
 obtain⟨x3,rfl⟩:=kE h3
 obtain⟨x4,rfl,k4⟩:=bT h4
 obtain⟨x5,rfl,k5⟩:=bT h5
 obtain⟨x6,rfl⟩:=kE h6
 obtain⟨x7,rfl,k7⟩:=bT h7
 obtain⟨x8,rfl,k8⟩:=bT h8
 exact⟨⟨x0,x1,x2,x3,x4,x5,x6,x7,x8⟩,rfl,k0,k1,k4,k5,k7,k8⟩
structure Qj.small(w:Qj):Prop where
 parts:w.parts.length≤maxLen
 fits:∀p∈w.parts,p.fits
 rooms:i64 w.rooms
 need:i64 w.need
theorem asB{n:Nat}{r:List AV}(h:Ty Tryz.prog (n+4) 24 r):∃w:Qj,r=w.cells∧w.small:=by
 unfold Ty at h
 simp only[Tryz.underlying24,ahY]at h
 obtain⟨a0,b0,rfl,h0,a1,b1,rfl,h1,a2,b2,rfl,h2,rfl⟩:=h
 obtain⟨x0,rfl,k0⟩:=bT h0
 obtain⟨x1,rfl,k1⟩:=bT h1
 unfold Ty at h2
 simp only[Tryz.underlying22]at h2
 obtain⟨n2,rows2,rfl,hl2,hrows2⟩:=h2
 obtain⟨l2,rfl,hm⟩:=wY (fun r hr=>aqN hr) hrows2
 have e2:Tryz.prog.cellsOf 46=9:=by kernel_rfl
 have f2:yO Tryz.prog (n+2) 46=true:=by
  simp only[yO,Tryz.underlying46,Tryz.underlying3,Tryz.underlying4];rfl
 rw[e2,f2]
 exact⟨⟨x0,x1,n2,l2⟩,rfl,by simpa using hl2,hm,k0,k1⟩
theorem ap4{av:AV}(h:TyV Tryz.prog 7 24 av):∃w:Qj,av=.agg w.cells∧w.small:=by
 unfold TyV at h
 simp only[Tryz.underlying24]at h
 obtain⟨cs,rfl,h⟩:=h
 obtain⟨s,rfl,hs⟩:=asB h
 exact⟨s,rfl,hs⟩
theorem qJ{av:AV}(h:TyV Tryz.prog 7 3 av):∃x,av=.int .i64 x∧i64 x:=by
 unfold TyV at h
 simp only[Tryz.underlying3]at h
 obtain⟨x,hx,hi⟩:=bT h
 simp only[List.cons.injEq,and_true]at hx
 exact⟨x,hx,hi⟩
end Go.Proofs.YtcncggaobhbomaaGreatDoor
namespace Go.Proofs.YtcncggaobhbomaaGreatDoor
open Go.Ev Go Go.Ev.Net
set_option maxRecDepth 100000
set_option maxHeartbeats 16000000
def Xw(x lo hi:Int):Bool:=decide (lo≤x)&&decide (x≤hi)
theorem wP(x lo hi:Int):Uu.call (.fn 50) [.int .i64 x,.int .i64 lo,.int .i64 hi] []=some (.ret (.bool (Xw x lo hi)),[]):=by
 (refine ce Tryz.func50 ?_;simp only[Tryz.f50];(have hb:=trivial;with_reducible repeat' (first|simp only[hb,Va.down,seval]|refine Qs ?_ ?_<;>intro hb|refine fd ?_|fail)))
 all_goals simp[Xw, *]
theorem oG(x lo hi:Int):Uu.call (.fn 39) [.int .i64 x,.int .i64 lo,.int .i64 hi] []=some (.ret (.bool (Xw x lo hi)),[]):=by
 (refine ce Tryz.func39 ?_;simp only[Tryz.f39];(have hb:=trivial;with_reducible repeat' (first|simp only[hb,Va.down,seval]|refine Qs ?_ ?_<;>intro hb|refine fd ?_|fail)))
 all_goals simp[Xw, *]
def dA(d:Int):Bool:=Xw d 0 5000
theorem afB(d:Int):Uu.call (.fn 18) [.int .i64 d] []=some (.ret (.bool (dA d)),[]):=by
 (refine ce Tryz.func18 ?_;simp only[Tryz.f18];(have hb:=trivial;with_reducible repeat' (first|simp only[hb,Va.down,seval,wP]|refine Qs ?_ ?_<;>intro hb|refine fd ?_|fail)))
 rfl
def Xq(p:Qd)(d:Int):Int:=if p.bad=true then 2 else if IntKind.i64.wrap (p.tested+p.valid)<d then 1 else 0
def adZ(p:Qd)(d:Int):Bool:=Xq p d==0&& !p.opn
def dC(n:Nat):List AV:=[.int .i64 (n:Int)]
def adJ(w:Qj)(d:Int):List Bool:=w.parts.map fun p=>adZ p d
theorem Zd{h:Qa}{b:Nat}(hb:b<h.length)(l:Qa)(c:CB):(h++l).set b c=h.set b c++l:=List.set_append_left _ _ hb
theorem Qp{h:Qa}{b:Nat}{c:CB}(e:h[b]?=some c):b<h.length:=(adA.1 e).1
theorem cE{h:Qa}{b:Nat}(c:CB)(l:Qa):(h.set b c++l)[h.length]?=l[0]?:=by
 rw[ahF (by simp)];simp
theorem cK{h:Qa}{b:Nat}(c:CB)(l:Qa)(k:Nat):(h.set b c++l)[h.length+k]?=l[k]?:=by
 rw[ahF (by simp)];simp
theorem aeB{h:Qa}{b b':Nat}{x:CB}(c:CB)(hne:b≠b')(hb:h[b']?=some x)(l:Qa):(h.set b c++l)[b']?=some x:=by
 have hlt:b'<h.length:=(adA.1 hb).1
 rw[ac4 (by simpa using hlt),adP hne];exact hb
def xO(w:Qj)(ts:List Bool):List Net.Edge:=List.zipWith (fun p t=>(p.one.toNat,p.other.toNat,if t=true then 1 else 0)) w.parts ts
structure xP(w:Qj)(N:Nat):Prop where
 rooms:w.rooms=(N:Int)
 n2:2≤N
 n8:N≤8
 len:w.parts.length≤1000
 ne:w.parts≠[]
 part:∀p∈w.parts,(0≤p.one∧p.one<(N:Int))∧(0≤p.other∧p.other<(N:Int))∧p.one≠p.other
theorem arC{w:Qj}{ts:List Bool}{i:Nat}{e:Net.Edge}(h:(xO w ts)[i]?=some e):∃p t,w.parts[i]?=some p∧ts[i]?=some t∧e=(p.one.toNat,p.other.toNat,if t=true then 1 else 0):=by
 unfold xO at h
 rw[List.getElem?_zipWith]at h
 cases h1:w.parts[i]? with
 |none=>simp[h1]at h
 |some p=>
  cases h2:ts[i]? with
  |none=>simp[h1,h2]at h
  |some t=>simp[h1,h2]at h;exact⟨p,t,rfl,rfl,h.symm⟩
theorem sN{w:Qj}{N:Nat}(hw:xP w N)(ts:List Bool):sQ (xO w ts) N:=fun a b c h=>by
 obtain⟨i,hi⟩:=List.getElem?_of_mem h
 obtain⟨p,t,h1,_,he⟩:=arC hi
 cases he
 have:=hw.part p (ajT h1)
 refine⟨by omega,by omega,by omega,?_⟩
 split<;>omega
theorem vR{d:List Nat}{a:Nat}(h:a<d.length):(d.map dC)[a]?=some [.int .i64 (d.getD a 0:Nat)]:=by
 rw[List.getElem?_map,anI h,List.getD_eq_getElem?_getD,anI h];rfl
def nZ(w:Qj)(N:Nat)(d:Int):Nat:=sW (xO w (adJ w d)) N w.parts.length
theorem aNZ(b:Bool):Uu.call (.fn 78) [.bool b] []=some (.ret (.int .i64 (if b=true then 1 else 0)),[]):=by
 cases b<;>(refine ce Tryz.func78 ?_;simp only[Tryz.f78];(have hb:=trivial;with_reducible repeat' (first|simp only[hb,Va.down,seval]|refine Qs ?_ ?_<;>intro hb|refine fd ?_|fail)))
theorem ao2(c:Int)(o:Bool):Uu.call (.fn 53) [.agg [.int .i64 c,.bool o]] []=some (.ret (.bool (c==0&& !o)),[]):=by
 cases hc:(c==0)<;>(refine ce Tryz.func53 ?_;simp only[Tryz.f53];(have hb:=trivial;with_reducible repeat' (first|simp only[hb,Va.down,seval,bbZ.down,hc]|refine Qs ?_ ?_<;>intro hb|refine fd ?_|fail)))
theorem Vv(b r o:Nat)(i:Int):ia Tryz.prog 82 (some (.ptr b r o)) (some (.int .i64 i))=if 0≤i∧i<12 then some (.ret (.ptr b r (o+i.toNat*2)),[])else none:=by
 have h:We Tryz.prog 82 (.ptr b r o) (.int .i64 i)=if 0≤i∧i<12 then some (.ptr b r (o+i.toNat*2))else none:=by
  unfold We
  simp only[Tryz.underlying82]
  have hz:Ze Tryz.prog 80=some 2:=by kernel_rfl
  rw[hz]
  simp
 simp only[ia,Option.bind_some,h]
 split<;>rfl
def Qh(w:Qj)(d:Int):List (Int × Bool):=w.parts.map (fun p=>(Xq p d,p.opn))++acG (12-w.parts.length) (0,false)
def Sm(l:List (Int × Bool)):List AV:=l.flatMap fun x=>[.int .i64 x.1,.bool x.2]
theorem Rh(l:List (Int × Bool)):(Sm l).length=2*l.length:=by
 induction l with
 |nil=>rfl
 |cons x l ih=>simp[Sm]at ih ⊢;omega
theorem zJ:∀(L:List (Int × Bool)) (i:Nat) (a:Int) (b b':Bool),L[i]?=some (a,b)→adD (i*2+1) (Sm L)++([.bool b']++ahS (i*2+2) (Sm L))=Sm (L.set i (a,b'))
 | [],i,a,b,b',h=>by simp at h
 |x::L,0,a,b,b',h=>by simp at h;subst h;simp[Sm]
 |x::L,i+1,a,b,b',h=>by
  have ih:=zJ L i a b b' (by simpa using h)
  rw[show(i+1)*2+1=(i*2+1)+1+1 by omega,show(i+1)*2+2=(i*2+2)+1+1 by omega]
  simp only[Sm,ah9,aiF,ai3,aoP,aoQ,aoR]at ih ⊢
  rw[←ih]
theorem rB:∀(L:List (Int × Bool)) (i:Nat) (a a':Int) (b:Bool),L[i]?=some (a,b)→adD (i*2) (Sm L)++([.int .i64 a']++ahS (i*2+1) (Sm L))=Sm (L.set i (a',b))
 | [],i,a,a',b,h=>by simp at h
 |x::L,0,a,a',b,h=>by simp at h;subst h;simp[Sm]
 |x::L,i+1,a,a',b,h=>by
  have ih:=rB L i a a' b (by simpa using h)
  rw[show(i+1)*2=(i*2)+1+1 by omega,show(i*2)+1+1+1=(i*2+1)+1+1 by omega]
  simp only[Sm,ah9,aiF,ai3,aoP,aoQ,aoR]at ih ⊢
  rw[←ih]
def pcI(w:Qj)(d:Int)(i:Nat):List (Int × Bool):=(w.parts.take i).map (fun p=>(Xq p d,p.opn))++acG (12-i) (0,false)
theorem auR{w:Qj}{d:Int}{i:Nat}(hi:i<w.parts.length)(h12:w.parts.length≤12):(pcI w d i)[i]?=some (0,false):=by
 have hl:((w.parts.take i).map fun p=>(Xq p d,p.opn)).length=i:=by rw[abV,aoS];omega
 unfold pcI
 rw[ahF (by omega),hl,Nat.sub_self,List.getElem?_replicate,if_pos (by omega)]
theorem alP{w:Qj}{d:Int}{i:Nat}{p:Qd}(hx:w.parts[i]?=some p)(h12:w.parts.length≤12):(pcI w d i).set i (Xq p d,p.opn)=pcI w d (i+1):=by
 have hi:i<w.parts.length:=(adA.1 hx).1
 have hl:((w.parts.take i).map fun p=>(Xq p d,p.opn)).length=i:=by rw[abV,aoS];omega
 unfold pcI
 rw[List.set_append_right _ _ (by omega),hl,Nat.sub_self,List.take_add_one,hx]
 have e:12-i=(12-(i+1))+1:=by omega
 rw[e,List.replicate_succ]
 simp
theorem abB(w:Qj)(d:Int)(wf:Bool)(h12:w.parts.length≤12):Uu.call (.fn 40) [.ptr 0 0 0] [.live 4 false wf [[.int .i64 w.rooms,.int .i64 w.need,Rw 9 true w.nn (w.parts.map Qd.cells),.int .i64 d]]]=some (.ret (.agg (Sm (Qh w d))),[.live 4 false wf [[.int .i64 w.rooms,.int .i64 w.need,Rw 9 true w.nn (w.parts.map Qd.cells),.int .i64 d]]]):=by
 refine ce Tryz.func40 ?_
 simp only[Tryz.f40]
 (have hb:=trivial;with_reducible repeat' (first|simp only[hb,Va.down,seval,ar5.down,abV]|refine Qs ?_ ?_<;>intro hb|refine fd ?_|fail))
 refine Xz (lst 44 w.parts (fun i (_:Unit) t h=>t 0=.ptr 0 0 0∧t 2=.ptr 1 0 0∧t 3=.ptr 2 0 0∧t 10=Rw 9 true w.nn (w.parts.map Qd.cells)∧t 11=.int .i64 (w.parts.length:Nat)∧t 12=.int .i64 (i:Int)∧h[0]?=some (.live 4 false wf [[.int .i64 w.rooms,.int .i64 w.need,Rw 9 true w.nn (w.parts.map Qd.cells),.int .i64 d]])∧h[1]?=some (.live 24 true false [Sm (acG 12 (0,false))])∧∃f,h[2]?=some (.live 24 true f [Sm (pcI w d i)])) (fun _ _=>())
  (fun _ e t h=>e=.exit 0∧t 2=.ptr 1 0 0∧t 3=.ptr 2 0 0∧h[0]?=some (.live 4 false wf [[.int .i64 w.rooms,.int .i64 w.need,Rw 9 true w.nn (w.parts.map Qd.cells),.int .i64 d]])∧h[1]?=some (.live 24 true false [Sm (acG 12 (0,false))])∧∃f,h[2]?=some (.live 24 true f [Sm (pcI w d w.parts.length)])) ?_ ?_ () _ _ ?_) (fun e t h hk=>?_)
 ·rintro _ t h Q' kQ ⟨h0,h2,h3,h10,h11,h12',hA,hB,f,hC⟩
  (have hb:=trivial;with_reducible repeat' (first|simp only[hb,Va.down,seval,ar5.down,h11,h12',ai4,decide_false]|refine Qs ?_ ?_<;>intro hb|refine fd ?_|fail))
  exact kQ _ _ _ ⟨rfl,by simp[up,h2],by simp[up,h3],hA,hB,f,hC⟩
 ·rintro p rest i _ t h J Q' kJ kQ hx hi ⟨h0,h2,h3,h10,h11,h12',hA,hB,f,hC⟩
  have hdd:decide ((i:Int)<(w.parts.length:Int))=true:=decide_eq_true (by omega)
  have hww:=To hi (by unfold maxLen;omega)
  have hA1:=Qi hA
  have hC1:=Qi hC
  have hl2:=Qp hC
  have i1:((i:Int)<12)=True:=eq_true (by omega)
  have hpl:(Sm (pcI w d i)).length=24:=by rw[Rh];simp[pcI];omega
  have hS:=Zd hl2
  have i2:(i*2≤22)=True:=eq_true (by omega)
  have i3:(i*2≤23)=True:=eq_true (by omega)
  have hat:=auR (d:=d) hi h12
  have hnx:=alP (d:=d) hx h12
  generalize hL:pcI w d i=L at *
  have s1:=zJ L i 0 false p.opn hat
  have tk1:adD (23-i*2) [AV.bool p.opn]=[AV.bool p.opn]:=ad8 (by simp;omega)
  have hat2:(L.set i (0,p.opn))[i]?=some (0,p.opn):=ai5 (by have:=(adA.1 hat).1;exact this)
  have s2:=fun v=>rB (L.set i (0,p.opn)) i 0 v p.opn hat2
  have tk2:∀v,adD (24-i*2) [AV.int .i64 v]=[AV.int .i64 v]:=fun v=>ad8 (by simp;omega)
  simp only[aiF,ai3]at s1 s2
  have hpl2:(Sm (L.set i (0,p.opn))).length=24:=by rw[Rh]at hpl ⊢;simpa using hpl
  have hg2:∀c l,(h.set 2 c++l)[2]?=some c:=fun c l=>by rw[ac4 (by simpa using hl2),ai5 hl2]
  have hg0:∀c l,(h.set 2 c++l)[0]?=h[0]?:=fun c l=>by rw[ac4 (by simp;omega),adP (by omega)]
  have hg1:∀c l,(h.set 2 c++l)[1]?=h[1]?:=fun c l=>by rw[ac4 (by simp;omega),adP (by omega)]
  have hgs:∀c l c',(h.set 2 c++l).set 2 c'=h.set 2 c'++l:=fun c l c'=>by rw[Zd (by simpa using hl2),List.set_set]
  have ss2:∀v:Int,(L.set i (0,p.opn)).set i (v,p.opn)=L.set i (v,p.opn):=fun v=>List.set_set ..
  have nx:∀(v:Int) (t':Tm) (l':Qa),Xq p d=v→t' 0=.ptr 0 0 0∧t' 2=.ptr 1 0 0∧t' 3=.ptr 2 0 0∧t' 10=Rw 9 true w.nn (w.parts.map Qd.cells)∧t' 11=.int .i64 (w.parts.length:Nat)∧t' 12=.int .i64 ((i+1:Nat):Int)→J t' (h.set 2 (.live 24 true true [Sm (L.set i (v,p.opn))])++l'):=fun v t' l' hv ht=>by
   rw[←hv,hnx]
   exact kJ _ _ () ⟨ht.1,ht.2.1,ht.2.2.1,ht.2.2.2.1,ht.2.2.2.2.1,ht.2.2.2.2.2,by rw[hg0];exact hA,by rw[hg1];exact hB,true,hg2 _ _⟩ rfl
  (have hb:=trivial;with_reducible repeat' (first|simp only[hb,Va.down,seval,ar5.down,h0,h2,h3,h10,h11,h12',hdd,hww,hx,hA,hA1,hC,hC1,hS,Vv,i1,i2,i3,hpl,hpl2,s1,s2,tk1,tk2,ss2,hg2,hg0,hg1,hgs,cE,cK,List.length_set,Qd.cells]|refine Qs ?_ ?_<;>intro hb|refine fd ?_|fail))
  ·refine Ru (nx 2 _ _ (by simp[Xq, *]) ⟨by simp[up,h0],by simp[up,h2],by simp[up,h3],by simp[up,h10],by simp[up,h11],by simp[up]⟩)
  ·refine Ru (nx 1 _ _ (by simp[Xq];simp_all) ⟨by simp[up,h0],by simp[up,h2],by simp[up,h3],by simp[up,h10],by simp[up,h11],by simp[up]⟩)
  ·refine Ru (nx 0 _ _ (by simp[Xq];simp_all) ⟨by simp[up,h0],by simp[up,h2],by simp[up,h3],by simp[up,h10],by simp[up,h11],by simp[up]⟩)
 ·exact⟨by simp[up,dU],by simp[up],by simp[up],by simp[up],by simp[up],by simp[up],rfl,rfl,false,rfl⟩
 obtain⟨rfl,h2,h3,hA,hB,f,hC⟩:=hk
 have hL:pcI w d w.parts.length=Qh w d:=by unfold pcI Qh;rw[ad8 (Nat.le_refl _)]
 rw[hL]at hC
 have hpl:(Sm (Qh w d)).length=24:=by rw[Rh];simp[Qh];omega
 have hpz:(Sm (acG 12 (0,false))).length=24:=by rw[Rh];simp
 have htk:adD 24 (Sm (Qh w d))=Sm (Qh w d):=ad8 (by omega)
 have hl1:=Qp hB
 generalize Sm (acG 12 (0,false))=zs at *
 have hdz:ahS 24 zs=[]:=List.drop_eq_nil_iff.2 (by omega)
 have hcell:(Sm (Qh w d)).all AV.isCell=true:=by
  have:∀l:List (Int × Bool),(Sm l).all AV.isCell=true:=fun l=>by
   induction l with
   |nil=>rfl
   |cons x l ih=>simp only[Sm,ah9,List.all_append]at ih ⊢;rw[ih];rfl
  exact this _
 have hform:∀x∈Sm (Qh w d),(∃n,x=.int .i64 n)∨∃b,x=.bool b:=fun x hx=>by
  simp only[Sm,List.mem_flatMap,List.mem_cons,List.not_mem_nil,or_false]at hx
  obtain⟨y,_,rfl|rfl⟩:=hx
  ·exact .inl ⟨_,rfl⟩
  ·exact .inr ⟨_,rfl⟩
 have hflat:(Sm (Qh w d)).all AV.flat=true:=agF.2 fun x hx=>by rcases hform x hx with⟨n,rfl⟩|⟨b,rfl⟩<;>rfl
 have hrf:Qz.refL (Qz 7) [0] (Sm (Qh w d))=some (Sm (Qh w d),[0]):=Vj fun x hx=>by rcases hform x hx with⟨n,rfl⟩|⟨b,rfl⟩<;>rfl
 have hg1:∀c,(h.set 1 c)[1]?=some c:=fun c=>ai5 hl1
 have hg0:∀c,(h.set 1 c)[0]?=h[0]?:=fun c=>adP (by omega)
 generalize Sm (Qh w d)=ps at *
 (have hb:=trivial;with_reducible repeat' (first|simp only[hb,Va.down,seval,ar5.down,h2,h3,hA,hB,hC,hpl,hpz,htk,hdz,hcell,hflat,hrf,hg1,hg0]|refine Qs ?_ ?_<;>intro hb|refine fd ?_|fail))
def Xp(N:Int)(p:Qd):Bool:=Xw p.one 0 (IntKind.i64.wrap (N-1))&&Xw p.other 0 (IntKind.i64.wrap (N-1))&& !(p.one==p.other)&& !(p.opn&& !p.valve)&&dA p.tested&&dA p.valid&&Xw p.test 1 1000&&Xw p.change 1 1000
def aaV(w:Qj):Bool:=Xw w.rooms 2 8&&Xw w.need 0 12&&Xw (w.parts.length:Int) 1 12
def Wj(w:Qj):Bool:=aaV w&&w.parts.all (Xp w.rooms)
theorem amX(w:Qj)(hs:w.small):Uu.call (.fn 17) [.agg [.int .i64 w.rooms,.int .i64 w.need,Rw 9 true w.nn (w.parts.map Qd.cells)]] []=some (.ret (.bool (Wj w)),[]):=by
 have k1:=wP w.rooms 2 8
 have k2:=wP w.need 0 12
 have k3:=wP (w.parts.length:Int) 1 12
 have hh:aaV w=(Xw w.rooms 2 8&&Xw w.need 0 12&&Xw (w.parts.length:Int) 1 12):=rfl
 unfold Wj
 generalize Xw w.rooms 2 8=c1 at *
 generalize Xw w.need 0 12=c2 at *
 generalize Xw (w.parts.length:Int) 1 12=c3 at *
 cases c1
 ·rw[hh]
  (refine ce Tryz.func17 ?_;simp only[Tryz.f17];(have hb:=trivial;with_reducible repeat' (first|simp only[hb,Va.down,seval,yL.down,k1,k2,k3,abV]|refine Qs ?_ ?_<;>intro hb|refine fd ?_|fail)))
 cases c2
 ·rw[hh]
  (refine ce Tryz.func17 ?_;simp only[Tryz.f17];(have hb:=trivial;with_reducible repeat' (first|simp only[hb,Va.down,seval,yL.down,k1,k2,k3,abV]|refine Qs ?_ ?_<;>intro hb|refine fd ?_|fail)))
 cases c3
 ·rw[hh]
  (refine ce Tryz.func17 ?_;simp only[Tryz.f17];(have hb:=trivial;with_reducible repeat' (first|simp only[hb,Va.down,seval,yL.down,k1,k2,k3,abV]|refine Qs ?_ ?_<;>intro hb|refine fd ?_|fail)))
 rw[hh]
 simp only[Bool.and_self,Bool.true_and]
 (refine ce Tryz.func17 ?_;simp only[Tryz.f17];(have hb:=trivial;with_reducible repeat' (first|simp only[hb,Va.down,seval,yL.down,k1,k2,k3,abV]|refine Qs ?_ ?_<;>intro hb|refine fd ?_|fail)))
 refine Xz (lst 90 w.parts (fun i (zz:Unit) t h=>t 1=.ptr 0 0 0∧t 3=.int .i64 i∧(h[0]?=some (.live 3 false false [[.int .i64 w.rooms,.int .i64 w.need,Rw 9 true w.nn (w.parts.map Qd.cells)]]))) (fun rest zz=>rest.all (Xp w.rooms)) (fun r e t h=>(e=.exit 0∧r=true)∨(e=.ret∧t 2=.bool false∧r=false)) ?_ ?_ () _ _ ?_) (fun e t h hk=>?_)
 ·rintro _ t h Q' kQ ⟨h1,h3,hA⟩
  (have hb:=trivial;with_reducible repeat' (first|simp only[hb,Va.down,seval,yL.down,h1,h3,ai4,decide_false,hA,abV]|refine Qs ?_ ?_<;>intro hb|refine fd ?_|fail))
  exact kQ _ _ _ (.inl ⟨rfl,rfl⟩)
 ·rintro x rest i _ t h J Q' kJ kQ hx hi ⟨h1,h3,hA⟩
  have hd:decide ((i:Int)<(w.parts.length:Int))=true:=decide_eq_true (by omega)
  have hw:=To hi hs.parts
  have q1:=wP x.one 0 (IntKind.i64.wrap (w.rooms-1))
  have q2:=wP x.other 0 (IntKind.i64.wrap (w.rooms-1))
  have q4:=afB x.tested
  have q5:=afB x.valid
  have q6:=wP x.test 1 1000
  have q7:=wP x.change 1 1000
  have hp:Xp w.rooms x=(Xw x.one 0 (IntKind.i64.wrap (w.rooms-1))&&Xw x.other 0 (IntKind.i64.wrap (w.rooms-1))&& !(x.one==x.other)&& !(x.opn&& !x.valve)&&dA x.tested&&dA x.valid&&Xw x.test 1 1000&&Xw x.change 1 1000):=rfl
  have hA1:=Qi hA
  generalize Xw x.one 0 (IntKind.i64.wrap (w.rooms-1))=d1 at *
  generalize Xw x.other 0 (IntKind.i64.wrap (w.rooms-1))=d2 at *
  cases hq3:(x.one==x.other)
  all_goals rw[hq3]at hp
  all_goals generalize dA x.tested=d4 at *
  all_goals generalize dA x.valid=d5 at *
  all_goals generalize Xw x.test 1 1000=d6 at *
  all_goals generalize Xw x.change 1 1000=d7 at *
  all_goals (have hb:=trivial;with_reducible repeat' (first|simp only[hb,Va.down,seval,yL.down,h1,h3,hd,hx,hw,hA,hA1,q1,q2,hq3,q4,q5,q6,q7,Qd.cells,abV]|refine Qs ?_ ?_<;>intro hb|refine fd ?_|fail))
  all_goals first|(refine kQ _ _ _ (.inr ⟨rfl,by simp[up],?_⟩);simp_all;done)|(refine Ru (kJ _ _ () ⟨?_,?_,hA1 _⟩ ?_);(simp[up,h1]);(simp[up]);(simp_all))
 ·exact⟨by simp[up,dU],by simp[up],rfl⟩
 rcases hk with⟨rfl,hr⟩|⟨rfl,h2,hr⟩
 ·rw[hr]
  (have hb:=trivial;with_reducible repeat' (first|simp only[hb,Va.down,seval,yL.down]|refine Qs ?_ ?_<;>intro hb|refine fd ?_|fail))
 ·rw[hr]
  (have hb:=trivial;with_reducible repeat' (first|simp only[hb,Va.down,seval,yL.down,h2]|refine Qs ?_ ?_<;>intro hb|refine fd ?_|fail))
theorem ae9{w:Qj}(h:Wj w=true):∃N,xP w N∧w.parts.length≤12:=by
 simp only[Wj,aaV,Xw,aoT,decide_eq_true_eq,agF]at h
 obtain⟨⟨⟨⟨h1,h2⟩,h3,h4⟩,h5,h6⟩,h7⟩:=h
 refine⟨w.rooms.toNat,⟨by omega,by omega,by omega,by omega,fun e=>by rw[e]at h5;simp at h5,fun p hp=>?_⟩,by omega⟩
 have:=h7 p hp
 simp only[Xp,Xw,aoT,decide_eq_true_eq,Bool.not_eq_true',beq_eq_false_iff_ne]at this
 obtain⟨⟨⟨⟨⟨⟨⟨a1,a2⟩,a3⟩,_⟩,_⟩,_⟩,_⟩,_⟩:=this
 rw[Uf (by omega) (by omega)]at a1 a2
 refine⟨by omega,by omega,a3⟩
def vT{α:Type}(p:α→Bool):List α→Int→Int
 | [],_=> -1
 |x::l,i=>if p x=true then i else vT p l (i+1)
theorem wZ{α:Type}(p:α→Bool):∀(l:List α) (i:Int),0≤i→decide (0≤vT p l i)=l.any p
 | [],i,_=>rfl
 |x::l,i,h=>by
  unfold vT
  split
  ·rename_i hp;simp[h,hp]
  ·rename_i hp;rw[wZ p l (i+1) (by omega)];simp[hp]
theorem axD(p:Qd)(N:Int):Uu.call (.fn 85) [.agg [.int .i64 p.one,.int .i64 p.other,.bool p.valve,.bool p.opn,.int .i64 p.tested,.int .i64 p.valid,.bool p.bad,.int .i64 p.test,.int .i64 p.change],.int .i64 N] []=some (.ret (.bool (Xp N p)),[]):=by
 have q1:=oG p.one 0 (IntKind.i64.wrap (N-1))
 have q2:=oG p.other 0 (IntKind.i64.wrap (N-1))
 have q4:=oG p.tested 0 5000
 have q5:=oG p.valid 0 5000
 have q6:=oG p.test 1 1000
 have q7:=oG p.change 1 1000
 have hp:Xp N p=(Xw p.one 0 (IntKind.i64.wrap (N-1))&&Xw p.other 0 (IntKind.i64.wrap (N-1))&& !(p.one==p.other)&& !(p.opn&& !p.valve)&&Xw p.tested 0 5000&&Xw p.valid 0 5000&&Xw p.test 1 1000&&Xw p.change 1 1000):=rfl
 generalize Xw p.one 0 (IntKind.i64.wrap (N-1))=d1 at *
 generalize Xw p.other 0 (IntKind.i64.wrap (N-1))=d2 at *
 generalize Xw p.tested 0 5000=d4 at *
 generalize Xw p.valid 0 5000=d5 at *
 generalize Xw p.test 1 1000=d6 at *
 generalize Xw p.change 1 1000=d7 at *
 cases hq3:(p.one==p.other)
 all_goals rw[hq3]at hp
 all_goals rw[hp]
 all_goals (refine ce Tryz.func85 ?_;simp only[Tryz.f85];(have hb:=trivial;with_reducible repeat' (first|simp only[hb,Va.down,seval,bc9.down,q1,q2,hq3,q4,q5,q6,q7]|refine Qs ?_ ?_<;>intro hb|refine fd ?_|fail)))
 all_goals simp_all
theorem apR(w:Qj)(x:Qd):Uu.call (.fn 84) [.agg [.int .i64 x.one,.int .i64 x.other,.bool x.valve,.bool x.opn,.int .i64 x.tested,.int .i64 x.valid,.bool x.bad,.int .i64 x.test,.int .i64 x.change],.ptr 0 0 0] [.live 3 false false [[.int .i64 w.rooms,.int .i64 w.need,Rw 9 true w.nn (w.parts.map Qd.cells)]]]=some (.ret (.bool (!Xp w.rooms x)),[.live 3 false false [[.int .i64 w.rooms,.int .i64 w.need,Rw 9 true w.nn (w.parts.map Qd.cells)]]]):=by
 have h:=axD x w.rooms
 (refine ce Tryz.func84 ?_;simp only[Tryz.f84];(have hb:=trivial;with_reducible repeat' (first|simp only[hb,Va.down,seval,bcF.down,h]|refine Qs ?_ ?_<;>intro hb|refine fd ?_|fail)))
theorem aiU{l:List Qd}{nn:Bool}{g:Nat}{mm:Qj}{p:Qd→Bool}(hp:∀x∈l,Uu.call (.fn g) (.agg [.int .i64 x.one,.int .i64 x.other,.bool x.valve,.bool x.opn,.int .i64 x.tested,.int .i64 x.valid,.bool x.bad,.int .i64 x.test,.int .i64 x.change]::[.ptr 0 0 0]) [.live 3 false false [[.int .i64 mm.rooms,.int .i64 mm.need,Rw 9 true mm.nn (mm.parts.map Qd.cells)]]]=some (.ret (.bool (p x)),[.live 3 false false [[.int .i64 mm.rooms,.int .i64 mm.need,Rw 9 true mm.nn (mm.parts.map Qd.cells)]]]))(hl:l.length≤maxLen):
 Uu.call (.fn 105) [Rw 9 true nn (l.map Qd.cells),.func (.func g) [] [.ptr 0 0 0]] [.live 3 false false [[.int .i64 mm.rooms,.int .i64 mm.need,Rw 9 true mm.nn (mm.parts.map Qd.cells)]]]=some (.ret (.int .i64 (vT p l 0)),[.live 3 false false [[.int .i64 mm.rooms,.int .i64 mm.need,Rw 9 true mm.nn (mm.parts.map Qd.cells)]]]):=by
 (refine ce Tryz.func105 ?_;simp only[Tryz.f105];(have hb:=trivial;with_reducible repeat' (first|simp only[hb,Va.down,seval,zX.down,abV]|refine Qs ?_ ?_<;>intro hb|refine fd ?_|fail)))
 refine Xz (lst 19 l (fun i (s:Int) t h=>s=i∧h=[.live 3 false false [[.int .i64 mm.rooms,.int .i64 mm.need,Rw 9 true mm.nn (mm.parts.map Qd.cells)]]]∧t 0=Rw 9 true nn (l.map Qd.cells)∧t 1=.func (.func g) [] [.ptr 0 0 0]∧t 7=.int .i64 l.length∧t 8=.int .i64 i)
  (fun rest s=>vT p rest s) (fun r e t h=>h=[.live 3 false false [[.int .i64 mm.rooms,.int .i64 mm.need,Rw 9 true mm.nn (mm.parts.map Qd.cells)]]]∧((e=.exit 0∧r= -1)∨(e=.ret∧t 4=.int .i64 r))) ?_ ?_ 0 _ _ ?_) (fun e t h hk=>?_)
 ·rintro s t h Q' kQ ⟨rfl,rfl,h0,h1,h7,h8⟩
  (have hb:=trivial;with_reducible repeat' (first|simp only[hb,Va.down,seval,zX.down,h0,h1,h7,h8,ai4,decide_false]|refine Qs ?_ ?_<;>intro hb|refine fd ?_|fail))
  exact kQ _ _ _ ⟨rfl,.inl ⟨rfl,rfl⟩⟩
 ·rintro x rest i s t h J Q' kJ kQ hx hi ⟨rfl,rfl,h0,h1,h7,h8⟩
  have hpx:=hp x (ajT hx)
  have hd:decide ((i:Int)<(l.length:Int))=true:=by simpa using hi
  (have hb:=trivial;with_reducible repeat' (first|simp only[hb,Va.down,seval,zX.down,h0,h1,h7,h8,hd,hx,Qd.cells,hpx,To hi hl]|refine Qs ?_ ?_<;>intro hb|refine fd ?_|fail))
  ·exact kQ _ _ _ ⟨rfl,.inr ⟨rfl,by simp[up,vT,hb]⟩⟩
  ·exact Ru (kJ _ _ (i+1) ⟨by simp,rfl,by simp[up,h0],by simp[up,h1],by simp[up,h7],by simp[up]⟩ (by simp[vT,hb]))
 ·exact⟨rfl,rfl,by simp[up,dU],by simp[up,dU],by simp[up],by simp[up]⟩
 ·obtain⟨rfl,⟨rfl,hi⟩|⟨rfl,hi⟩⟩:=hk
  ·(have hb:=trivial;with_reducible repeat' (first|simp only[hb,Va.down,seval,zX.down]|refine Qs ?_ ?_<;>intro hb|refine fd ?_|fail))
   rw[hi]
  ·(have hb:=trivial;with_reducible repeat' (first|simp only[hb,Va.down,seval,zX.down,hi]|refine Qs ?_ ?_<;>intro hb|refine fd ?_|fail))
theorem ad0{l:List Qd}{nn:Bool}{g:Nat}{mm:Qj}{p:Qd→Bool}(hp:∀x∈l,Uu.call (.fn g) (.agg [.int .i64 x.one,.int .i64 x.other,.bool x.valve,.bool x.opn,.int .i64 x.tested,.int .i64 x.valid,.bool x.bad,.int .i64 x.test,.int .i64 x.change]::[.ptr 0 0 0]) [.live 3 false false [[.int .i64 mm.rooms,.int .i64 mm.need,Rw 9 true mm.nn (mm.parts.map Qd.cells)]]]=some (.ret (.bool (p x)),[.live 3 false false [[.int .i64 mm.rooms,.int .i64 mm.need,Rw 9 true mm.nn (mm.parts.map Qd.cells)]]]))(hl:l.length≤maxLen):
 Uu.call (.fn 83) [Rw 9 true nn (l.map Qd.cells),.func (.func g) [] [.ptr 0 0 0]] [.live 3 false false [[.int .i64 mm.rooms,.int .i64 mm.need,Rw 9 true mm.nn (mm.parts.map Qd.cells)]]]=some (.ret (.bool (l.any p)),[.live 3 false false [[.int .i64 mm.rooms,.int .i64 mm.need,Rw 9 true mm.nn (mm.parts.map Qd.cells)]]]):=by
 (refine ce Tryz.func83 ?_;simp only[Tryz.f83];(have hb:=trivial;with_reducible repeat' (first|simp only[hb,Va.down,seval,aiU hp hl,wZ p l 0 (Int.le_refl 0)]|refine Qs ?_ ?_<;>intro hb|refine fd ?_|fail)))
theorem aw0(w:Qj)(hs:w.small):Uu.call (.fn 61) [.agg [.int .i64 w.rooms,.int .i64 w.need,Rw 9 true w.nn (w.parts.map Qd.cells)]] []=some (.ret (.bool (Wj w)),[]):=by
 have k1:=oG w.rooms 2 8
 have k2:=oG w.need 0 12
 have k3:=oG (w.parts.length:Int) 1 12
 have hcM:=ad0 (mm:=w) (l:=w.parts) (nn:=w.nn) (g:=84) (p:=fun x=> !Xp w.rooms x) (fun x _=>apR w x) hs.parts
 have q1:w.parts.all (Xp w.rooms)= !(w.parts.any fun x=> !Xp w.rooms x):=List.all_eq_not_any_not
 have hh:aaV w=(Xw w.rooms 2 8&&Xw w.need 0 12&&Xw (w.parts.length:Int) 1 12):=rfl
 unfold Wj
 rw[hh,q1]
 generalize Xw w.rooms 2 8=c1 at *
 generalize Xw w.need 0 12=c2 at *
 generalize Xw (w.parts.length:Int) 1 12=c3 at *
 generalize(w.parts.any fun x=> !Xp w.rooms x)=c4 at *
 cases c1<;>cases c2<;>cases c3
 all_goals (refine ce Tryz.func61 ?_;simp only[Tryz.f61];(have hb:=trivial;with_reducible repeat' (first|simp only[hb,Va.down,seval,bcX.down,k1,k2,k3,hcM,abV]|refine Qs ?_ ?_<;>intro hb|refine fd ?_|fail)))
 all_goals simp
theorem aeY(w:Qj)(hs:w.small)(d:Int):Uu.call (.fn 34) [.agg [.int .i64 w.rooms,.int .i64 w.need,Rw 9 true w.nn (w.parts.map Qd.cells)],.int .i64 d] []=some (.ret (.tup [.ptr 0 0 0,.bool (Wj w&&dA d)]),[.live 4 false false [[.int .i64 w.rooms,.int .i64 w.need,Rw 9 true w.nn (w.parts.map Qd.cells),.int .i64 d]]]):=by
 have h:=aw0 w hs
 have hd:=oG d 0 5000
 rw[show Xw d 0 5000=dA d from rfl]at hd
 generalize Wj w=c at *
 generalize dA d=e at *
 cases c
 ·(refine ce Tryz.func34 ?_;simp only[Tryz.f34];(have hb:=trivial;with_reducible repeat' (first|simp only[hb,Va.down,seval,aR1.down,h,hd]|refine Qs ?_ ?_<;>intro hb|refine fd ?_|fail)))
 ·(refine ce Tryz.func34 ?_;simp only[Tryz.f34];(have hb:=trivial;with_reducible repeat' (first|simp only[hb,Va.down,seval,aR1.down,h,hd]|refine Qs ?_ ?_<;>intro hb|refine fd ?_|fail)))
end Go.Proofs.YtcncggaobhbomaaGreatDoor
