/- The functions of the layer, walked. -/
import Derived.Test.YtfkokgjfpojeoaaGreatDoorLibE
import Derived.Test.YtfkokgjfpojeoaaGreatDoorChecked
import Derived.Test.YtfkokgjfpojeoaaGreatDoorLibD
import Derived.Test.YtfkokgjfpojeoaaGreatDoorRows
import Derived.Test.YtfkokgjfpojeoaaGreatDoorTie
import Derived.Test.YtfkokgjfpojeoaaGreatDoorCards
import Derived.Test.YtfkokgjfpojeoaaGreatDoorShelf
import Derived.ProofKit
import Derived.LaidMore
import Derived.OpenShut
import Derived.Stop.Joined
open And renaming intro→aaP
open List renaming length_map→acP,mem_of_getElem?→afG,getElem?_eq_getElem→af2,take_add_one→agG
open Int renaming lt_irrefl→acQ,le_refl→acV,natCast_zero→afV
open Bool renaming not_true→acR,not_false→acS,true_and→acT,false_and→ac6,and_false→ad5,and_true→aeG,not_eq_eq_eq_not→agI
open Nat renaming ble→acU,add_sub_cancel→agA
set_option linter.unusedSimpArgs false
set_option linter.unusedVariables false
namespace Go.Proofs.YtfkokgjfpojeoaaGreatDoor
open Go.Ev
set_option maxRecDepth 100000
theorem Es(h:Aa)(b r o:Nat):ld Tryz.prog 27 h (some (.ptr b r o))=ldR (Ko (h[b]?) r) o 7:=aR ⟨by kernel_rfl,by kernel_rfl⟩ h b r o
theorem eJ(b r o:Nat):oR Tryz.prog 27 (some (.ptr b r o))=some [.cells b o 7]:=Jo (isA:=true) (n:=7) (by kernel_rfl) (by kernel_rfl) b r o
theorem dY(fl nn:Bool)(rows:List (List AV)):ln Tryz.prog 28 (some (Ad 2 fl nn rows))=some (.ret (.int .i64 rows.length),[]):=Yf ⟨_,Tryz.underlying28,by kernel_rfl⟩ fl nn rows
theorem Nu(b r o:Nat):fa Tryz.prog 27 (some (.ptr b r o)) 5=some (.ret (.ptr b r (o+5)),[]):=Cd (show Di Tryz.prog 27 5 5 1 from⟨_,_,Tryz.underlying27,rfl,rfl,by kernel_rfl,by decide⟩) b r o
theorem Bc(h:Aa)(b r o:Nat):ld Tryz.prog 3 h (some (.ptr b r o))=wW (Ko (h[b]?) r) o:=Zo ⟨by kernel_rfl,1,by kernel_rfl⟩ h b r o
theorem Ek(h:Aa)(c:AV)(cs:List AV):ld Tryz.prog 3 h (some (.iptr (c::cs)))=some (.ret c,[]):=qO ⟨by kernel_rfl,1,by kernel_rfl⟩ h c cs
theorem Xj(b r o:Nat):oR Tryz.prog 3 (some (.ptr b r o))=some [.cells b o 1]:=Jo (isA:=false) (n:=1) (by kernel_rfl) (by kernel_rfl) b r o
theorem vV(b r len:Nat)(k:IntKind)(i:Int):ia Tryz.prog 28 (some (.slr 2 b r len)) (some (.int k i))=if 0≤i∧i<len then some (.ret (.ptr b (r+i.toNat) 0),[])else none:=fM ⟨_,Tryz.underlying28,by kernel_rfl⟩ b r len k i
theorem eQ(fl nn:Bool)(rows:List (List AV))(k:IntKind)(i:Int):ia Tryz.prog 28 (some (Ad 2 fl nn rows)) (some (.int k i))=if 0≤i then r1 ((rows[i.toNat]?).map .iptr)else none:=Vk ⟨_,Tryz.underlying28,by kernel_rfl⟩ fl nn rows k i
theorem Gy(b r o:Nat):fa Tryz.prog 36 (some (.ptr b r o)) 0=some (.ret (.ptr b r (o+0)),[]):=Cd (show Di Tryz.prog 36 0 0 1 from⟨_,_,Tryz.underlying36,rfl,rfl,by kernel_rfl,by decide⟩) b r o
theorem kX(cs:List AV):fa Tryz.prog 36 (some (.iptr cs)) 0=if 0+1≤cs.length then some (.ret (.iptr (cs.drop 0)),[])else none:=Tn (show Di Tryz.prog 36 0 0 1 from⟨_,_,Tryz.underlying36,rfl,rfl,by kernel_rfl,by decide⟩) cs
theorem Ci(h:Aa)(b r o:Nat):ld Tryz.prog 25 h (some (.ptr b r o))=wW (Ko (h[b]?) r) o:=Zo ⟨by kernel_rfl,1,by kernel_rfl⟩ h b r o
theorem cZ(h:Aa)(c:AV)(cs:List AV):ld Tryz.prog 25 h (some (.iptr (c::cs)))=some (.ret c,[]):=qO ⟨by kernel_rfl,1,by kernel_rfl⟩ h c cs
theorem Td(b r o:Nat):oR Tryz.prog 25 (some (.ptr b r o))=some [.cells b o 1]:=Jo (isA:=false) (n:=1) (by kernel_rfl) (by kernel_rfl) b r o
theorem Ej(fl nn:Bool)(rows:List (List AV)):ln Tryz.prog 25 (some (Ad 1 fl nn rows))=some (.ret (.int .i64 rows.length),[]):=Yf ⟨_,Tryz.underlying25,by kernel_rfl⟩ fl nn rows
theorem Vg(h:Aa)(b r o:Nat):ld Tryz.prog 36 h (some (.ptr b r o))=ldR (Ko (h[b]?) r) o 2:=aR ⟨by kernel_rfl,by kernel_rfl⟩ h b r o
theorem dB(h:Aa)(cs:List AV):ld Tryz.prog 36 h (some (.iptr cs))=if 2≤cs.length then some (.ret (.agg (cs.take 2)),[])else none:=mK ⟨by kernel_rfl,by kernel_rfl⟩ h cs
theorem sG(b r o:Nat):oR Tryz.prog 36 (some (.ptr b r o))=some [.cells b o 2]:=Jo (isA:=true) (n:=2) (by kernel_rfl) (by kernel_rfl) b r o
theorem jR:Ij Tryz.prog 36=some (.agg [.nils,.int .i64 0]):=by kernel_rfl
theorem fE(base len:Nat)(ps:List (Nat × AV)):rD (Ba Tryz.prog base 28 len ps)=uP 2 (.agg [.nils,.int .i64 0]) base len ps:=mX (e:=36) (by kernel_rfl) (by kernel_rfl) (by kernel_rfl) base len ps
theorem Ug{O:Du}(t:List AV)(h:Aa)(s x:Operand):Dl O Tryz.prog t h (.call ⟨.builtin .append,#[s,x],#[28,28]⟩)=hZ Tryz.prog 28 h (Ac t s) (Ac t x):=cN t h s x 28 28 _ Tryz.underlying28
theorem eU(h:Aa)(s:AV)(a b r l:Nat):hZ Tryz.prog 28 h (some s) (some (.slr a b r l))=qB 2 h (some s) (zW 2 h (some (.slr a b r l))):=Zn (e:=36) (b:=32) (z:=.agg [.nils,.int .i64 0]) (by kernel_rfl) (by kernel_rfl) (by kernel_rfl) (by kernel_rfl) (by decide+kernel) h s _ (fun q e=>by cases e)
theorem Hy(b r o:Nat):fa Tryz.prog 27 (some (.ptr b r o)) 6=some (.ret (.ptr b r (o+6)),[]):=Cd (show Di Tryz.prog 27 6 6 1 from⟨_,_,Tryz.underlying27,rfl,rfl,by kernel_rfl,by decide⟩) b r o
theorem sT(b r len:Nat)(k:IntKind)(i:Int):ia Tryz.prog 25 (some (.slr 1 b r len)) (some (.int k i))=if 0≤i∧i<len then some (.ret (.ptr b (r+i.toNat) 0),[])else none:=fM ⟨_,Tryz.underlying25,by kernel_rfl⟩ b r len k i
theorem Gm(fl nn:Bool)(rows:List (List AV))(k:IntKind)(i:Int):ia Tryz.prog 25 (some (Ad 1 fl nn rows)) (some (.int k i))=if 0≤i then r1 ((rows[i.toNat]?).map .iptr)else none:=Vk ⟨_,Tryz.underlying25,by kernel_rfl⟩ fl nn rows k i
theorem yA:Ij Tryz.prog 27=some (.agg [.nils,.nils,.nils,.int .i64 0,.int .i64 0,.int .i64 0,.nils]):=by kernel_rfl
theorem xN(h:Aa)(b r o:Nat)(v:AV):lJ Tryz.prog 27 h (some (.ptr b r o)) (some v)=sv 7 (h[b]?) b r o (Af v):=Jl (by kernel_rfl) h b r o v
theorem Fz(b r o:Nat):fa Tryz.prog 27 (some (.ptr b r o)) 0=some (.ret (.ptr b r (o+0)),[]):=Cd (show Di Tryz.prog 27 0 0 1 from⟨_,_,Tryz.underlying27,rfl,rfl,by kernel_rfl,by decide⟩) b r o
theorem Gz(h:Aa)(b r o:Nat):ld Tryz.prog 22 h (some (.ptr b r o))=wW (Ko (h[b]?) r) o:=Zo ⟨by kernel_rfl,1,by kernel_rfl⟩ h b r o
theorem sW(b r o:Nat):oR Tryz.prog 22 (some (.ptr b r o))=some [.cells b o 1]:=Jo (isA:=false) (n:=1) (by kernel_rfl) (by kernel_rfl) b r o
theorem bF:Ij Tryz.prog 54=some (.agg [.int .i64 0,.int .i64 0,.bool false]):=by kernel_rfl
theorem dG{O:Du}(t:List AV)(h:Aa)(s x:Operand):Dl O Tryz.prog t h (.call ⟨.builtin .append,#[s,x],#[22,22]⟩)=hZ Tryz.prog 22 h (Ac t s) (Ac t x):=cN t h s x 22 22 _ Tryz.underlying22
theorem uM(h:Aa)(s:AV)(st:Nat)(fl:Bool)(rows:List (List AV)):hZ Tryz.prog 22 h (some s) (some (.imm st fl rows))=qB 3 h (some s) (zW 3 h (some (.imm st fl rows))):=Zn (e:=54) (b:=24) (z:=.agg [.int .i64 0,.int .i64 0,.bool false]) (by kernel_rfl) (by kernel_rfl) (by kernel_rfl) (by kernel_rfl) (by decide+kernel) h s _ (fun q e=>by cases e)
theorem aaY(h:Aa)(b r o:Nat)(v:AV):lJ Tryz.prog 22 h (some (.ptr b r o)) (some v)=sv 1 (h[b]?) b r o (Af v):=Jl (by kernel_rfl) h b r o v
theorem vZ(b r o:Nat):rI Tryz.prog 22 (some (.ptr b r o))=some [.cells b o 1]:=Nl (by kernel_rfl) b r o
theorem Ge(b r o:Nat):fa Tryz.prog 27 (some (.ptr b r o)) 1=some (.ret (.ptr b r (o+1)),[]):=Cd (show Di Tryz.prog 27 1 1 1 from⟨_,_,Tryz.underlying27,rfl,rfl,by kernel_rfl,by decide⟩) b r o
theorem Gt(h:Aa)(b r o:Nat):ld Tryz.prog 23 h (some (.ptr b r o))=wW (Ko (h[b]?) r) o:=Zo ⟨by kernel_rfl,1,by kernel_rfl⟩ h b r o
theorem sN(b r o:Nat):oR Tryz.prog 23 (some (.ptr b r o))=some [.cells b o 1]:=Jo (isA:=false) (n:=1) (by kernel_rfl) (by kernel_rfl) b r o
theorem kH:Ij Tryz.prog 49=some (.agg [.nils,.int .i64 0,.int .i64 0,.bool false]):=by kernel_rfl
theorem dI{O:Du}(t:List AV)(h:Aa)(s x:Operand):Dl O Tryz.prog t h (.call ⟨.builtin .append,#[s,x],#[23,23]⟩)=hZ Tryz.prog 23 h (Ac t s) (Ac t x):=cN t h s x 23 23 _ Tryz.underlying23
theorem rO(h:Aa)(s:AV)(st:Nat)(fl:Bool)(rows:List (List AV)):hZ Tryz.prog 23 h (some s) (some (.imm st fl rows))=qB 4 h (some s) (zW 4 h (some (.imm st fl rows))):=Zn (e:=49) (b:=48) (z:=.agg [.nils,.int .i64 0,.int .i64 0,.bool false]) (by kernel_rfl) (by kernel_rfl) (by kernel_rfl) (by kernel_rfl) (by decide+kernel) h s _ (fun q e=>by cases e)
theorem yF(h:Aa)(b r o:Nat)(v:AV):lJ Tryz.prog 23 h (some (.ptr b r o)) (some v)=sv 1 (h[b]?) b r o (Af v):=Jl (by kernel_rfl) h b r o v
theorem uT(b r o:Nat):rI Tryz.prog 23 (some (.ptr b r o))=some [.cells b o 1]:=Nl (by kernel_rfl) b r o
theorem Ib(b r o:Nat):fa Tryz.prog 27 (some (.ptr b r o)) 2=some (.ret (.ptr b r (o+2)),[]):=Cd (show Di Tryz.prog 27 2 2 1 from⟨_,_,Tryz.underlying27,rfl,rfl,by kernel_rfl,by decide⟩) b r o
theorem Jm(h:Aa)(b r o:Nat):ld Tryz.prog 24 h (some (.ptr b r o))=wW (Ko (h[b]?) r) o:=Zo ⟨by kernel_rfl,1,by kernel_rfl⟩ h b r o
theorem rY(b r o:Nat):oR Tryz.prog 24 (some (.ptr b r o))=some [.cells b o 1]:=Jo (isA:=false) (n:=1) (by kernel_rfl) (by kernel_rfl) b r o
theorem abX:Ij Tryz.prog 52=some (.agg [.int .i64 0,.int .i64 0,.nils,.int .i64 0,.int .i64 0]):=by kernel_rfl
theorem dH{O:Du}(t:List AV)(h:Aa)(s x:Operand):Dl O Tryz.prog t h (.call ⟨.builtin .append,#[s,x],#[24,24]⟩)=hZ Tryz.prog 24 h (Ac t s) (Ac t x):=cN t h s x 24 24 _ Tryz.underlying24
theorem sO(h:Aa)(s:AV)(st:Nat)(fl:Bool)(rows:List (List AV)):hZ Tryz.prog 24 h (some s) (some (.imm st fl rows))=qB 5 h (some s) (zW 5 h (some (.imm st fl rows))):=Zn (e:=52) (b:=56) (z:=.agg [.int .i64 0,.int .i64 0,.nils,.int .i64 0,.int .i64 0]) (by kernel_rfl) (by kernel_rfl) (by kernel_rfl) (by kernel_rfl) (by decide+kernel) h s _ (fun q e=>by cases e)
theorem yK(h:Aa)(b r o:Nat)(v:AV):lJ Tryz.prog 24 h (some (.ptr b r o)) (some v)=sv 1 (h[b]?) b r o (Af v):=Jl (by kernel_rfl) h b r o v
theorem tR(b r o:Nat):rI Tryz.prog 24 (some (.ptr b r o))=some [.cells b o 1]:=Nl (by kernel_rfl) b r o
theorem Us{O:Du}(t:List AV)(h:Aa)(s x:Operand):Dl O Tryz.prog t h (.call ⟨.builtin .append,#[s,x],#[25,25]⟩)=hZ Tryz.prog 25 h (Ac t s) (Ac t x):=cN t h s x 25 25 _ Tryz.underlying25
theorem vX(h:Aa)(s:AV)(a b r l:Nat):hZ Tryz.prog 25 h (some s) (some (.slr a b r l))=qB 1 h (some s) (zW 1 h (some (.slr a b r l))):=Zn (e:=3) (b:=8) (z:=.int .i64 0) (by kernel_rfl) (by kernel_rfl) (by kernel_rfl) (by kernel_rfl) (by decide+kernel) h s _ (fun q e=>by cases e)
theorem wG(h:Aa)(s:AV)(st:Nat)(fl:Bool)(rows:List (List AV)):hZ Tryz.prog 25 h (some s) (some (.imm st fl rows))=qB 1 h (some s) (zW 1 h (some (.imm st fl rows))):=Zn (e:=3) (b:=8) (z:=.int .i64 0) (by kernel_rfl) (by kernel_rfl) (by kernel_rfl) (by kernel_rfl) (by decide+kernel) h s _ (fun q e=>by cases e)
theorem yR(h:Aa)(b r o:Nat)(v:AV):lJ Tryz.prog 25 h (some (.ptr b r o)) (some v)=sv 1 (h[b]?) b r o (Af v):=Jl (by kernel_rfl) h b r o v
theorem vQ(b r o:Nat):rI Tryz.prog 25 (some (.ptr b r o))=some [.cells b o 1]:=Nl (by kernel_rfl) b r o
theorem uY(st b r len:Nat):ln Tryz.prog 23 (some (.slr st b r len))=some (.ret (.int .i64 len),[]):=abT (n:=4) ⟨_,Tryz.underlying23,by kernel_rfl⟩ st b r len
theorem sC:ln Tryz.prog 23 (some .nils)=some (.ret (.int .i64 0),[]):=fU (n:=4) ⟨_,Tryz.underlying23,by kernel_rfl⟩
theorem Je(fl nn:Bool)(rows:List (List AV)):ln Tryz.prog 23 (some (Ad 4 fl nn rows))=some (.ret (.int .i64 rows.length),[]):=Yf ⟨_,Tryz.underlying23,by kernel_rfl⟩ fl nn rows
theorem sY(b r len:Nat)(k:IntKind)(i:Int):ia Tryz.prog 23 (some (.slr 4 b r len)) (some (.int k i))=if 0≤i∧i<len then some (.ret (.ptr b (r+i.toNat) 0),[])else none:=fM ⟨_,Tryz.underlying23,by kernel_rfl⟩ b r len k i
theorem Om(fl nn:Bool)(rows:List (List AV))(k:IntKind)(i:Int):ia Tryz.prog 23 (some (Ad 4 fl nn rows)) (some (.int k i))=if 0≤i then r1 ((rows[i.toNat]?).map .iptr)else none:=Vk ⟨_,Tryz.underlying23,by kernel_rfl⟩ fl nn rows k i
theorem Jw(b r o:Nat):fa Tryz.prog 49 (some (.ptr b r o)) 0=some (.ret (.ptr b r (o+0)),[]):=Cd (show Di Tryz.prog 49 0 0 1 from⟨_,_,Tryz.underlying49,rfl,rfl,by kernel_rfl,by decide⟩) b r o
theorem lH(cs:List AV):fa Tryz.prog 49 (some (.iptr cs)) 0=if 0+1≤cs.length then some (.ret (.iptr (cs.drop 0)),[])else none:=Tn (show Di Tryz.prog 49 0 0 1 from⟨_,_,Tryz.underlying49,rfl,rfl,by kernel_rfl,by decide⟩) cs
theorem vU(st b r len:Nat):ln Tryz.prog 24 (some (.slr st b r len))=some (.ret (.int .i64 len),[]):=abT (n:=5) ⟨_,Tryz.underlying24,by kernel_rfl⟩ st b r len
theorem rN:ln Tryz.prog 24 (some .nils)=some (.ret (.int .i64 0),[]):=fU (n:=5) ⟨_,Tryz.underlying24,by kernel_rfl⟩
theorem Ld(fl nn:Bool)(rows:List (List AV)):ln Tryz.prog 24 (some (Ad 5 fl nn rows))=some (.ret (.int .i64 rows.length),[]):=Yf ⟨_,Tryz.underlying24,by kernel_rfl⟩ fl nn rows
theorem rW(b r len:Nat)(k:IntKind)(i:Int):ia Tryz.prog 24 (some (.slr 5 b r len)) (some (.int k i))=if 0≤i∧i<len then some (.ret (.ptr b (r+i.toNat) 0),[])else none:=fM ⟨_,Tryz.underlying24,by kernel_rfl⟩ b r len k i
theorem Oi(fl nn:Bool)(rows:List (List AV))(k:IntKind)(i:Int):ia Tryz.prog 24 (some (Ad 5 fl nn rows)) (some (.int k i))=if 0≤i then r1 ((rows[i.toNat]?).map .iptr)else none:=Vk ⟨_,Tryz.underlying24,by kernel_rfl⟩ fl nn rows k i
theorem Ju(b r o:Nat):fa Tryz.prog 52 (some (.ptr b r o)) 2=some (.ret (.ptr b r (o+2)),[]):=Cd (show Di Tryz.prog 52 2 2 1 from⟨_,_,Tryz.underlying52,rfl,rfl,by kernel_rfl,by decide⟩) b r o
theorem jS(cs:List AV):fa Tryz.prog 52 (some (.iptr cs)) 2=if 2+1≤cs.length then some (.ret (.iptr (cs.drop 2)),[])else none:=Tn (show Di Tryz.prog 52 2 2 1 from⟨_,_,Tryz.underlying52,rfl,rfl,by kernel_rfl,by decide⟩) cs
theorem Lp(h:Aa)(b r o:Nat):ld Tryz.prog 50 h (some (.ptr b r o))=wW (Ko (h[b]?) r) o:=Zo ⟨by kernel_rfl,1,by kernel_rfl⟩ h b r o
theorem oL(h:Aa)(c:AV)(cs:List AV):ld Tryz.prog 50 h (some (.iptr (c::cs)))=some (.ret c,[]):=qO ⟨by kernel_rfl,1,by kernel_rfl⟩ h c cs
theorem vC(b r o:Nat):oR Tryz.prog 50 (some (.ptr b r o))=some [.cells b o 1]:=Jo (isA:=false) (n:=1) (by kernel_rfl) (by kernel_rfl) b r o
theorem xB:Ij Tryz.prog 56=some (.agg [.int .i64 0,.bool false]):=by kernel_rfl
theorem dM{O:Du}(t:List AV)(h:Aa)(s x:Operand):Dl O Tryz.prog t h (.call ⟨.builtin .append,#[s,x],#[50,50]⟩)=hZ Tryz.prog 50 h (Ac t s) (Ac t x):=cN t h s x 50 50 _ Tryz.underlying50
theorem rX(h:Aa)(s:AV)(st:Nat)(fl:Bool)(rows:List (List AV)):hZ Tryz.prog 50 h (some s) (some (.imm st fl rows))=qB 2 h (some s) (zW 2 h (some (.imm st fl rows))):=Zn (e:=56) (b:=16) (z:=.agg [.int .i64 0,.bool false]) (by kernel_rfl) (by kernel_rfl) (by kernel_rfl) (by kernel_rfl) (by decide+kernel) h s _ (fun q e=>by cases e)
theorem aaF(h:Aa)(b r o:Nat)(v:AV):lJ Tryz.prog 50 h (some (.ptr b r o)) (some v)=sv 1 (h[b]?) b r o (Af v):=Jl (by kernel_rfl) h b r o v
theorem vF(b r o:Nat):rI Tryz.prog 50 (some (.ptr b r o))=some [.cells b o 1]:=Nl (by kernel_rfl) b r o
theorem Pg(fl nn:Bool)(rows:List (List AV)):ln Tryz.prog 22 (some (Ad 3 fl nn rows))=some (.ret (.int .i64 rows.length),[]):=Yf ⟨_,Tryz.underlying22,by kernel_rfl⟩ fl nn rows
theorem Uc(fl nn:Bool)(rows:List (List AV))(k:IntKind)(i:Int):ia Tryz.prog 22 (some (Ad 3 fl nn rows)) (some (.int k i))=if 0≤i then r1 ((rows[i.toNat]?).map .iptr)else none:=Vk ⟨_,Tryz.underlying22,by kernel_rfl⟩ fl nn rows k i
theorem bG(h:Aa)(b r o:Nat)(v:AV):lJ Tryz.prog 54 h (some (.ptr b r o)) (some v)=sv 3 (h[b]?) b r o (Af v):=Jl (by kernel_rfl) h b r o v
theorem Ny(b r o:Nat):fa Tryz.prog 49 (some (.ptr b r o)) 2=some (.ret (.ptr b r (o+2)),[]):=Cd (show Di Tryz.prog 49 2 2 1 from⟨_,_,Tryz.underlying49,rfl,rfl,by kernel_rfl,by decide⟩) b r o
theorem Ou(fl nn:Bool)(rows:List (List AV)):ln Tryz.prog 50 (some (Ad 2 fl nn rows))=some (.ret (.int .i64 rows.length),[]):=Yf ⟨_,Tryz.underlying50,by kernel_rfl⟩ fl nn rows
theorem Ta(fl nn:Bool)(rows:List (List AV))(k:IntKind)(i:Int):ia Tryz.prog 50 (some (Ad 2 fl nn rows)) (some (.int k i))=if 0≤i then r1 ((rows[i.toNat]?).map .iptr)else none:=Vk ⟨_,Tryz.underlying50,by kernel_rfl⟩ fl nn rows k i
theorem kS(b r o:Nat):fa Tryz.prog 56 (some (.ptr b r o)) 1=some (.ret (.ptr b r (o+1)),[]):=Cd (show Di Tryz.prog 56 1 1 1 from⟨_,_,Tryz.underlying56,rfl,rfl,by kernel_rfl,by decide⟩) b r o
theorem mE(cs:List AV):fa Tryz.prog 56 (some (.iptr cs)) 1=if 1+1≤cs.length then some (.ret (.iptr (cs.drop 1)),[])else none:=Tn (show Di Tryz.prog 56 1 1 1 from⟨_,_,Tryz.underlying56,rfl,rfl,by kernel_rfl,by decide⟩) cs
theorem Tz(h:Aa)(b r o:Nat):ld Tryz.prog 4 h (some (.ptr b r o))=wW (Ko (h[b]?) r) o:=Zo ⟨by kernel_rfl,1,by kernel_rfl⟩ h b r o
theorem vA(h:Aa)(c:AV)(cs:List AV):ld Tryz.prog 4 h (some (.iptr (c::cs)))=some (.ret c,[]):=qO ⟨by kernel_rfl,1,by kernel_rfl⟩ h c cs
theorem Nr(b r o:Nat):fa Tryz.prog 52 (some (.ptr b r o)) 4=some (.ret (.ptr b r (o+4)),[]):=Cd (show Di Tryz.prog 52 4 4 1 from⟨_,_,Tryz.underlying52,rfl,rfl,by kernel_rfl,by decide⟩) b r o
theorem Ha(b r o:Nat):fa Tryz.prog 36 (some (.ptr b r o)) 1=some (.ret (.ptr b r (o+1)),[]):=Cd (show Di Tryz.prog 36 1 1 1 from⟨_,_,Tryz.underlying36,rfl,rfl,by kernel_rfl,by decide⟩) b r o
theorem tZ(ps:List (Nat × AV)):Oa Tryz.prog 36 ps=(Im (fun i=>([(0,1),(1,1)]:List (Nat × Nat))[i]?) (Af (.agg [.nils,.int .i64 0])) ps).map .agg:=by kernel_rfl
theorem lT(h:Aa)(b r o:Nat)(v:AV):lJ Tryz.prog 36 h (some (.ptr b r o)) (some v)=sv 2 (h[b]?) b r o (Af v):=Jl (by kernel_rfl) h b r o v
theorem uI(b r o:Nat):rI Tryz.prog 36 (some (.ptr b r o))=some [.cells b o 2]:=Nl (by kernel_rfl) b r o
theorem fF(base len:Nat)(ps:List (Nat × AV)):rD (Ba Tryz.prog base 25 len ps)=uP 1 (.int .i64 0) base len ps:=mX (e:=3) (by kernel_rfl) (by kernel_rfl) (by kernel_rfl) base len ps
theorem eB(ps:List (Nat × AV)):Oa Tryz.prog 68 ps=(Im (fun i=>([(0,1),(1,1)]:List (Nat × Nat))[i]?) (Af (.agg [.int .i64 0,.int .i64 0])) ps).map .agg:=by kernel_rfl
theorem tQ(ps:List (Nat × AV)):Oa Tryz.prog 70 ps=(Im (fun i=>([(0,7),(7,2),(9,1),(10,1)]:List (Nat × Nat))[i]?) (Af (.agg [.nils,.nils,.nils,.int .i64 0,.int .i64 0,.int .i64 0,.nils,.int .i64 0,.int .i64 0,.nils,.bool false])) ps).map .agg:=by kernel_rfl
theorem Qb(h:Aa)(cs:List AV):ld Tryz.prog 54 h (some (.iptr cs))=if 3≤cs.length then some (.ret (.agg (cs.take 3)),[])else none:=mK ⟨by kernel_rfl,by kernel_rfl⟩ h cs
theorem Nc(b r o:Nat):fa Tryz.prog 54 (some (.ptr b r o)) 0=some (.ret (.ptr b r (o+0)),[]):=Cd (show Di Tryz.prog 54 0 0 1 from⟨_,_,Tryz.underlying54,rfl,rfl,by kernel_rfl,by decide⟩) b r o
theorem Ns(b r o:Nat):fa Tryz.prog 54 (some (.ptr b r o)) 1=some (.ret (.ptr b r (o+1)),[]):=Cd (show Di Tryz.prog 54 1 1 1 from⟨_,_,Tryz.underlying54,rfl,rfl,by kernel_rfl,by decide⟩) b r o
theorem bL(h:Aa)(b r o:Nat):ld Tryz.prog 49 h (some (.ptr b r o))=ldR (Ko (h[b]?) r) o 4:=aR ⟨by kernel_rfl,by kernel_rfl⟩ h b r o
theorem Qc(h:Aa)(cs:List AV):ld Tryz.prog 49 h (some (.iptr cs))=if 4≤cs.length then some (.ret (.agg (cs.take 4)),[])else none:=mK ⟨by kernel_rfl,by kernel_rfl⟩ h cs
theorem Nj(b r o:Nat):fa Tryz.prog 27 (some (.ptr b r o)) 3=some (.ret (.ptr b r (o+3)),[]):=Cd (show Di Tryz.prog 27 3 3 1 from⟨_,_,Tryz.underlying27,rfl,rfl,by kernel_rfl,by decide⟩) b r o
theorem Ig(b r o:Nat):fa Tryz.prog 27 (some (.ptr b r o)) 4=some (.ret (.ptr b r (o+4)),[]):=Cd (show Di Tryz.prog 27 4 4 1 from⟨_,_,Tryz.underlying27,rfl,rfl,by kernel_rfl,by decide⟩) b r o
theorem bE(h:Aa)(b r o:Nat):ld Tryz.prog 52 h (some (.ptr b r o))=ldR (Ko (h[b]?) r) o 5:=aR ⟨by kernel_rfl,by kernel_rfl⟩ h b r o
theorem Qo(h:Aa)(cs:List AV):ld Tryz.prog 52 h (some (.iptr cs))=if 5≤cs.length then some (.ret (.agg (cs.take 5)),[])else none:=mK ⟨by kernel_rfl,by kernel_rfl⟩ h cs
theorem Zf(b r o:Nat):fa Tryz.prog 70 (some (.ptr b r o)) 0=some (.ret (.ptr b r (o+0)),[]):=Cd (show Di Tryz.prog 70 0 0 7 from⟨_,_,Tryz.underlying70,rfl,rfl,by kernel_rfl,by decide⟩) b r o
theorem Zb(b r o:Nat):fa Tryz.prog 70 (some (.ptr b r o)) 2=some (.ret (.ptr b r (o+9)),[]):=Cd (show Di Tryz.prog 70 2 9 1 from⟨_,_,Tryz.underlying70,rfl,rfl,by kernel_rfl,by decide⟩) b r o
theorem cU(h:Aa)(b r o:Nat):ld Tryz.prog 28 h (some (.ptr b r o))=wW (Ko (h[b]?) r) o:=Zo ⟨by kernel_rfl,1,by kernel_rfl⟩ h b r o
theorem tP(b r o:Nat):oR Tryz.prog 28 (some (.ptr b r o))=some [.cells b o 1]:=Jo (isA:=false) (n:=1) (by kernel_rfl) (by kernel_rfl) b r o
theorem Zq(b r o:Nat):fa Tryz.prog 70 (some (.ptr b r o)) 1=some (.ret (.ptr b r (o+7)),[]):=Cd (show Di Tryz.prog 70 1 7 2 from⟨_,_,Tryz.underlying70,rfl,rfl,by kernel_rfl,by decide⟩) b r o
theorem cB(h:Aa)(b r o:Nat):ld Tryz.prog 68 h (some (.ptr b r o))=ldR (Ko (h[b]?) r) o 2:=aR ⟨by kernel_rfl,by kernel_rfl⟩ h b r o
theorem tA(b r o:Nat):oR Tryz.prog 68 (some (.ptr b r o))=some [.cells b o 2]:=Jo (isA:=true) (n:=2) (by kernel_rfl) (by kernel_rfl) b r o
theorem vD(ps:List (Nat × AV)):Oa Tryz.prog 77 ps=(Im (fun i=>([(0,1),(1,1)]:List (Nat × Nat))[i]?) (Af (.agg [.int .i64 0,.int .i64 0])) ps).map .agg:=by kernel_rfl
theorem jW(h:Aa)(b r o:Nat)(v:AV):lJ Tryz.prog 68 h (some (.ptr b r o)) (some v)=sv 2 (h[b]?) b r o (Af v):=Jl (by kernel_rfl) h b r o v
theorem tX(b r o:Nat):rI Tryz.prog 68 (some (.ptr b r o))=some [.cells b o 2]:=Nl (by kernel_rfl) b r o
theorem yS(h:Aa)(b r o:Nat)(v:AV):lJ Tryz.prog 28 h (some (.ptr b r o)) (some v)=sv 1 (h[b]?) b r o (Af v):=Jl (by kernel_rfl) h b r o v
theorem sV(b r o:Nat):rI Tryz.prog 28 (some (.ptr b r o))=some [.cells b o 1]:=Nl (by kernel_rfl) b r o
theorem Me(b r o:Nat):fa Tryz.prog 68 (some (.ptr b r o)) 0=some (.ret (.ptr b r (o+0)),[]):=Cd (show Di Tryz.prog 68 0 0 1 from⟨_,_,Tryz.underlying68,rfl,rfl,by kernel_rfl,by decide⟩) b r o
theorem Sj(b r o:Nat):fa Tryz.prog 52 (some (.ptr b r o)) 1=some (.ret (.ptr b r (o+1)),[]):=Cd (show Di Tryz.prog 52 1 1 1 from⟨_,_,Tryz.underlying52,rfl,rfl,by kernel_rfl,by decide⟩) b r o
theorem kW(cs:List AV):fa Tryz.prog 52 (some (.iptr cs)) 1=if 1+1≤cs.length then some (.ret (.iptr (cs.drop 1)),[])else none:=Tn (show Di Tryz.prog 52 1 1 1 from⟨_,_,Tryz.underlying52,rfl,rfl,by kernel_rfl,by decide⟩) cs
theorem Rr(b r o:Nat):fa Tryz.prog 68 (some (.ptr b r o)) 1=some (.ret (.ptr b r (o+1)),[]):=Cd (show Di Tryz.prog 68 1 1 1 from⟨_,_,Tryz.underlying68,rfl,rfl,by kernel_rfl,by decide⟩) b r o
theorem wV:Ij Tryz.prog 68=some (.agg [.int .i64 0,.int .i64 0]):=by kernel_rfl
theorem vP(base len:Nat)(ps:List (Nat × AV)):rD (Ba Tryz.prog base 22 len ps)=uP 3 (.agg [.int .i64 0,.int .i64 0,.bool false]) base len ps:=mX (e:=54) (by kernel_rfl) (by kernel_rfl) (by kernel_rfl) base len ps
theorem vG(base len:Nat)(ps:List (Nat × AV)):rD (Ba Tryz.prog base 23 len ps)=uP 4 (.agg [.nils,.int .i64 0,.int .i64 0,.bool false]) base len ps:=mX (e:=49) (by kernel_rfl) (by kernel_rfl) (by kernel_rfl) base len ps
theorem sE(base len:Nat)(ps:List (Nat × AV)):rD (Ba Tryz.prog base 50 len ps)=uP 2 (.agg [.int .i64 0,.bool false]) base len ps:=mX (e:=56) (by kernel_rfl) (by kernel_rfl) (by kernel_rfl) base len ps
theorem tI(base len:Nat)(ps:List (Nat × AV)):rD (Ba Tryz.prog base 24 len ps)=uP 5 (.agg [.int .i64 0,.int .i64 0,.nils,.int .i64 0,.int .i64 0]) base len ps:=mX (e:=52) (by kernel_rfl) (by kernel_rfl) (by kernel_rfl) base len ps
theorem kD(h:Aa)(b r o:Nat)(v:AV):lJ Tryz.prog 49 h (some (.ptr b r o)) (some v)=sv 4 (h[b]?) b r o (Af v):=Jl (by kernel_rfl) h b r o v
theorem Yw(b r o:Nat):fa Tryz.prog 54 (some (.ptr b r o)) 2=some (.ret (.ptr b r (o+2)),[]):=Cd (show Di Tryz.prog 54 2 2 1 from⟨_,_,Tryz.underlying54,rfl,rfl,by kernel_rfl,by decide⟩) b r o
theorem Nq(b r o:Nat):fa Tryz.prog 49 (some (.ptr b r o)) 1=some (.ret (.ptr b r (o+1)),[]):=Cd (show Di Tryz.prog 49 1 1 1 from⟨_,_,Tryz.underlying49,rfl,rfl,by kernel_rfl,by decide⟩) b r o
theorem Rq(b r o:Nat):fa Tryz.prog 56 (some (.ptr b r o)) 0=some (.ret (.ptr b r (o+0)),[]):=Cd (show Di Tryz.prog 56 0 0 1 from⟨_,_,Tryz.underlying56,rfl,rfl,by kernel_rfl,by decide⟩) b r o
theorem Ze(cs:List AV):fa Tryz.prog 56 (some (.iptr cs)) 0=if 0+1≤cs.length then some (.ret (.iptr (cs.drop 0)),[])else none:=Tn (show Di Tryz.prog 56 0 0 1 from⟨_,_,Tryz.underlying56,rfl,rfl,by kernel_rfl,by decide⟩) cs
theorem Mc(b r o:Nat):fa Tryz.prog 52 (some (.ptr b r o)) 0=some (.ret (.ptr b r (o+0)),[]):=Cd (show Di Tryz.prog 52 0 0 1 from⟨_,_,Tryz.underlying52,rfl,rfl,by kernel_rfl,by decide⟩) b r o
theorem Ni(b r o:Nat):fa Tryz.prog 52 (some (.ptr b r o)) 3=some (.ret (.ptr b r (o+3)),[]):=Cd (show Di Tryz.prog 52 3 3 1 from⟨_,_,Tryz.underlying52,rfl,rfl,by kernel_rfl,by decide⟩) b r o
theorem jF(b r o:Nat):fa Tryz.prog 70 (some (.ptr b r o)) 3=some (.ret (.ptr b r (o+10)),[]):=Cd (show Di Tryz.prog 70 3 10 1 from⟨_,_,Tryz.underlying70,rfl,rfl,by kernel_rfl,by decide⟩) b r o
theorem xO(h:Aa)(b r o:Nat)(v:AV):lJ Tryz.prog 52 h (some (.ptr b r o)) (some v)=sv 5 (h[b]?) b r o (Af v):=Jl (by kernel_rfl) h b r o v
theorem nC(h:Aa)(b r o:Nat):ld Tryz.prog 77 h (some (.ptr b r o))=ldR (Ko (h[b]?) r) o 2:=aR ⟨by kernel_rfl,by kernel_rfl⟩ h b r o
theorem oV(ps:List (Nat × AV)):Oa Tryz.prog 111 ps=(Im (fun i=>([(0,5),(5,2),(7,2)]:List (Nat × Nat))[i]?) (Af (.agg [.int .i64 0,.int .i64 0,.nils,.int .i64 0,.int .i64 0,.int .i64 0,.int .i64 0,.int .i64 0,.int .i64 0])) ps).map .agg:=by kernel_rfl
theorem wH(base len:Nat)(ps:List (Nat × AV)):rD (Ba Tryz.prog base 80 len ps)=uP 1 (.bool false) base len ps:=mX (e:=4) (by kernel_rfl) (by kernel_rfl) (by kernel_rfl) base len ps
theorem dU{O:Du}(t:List AV)(h:Aa)(s x:Operand):Dl O Tryz.prog t h (.call ⟨.builtin .append,#[s,x],#[80,80]⟩)=hZ Tryz.prog 80 h (Ac t s) (Ac t x):=cN t h s x 80 80 _ Tryz.underlying80
theorem sK(h:Aa)(s:AV)(a b r l:Nat):hZ Tryz.prog 80 h (some s) (some (.slr a b r l))=qB 1 h (some s) (zW 1 h (some (.slr a b r l))):=Zn (e:=4) (b:=1) (z:=.bool false) (by kernel_rfl) (by kernel_rfl) (by kernel_rfl) (by kernel_rfl) (by decide+kernel) h s _ (fun q e=>by cases e)
theorem uK(fl nn:Bool)(rows:List (List AV))(k:IntKind)(i:Int):ia Tryz.prog 80 (some (Ad 1 fl nn rows)) (some (.int k i))=if 0≤i then r1 ((rows[i.toNat]?).map .iptr)else none:=Vk ⟨_,Tryz.underlying80,by kernel_rfl⟩ fl nn rows k i
theorem sZ(n:Nat)(fl:Bool)(rows:List (List AV)):Ed Tryz.prog .eql 25 (.imm n fl rows) .nils=some (.bool false):=Js Tryz.underlying25 n fl rows
theorem uX:Ed Tryz.prog .eql 25 .nils .nils=some (.bool true):=It Tryz.underlying25
theorem mU(b r o:Nat):fa Tryz.prog 77 (some (.ptr b r o)) 0=some (.ret (.ptr b r (o+0)),[]):=Cd (show Di Tryz.prog 77 0 0 1 from⟨_,_,Tryz.underlying77,rfl,rfl,by kernel_rfl,by decide⟩) b r o
theorem bY(h:Aa)(cs:List AV):ld Tryz.prog 56 h (some (.iptr cs))=if 2≤cs.length then some (.ret (.agg (cs.take 2)),[])else none:=mK ⟨by kernel_rfl,by kernel_rfl⟩ h cs
theorem abW(h:Aa)(b r o:Nat)(v:AV):lJ Tryz.prog 56 h (some (.ptr b r o)) (some v)=sv 2 (h[b]?) b r o (Af v):=Jl (by kernel_rfl) h b r o v
theorem rR(n:Nat)(fl:Bool)(rows:List (List AV)):Ed Tryz.prog .eql 22 (.imm n fl rows) .nils=some (.bool false):=Js Tryz.underlying22 n fl rows
theorem vO:Ed Tryz.prog .eql 22 .nils .nils=some (.bool true):=It Tryz.underlying22
theorem wB(n:Nat)(fl:Bool)(rows:List (List AV)):Ed Tryz.prog .eql 23 (.imm n fl rows) .nils=some (.bool false):=Js Tryz.underlying23 n fl rows
theorem rJ:Ed Tryz.prog .eql 23 .nils .nils=some (.bool true):=It Tryz.underlying23
theorem wE(n:Nat)(fl:Bool)(rows:List (List AV)):Ed Tryz.prog .eql 24 (.imm n fl rows) .nils=some (.bool false):=Js Tryz.underlying24 n fl rows
theorem sP:Ed Tryz.prog .eql 24 .nils .nils=some (.bool true):=It Tryz.underlying24
theorem tB(n:Nat)(fl:Bool)(rows:List (List AV)):Ed Tryz.prog .eql 50 (.imm n fl rows) .nils=some (.bool false):=Js Tryz.underlying50 n fl rows
theorem tG:Ed Tryz.prog .eql 50 .nils .nils=some (.bool true):=It Tryz.underlying50
theorem Zs(h:Aa)(b r o:Nat):ld Tryz.prog 111 h (some (.ptr b r o))=ldR (Ko (h[b]?) r) o 9:=aR ⟨by kernel_rfl,by kernel_rfl⟩ h b r o
theorem Zc(b r o:Nat):fa Tryz.prog 49 (some (.ptr b r o)) 3=some (.ret (.ptr b r (o+3)),[]):=Cd (show Di Tryz.prog 49 3 3 1 from⟨_,_,Tryz.underlying49,rfl,rfl,by kernel_rfl,by decide⟩) b r o
theorem oP(base len:Nat)(ps:List (Nat × AV)):rD (Ba Tryz.prog base 137 len ps)=uP 1 (.int .u8 0) base len ps:=mX (e:=5) (by kernel_rfl) (by kernel_rfl) (by kernel_rfl) base len ps
theorem Ky(b r o:Nat):fa Tryz.prog 111 (some (.ptr b r o)) 0=some (.ret (.ptr b r (o+0)),[]):=Cd (show Di Tryz.prog 111 0 0 5 from⟨_,_,Tryz.underlying111,rfl,rfl,by kernel_rfl,by decide⟩) b r o
theorem Xi(b r o:Nat):fa Tryz.prog 111 (some (.ptr b r o)) 1=some (.ret (.ptr b r (o+5)),[]):=Cd (show Di Tryz.prog 111 1 5 2 from⟨_,_,Tryz.underlying111,rfl,rfl,by kernel_rfl,by decide⟩) b r o
theorem Ws(b r o:Nat):fa Tryz.prog 111 (some (.ptr b r o)) 2=some (.ret (.ptr b r (o+7)),[]):=Cd (show Di Tryz.prog 111 2 7 2 from⟨_,_,Tryz.underlying111,rfl,rfl,by kernel_rfl,by decide⟩) b r o
theorem mL(b r o:Nat):fa Tryz.prog 77 (some (.ptr b r o)) 1=some (.ret (.ptr b r (o+1)),[]):=Cd (show Di Tryz.prog 77 1 1 1 from⟨_,_,Tryz.underlying77,rfl,rfl,by kernel_rfl,by decide⟩) b r o
def TY3:=PLift.up (aaP @Es (aaP @dY (aaP @Nu (aaP @Bc (aaP @Ek (aaP @eQ (aaP @kX (aaP @Ci (aaP @cZ (aaP @Ej (aaP @dB (aaP @fE (aaP @Ug (aaP @eU (aaP @Hy @Gm)))))))))))))))
def TY5:=PLift.up (aaP @Ge (aaP @Gt (aaP @Je (aaP @Om (aaP @lH (aaP @Ci (aaP @cZ (aaP @Ej (aaP @Ib (aaP @Jm (aaP @Ld (aaP @Oi (aaP @jS (aaP @oL (aaP @Ou (aaP @Fz (aaP @Gz (aaP @Pg @Hy))))))))))))))))))
def TY7:=PLift.up (aaP @Es (aaP @eJ (aaP @Nu (aaP @Bc (aaP @Xj (aaP @eB @tQ))))))
def jB:=PLift.up (aaP @Fz (aaP @Gz (aaP @Pg (aaP @Uc (aaP @Qb (aaP @bF (aaP @bG (aaP @Nc (aaP @Bc (aaP @Ek (aaP @Ns (aaP @Ge (aaP @Gt (aaP @Je (aaP @Om (aaP @Qc (aaP @Nj (aaP @Ig (aaP @Nu (aaP @Hy (aaP @Ci (aaP @Ej (aaP @Ib (aaP @Jm (aaP @Ld (aaP @Gm (aaP @Es (aaP @Oi @Qo))))))))))))))))))))))))))))
def TY9:=PLift.up (aaP @Zf (aaP @Es (aaP @eJ (aaP @Vg (aaP @sG (aaP @Zb (aaP @cU (aaP @tP (aaP @Zq (aaP @cB (aaP @tA (aaP @Gy (aaP @Ci (aaP @Td (aaP @Ha (aaP @Bc (aaP @Xj (aaP @vD (aaP @jW (aaP @tX (aaP @fE (aaP @Ug (aaP @eU (aaP @yS (aaP @sV @Me)))))))))))))))))))))))))
def aoS:=PLift.up (aaP @Es (aaP @Gy (aaP @Ci (aaP @Ha (aaP @Bc @Ig)))))
def dO:=PLift.up (aaP @Es (aaP @Gy (aaP @Ci (aaP @Ib (aaP @Jm (aaP @Ld (aaP @Oi (aaP @Qo (aaP @Ha (aaP @Bc (aaP @Ek @kW)))))))))))
def apG:=PLift.up (aaP @Zq (aaP @Me (aaP @Bc (aaP @Rr (aaP @Zf (aaP @Hy (aaP @Ci @sT)))))))
def kZ:=PLift.up (aaP @Zb (aaP @cU (aaP @vV (aaP @Vg (aaP @jR (aaP @lT (aaP @Gy (aaP @Ci (aaP @Td (aaP @Ha (aaP @Bc (aaP @Xj (aaP @fF (aaP @Us @vX))))))))))))))
def adJ:=PLift.up (aaP @dY (aaP @eQ @dB))
def dR:=PLift.up (aaP @Fz (aaP @Gz (aaP @Pg (aaP @Ge (aaP @Gt (aaP @Je (aaP @Ib (aaP @Jm (aaP @Ld (aaP @Nj (aaP @Bc (aaP @Ig (aaP @Nu (aaP @Hy (aaP @Ci (aaP @Ej (aaP @Uc (aaP @Qb (aaP @bF (aaP @bG (aaP @Nc (aaP @Ns (aaP @Om (aaP @Qc (aaP @kH (aaP @kD (aaP @Jw (aaP @Nq @Ny))))))))))))))))))))))))))))
def Vf:=PLift.up (aaP @Es (aaP @yA (aaP @Fz (aaP @Gz (aaP @sW (aaP @Ge (aaP @Gt (aaP @sN (aaP @Ib (aaP @Jm (aaP @rY (aaP @Hy (aaP @Ci (aaP @Td (aaP @aaY (aaP @vZ (aaP @yF (aaP @uT (aaP @yK (aaP @tR (aaP @yR (aaP @vQ (aaP @uY (aaP @sC (aaP @sY (aaP @Jw (aaP @vU (aaP @rN (aaP @rW (aaP @Ju (aaP @Lp (aaP @vC (aaP @aaF (aaP @vF @xN))))))))))))))))))))))))))))))))))
def rC:=PLift.up (aaP @Jw (aaP @Ci (aaP @Ej (aaP @Gm (aaP @Bc (aaP @Ek (aaP @Nq @Ny)))))))
def bR:=PLift.up (aaP @Ju (aaP @Lp (aaP @Ou (aaP @Ta (aaP @Ze (aaP @Bc (aaP @Ek (aaP @Ge (aaP @Gt (aaP @Je (aaP @Mc (aaP @Nj (aaP @Sj (aaP @Ni (aaP @Ig @Nr)))))))))))))))
def apF:=PLift.up (aaP @jF @Tz)
def aoX:=PLift.up (aaP @Es (aaP @Gy (aaP @Ci (aaP @Ha (aaP @Bc @Ig)))))
def zU:=PLift.up (aaP @cB (aaP @wV (aaP @Ib (aaP @Jm (aaP @Ld (aaP @Oi (aaP @bE (aaP @Qo (aaP @abX (aaP @xO (aaP @nC (aaP @oV (aaP @Sj (aaP @Bc (aaP @eB (aaP @jW (aaP @Me @Rr)))))))))))))))))
def nU:=PLift.up (aaP @Ge (aaP @Gt (aaP @Je (aaP @Om (aaP @bL (aaP @Qc (aaP @kH (aaP @kD (aaP @Jw (aaP @Ci (aaP @Ej (aaP @Gm (aaP @Bc (aaP @Ek (aaP @Fz (aaP @Gz (aaP @Uc (aaP @Qb @Nq))))))))))))))))))
def alM:=PLift.up (aaP @Vg (aaP @jR (aaP @Gy (aaP @Ci (aaP @Td (aaP @Ha (aaP @Bc (aaP @Xj (aaP @tZ (aaP @lT @uI))))))))))
def aaU:=PLift.up (aaP @Ej (aaP @Gm (aaP @Ek (aaP @Fz (aaP @Gz @Pg)))))
def wC:=PLift.up (aaP @Ge (aaP @Gt (aaP @Je (aaP @Es (aaP @Om (aaP @Qc (aaP @wH (aaP @dU @sK))))))))
def yH:=PLift.up (aaP @Ju (aaP @Lp (aaP @Ou (aaP @Ta (aaP @Ze (aaP @Bc (aaP @Ek (aaP @uK (aaP @vA (aaP @mE (aaP @Mc (aaP @Nr @Ni))))))))))))
def adA:=PLift.up (aaP @Ej (aaP @Gm @Ek))
def agR:=PLift.up (aaP @sZ (aaP @uX (aaP @fF (aaP @Us @wG))))
def adF:=PLift.up (aaP @Gy (aaP @Ci (aaP @Ej (aaP @Gm (aaP @Bc (aaP @Ek @Ha))))))
def sL:=PLift.up (aaP @Ej (aaP @Gm @Ek))
def aoV:=PLift.up (aaP @Es @bE)
def nE:=PLift.up (aaP @Ju (aaP @Lp (aaP @Ou (aaP @Ta (aaP @bY (aaP @xB (aaP @abW (aaP @Rq (aaP @Bc (aaP @Ge (aaP @Gt (aaP @Je (aaP @Mc (aaP @Nj (aaP @Sj (aaP @Ni (aaP @Ig @Nr)))))))))))))))))
def ajZ:=PLift.up (aaP @rR (aaP @vO (aaP @vP (aaP @dG @uM))))
def ah5:=PLift.up (aaP @wB (aaP @rJ (aaP @vG (aaP @dI @rO))))
def ag2:=PLift.up (aaP @wE (aaP @sP (aaP @tI (aaP @dH @sO))))
def aiM:=PLift.up (aaP @tB (aaP @tG (aaP @sE (aaP @dM @rX))))
def aoM:=PLift.up (aaP @Ej (aaP @Fz (aaP @Gz @Pg)))
def alY:=PLift.up (aaP @Zs @Zs)
def aoK:=PLift.up (aaP @Yw (aaP @Tz (aaP @Nc (aaP @Bc (aaP @Ns (aaP @Zc @Ny))))))
def aeK:=PLift.up (aaP @Jw (aaP @Ci (aaP @Ej (aaP @Es (aaP @bL (aaP @Gm (aaP @Bc (aaP @Ek @Nq))))))))
def tJ:=PLift.up (aaP @Tryz.underlying3 (aaP @Tryz.underlying5 (aaP @Tryz.underlying137 (aaP @oP @Tryz.underlying9))))
def yW:=PLift.up (aaP @Ld (aaP @Oi @Qo))
def aoT:=PLift.up (aaP @Rq @Bc)
def ab4:=PLift.up (aaP @Ej (aaP @Gm @Ek))
def ao9:=PLift.up (aaP @Ky (aaP @Mc (aaP @Bc (aaP @Xi @Me))))
def ao5:=PLift.up (aaP @Ky (aaP @Nr (aaP @Bc (aaP @Xi @Rr))))
def apJ:=PLift.up (aaP @Ky (aaP @Ju @Lp))
def aoI:=PLift.up (aaP @Ky (aaP @Ni (aaP @Bc (aaP @Ws @mL))))
def aoO:=PLift.up (aaP @Fz (aaP @Gz (aaP @Uc (aaP @Qb (aaP @bF (aaP @bG (aaP @Yw (aaP @Tz (aaP @Nc (aaP @Bc (aaP @Ns (aaP @Zc @Ny))))))))))))
def dL:=PLift.up (aaP @Ou (aaP @Ta @bY))
def ao6:=PLift.up (aaP @Ws (aaP @mU (aaP @Bc (aaP @Rq (aaP @kS @Tz)))))
end Go.Proofs.YtfkokgjfpojeoaaGreatDoor
namespace Go.Proofs.YtfkokgjfpojeoaaGreatDoor
open Go Go.Ev Go.ChangeShapes Go.WideShapes Go.ChangeAt Go.RowKit
set_option maxRecDepth 100000
set_option maxHeartbeats 16000000
def mdL:List Nat:=[79,84,90,66,9,12,13,28]
def pr:Ft:=oO 62 (mdL.contains ·)
noncomputable def Da:Du:=om Tryz.prog pr
theorem anW(f:Nat):Da.md f=([79,84,90,66,9,12,13,28]:List Nat).contains f:=Eq.trans rfl rfl
def Va:=PLift.up (aaP EE.down EVu.down)
def Vc:=PLift.up (aaP EG.down EVu.down)
theorem aoJ{C:R→Prop}[wI C]{n:Nat}{k:List Am}{c:Code}{s:St}(h:Un Da Tryz.prog n k c C (Bz Da Tryz.prog 5000 c [] s)):C (lpK Da Tryz.prog n k (Da.loop c s)):=al9 (pr:=pr) h
theorem own:ownKnob Tryz.prog.godebug=none:=by kernel_rfl
theorem anV:rS Tryz.prog:=fun f fn hf=>by
 have h:(Tryz.prog.funcs.toList.all fun fn=> !(fn.name== "runtime.NumGoroutine"))=true:=by kernel_rfl
 have:=List.all_eq_true.1 h fn (by rw[Array.mem_toList_iff];exact Array.mem_of_getElem? hf)
 simpa using this
theorem mixed:Tryz.prog.follows .mixedOrders=true:=by kernel_rfl
theorem afS:laidOutB Tryz.prog=true:=by kernel_rfl
def laid:List (String × DataW Unit):=[("math/bits.deBruijn32tab",Rows.laid_math_bits_deBruijn32tab),("math/bits.deBruijn64tab",Rows.laid_math_bits_deBruijn64tab),("internal/strconv.uint64pow10",Rows.laid_internal_strconv_uint64pow10)]
theorem alX:Tryz.prog.globalNamed "internal/strconv.uint64pow10" =some 0:=by kernel_rfl
theorem sJ{W:World}(h:laidMetH Tryz.prog laid W):Lib.TabIs Tryz.prog W "internal/strconv.uint64pow10" .u64 Lib.pow10Tab:=by
 rw[MakeChecks.laidMetH_plain _ _ _ (by kernel_rfl)]at h
 obtain⟨ps,h,_⟩:=h
 exact Wz (t:=162) (e:=145) (n:=20) alX (by kernel_rfl) (by kernel_rfl) (by kernel_rfl) (by kernel_rfl) (by kernel_rfl) h (by
  have e:(Lib.tabData .u64 Lib.pow10Tab:DataW Unit)=Rows.laid_internal_strconv_uint64pow10:=rfl
  rw[e];simp[laid])
theorem abD{W:World}(h:laidMetH Tryz.prog laid W):Fe Tryz.prog (aa5 W 0) Da:=
 anB anV (vM (adM (nD anV Tryz.func62 rfl) (wZ alX (sJ h)) (fun n w h0 h1 ht=>Tryz.strconv_Itoa n h0 h1 w ht))) mixed
theorem abN(os:Os)(args:Array Value):laidMetH Tryz.prog laid ((World.doorLaid Tryz.prog 400 os).forCall (fun _ _=>0) ⟨#[],args,[]⟩).memory:=
 laidMetH_of_parts3 (fuel:=8) (laidMet_of_run' 8 (by kernel_rfl) (by kernel_rfl)) (by kernel_rfl) (by kernel_rfl)
theorem agV{f:Nat}{fn:Func}{c:Code}{args:List AV}{h:Aa}{Q:Dp→Aa→Prop}(hp:pr f=none)(hf:Tryz.prog.funcs[f]?=some fn)(hb:fn.body=some c)(hl:acU args.length fn.ntmps=true)
 (he:FnE Tryz.prog h.length fn.results.toList Q (Bz Da Tryz.prog 5000 c [] ⟨mk fn.ntmps (Eg args),h⟩)):ClQ Da f args h Q:=ClQ.start (pr:=pr) hp hf hb hl he
theorem akP{f:Nat}{fn:Func}{c:Code}{args:List AV}{h:Aa}{Q:Dp→Aa→Prop}(hp:pr f=none)(hf:Tryz.prog.funcs[f]?=some fn)(hb:fn.body=some c)(hl:acU args.length fn.ntmps=true)
 (he:FnS Tryz.prog fn.results.toList Q (Bz Da Tryz.prog 5000 c [] ⟨mk fn.ntmps (Eg args),h⟩)):ShQ Da f args h Q:=ShQ.start (pr:=pr) hp hf hb hl he
theorem ce{f:Nat}{fn:Func}{c:Code}{args:List AV}{h:Aa}{o:Dp}{h':Aa}(hf:Tryz.prog.funcs[f]?=some fn)(he:FnE Tryz.prog h.length fn.results.toList (fun o1 h1=>(o1,h1)=(o,h')) (Bz Da Tryz.prog 5000 c [] ⟨mk fn.ntmps (Eg args),h⟩))(hp:pr f=none:=by exact rfl)(hb:fn.body=some c:=by exact rfl)(hl:acU args.length fn.ntmps=true:=by exact rfl):Da.call (.fn f) args h=some (o,h'):=(agV hp hf hb hl he).eq
theorem csh{f:Nat}{fn:Func}{c:Code}{args:List AV}{h:Aa}{o:Dp}{h':Aa}(hf:Tryz.prog.funcs[f]?=some fn)(he:FnS Tryz.prog fn.results.toList (fun o1 h1=>(o1,h1)=(o,h')) (Bz Da Tryz.prog 5000 c [] ⟨mk fn.ntmps (Eg args),h⟩))(hp:pr f=none:=by exact rfl)(hb:fn.body=some c:=by exact rfl)(hl:acU args.length fn.ntmps=true:=by exact rfl):Da.call (.sh f) args h=some (o,h'):=(akP hp hf hb hl he).eq
theorem Uf{α σ ρ:Type}{c:Code}(N:Nat)(l:List α)(E:Nat→σ→Tm→Aa→Prop)(F:List α→σ→ρ)(Q:ρ→Ex→Tm→Aa→Prop)
 (stop:∀s t h Q',(∀e t h,Q (F [] s) e t h→Q' e ⟨mk N t,h⟩)→E l.length s t h→fS N (fun _ _=>False) Q' (Bz Da Tryz.prog 5000 c [] ⟨mk N t,h⟩))
 (go:∀x rest i s t h J Q',(∀t' h' s',E (i+1) s' t' h'→F rest s'=F (x::rest) s→J t' h')→(∀e t h,Q (F (x::rest) s) e t h→Q' e ⟨mk N t,h⟩)→l[i]?=some x→i<l.length→E i s t h→
   fS N J Q' (Bz Da Tryz.prog 5000 c [] ⟨mk N t,h⟩)):
 ∀s t h,E 0 s t h→wJ Da c ⟨mk N t,h⟩ (Ot N (Q (F l s))):=rE (pr:=pr) rfl N l E F Q stop go
theorem cnt{σ ρ:Type}{c:Code}(N:Nat)(E:Nat→σ→Tm→Aa→Prop)(F:Nat→σ→ρ)(Q:ρ→Ex→Tm→Aa→Prop)
 (stop:∀s t h Q',(∀e t h,Q (F 0 s) e t h→Q' e ⟨mk N t,h⟩)→E 0 s t h→fS N (fun _ _=>False) Q' (Bz Da Tryz.prog 5000 c [] ⟨mk N t,h⟩))
 (go:∀n s t h J Q',(∀t' h' s',E n s' t' h'→F n s'=F (n+1) s→J t' h')→(∀e t h,Q (F (n+1) s) e t h→Q' e ⟨mk N t,h⟩)→E (n+1) s t h→fS N J Q' (Bz Da Tryz.prog 5000 c [] ⟨mk N t,h⟩)):
 ∀n s t h,E n s t h→wJ Da c ⟨mk N t,h⟩ (Ot N (Q (F n s))):=zI (pr:=pr) rfl N E F Q stop go
def iv(x:Int):List AV:=[.int .i64 x]
theorem Bi{h:Aa}{b:Nat}{c:CB}(h0:h[b]?=some c)(l:Aa):(h++l)[b]?=some c:=by
 rw[List.getElem?_append_left (List.getElem?_eq_some_iff.1 h0).1];exact h0
end Go.Proofs.YtfkokgjfpojeoaaGreatDoor
namespace Go.Proofs.YtfkokgjfpojeoaaGreatDoor
open Go.Ev Go
set_option maxRecDepth 100000
set_option maxHeartbeats 16000000
structure Bg where
 lo:Int
 hi:Int
 byp:Bool
def Bg.cells(s:Bg):List AV:=[.int .i64 s.lo,.int .i64 s.hi,.bool s.byp]
structure Ak where
 nn:Bool
 sens:List Int
 need:Int
 level:Int
 above:Bool
def Ak.cells(v:Ak):List AV:=[Ad 1 true v.nn (v.sens.map iv),.int .i64 v.need,.int .i64 v.level,.bool v.above]
structure Aq where
 vote:Int
 is:Bool
def Aq.cells(w:Aq):List AV:=[.int .i64 w.vote,.bool w.is]
structure Ai where
 frm:Int
 to:Int
 nn:Bool
 wants:List Aq
 cmd:Int
 after:Int
def Ai.cells(x:Ai):List AV:=[.int .i64 x.frm,.int .i64 x.to,Ad 2 true x.nn (x.wants.map Aq.cells),.int .i64 x.cmd,.int .i64 x.after]
structure Ap where
 nS:Bool
 sens:List Bg
 nV:Bool
 votes:List Ak
 nM:Bool
 moves:List Ai
 states:Int
 cmds:Int
 bgn:Int
 nO:Bool
 opn:List Int
abbrev Ap.cells(m:Ap):List AV:=[Ad 3 true m.nS (m.sens.map Bg.cells),Ad 4 false m.nV (m.votes.map Ak.cells),Ad 5 false m.nM (m.moves.map Ai.cells),.int .i64 m.states,.int .i64 m.cmds,.int .i64 m.bgn,Ad 1 true m.nO (m.opn.map iv)]
structure Av where
 nn:Bool
 reads:List Int
 cmd:Int
def Av.cells(s:Av):List AV:=[Ad 1 true s.nn (s.reads.map iv),.int .i64 s.cmd]
structure Ap.small(m:Ap):Prop where
 sens:m.sens.length≤maxLen
 votes:m.votes.length≤maxLen
 moves:m.moves.length≤maxLen
 opn:m.opn.length≤maxLen
 vs:∀v∈m.votes,v.sens.length≤maxLen
 ws:∀x∈m.moves,x.wants.length≤maxLen
def Po(x lo hi:Int):Bool:=decide (lo≤x)&&decide (x≤hi)
theorem Yk(x lo hi:Int):Da.call (.fn 39) [.int .i64 x,.int .i64 lo,.int .i64 hi] []=some (.ret (.bool (Po x lo hi)),[]):=by
 (refine ce Tryz.func39 ?_;simp only[Tryz.f39];(have hb:=trivial;with_reducible repeat' (first|simp only[hb,Va.down,seval]|refine Au ?_ ?_<;>intro hb|refine fd ?_|fail)))
 all_goals simp[Po, *]
theorem bB(x lo hi:Int):Da.call (.fn 26) [.int .i64 x,.int .i64 lo,.int .i64 hi] []=some (.ret (.bool (Po x lo hi)),[]):=by
 (refine ce Tryz.func26 ?_;simp only[Tryz.f26];(have hb:=trivial;with_reducible repeat' (first|simp only[hb,Va.down,seval]|refine Au ?_ ?_<;>intro hb|refine fd ?_|fail)))
 all_goals simp[Po, *]
def Vw(x:Int):Bool:=Po x (-10000) 10000
theorem gV(x:Int):Da.call (.fn 48) [.int .i64 x] []=some (.ret (.bool (Vw x)),[]):=by
 (refine ce Tryz.func48 ?_;simp only[Tryz.f48];(have hb:=trivial;with_reducible repeat' (first|simp only[hb,Va.down,seval,Yk]|refine Au ?_ ?_<;>intro hb|refine fd ?_|fail)))
 all_goals rfl
theorem afR(x:Int):Da.call (.fn 72) [.int .i64 x] []=some (.ret (.bool (!Vw x)),[]):=by
 (refine ce Tryz.func72 ?_;simp only[Tryz.f72];(have hb:=trivial;with_reducible repeat' (first|simp only[hb,Va.down,seval,gV]|refine Au ?_ ?_<;>intro hb|refine fd ?_|fail)))
theorem yQ(x:Int):Da.call (.fn 53) [.int .i64 x] []=some (.ret (.bool (!Po x 0 255)),[]):=by
 (refine ce Tryz.func53 ?_;simp only[Tryz.f53];(have hb:=trivial;with_reducible repeat' (first|simp only[hb,Va.down,seval,Yk]|refine Au ?_ ?_<;>intro hb|refine fd ?_|fail)))
def Zj(s:Bg)(v:Ak)(r:Int):Bool:= !s.byp&&(!Po r s.lo s.hi||(if v.above=true then decide (v.level≤r)else decide (r≤v.level)))
theorem aiB(s:Bg)(v:Ak)(r:Int):Da.call (.fn 60) [.agg [.int .i64 s.lo,.int .i64 s.hi,.bool s.byp],.agg [Ad 1 true v.nn (v.sens.map iv),.int .i64 v.need,.int .i64 v.level,.bool v.above],.int .i64 r] []=some (.ret (.bool (Zj s v r)),[]):=by
 (refine ce Tryz.func60 ?_;simp only[Tryz.f60];(have hb:=trivial;with_reducible repeat' (first|simp only[hb,Va.down,seval,aoK.down,Yk]|refine Au ?_ ?_<;>intro hb|refine fd ?_|fail)))
 all_goals simp_all[Zj]
def gY{α:Type}(p:α→Bool):List α→Int→Int
 | [],_=> -1
 |x::l,i=>if p x=true then i else gY p l (i+1)
theorem Wc{α:Type}(p:α→Bool):∀(l:List α) (i:Int),0≤i→decide (0≤gY p l i)=l.any p
 | [],i,_=>rfl
 |x::l,i,h=>by
  unfold gY
  split
  ·rename_i hp;simp[h,hp]
  ·rename_i hp;rw[Wc p l (i+1) (by omega)];simp[hp]
theorem xR{l:List Int}{nn:Bool}{g:Nat}{cap:List AV}{p:Int→Bool}(hc:cap.all (Ar 8)=true)(hc7:cap.all (Ar 7)=true)(hp:∀x∈l,Da.call (.fn g) (.int .i64 x::cap) []=some (.ret (.bool (p x)),[]))(hl:l.length≤maxLen):
 Da.call (.fn 71) [Ad 1 true nn (l.map iv),.func (.func g) [] cap] []=some (.ret (.int .i64 (gY p l 0)),[]):=by
 (refine ce Tryz.func71 ?_;simp only[Tryz.f71];(have hb:=trivial;with_reducible repeat' (first|simp only[hb,Va.down,seval,ab4.down,acP]|refine Au ?_ ?_<;>intro hb|refine fd ?_|fail)))
 refine Ee (Uf 19 l (fun i (s:Int) t h=>s=i∧h=[]∧t 0=Ad 1 true nn (l.map iv)∧t 1=.func (.func g) [] cap∧t 7=.int .i64 l.length∧t 8=.int .i64 i)
  (fun rest s=>gY p rest s) (fun r e t h=>h=[]∧((e=.exit 0∧r= -1)∨(e=.ret∧t 4=.int .i64 r))) ?_ ?_ 0 _ _ ?_) (fun e t h hk=>?_)
 ·rintro s t h Q' kQ ⟨rfl,rfl,h0,h1,h7,h8⟩
  (have hb:=trivial;with_reducible repeat' (first|simp only[hb,Va.down,seval,ab4.down,h0,h1,h7,h8,acQ,decide_false]|refine Au ?_ ?_<;>intro hb|refine fd ?_|fail))
  exact kQ _ _ _ ⟨rfl,.inl ⟨rfl,rfl⟩⟩
 ·rintro x rest i s t h J Q' kJ kQ hx hi ⟨rfl,rfl,h0,h1,h7,h8⟩
  have hpx:=hp x (afG hx)
  have hd:decide ((i:Int)<(l.length:Int))=true:=by simpa using hi
  (have hb:=trivial;with_reducible repeat' (first|simp only[hb,Va.down,seval,ab4.down,h0,h1,h7,h8,hd,hx,iv,hc,hc7,hpx,As hi hl]|refine Au ?_ ?_<;>intro hb|refine fd ?_|fail))
  ·exact kQ _ _ _ ⟨rfl,.inr ⟨rfl,by simp[up,gY,hb]⟩⟩
  ·exact Bl (kJ _ _ (i+1) ⟨by simp,rfl,by simp[up,h0],by simp[up,h1],by simp[up,h7],by simp[up]⟩ (by simp[gY,hb]))
 ·exact⟨rfl,rfl,by simp[up,Eg],by simp[up,Eg],by simp[up],by simp[up]⟩
 ·obtain⟨rfl,⟨rfl,hi⟩|⟨rfl,hi⟩⟩:=hk
  ·(have hb:=trivial;with_reducible repeat' (first|simp only[hb,Va.down,seval,ab4.down]|refine Au ?_ ?_<;>intro hb|refine fd ?_|fail))
   rw[hi]
  ·(have hb:=trivial;with_reducible repeat' (first|simp only[hb,Va.down,seval,ab4.down,hi]|refine Au ?_ ?_<;>intro hb|refine fd ?_|fail))
theorem eK{l:List Int}{nn:Bool}{g:Nat}{cap:List AV}{p:Int→Bool}(hc:cap.all (Ar 8)=true)(hc7:cap.all (Ar 7)=true)(hp:∀x∈l,Da.call (.fn g) (.int .i64 x::cap) []=some (.ret (.bool (p x)),[]))(hl:l.length≤maxLen):
 Da.call (.fn 52) [Ad 1 true nn (l.map iv),.func (.func g) [] cap] []=some (.ret (.bool (l.any p)),[]):=by
 (refine ce Tryz.func52 ?_;simp only[Tryz.f52];(have hb:=trivial;with_reducible repeat' (first|simp only[hb,Va.down,seval,xR hc hc7 hp hl,hc,hc7,Wc p l 0 (acV 0)]|refine Au ?_ ?_<;>intro hb|refine fd ?_|fail)))
def Qg(b:Int):List Int→Option Int→Bool
 | [],_=>true
 |n::l,p=>Po n 0 (IntKind.i64.wrap (b-1))&&(match p with|none=>true|some q=> !decide (n≤q))&&Qg b l (some n)
theorem iL{l:List Int}{nn:Bool}(b:Int)(hl:l.length≤maxLen):Da.call (.fn 44) [Ad 1 true nn (l.map iv),.int .i64 b] []=some (.ret (.bool (Qg b l none)),[]):=by
 (refine ce Tryz.func44 ?_;simp only[Tryz.f44];(have hb:=trivial;with_reducible repeat' (first|simp only[hb,Va.down,seval,sL.down,acP]|refine Au ?_ ?_<;>intro hb|refine fd ?_|fail)))
 refine Ee (Uf 33 l (fun i (s:Option Int) t h=>(i=0∧s=none∨0<i∧s=l[i-1]?)∧t 0=Ad 1 true nn (l.map iv)∧t 1=.int .i64 b∧t 7=Ad 1 true nn (l.map iv)∧t 8=.int .i64 l.length∧t 9=.int .i64 i)
  (fun rest s=>Qg b rest s) (fun r e t h=>if r=true then e=.exit 0 else e=.ret∧t 4=.bool false) ?_ ?_ none _ _ ?_) (fun e t h hk=>?_)
 ·rintro s t h Q' kQ ⟨hs,h0,h1,h7,h8,h9⟩
  (have hb:=trivial;with_reducible repeat' (first|simp only[hb,Va.down,seval,sL.down,h0,h1,h7,h8,h9,acQ,decide_false]|refine Au ?_ ?_<;>intro hb|refine fd ?_|fail))
  exact kQ _ _ _ (by simp[Qg])
 ·rintro x rest i s t h J Q' kJ kQ hx hi ⟨hs,h0,h1,h7,h8,h9⟩
  have hd:decide ((i:Int)<(l.length:Int))=true:=by simpa using hi
  have kF:∀{p:Option Int},(Po x 0 (IntKind.i64.wrap (b-1))&&(match p with|none=>true|some q=> !decide (x≤q)))=false→Qg b (x::rest) p=false:=fun h=>by simp[Qg,h]
  have kT:∀{p:Option Int},(Po x 0 (IntKind.i64.wrap (b-1))&&(match p with|none=>true|some q=> !decide (x≤q)))=true→Qg b rest (some x)=Qg b (x::rest) p:=fun h=>by simp[Qg,h]
  have hw:=As hi hl
  rcases hs with⟨rfl,rfl⟩|⟨hpos,rfl⟩
  ·simp only[afV,Int.zero_add]at hd h9 hw
   (have hb:=trivial;with_reducible repeat' (first|simp only[hb,Va.down,seval,sL.down,h0,h1,h7,h8,h9,hd,hx,iv,Yk,hw,Int.toNat_zero,acV,acQ,decide_false]|refine Au ?_ ?_<;>intro hb|refine fd ?_|fail))
   all_goals first
    |exact kQ _ _ _ (by rw[if_neg (by rw[kF (by simp_all)];simp)];exact⟨rfl,rfl⟩)
    |exact Bl (kJ _ _ (some x) ⟨.inr ⟨by omega,by simp[hx]⟩,by simp[up,h0],by simp[up,h1],by simp[up,h7],by simp[up,h8],by simp[up]<;>omega⟩ (kT (by simp_all)))
  ·obtain⟨j,rfl⟩:∃j,i=j+1:=⟨i-1,by omega⟩
   obtain⟨q,hq⟩:∃q,l[j]?=some q:=⟨l[j],af2 (by omega)⟩
   have hj:IntKind.i64.wrap (((j+1:Nat):Int)-1)=(j:Int):=by unfold maxLen at hl;rw[Is (by omega) (by omega)];omega
   have hg:decide (0<((j+1:Nat):Int))=true:=by rw[decide_eq_true_eq];omega
   simp only[agA,hq]at kJ kQ
   (have hb:=trivial;with_reducible repeat' (first|simp only[hb,Va.down,seval,sL.down,h0,h1,h7,h8,h9,hd,hx,iv,Yk,hw,hj,hg,hq]|refine Au ?_ ?_<;>intro hb|refine fd ?_|fail))
   all_goals first
    |exact kQ _ _ _ (by rw[if_neg (by rw[kF (by simp_all)];simp)];exact⟨rfl,rfl⟩)
    |exact Bl (kJ _ _ (some x) ⟨.inr ⟨by omega,by simp[hx]⟩,by simp[up,h0],by simp[up,h1],by simp[up,h7],by simp[up,h8],by simp[up]<;>omega⟩ (kT (by simp_all)))
 ·exact⟨.inl ⟨rfl,rfl⟩,by simp[up,Eg],by simp[up,Eg],by simp[up,Eg],by simp[up],by simp[up]⟩
 ·split at hk
  ·subst hk
   rename_i hr
   (have hb:=trivial;with_reducible repeat' (first|simp only[hb,Va.down,seval,sL.down]|refine Au ?_ ?_<;>intro hb|refine fd ?_|fail))
   all_goals simp[hr]
  ·obtain⟨rfl,h2⟩:=hk
   rename_i hr
   (have hb:=trivial;with_reducible repeat' (first|simp only[hb,Va.down,seval,sL.down,h2]|refine Au ?_ ?_<;>intro hb|refine fd ?_|fail))
   all_goals simp[hr]
def Wp(ns:Int)(v:Ak):Bool:=Qg ns v.sens none&&Po v.need 1 v.sens.length&&Vw v.level
theorem ah1(v:Ak)(ns:Int)(hl:v.sens.length≤maxLen):Da.call (.fn 25) [.agg [Ad 1 true v.nn (v.sens.map iv),.int .i64 v.need,.int .i64 v.level,.bool v.above],.int .i64 ns] []=some (.ret (.bool (Wp ns v)),[]):=by
 (refine ce Tryz.func25 ?_;simp only[Tryz.f25];(have hb:=trivial;with_reducible repeat' (first|simp only[hb,Va.down,seval,rC.down,acP]|refine Au ?_ ?_<;>intro hb|refine fd ?_|fail)))
 refine Ee (Uf 51 v.sens (fun i (s:Option Int) t h=>(i=0∧s=none∨0<i∧s=v.sens[i-1]?)∧h[0]?=some (.live 4 false false [[Ad 1 true v.nn (v.sens.map iv),.int .i64 v.need,.int .i64 v.level,.bool v.above]])∧t 1=.int .i64 ns∧t 2=.ptr 0 0 0∧t 5=.int .i64 i)
  (fun rest s=>Qg ns rest s) (fun r e t h=>if r=true then e=.exit 0∧h[0]?=some (.live 4 false false [[Ad 1 true v.nn (v.sens.map iv),.int .i64 v.need,.int .i64 v.level,.bool v.above]])∧t 2=.ptr 0 0 0 else e=.ret∧t 4=.bool false) ?_ ?_ none _ _ ?_) (fun e t h hk=>?_)
 ·rintro s t h Q' kQ ⟨hs,hh,h1,h2,h5⟩
  (have hb:=trivial;with_reducible repeat' (first|simp only[hb,Va.down,seval,rC.down,hh,h1,h2,h5,acP,acQ,decide_false]|refine Au ?_ ?_<;>intro hb|refine fd ?_|fail))
  exact kQ _ _ _ (by simp[Qg,up,h2,hh])
 ·rintro x rest i s t h J Q' kJ kQ hx hi ⟨hs,hh,h1,h2,h5⟩
  have hd:decide ((i:Int)<(v.sens.length:Int))=true:=by simpa using hi
  have hA:=Bi hh
  have kF:∀{p:Option Int},(Po x 0 (IntKind.i64.wrap (ns-1))&&(match p with|none=>true|some q=> !decide (x≤q)))=false→Qg ns (x::rest) p=false:=fun h=>by simp[Qg,h]
  have kT:∀{p:Option Int},(Po x 0 (IntKind.i64.wrap (ns-1))&&(match p with|none=>true|some q=> !decide (x≤q)))=true→Qg ns rest (some x)=Qg ns (x::rest) p:=fun h=>by simp[Qg,h]
  have hw:=As hi hl
  rcases hs with⟨rfl,rfl⟩|⟨hpos,rfl⟩
  ·simp only[afV,Int.zero_add]at hd h5 hw
   (have hb:=trivial;with_reducible repeat' (first|simp only[hb,Va.down,seval,rC.down,hA,hh,h1,h2,h5,hd,hx,acP,iv,bB,hw,Int.toNat_zero,acV,acQ,decide_false]|refine Au ?_ ?_<;>intro hb|refine fd ?_|fail))
   all_goals first
    |exact kQ _ _ _ (by rw[if_neg (by rw[kF (by simp_all)];simp)];exact⟨rfl,rfl⟩)
    |exact Bl (kJ _ _ (some x) ⟨.inr ⟨by omega,by simp[hx]⟩,by simp[hh],by simp[up,h1],by simp[up,h2],by simp[up]<;>omega⟩ (kT (by simp_all)))
  ·obtain⟨j,rfl⟩:∃j,i=j+1:=⟨i-1,by omega⟩
   obtain⟨q,hq⟩:∃q,v.sens[j]?=some q:=⟨v.sens[j],af2 (by omega)⟩
   have hj:IntKind.i64.wrap (((j+1:Nat):Int)-1)=(j:Int):=by unfold maxLen at hl;rw[Is (by omega) (by omega)];omega
   have hg:decide (0<((j+1:Nat):Int))=true:=by rw[decide_eq_true_eq];omega
   simp only[agA,hq]at kJ kQ
   (have hb:=trivial;with_reducible repeat' (first|simp only[hb,Va.down,seval,rC.down,hA,hh,h1,h2,h5,hd,hx,acP,iv,bB,hw,hj,hg,hq]|refine Au ?_ ?_<;>intro hb|refine fd ?_|fail))
   all_goals first
    |exact kQ _ _ _ (by rw[if_neg (by rw[kF (by simp_all)];simp)];exact⟨rfl,rfl⟩)
    |exact Bl (kJ _ _ (some x) ⟨.inr ⟨by omega,by simp[hx]⟩,by simp[hh],by simp[up,h1],by simp[up,h2],by simp[up]<;>omega⟩ (kT (by simp_all)))
 ·exact⟨.inl ⟨rfl,rfl⟩,rfl,by simp[up,Eg],by simp[up],by simp[up]⟩
 ·split at hk
  ·obtain⟨rfl,hh,h2⟩:=hk
   have hA:=Bi hh
   rename_i hr
   (have hb:=trivial;with_reducible repeat' (first|simp only[hb,Va.down,seval,rC.down,hA,hh,h2,acP,bB]|refine Au ?_ ?_<;>intro hb|refine fd ?_|fail))
   all_goals simp_all[Wp,Vw]
  ·obtain⟨rfl,h2⟩:=hk
   rename_i hr
   (have hb:=trivial;with_reducible repeat' (first|simp only[hb,Va.down,seval,rC.down,h2]|refine Au ?_ ?_<;>intro hb|refine fd ?_|fail))
   all_goals simp[Wp,hr]
theorem afN(o w:Aq):Da.call (.fn 70) [.agg [.int .i64 o.vote,.bool o.is],.ptr 0 0 0] [.live 2 true false [[.int .i64 w.vote,.bool w.is]]]=some (.ret (.bool (o.vote==w.vote)),[.live 2 true false [[.int .i64 w.vote,.bool w.is]]]):=by
 (refine ce Tryz.func70 ?_;simp only[Tryz.f70];(have hb:=trivial;with_reducible repeat' (first|simp only[hb,Vc.down,seval,aoT.down]|refine Au ?_ ?_<;>intro hb|refine fd ?_|fail)))
theorem vK{l:List Aq}{nn:Bool}{g:Nat}{ww:Aq}{p:Aq→Bool}(hp:∀x∈l,Da.call (.fn g) (.agg [.int .i64 x.vote,.bool x.is]::[.ptr 0 0 0]) [.live 2 true false [[.int .i64 ww.vote,.bool ww.is]]]=some (.ret (.bool (p x)),[.live 2 true false [[.int .i64 ww.vote,.bool ww.is]]]))(hl:l.length≤maxLen):
 Da.call (.fn 81) [Ad 2 true nn (l.map Aq.cells),.func (.func g) [] [.ptr 0 0 0]] [.live 2 true false [[.int .i64 ww.vote,.bool ww.is]]]=some (.ret (.int .i64 (gY p l 0)),[.live 2 true false [[.int .i64 ww.vote,.bool ww.is]]]):=by
 (refine ce Tryz.func81 ?_;simp only[Tryz.f81];(have hb:=trivial;with_reducible repeat' (first|simp only[hb,Vc.down,seval,dL.down,acP]|refine Au ?_ ?_<;>intro hb|refine fd ?_|fail)))
 refine Ee (Uf 19 l (fun i (s:Int) t h=>s=i∧h=[.live 2 true false [[.int .i64 ww.vote,.bool ww.is]]]∧t 0=Ad 2 true nn (l.map Aq.cells)∧t 1=.func (.func g) [] [.ptr 0 0 0]∧t 7=.int .i64 l.length∧t 8=.int .i64 i)
  (fun rest s=>gY p rest s) (fun r e t h=>h=[.live 2 true false [[.int .i64 ww.vote,.bool ww.is]]]∧((e=.exit 0∧r= -1)∨(e=.ret∧t 4=.int .i64 r))) ?_ ?_ 0 _ _ ?_) (fun e t h hk=>?_)
 ·rintro s t h Q' kQ ⟨rfl,rfl,h0,h1,h7,h8⟩
  (have hb:=trivial;with_reducible repeat' (first|simp only[hb,Vc.down,seval,dL.down,h0,h1,h7,h8,acQ,decide_false]|refine Au ?_ ?_<;>intro hb|refine fd ?_|fail))
  exact kQ _ _ _ ⟨rfl,.inl ⟨rfl,rfl⟩⟩
 ·rintro x rest i s t h J Q' kJ kQ hx hi ⟨rfl,rfl,h0,h1,h7,h8⟩
  have hpx:=hp x (afG hx)
  have hd:decide ((i:Int)<(l.length:Int))=true:=by simpa using hi
  (have hb:=trivial;with_reducible repeat' (first|simp only[hb,Vc.down,seval,dL.down,h0,h1,h7,h8,hd,hx,Aq.cells,hpx,As hi hl]|refine Au ?_ ?_<;>intro hb|refine fd ?_|fail))
  ·exact kQ _ _ _ ⟨rfl,.inr ⟨rfl,by simp[up,gY,hb]⟩⟩
  ·exact Bl (kJ _ _ (i+1) ⟨by simp,rfl,by simp[up,h0],by simp[up,h1],by simp[up,h7],by simp[up]⟩ (by simp[gY,hb]))
 ·exact⟨rfl,rfl,by simp[up,Eg],by simp[up,Eg],by simp[up],by simp[up]⟩
 ·obtain⟨rfl,⟨rfl,hi⟩|⟨rfl,hi⟩⟩:=hk
  ·(have hb:=trivial;with_reducible repeat' (first|simp only[hb,Vc.down,seval,dL.down]|refine Au ?_ ?_<;>intro hb|refine fd ?_|fail))
   rw[hi]
  ·(have hb:=trivial;with_reducible repeat' (first|simp only[hb,Vc.down,seval,dL.down,hi]|refine Au ?_ ?_<;>intro hb|refine fd ?_|fail))
theorem oM{l:List Aq}{nn:Bool}{g:Nat}{ww:Aq}{p:Aq→Bool}(hp:∀x∈l,Da.call (.fn g) (.agg [.int .i64 x.vote,.bool x.is]::[.ptr 0 0 0]) [.live 2 true false [[.int .i64 ww.vote,.bool ww.is]]]=some (.ret (.bool (p x)),[.live 2 true false [[.int .i64 ww.vote,.bool ww.is]]]))(hl:l.length≤maxLen):
 Da.call (.fn 69) [Ad 2 true nn (l.map Aq.cells),.func (.func g) [] [.ptr 0 0 0]] [.live 2 true false [[.int .i64 ww.vote,.bool ww.is]]]=some (.ret (.bool (l.any p)),[.live 2 true false [[.int .i64 ww.vote,.bool ww.is]]]):=by
 (refine ce Tryz.func69 ?_;simp only[Tryz.f69];(have hb:=trivial;with_reducible repeat' (first|simp only[hb,Vc.down,seval,vK hp hl,Wc p l 0 (acV 0)]|refine Au ?_ ?_<;>intro hb|refine fd ?_|fail)))
def Kq(nv:Int):List Aq→List Aq→Bool
 |_,[]=>true
 |pre,w::l=>Po w.vote 0 (IntKind.i64.wrap (nv-1))&& !(pre.any fun o=>o.vote==w.vote)&&Kq nv (pre++[w]) l
def Nv(m:Ap)(x:Ai):Bool:=Kq m.votes.length [] x.wants&&Po x.frm 0 (IntKind.i64.wrap (m.states-1))&&Po x.to 0 (IntKind.i64.wrap (m.states-1))&&decide (x.wants.length≤6)&&Po x.cmd (-1) (IntKind.i64.wrap (m.cmds-1))&&Po x.after 0 10
theorem akR(m:Ap)(y:Ai)(hl:y.wants.length≤maxLen):Da.call (.fn 51) [.agg [Ad 3 true m.nS (m.sens.map Bg.cells),Ad 4 false m.nV (m.votes.map Ak.cells),Ad 5 false m.nM (m.moves.map Ai.cells),.int .i64 m.states,.int .i64 m.cmds,.int .i64 m.bgn,Ad 1 true m.nO (m.opn.map iv)],.agg [.int .i64 y.frm,.int .i64 y.to,Ad 2 true y.nn (y.wants.map Aq.cells),.int .i64 y.cmd,.int .i64 y.after]] []=some (.ret (.bool (Nv m y)),[]):=by
 have l6:decide ((y.wants.length:Int)≤6)=decide (y.wants.length≤6):=by rw[decide_eq_decide];omega
 (refine ce Tryz.func51 ?_;simp only[Tryz.f51];(have hb:=trivial;with_reducible repeat' (first|simp only[hb,Vc.down,seval,nE.down,acP]|refine Au ?_ ?_<;>intro hb|refine fd ?_|fail)))
 refine Ee (Uf 65 y.wants (fun i (zz:List Aq) t h=>t 2=.ptr 0 0 0∧t 3=.ptr 1 0 0∧t 8=Ad 2 true y.nn (y.wants.map Aq.cells)∧t 9=.int .i64 y.wants.length∧t 10=.int .i64 i∧(h[0]?=some (.live 7 false false [[Ad 3 true m.nS (m.sens.map Bg.cells),Ad 4 false m.nV (m.votes.map Ak.cells),Ad 5 false m.nM (m.moves.map Ai.cells),.int .i64 m.states,.int .i64 m.cmds,.int .i64 m.bgn,Ad 1 true m.nO (m.opn.map iv)]])∧h[1]?=some (.live 5 false false [[.int .i64 y.frm,.int .i64 y.to,Ad 2 true y.nn (y.wants.map Aq.cells),.int .i64 y.cmd,.int .i64 y.after]])∧zz=y.wants.take i)) (fun rest zz=>Kq m.votes.length zz rest) (fun r e t h=>(if r=true then e=.exit 0∧t 2=.ptr 0 0 0∧t 3=.ptr 1 0 0∧h[0]?=some (.live 7 false false [[Ad 3 true m.nS (m.sens.map Bg.cells),Ad 4 false m.nV (m.votes.map Ak.cells),Ad 5 false m.nM (m.moves.map Ai.cells),.int .i64 m.states,.int .i64 m.cmds,.int .i64 m.bgn,Ad 1 true m.nO (m.opn.map iv)]])∧h[1]?=some (.live 5 false false [[.int .i64 y.frm,.int .i64 y.to,Ad 2 true y.nn (y.wants.map Aq.cells),.int .i64 y.cmd,.int .i64 y.after]])else e=.ret∧t 4=.bool false)) ?_ ?_ ([]) _ _ ?_) (fun e t h hk=>?_)
 ·rintro p t h Q' kQ ⟨h2,h3,h8,h9,h10,⟨hA,hB,hp⟩⟩
  (have hb:=trivial;with_reducible repeat' (first|simp only[hb,Vc.down,seval,nE.down,h2,h3,h8,h9,h10,acQ,decide_false]|refine Au ?_ ?_<;>intro hb|refine fd ?_|fail))
  exact kQ _ _ _ (by rw[if_pos (by rfl)];exact⟨rfl,by simp[up,h2],by simp[up,h3],hA,hB⟩)
 ·rintro x rest i p t h J Q' kJ kQ hx hi ⟨h2,h3,h8,h9,h10,⟨hA,hB,hp⟩⟩
  have hd:decide ((i:Int)<(y.wants.length:Int))=true:=decide_eq_true (by omega)
  have hw:=As hi hl
  have hA1:=Bi hA
  have hB1:=Bi hB
  have hcW:=oM (l:=y.wants.take i) (nn:=true) (ww:=x) (g:=70) (p:=fun o=>o.vote==x.vote) (fun o _=>afN o x) (by simp;omega)
  have hsl:=aiJ (P:=Tryz.prog) (ty:=50) (n:=2) ⟨_,Tryz.underlying50,by kernel_rfl⟩ true y.nn (rows:=y.wants.map Aq.cells) (i:=i) (by simpa using hi)
  rw[Pl,List.map_take]at hcW
  subst hp
  cases c1:Po x.vote 0 (IntKind.i64.wrap ((m.votes.length:Int)-1))with
  |false=>
   (have hb:=trivial;with_reducible repeat' (first|simp only[hb,Vc.down,seval,nE.down,h2,h3,h8,h9,h10,hd,hx,hw,hA1,hB1,Yk,Aq.cells,acP,hcW,hsl,c1]|refine Au ?_ ?_<;>intro hb|refine fd ?_|fail))
   exact kQ _ _ _ (by rw[if_neg (by simp[Kq,c1])];exact⟨rfl,by simp[up]⟩)
  |true=>
   cases c2:(y.wants.take i).any (fun o=>o.vote==x.vote)with
   |true=>
    rw[c2]at hcW
    (have hb:=trivial;with_reducible repeat' (first|simp only[hb,Vc.down,seval,nE.down,h2,h3,h8,h9,h10,hd,hx,hw,hA1,hB1,Yk,Aq.cells,acP,hcW,hsl,c1]|refine Au ?_ ?_<;>intro hb|refine fd ?_|fail))
    exact kQ _ _ _ (by rw[if_neg (by simp only[Kq,c1,c2,acR,ad5,ac6];simp)];exact⟨rfl,by simp[up]⟩)
   |false=>
    rw[c2]at hcW
    (have hb:=trivial;with_reducible repeat' (first|simp only[hb,Vc.down,seval,nE.down,h2,h3,h8,h9,h10,hd,hx,hw,hA1,hB1,Yk,Aq.cells,acP,hcW,hsl,c1]|refine Au ?_ ?_<;>intro hb|refine fd ?_|fail))
    (refine Bl (kJ _ _ (y.wants.take i++[x]) ⟨?_,?_,?_,?_,?_,⟨hA1 _,hB1 _,by rw[agG,hx];rfl⟩⟩ ?_);(simp[up,h2]);(simp[up,h3]);(simp[up,h8]);(simp[up,h9]);(simp[up]);(simp only[Kq,c1,c2,acS,aeG,acT]))
 ·exact⟨by simp[up,Eg],by simp[up,Eg],by simp[up,Eg],by simp[up,Eg],by simp[up],⟨rfl,rfl,rfl⟩⟩
 ·split at hk
  ·obtain⟨rfl,h2,h3,hA,hB⟩:=hk
   rename_i hr
   have hA1:=Bi hA
   have hB1:=Bi hB
   (have hb:=trivial;with_reducible repeat' (first|simp only[hb,Vc.down,seval,nE.down,h2,h3,hA,hB,hA1,hB1,Yk,acP,l6]|refine Au ?_ ?_<;>intro hb|refine fd ?_|fail))
   all_goals (refine congrArg (fun b=>(Dp.ret (AV.bool b),([]:Aa))) ?_;symm;((try simp only[agI,acR,acS]at *);simp only[Nv, *,ad5,ac6,aeG,acT,Bool.and_self,Bool.not_not,acR,acS,List.all_cons,List.all_nil]))
  ·obtain⟨rfl,h4⟩:=hk
   rename_i hr
   (have hb:=trivial;with_reducible repeat' (first|simp only[hb,Vc.down,seval,nE.down,h4]|refine Au ?_ ?_<;>intro hb|refine fd ?_|fail))
   all_goals simp_all[Nv]
def wA(w:Aq):List Aq→Bool
 | []=>true
 |o::l=> !(o.vote==w.vote)&&wA w l
theorem iF(w:Aq):∀l,wA w l= !(l.any fun o=>o.vote==w.vote)
 | []=>rfl
 |o::l=>by simp[wA,iF w l]
theorem akA(m:Ap)(y:Ai)(hl:y.wants.length≤maxLen):Da.call (.fn 27) [.agg [Ad 3 true m.nS (m.sens.map Bg.cells),Ad 4 false m.nV (m.votes.map Ak.cells),Ad 5 false m.nM (m.moves.map Ai.cells),.int .i64 m.states,.int .i64 m.cmds,.int .i64 m.bgn,Ad 1 true m.nO (m.opn.map iv)],.agg [.int .i64 y.frm,.int .i64 y.to,Ad 2 true y.nn (y.wants.map Aq.cells),.int .i64 y.cmd,.int .i64 y.after]] []=some (.ret (.bool (Nv m y)),[]):=by
 have l6:decide ((y.wants.length:Int)≤6)=decide (y.wants.length≤6):=by rw[decide_eq_decide];omega
 (refine ce Tryz.func27 ?_;simp only[Tryz.f27];(have hb:=trivial;with_reducible repeat' (first|simp only[hb,Vc.down,seval,bR.down,acP]|refine Au ?_ ?_<;>intro hb|refine fd ?_|fail)))
 refine Ee (Uf 77 y.wants (fun i (zz:List Aq) t h=>t 2=.ptr 0 0 0∧t 3=.ptr 1 0 0∧t 5=.int .i64 i∧(h=[.live 7 false false [[Ad 3 true m.nS (m.sens.map Bg.cells),Ad 4 false m.nV (m.votes.map Ak.cells),Ad 5 false m.nM (m.moves.map Ai.cells),.int .i64 m.states,.int .i64 m.cmds,.int .i64 m.bgn,Ad 1 true m.nO (m.opn.map iv)]],.live 5 false false [[.int .i64 y.frm,.int .i64 y.to,Ad 2 true y.nn (y.wants.map Aq.cells),.int .i64 y.cmd,.int .i64 y.after]]]∧zz=y.wants.take i)) (fun rest zz=>Kq m.votes.length zz rest) (fun r e t h=>(if r=true then e=.exit 0∧t 2=.ptr 0 0 0∧t 3=.ptr 1 0 0∧h=[.live 7 false false [[Ad 3 true m.nS (m.sens.map Bg.cells),Ad 4 false m.nV (m.votes.map Ak.cells),Ad 5 false m.nM (m.moves.map Ai.cells),.int .i64 m.states,.int .i64 m.cmds,.int .i64 m.bgn,Ad 1 true m.nO (m.opn.map iv)]],.live 5 false false [[.int .i64 y.frm,.int .i64 y.to,Ad 2 true y.nn (y.wants.map Aq.cells),.int .i64 y.cmd,.int .i64 y.after]]]else e=.ret∧t 4=.bool false)) ?_ ?_ ([]) _ _ ?_) (fun e t h hk=>?_)
 ·rintro p t h Q' kQ ⟨h2,h3,h5,⟨rfl,hp⟩⟩
  (have hb:=trivial;with_reducible repeat' (first|simp only[hb,Vc.down,seval,bR.down,h2,h3,h5,acQ,decide_false,acP]|refine Au ?_ ?_<;>intro hb|refine fd ?_|fail))
  exact kQ _ _ _ (by rw[if_pos (by rfl)];exact⟨rfl,by simp[up,h2],by simp[up,h3],rfl⟩)
 ·rintro x rest i p t h J Q' kJ kQ hx hi ⟨h2,h3,h5,⟨rfl,hp⟩⟩
  have hd:decide ((i:Int)<(y.wants.length:Int))=true:=decide_eq_true (by omega)
  have hw:=As hi hl
  subst hp
  cases c1:Po x.vote 0 (IntKind.i64.wrap ((m.votes.length:Int)-1))with
  |false=>
   (have hb:=trivial;with_reducible repeat' (first|simp only[hb,Vc.down,seval,bR.down,h2,h3,h5,hd,hx,hw,bB,c1,Aq.cells,acP]|refine Au ?_ ?_<;>intro hb|refine fd ?_|fail))
   exact kQ _ _ _ (by rw[if_neg (by simp[Kq,c1])];exact⟨rfl,by simp[up]⟩)
  |true=>
   obtain⟨w,rfl⟩:∃w,w=x:=⟨_,rfl⟩
   obtain⟨k,rfl⟩:∃k,k=i:=⟨_,rfl⟩
   have hlen:(y.wants.take k).length=k:=by simp;omega
   have hxk:=hx
   (have hb:=trivial;with_reducible repeat' (first|simp only[hb,Vc.down,seval,bR.down,h2,h3,h5,hd,hx,hw,bB,c1,Aq.cells,acP]|refine Au ?_ ?_<;>intro hb|refine fd ?_|fail))
   refine Ee (Uf 77 (y.wants.take k) (fun i (zz:Unit) t h=>t 2=.ptr 0 0 0∧t 3=.ptr 1 0 0∧t 5=.int .i64 (k:Int)∧t 6=.int .i64 i∧h=[.live 7 false false [[Ad 3 true m.nS (m.sens.map Bg.cells),Ad 4 false m.nV (m.votes.map Ak.cells),Ad 5 false m.nM (m.moves.map Ai.cells),.int .i64 m.states,.int .i64 m.cmds,.int .i64 m.bgn,Ad 1 true m.nO (m.opn.map iv)]],.live 5 false false [[.int .i64 y.frm,.int .i64 y.to,Ad 2 true y.nn (y.wants.map Aq.cells),.int .i64 y.cmd,.int .i64 y.after]]]) (fun rest zz=>wA w rest) (fun r e t h=>(if r=true then e=.exit 2∧t 2=.ptr 0 0 0∧t 3=.ptr 1 0 0∧t 5=.int .i64 (k:Int)∧h=[.live 7 false false [[Ad 3 true m.nS (m.sens.map Bg.cells),Ad 4 false m.nV (m.votes.map Ak.cells),Ad 5 false m.nM (m.moves.map Ai.cells),.int .i64 m.states,.int .i64 m.cmds,.int .i64 m.bgn,Ad 1 true m.nO (m.opn.map iv)]],.live 5 false false [[.int .i64 y.frm,.int .i64 y.to,Ad 2 true y.nn (y.wants.map Aq.cells),.int .i64 y.cmd,.int .i64 y.after]]]else e=.ret∧t 4=.bool false)) ?_ ?_ () _ _ ?_) (fun e tC hC hk=>?_)
   ·rintro _ t h Q' kQ ⟨h2,h3,h5,h6,rfl⟩
    (have hb:=trivial;with_reducible repeat' (first|simp only[hb,Vc.down,seval,bR.down,h2,h3,h5,h6,acQ,decide_false,hlen]|refine Au ?_ ?_<;>intro hb|refine fd ?_|fail))
    exact kQ _ _ _ (by rw[if_pos (by rfl)];exact⟨rfl,by simp[up,h2],by simp[up,h3],by simp[up,h5],rfl⟩)
   ·rintro x rest i _ t h J Q' kJ kQ hx hi ⟨h2,h3,h5,h6,rfl⟩
    have hd:decide ((i:Int)<((y.wants.take k).length:Int))=true:=decide_eq_true (by omega)
    have hw:=As hi (by simp;omega)
    rw[hlen]at hd
    have hxi:y.wants[i]?=some x:=by rw[List.getElem?_take]at hx;split at hx;exact hx;cases hx
    cases c3:(x.vote==w.vote)with
    |true=>
     (have hb:=trivial;with_reducible repeat' (first|simp only[hb,Vc.down,seval,bR.down,h2,h3,h5,h6,hd,hxi,hxk,hw,c3,Aq.cells]|refine Au ?_ ?_<;>intro hb|refine fd ?_|fail))
     exact kQ _ _ _ (by rw[if_neg (by simp[wA,c3])];exact⟨rfl,by simp[up]⟩)
    |false=>
     (have hb:=trivial;with_reducible repeat' (first|simp only[hb,Vc.down,seval,bR.down,h2,h3,h5,h6,hd,hxi,hxk,hw,c3,Aq.cells]|refine Au ?_ ?_<;>intro hb|refine fd ?_|fail))
     (refine Bl (kJ _ _ () ⟨?_,?_,?_,?_,rfl⟩ ?_);(simp[up,h2]);(simp[up,h3]);(simp[up,h5]);(simp[up]);(simp[wA,c3]))
   ·exact⟨by simp[up,Eg,h2,h3,h5],by simp[up,Eg,h2,h3,h5],by simp[up,Eg,h2,h3,h5],by simp[up],rfl⟩
   ·split at hk
    ·rename_i hdup
     obtain⟨rfl,h2,h3,h5,rfl⟩:=hk
     (have hb:=trivial;with_reducible repeat' (first|simp only[hb,Vc.down,seval,bR.down,h2,h3,h5,hw]|refine Au ?_ ?_<;>intro hb|refine fd ?_|fail))
     rw[iF]at hdup
     (refine Bl (kJ _ _ (y.wants.take k++[w]) ⟨?_,?_,?_,⟨rfl,by rw[agG,hxk];rfl⟩⟩ ?_);(simp[up,h2]);(simp[up,h3]);(simp[up]);(simp only[Kq,c1,hdup,acT]))
    ·rename_i hdup
     obtain⟨rfl,h4⟩:=hk
     (have hb:=trivial;with_reducible repeat' (first|simp only[hb,Vc.down,seval,bR.down,h4]|refine Au ?_ ?_<;>intro hb|refine fd ?_|fail))
     rw[iF]at hdup
     exact kQ _ _ _ (by rw[if_neg (by simp only[Kq,c1,acT,Bool.eq_false_iff.2 hdup,ac6];simp)];exact⟨rfl,by simp[up,h4]⟩)
 ·exact⟨by simp[up,Eg],by simp[up,Eg],by simp[up],⟨rfl,rfl⟩⟩
 ·split at hk
  ·obtain⟨rfl,h2,h3,rfl⟩:=hk
   rename_i hr
   (have hb:=trivial;with_reducible repeat' (first|simp only[hb,Vc.down,seval,bR.down,h2,h3,bB,acP,l6]|refine Au ?_ ?_<;>intro hb|refine fd ?_|fail))
   all_goals (refine congrArg (fun b=>(Dp.ret (AV.bool b),([]:Aa))) ?_;symm;((try simp only[agI,acR,acS]at *);simp only[Nv, *,ad5,ac6,aeG,acT,Bool.and_self,Bool.not_not,acR,acS,List.all_cons,List.all_nil]))
  ·obtain⟨rfl,h4⟩:=hk
   rename_i hr
   (have hb:=trivial;with_reducible repeat' (first|simp only[hb,Vc.down,seval,bR.down,h4]|refine Au ?_ ?_<;>intro hb|refine fd ?_|fail))
   all_goals simp_all[Nv]
end Go.Proofs.YtfkokgjfpojeoaaGreatDoor
