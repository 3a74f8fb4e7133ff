/- The functions of the layer, walked. -/
import Derived.Test.YtfkokgjfpojeoaaLibD
import Derived.Test.YtfkokgjfpojeoaaChecked
import Derived.Test.YtfkokgjfpojeoaaLibE
import Derived.Test.YtfkokgjfpojeoaaRows
import Derived.ProofKit
import Derived.LaidMore
import Derived.OpenShut
open And renaming intro→aaJ
open List renaming length_map→aaK,mem_of_getElem?→acJ,getElem?_eq_getElem→afE,take_add_one→afP,all_eq_not_any_not→agD
open Int renaming lt_irrefl→aa4,le_refl→acH,natCast_zero→ac8
open Bool renaming not_true→abL,not_false→ab2,true_and→acC,false_and→acI,and_true→acN,and_false→acR,eq_false_iff→acV,not_eq_eq_eq_not→afR
open Nat renaming add_sub_cancel→afO
set_option linter.unusedSimpArgs false
set_option linter.unusedVariables false
namespace Go.Proofs.Ytfkokgjfpojeoaa
open Go.Ev
set_option maxRecDepth 100000
theorem ac6(h:aaA)(b r o:Nat):ld Try.prog 27 h (some (.ptr b r o))=ldR (af7 (h[b]?) r) o 7:=anC ⟨by kernel_rfl,by kernel_rfl⟩ h b r o
theorem au2(b r o:Nat):ftL Try.prog 27 (some (.ptr b r o))=some [.cells b o 7]:=apB (isA:=true) (n:=7) (by kernel_rfl) (by kernel_rfl) b r o
theorem aeX(b r o:Nat):fa Try.prog 29 (some (.ptr b r o)) 0=some (.ret (.ptr b r (o+0)),[]):=abV (show ab0 Try.prog 29 0 0 1 from⟨_,_,Try.underlying29,rfl,rfl,by kernel_rfl,by decide⟩) b r o
theorem acK(h:aaA)(b r o:Nat):ld Try.prog 25 h (some (.ptr b r o))=ldC (af7 (h[b]?) r) o:=amC ⟨by kernel_rfl,1,by kernel_rfl⟩ h b r o
theorem asH(h:aaA)(c:AV)(cs:List AV):ld Try.prog 25 h (some (.iptr (c::cs)))=some (.ret c,[]):=atC ⟨by kernel_rfl,1,by kernel_rfl⟩ h c cs
theorem auD(b r o:Nat):ftL Try.prog 25 (some (.ptr b r o))=some [.cells b o 1]:=apB (isA:=false) (n:=1) (by kernel_rfl) (by kernel_rfl) b r o
theorem acY(fl nn:Bool)(rows:List (List AV)):ln Try.prog 25 (some (slv 1 fl nn rows))=some (.ret (.int .i64 rows.length),[]):=am0 ⟨_,Try.underlying25,by kernel_rfl⟩ fl nn rows
theorem amB(h:aaA)(b r o:Nat):ld Try.prog 29 h (some (.ptr b r o))=ldR (af7 (h[b]?) r) o 2:=anC ⟨by kernel_rfl,by kernel_rfl⟩ h b r o
theorem aeA(b r o:Nat):fa Try.prog 27 (some (.ptr b r o)) 3=some (.ret (.ptr b r (o+3)),[]):=abV (show ab0 Try.prog 27 3 3 1 from⟨_,_,Try.underlying27,rfl,rfl,by kernel_rfl,by decide⟩) b r o
theorem abA(h:aaA)(b r o:Nat):ld Try.prog 3 h (some (.ptr b r o))=ldC (af7 (h[b]?) r) o:=amC ⟨by kernel_rfl,1,by kernel_rfl⟩ h b r o
theorem adD(h:aaA)(c:AV)(cs:List AV):ld Try.prog 3 h (some (.iptr (c::cs)))=some (.ret c,[]):=atC ⟨by kernel_rfl,1,by kernel_rfl⟩ h c cs
theorem axL(b r o:Nat):ftL Try.prog 3 (some (.ptr b r o))=some [.cells b o 1]:=apB (isA:=false) (n:=1) (by kernel_rfl) (by kernel_rfl) b r o
theorem adF(b r o:Nat):fa Try.prog 27 (some (.ptr b r o)) 1=some (.ret (.ptr b r (o+1)),[]):=abV (show ab0 Try.prog 27 1 1 1 from⟨_,_,Try.underlying27,rfl,rfl,by kernel_rfl,by decide⟩) b r o
theorem adZ(h:aaA)(b r o:Nat):ld Try.prog 23 h (some (.ptr b r o))=ldC (af7 (h[b]?) r) o:=amC ⟨by kernel_rfl,1,by kernel_rfl⟩ h b r o
theorem aeS(fl nn:Bool)(rows:List (List AV)):ln Try.prog 23 (some (slv 4 fl nn rows))=some (.ret (.int .i64 rows.length),[]):=am0 ⟨_,Try.underlying23,by kernel_rfl⟩ fl nn rows
theorem agO(fl nn:Bool)(rows:List (List AV))(k:IntKind)(i:Int):ia Try.prog 23 (some (slv 4 fl nn rows)) (some (.int k i))=if 0≤i then r1 ((rows[i.toNat]?).map .iptr)else none:=ak0 ⟨_,Try.underlying23,by kernel_rfl⟩ fl nn rows k i
theorem al9(h:aaA)(b r o:Nat):ld Try.prog 48 h (some (.ptr b r o))=ldR (af7 (h[b]?) r) o 4:=anC ⟨by kernel_rfl,by kernel_rfl⟩ h b r o
theorem ag2(h:aaA)(cs:List AV):ld Try.prog 48 h (some (.iptr cs))=if 4≤cs.length then some (.ret (.agg (cs.take 4)),[])else none:=as4 ⟨by kernel_rfl,by kernel_rfl⟩ h cs
theorem ap1:aeK Try.prog 48=some (.agg [.nils,.int .i64 0,.int .i64 0,.bool false]):=by kernel_rfl
theorem aqP(h:aaA)(b r o:Nat)(v:AV):st_ Try.prog 48 h (some (.ptr b r o)) (some v)=sv 4 (h[b]?) b r o (aaL v):=anO (by kernel_rfl) h b r o v
theorem af4(b r o:Nat):fa Try.prog 48 (some (.ptr b r o)) 0=some (.ret (.ptr b r (o+0)),[]):=abV (show ab0 Try.prog 48 0 0 1 from⟨_,_,Try.underlying48,rfl,rfl,by kernel_rfl,by decide⟩) b r o
theorem aqO(cs:List AV):fa Try.prog 48 (some (.iptr cs)) 0=if 0+1≤cs.length then some (.ret (.iptr (cs.drop 0)),[])else none:=aj8 (show ab0 Try.prog 48 0 0 1 from⟨_,_,Try.underlying48,rfl,rfl,by kernel_rfl,by decide⟩) cs
theorem aeQ(fl nn:Bool)(rows:List (List AV))(k:IntKind)(i:Int):ia Try.prog 25 (some (slv 1 fl nn rows)) (some (.int k i))=if 0≤i then r1 ((rows[i.toNat]?).map .iptr)else none:=ak0 ⟨_,Try.underlying25,by kernel_rfl⟩ fl nn rows k i
theorem adO(b r o:Nat):fa Try.prog 27 (some (.ptr b r o)) 0=some (.ret (.ptr b r (o+0)),[]):=abV (show ab0 Try.prog 27 0 0 1 from⟨_,_,Try.underlying27,rfl,rfl,by kernel_rfl,by decide⟩) b r o
theorem adV(h:aaA)(b r o:Nat):ld Try.prog 22 h (some (.ptr b r o))=ldC (af7 (h[b]?) r) o:=amC ⟨by kernel_rfl,1,by kernel_rfl⟩ h b r o
theorem aiL(fl nn:Bool)(rows:List (List AV))(k:IntKind)(i:Int):ia Try.prog 22 (some (slv 3 fl nn rows)) (some (.int k i))=if 0≤i then r1 ((rows[i.toNat]?).map .iptr)else none:=ak0 ⟨_,Try.underlying22,by kernel_rfl⟩ fl nn rows k i
theorem ahF(h:aaA)(cs:List AV):ld Try.prog 50 h (some (.iptr cs))=if 3≤cs.length then some (.ret (.agg (cs.take 3)),[])else none:=as4 ⟨by kernel_rfl,by kernel_rfl⟩ h cs
theorem amW:aeK Try.prog 50=some (.agg [.int .i64 0,.int .i64 0,.bool false]):=by kernel_rfl
theorem al6(h:aaA)(b r o:Nat)(v:AV):st_ Try.prog 50 h (some (.ptr b r o)) (some v)=sv 3 (h[b]?) b r o (aaL v):=anO (by kernel_rfl) h b r o v
theorem alK(b r o:Nat):fa Try.prog 50 (some (.ptr b r o)) 2=some (.ret (.ptr b r (o+2)),[]):=abV (show ab0 Try.prog 50 2 2 1 from⟨_,_,Try.underlying50,rfl,rfl,by kernel_rfl,by decide⟩) b r o
theorem akW(h:aaA)(b r o:Nat):ld Try.prog 4 h (some (.ptr b r o))=ldC (af7 (h[b]?) r) o:=amC ⟨by kernel_rfl,1,by kernel_rfl⟩ h b r o
theorem auF(h:aaA)(c:AV)(cs:List AV):ld Try.prog 4 h (some (.iptr (c::cs)))=some (.ret c,[]):=atC ⟨by kernel_rfl,1,by kernel_rfl⟩ h c cs
theorem af5(b r o:Nat):fa Try.prog 50 (some (.ptr b r o)) 0=some (.ret (.ptr b r (o+0)),[]):=abV (show ab0 Try.prog 50 0 0 1 from⟨_,_,Try.underlying50,rfl,rfl,by kernel_rfl,by decide⟩) b r o
theorem afT(b r o:Nat):fa Try.prog 50 (some (.ptr b r o)) 1=some (.ret (.ptr b r (o+1)),[]):=abV (show ab0 Try.prog 50 1 1 1 from⟨_,_,Try.underlying50,rfl,rfl,by kernel_rfl,by decide⟩) b r o
theorem alL(b r o:Nat):fa Try.prog 48 (some (.ptr b r o)) 3=some (.ret (.ptr b r (o+3)),[]):=abV (show ab0 Try.prog 48 3 3 1 from⟨_,_,Try.underlying48,rfl,rfl,by kernel_rfl,by decide⟩) b r o
theorem af6(b r o:Nat):fa Try.prog 48 (some (.ptr b r o)) 2=some (.ret (.ptr b r (o+2)),[]):=abV (show ab0 Try.prog 48 2 2 1 from⟨_,_,Try.underlying48,rfl,rfl,by kernel_rfl,by decide⟩) b r o
theorem avY(fl nn:Bool)(rows:List (List AV))(k:IntKind)(i:Int):ia Try.prog 51 (some (slv 1 fl nn rows)) (some (.int k i))=if 0≤i then r1 ((rows[i.toNat]?).map .iptr)else none:=ak0 ⟨_,Try.underlying51,by kernel_rfl⟩ fl nn rows k i
theorem afZ(b r o:Nat):fa Try.prog 48 (some (.ptr b r o)) 1=some (.ret (.ptr b r (o+1)),[]):=abV (show ab0 Try.prog 48 1 1 1 from⟨_,_,Try.underlying48,rfl,rfl,by kernel_rfl,by decide⟩) b r o
theorem agM(fl nn:Bool)(rows:List (List AV)):ln Try.prog 22 (some (slv 3 fl nn rows))=some (.ret (.int .i64 rows.length),[]):=am0 ⟨_,Try.underlying22,by kernel_rfl⟩ fl nn rows
theorem aeY(b r o:Nat):fa Try.prog 27 (some (.ptr b r o)) 2=some (.ret (.ptr b r (o+2)),[]):=abV (show ab0 Try.prog 27 2 2 1 from⟨_,_,Try.underlying27,rfl,rfl,by kernel_rfl,by decide⟩) b r o
theorem afL(h:aaA)(b r o:Nat):ld Try.prog 24 h (some (.ptr b r o))=ldC (af7 (h[b]?) r) o:=amC ⟨by kernel_rfl,1,by kernel_rfl⟩ h b r o
theorem afB(fl nn:Bool)(rows:List (List AV)):ln Try.prog 24 (some (slv 5 fl nn rows))=some (.ret (.int .i64 rows.length),[]):=am0 ⟨_,Try.underlying24,by kernel_rfl⟩ fl nn rows
theorem axK:aeK Try.prog 56=some (.agg [.int .i64 0,.bool false]):=by kernel_rfl
theorem awB:aeK Try.prog 59=some (.agg [.int .i64 0,.int .i64 0,.nils,.int .i64 0,.int .i64 0]):=by kernel_rfl
theorem alJ(b r o:Nat):fa Try.prog 27 (some (.ptr b r o)) 5=some (.ret (.ptr b r (o+5)),[]):=abV (show ab0 Try.prog 27 5 5 1 from⟨_,_,Try.underlying27,rfl,rfl,by kernel_rfl,by decide⟩) b r o
theorem agQ(fl nn:Bool)(rows:List (List AV))(k:IntKind)(i:Int):ia Try.prog 24 (some (slv 5 fl nn rows)) (some (.int k i))=if 0≤i then r1 ((rows[i.toNat]?).map .iptr)else none:=ak0 ⟨_,Try.underlying24,by kernel_rfl⟩ fl nn rows k i
theorem afQ(b r o:Nat):fa Try.prog 59 (some (.ptr b r o)) 2=some (.ret (.ptr b r (o+2)),[]):=abV (show ab0 Try.prog 59 2 2 1 from⟨_,_,Try.underlying59,rfl,rfl,by kernel_rfl,by decide⟩) b r o
theorem aqI(cs:List AV):fa Try.prog 59 (some (.iptr cs)) 2=if 2+1≤cs.length then some (.ret (.iptr (cs.drop 2)),[])else none:=aj8 (show ab0 Try.prog 59 2 2 1 from⟨_,_,Try.underlying59,rfl,rfl,by kernel_rfl,by decide⟩) cs
theorem ag1(h:aaA)(b r o:Nat):ld Try.prog 57 h (some (.ptr b r o))=ldC (af7 (h[b]?) r) o:=amC ⟨by kernel_rfl,1,by kernel_rfl⟩ h b r o
theorem ar5(h:aaA)(c:AV)(cs:List AV):ld Try.prog 57 h (some (.iptr (c::cs)))=some (.ret c,[]):=atC ⟨by kernel_rfl,1,by kernel_rfl⟩ h c cs
theorem agI(fl nn:Bool)(rows:List (List AV)):ln Try.prog 57 (some (slv 2 fl nn rows))=some (.ret (.int .i64 rows.length),[]):=am0 ⟨_,Try.underlying57,by kernel_rfl⟩ fl nn rows
theorem ahS(b r o:Nat):fa Try.prog 27 (some (.ptr b r o)) 6=some (.ret (.ptr b r (o+6)),[]):=abV (show ab0 Try.prog 27 6 6 1 from⟨_,_,Try.underlying27,rfl,rfl,by kernel_rfl,by decide⟩) b r o
theorem aoE(ps:List (Nat × AV)):aiD Try.prog 86 ps=(aeZ (fun i=>([(0,1),(1,1)]:List (Nat × Nat))[i]?) (aaL (.agg [.int .i64 0,.int .i64 0])) ps).map .agg:=by kernel_rfl
theorem afV(b r o:Nat):fa Try.prog 29 (some (.ptr b r o)) 1=some (.ret (.ptr b r (o+1)),[]):=abV (show ab0 Try.prog 29 1 1 1 from⟨_,_,Try.underlying29,rfl,rfl,by kernel_rfl,by decide⟩) b r o
theorem auQ(ps:List (Nat × AV)):aiD Try.prog 90 ps=(aeZ (fun i=>([(0,1),(1,1)]:List (Nat × Nat))[i]?) (aaL (.agg [.int .i64 0,.int .i64 0])) ps).map .agg:=by kernel_rfl
theorem aqT:aeK Try.prog 86=some (.agg [.int .i64 0,.int .i64 0]):=by kernel_rfl
theorem arA(h:aaA)(b r o:Nat)(v:AV):st_ Try.prog 86 h (some (.ptr b r o)) (some v)=sv 2 (h[b]?) b r o (aaL v):=anO (by kernel_rfl) h b r o v
theorem au9(b r o:Nat):ftS Try.prog 86 (some (.ptr b r o))=some [.cells b o 2]:=az0 (by kernel_rfl) b r o
theorem ahT(b r o:Nat):fa Try.prog 86 (some (.ptr b r o)) 0=some (.ret (.ptr b r (o+0)),[]):=abV (show ab0 Try.prog 86 0 0 1 from⟨_,_,Try.underlying86,rfl,rfl,by kernel_rfl,by decide⟩) b r o
theorem aiB(b r o:Nat):fa Try.prog 86 (some (.ptr b r o)) 1=some (.ret (.ptr b r (o+1)),[]):=abV (show ab0 Try.prog 86 1 1 1 from⟨_,_,Try.underlying86,rfl,rfl,by kernel_rfl,by decide⟩) b r o
theorem ad4(b r o:Nat):fa Try.prog 27 (some (.ptr b r o)) 4=some (.ret (.ptr b r (o+4)),[]):=abV (show ab0 Try.prog 27 4 4 1 from⟨_,_,Try.underlying27,rfl,rfl,by kernel_rfl,by decide⟩) b r o
theorem anF(h:aaA)(b r o:Nat):ld Try.prog 59 h (some (.ptr b r o))=ldR (af7 (h[b]?) r) o 5:=anC ⟨by kernel_rfl,by kernel_rfl⟩ h b r o
theorem ahB(h:aaA)(cs:List AV):ld Try.prog 59 h (some (.iptr cs))=if 5≤cs.length then some (.ret (.agg (cs.take 5)),[])else none:=as4 ⟨by kernel_rfl,by kernel_rfl⟩ h cs
theorem ah9(b r o:Nat):fa Try.prog 59 (some (.ptr b r o)) 1=some (.ret (.ptr b r (o+1)),[]):=abV (show ab0 Try.prog 59 1 1 1 from⟨_,_,Try.underlying59,rfl,rfl,by kernel_rfl,by decide⟩) b r o
theorem arN(cs:List AV):fa Try.prog 59 (some (.iptr cs)) 1=if 1+1≤cs.length then some (.ret (.iptr (cs.drop 1)),[])else none:=aj8 (show ab0 Try.prog 59 1 1 1 from⟨_,_,Try.underlying59,rfl,rfl,by kernel_rfl,by decide⟩) cs
theorem asF(h:aaA)(b r o:Nat):ld Try.prog 86 h (some (.ptr b r o))=ldR (af7 (h[b]?) r) o 2:=anC ⟨by kernel_rfl,by kernel_rfl⟩ h b r o
theorem auO(base len:Nat)(ps:List (Nat × AV)):rD (abO Try.prog base 51 len ps)=bsK 1 (.bool false) base len ps:=aKF (e:=4) (by kernel_rfl) (by kernel_rfl) (by kernel_rfl) base len ps
theorem anS{O:Orc}(t:List AV)(h:aaA)(s x:Operand):ab9 O Try.prog t h (.call ⟨.builtin .append,#[s,x],#[51,51]⟩)=apO Try.prog 51 h (aaH t s) (aaH t x):=aIC t h s x 51 51 _ Try.underlying51
theorem auP(h:aaA)(s:AV)(a b r l:Nat):apO Try.prog 51 h (some s) (some (.slr a b r l))=apK 1 h (some s) (srK 1 h (some (.slr a b r l))):=aH9 (e:=4) (b:=1) (z:=.bool false) (by kernel_rfl) (by kernel_rfl) (by kernel_rfl) (by kernel_rfl) (by decide+kernel) h s _ (fun q e=>by cases e)
theorem ayP(h:aaA)(b r o:Nat)(v:AV):st_ Try.prog 59 h (some (.ptr b r o)) (some v)=sv 5 (h[b]?) b r o (aaL v):=anO (by kernel_rfl) h b r o v
theorem ar6(h:aaA)(b r o:Nat):ld Try.prog 90 h (some (.ptr b r o))=ldR (af7 (h[b]?) r) o 2:=anC ⟨by kernel_rfl,by kernel_rfl⟩ h b r o
theorem asD(ps:List (Nat × AV)):aiD Try.prog 126 ps=(aeZ (fun i=>([(0,5),(5,2),(7,2)]:List (Nat × Nat))[i]?) (aaL (.agg [.int .i64 0,.int .i64 0,.nils,.int .i64 0,.int .i64 0,.int .i64 0,.int .i64 0,.int .i64 0,.int .i64 0])) ps).map .agg:=by kernel_rfl
theorem aiN(fl nn:Bool)(rows:List (List AV))(k:IntKind)(i:Int):ia Try.prog 57 (some (slv 2 fl nn rows)) (some (.int k i))=if 0≤i then r1 ((rows[i.toNat]?).map .iptr)else none:=ak0 ⟨_,Try.underlying57,by kernel_rfl⟩ fl nn rows k i
theorem ah8(b r o:Nat):fa Try.prog 56 (some (.ptr b r o)) 0=some (.ret (.ptr b r (o+0)),[]):=abV (show ab0 Try.prog 56 0 0 1 from⟨_,_,Try.underlying56,rfl,rfl,by kernel_rfl,by decide⟩) b r o
theorem alR(cs:List AV):fa Try.prog 56 (some (.iptr cs)) 0=if 0+1≤cs.length then some (.ret (.iptr (cs.drop 0)),[])else none:=aj8 (show ab0 Try.prog 56 0 0 1 from⟨_,_,Try.underlying56,rfl,rfl,by kernel_rfl,by decide⟩) cs
theorem afS(b r o:Nat):fa Try.prog 59 (some (.ptr b r o)) 0=some (.ret (.ptr b r (o+0)),[]):=abV (show ab0 Try.prog 59 0 0 1 from⟨_,_,Try.underlying59,rfl,rfl,by kernel_rfl,by decide⟩) b r o
theorem afU(b r o:Nat):fa Try.prog 59 (some (.ptr b r o)) 3=some (.ret (.ptr b r (o+3)),[]):=abV (show ab0 Try.prog 59 3 3 1 from⟨_,_,Try.underlying59,rfl,rfl,by kernel_rfl,by decide⟩) b r o
theorem afW(b r o:Nat):fa Try.prog 59 (some (.ptr b r o)) 4=some (.ret (.ptr b r (o+4)),[]):=abV (show ab0 Try.prog 59 4 4 1 from⟨_,_,Try.underlying59,rfl,rfl,by kernel_rfl,by decide⟩) b r o
theorem ap2(b r o:Nat):fa Try.prog 56 (some (.ptr b r o)) 1=some (.ret (.ptr b r (o+1)),[]):=abV (show ab0 Try.prog 56 1 1 1 from⟨_,_,Try.underlying56,rfl,rfl,by kernel_rfl,by decide⟩) b r o
theorem ap8(cs:List AV):fa Try.prog 56 (some (.iptr cs)) 1=if 1+1≤cs.length then some (.ret (.iptr (cs.drop 1)),[])else none:=aj8 (show ab0 Try.prog 56 1 1 1 from⟨_,_,Try.underlying56,rfl,rfl,by kernel_rfl,by decide⟩) cs
theorem arD(b r o:Nat):fa Try.prog 90 (some (.ptr b r o)) 0=some (.ret (.ptr b r (o+0)),[]):=abV (show ab0 Try.prog 90 0 0 1 from⟨_,_,Try.underlying90,rfl,rfl,by kernel_rfl,by decide⟩) b r o
theorem am9(h:aaA)(cs:List AV):ld Try.prog 56 h (some (.iptr cs))=if 2≤cs.length then some (.ret (.agg (cs.take 2)),[])else none:=as4 ⟨by kernel_rfl,by kernel_rfl⟩ h cs
theorem axW(h:aaA)(b r o:Nat)(v:AV):st_ Try.prog 56 h (some (.ptr b r o)) (some v)=sv 2 (h[b]?) b r o (aaL v):=anO (by kernel_rfl) h b r o v
theorem ak5(h:aaA)(b r o:Nat):ld Try.prog 126 h (some (.ptr b r o))=ldR (af7 (h[b]?) r) o 9:=anC ⟨by kernel_rfl,by kernel_rfl⟩ h b r o
theorem ae7(b r o:Nat):fa Try.prog 126 (some (.ptr b r o)) 0=some (.ret (.ptr b r (o+0)),[]):=abV (show ab0 Try.prog 126 0 0 5 from⟨_,_,Try.underlying126,rfl,rfl,by kernel_rfl,by decide⟩) b r o
theorem akB(b r o:Nat):fa Try.prog 126 (some (.ptr b r o)) 1=some (.ret (.ptr b r (o+5)),[]):=abV (show ab0 Try.prog 126 1 5 2 from⟨_,_,Try.underlying126,rfl,rfl,by kernel_rfl,by decide⟩) b r o
theorem akA(b r o:Nat):fa Try.prog 126 (some (.ptr b r o)) 2=some (.ret (.ptr b r (o+7)),[]):=abV (show ab0 Try.prog 126 2 7 2 from⟨_,_,Try.underlying126,rfl,rfl,by kernel_rfl,by decide⟩) b r o
theorem ap5(b r o:Nat):fa Try.prog 90 (some (.ptr b r o)) 1=some (.ret (.ptr b r (o+1)),[]):=abV (show ab0 Try.prog 90 1 1 1 from⟨_,_,Try.underlying90,rfl,rfl,by kernel_rfl,by decide⟩) b r o
def TY3:=PLift.up (aaJ @ac6 (aaJ @aeX (aaJ @acK (aaJ @acY (aaJ @amB (aaJ @aeA @abA))))))
def amX:=PLift.up (aaJ @adF (aaJ @adZ (aaJ @aeS (aaJ @agO (aaJ @aqO (aaJ @acK (aaJ @asH (aaJ @acY (aaJ @aeY (aaJ @afL (aaJ @afB (aaJ @agQ (aaJ @aqI (aaJ @ar5 (aaJ @agI (aaJ @adO (aaJ @adV (aaJ @agM @ahS))))))))))))))))))
def aIH:=PLift.up (aaJ @ac6 (aaJ @au2 (aaJ @aeA (aaJ @abA (aaJ @axL (aaJ @amB (aaJ @aoE (aaJ @aeX (aaJ @acK (aaJ @auD (aaJ @afV (aaJ @auQ (aaJ @aqT (aaJ @arA (aaJ @au9 (aaJ @ahT @aiB))))))))))))))))
def ahR:=PLift.up (aaJ @adO (aaJ @adV (aaJ @agM (aaJ @aiL (aaJ @ahF (aaJ @amW (aaJ @al6 (aaJ @af5 (aaJ @abA (aaJ @adD (aaJ @afT (aaJ @adF (aaJ @adZ (aaJ @aeS (aaJ @agO (aaJ @ag2 (aaJ @aeA (aaJ @ad4 (aaJ @alJ (aaJ @ahS (aaJ @acK (aaJ @acY (aaJ @aeY (aaJ @afL (aaJ @afB (aaJ @aeQ (aaJ @ac6 (aaJ @agQ @ahB))))))))))))))))))))))))))))
def aJ3:=PLift.up (aaJ @ac6 (aaJ @aeX (aaJ @acK (aaJ @afV (aaJ @abA @ad4)))))
def anZ:=PLift.up (aaJ @ac6 (aaJ @aeX (aaJ @acK (aaJ @aeY (aaJ @afL (aaJ @afB (aaJ @agQ (aaJ @ahB (aaJ @afV (aaJ @abA (aaJ @adD @arN)))))))))))
def ayI:=PLift.up (aaJ @acY (aaJ @aeQ (aaJ @adD (aaJ @adO (aaJ @adV @agM)))))
def avN:=PLift.up (aaJ @adF (aaJ @adZ (aaJ @aeS (aaJ @ac6 (aaJ @agO (aaJ @ag2 (aaJ @auO (aaJ @anS @auP))))))))
def anT:=PLift.up (aaJ @adO (aaJ @adV (aaJ @agM (aaJ @adF (aaJ @adZ (aaJ @aeS (aaJ @aeY (aaJ @afL (aaJ @afB (aaJ @aeA (aaJ @abA (aaJ @ad4 (aaJ @alJ (aaJ @ahS (aaJ @acK (aaJ @acY (aaJ @aiL (aaJ @ahF (aaJ @amW (aaJ @al6 (aaJ @af5 (aaJ @afT (aaJ @agO (aaJ @ag2 (aaJ @ap1 (aaJ @aqP (aaJ @af4 (aaJ @afZ @af6))))))))))))))))))))))))))))
def aKL:=PLift.up (aaJ @ac6 (aaJ @aeX (aaJ @acK (aaJ @afV (aaJ @abA @ad4)))))
def ayG:=PLift.up (aaJ @asF (aaJ @aqT (aaJ @aeY (aaJ @afL (aaJ @afB (aaJ @agQ (aaJ @anF (aaJ @ahB (aaJ @awB (aaJ @ayP (aaJ @ar6 (aaJ @asD (aaJ @ah9 (aaJ @abA (aaJ @aoE (aaJ @arA (aaJ @ahT @aiB)))))))))))))))))
def ar9:=PLift.up (aaJ @adF (aaJ @adZ (aaJ @aeS (aaJ @agO (aaJ @al9 (aaJ @ag2 (aaJ @ap1 (aaJ @aqP (aaJ @af4 (aaJ @acK (aaJ @acY (aaJ @aeQ (aaJ @abA (aaJ @adD (aaJ @adO (aaJ @adV (aaJ @aiL (aaJ @ahF @afZ))))))))))))))))))
def av0:=PLift.up (aaJ @af4 (aaJ @acK (aaJ @acY (aaJ @aeQ (aaJ @abA (aaJ @adD (aaJ @afZ @af6)))))))
def am4:=PLift.up (aaJ @afQ (aaJ @ag1 (aaJ @agI (aaJ @aiN (aaJ @alR (aaJ @abA (aaJ @adD (aaJ @adF (aaJ @adZ (aaJ @aeS (aaJ @afS (aaJ @aeA (aaJ @ah9 (aaJ @afU (aaJ @ad4 @afW)))))))))))))))
def azO:=PLift.up (aaJ @afQ (aaJ @ag1 (aaJ @agI (aaJ @aiN (aaJ @alR (aaJ @abA (aaJ @adD (aaJ @avY (aaJ @auF (aaJ @ap8 (aaJ @afS (aaJ @afW @afU))))))))))))
def avQ:=PLift.up (aaJ @acY (aaJ @aeQ @adD))
def aB4:=PLift.up (aaJ @af4 (aaJ @acK (aaJ @acY (aaJ @ac6 (aaJ @al9 (aaJ @aeQ (aaJ @abA (aaJ @adD @afZ))))))))
def aKC:=PLift.up (aaJ @acY (aaJ @adO (aaJ @adV @agM)))
def aJ7:=PLift.up (aaJ @ac6 @anF)
def asX:=PLift.up (aaJ @afQ (aaJ @ag1 (aaJ @agI (aaJ @aiN (aaJ @am9 (aaJ @axK (aaJ @axW (aaJ @ah8 (aaJ @abA (aaJ @adF (aaJ @adZ (aaJ @aeS (aaJ @afS (aaJ @aeA (aaJ @ah9 (aaJ @afU (aaJ @ad4 @afW)))))))))))))))))
def aIL:=PLift.up (aaJ @ak5 @ak5)
def aKR:=PLift.up (aaJ @alK (aaJ @akW (aaJ @af5 (aaJ @abA (aaJ @afT (aaJ @alL @af6))))))
def aKB:=PLift.up (aaJ @adO (aaJ @adV (aaJ @aiL (aaJ @ahF (aaJ @amW (aaJ @al6 (aaJ @alK (aaJ @akW (aaJ @af5 (aaJ @abA (aaJ @afT (aaJ @alL @af6))))))))))))
def ay9:=PLift.up (aaJ @afB (aaJ @agQ @ahB))
def aKD:=PLift.up (aaJ @ah8 @abA)
def ax4:=PLift.up (aaJ @acY (aaJ @aeQ @adD))
def aKG:=PLift.up (aaJ @ae7 (aaJ @afS (aaJ @abA (aaJ @akB @ahT))))
def aKS:=PLift.up (aaJ @ae7 (aaJ @afW (aaJ @abA (aaJ @akB @aiB))))
def aKK:=PLift.up (aaJ @ae7 (aaJ @afQ @ag1))
def aKN:=PLift.up (aaJ @ae7 (aaJ @afU (aaJ @abA (aaJ @akA @ap5))))
def an2:=PLift.up (aaJ @agI (aaJ @aiN @am9))
def aJ0:=PLift.up (aaJ @akA (aaJ @arD (aaJ @abA (aaJ @ah8 (aaJ @ap2 @akW)))))
end Go.Proofs.Ytfkokgjfpojeoaa
namespace Go.Proofs.Ytfkokgjfpojeoaa
open Go Go.Ev Go.ChangeShapes Go.WideShapes Go.ChangeAt Go.RowKit
set_option maxRecDepth 100000
set_option maxHeartbeats 16000000
def mdL:List Nat:=[96,100,102,83]
def pr:adC:=⟨fun _=>none,(mdL.contains ·)⟩
noncomputable def om':Orc:=om Try.prog pr
def Va:=PLift.up (aaJ EE.down EE.down)
def Vc:=PLift.up (aaJ EG.down EVu.down)
theorem aKO{C:R→Prop}[NoN C]{n:Nat}{k:List aaN}{c:Code}{s:St}(h:Un om' Try.prog n k c C (evM om' Try.prog 5000 c [] s)):C (lpK om' Try.prog n k (om'.loop c s)):=aJC (pr:=pr) h
theorem own:ownKnob Try.prog.godebug=none:=by kernel_rfl
theorem aJ8:auI Try.prog:=fun f fn hf=>by
 have h:(Try.prog.funcs.toList.all fun fn=> !(fn.name== "runtime.NumGoroutine"))=true:=by kernel_rfl
 have:=List.all_eq_true.1 h fn (by rw[Array.mem_toList_iff];exact Array.mem_of_getElem? hf)
 simpa using this
theorem aHH:Try.prog.follows .mixedOrders=true:=by kernel_rfl
theorem aBK:laidOutB Try.prog=true:=by kernel_rfl
theorem azD:acQ Try.prog (fun _=>none) om':=aGW aJ8 (fun f p h=>by cases h) aHH
theorem aFI{W:World}{S:Nat→Prop}:Inv (fun _=>none) W S:=fun b o h=>by cases h
theorem aKP{f:Nat}{fn:Func}{c:Code}{args:List AV}{h:aaA}{Q:Out→aaA→Prop}(hp:pr f=none)(hf:Try.prog.funcs[f]?=some fn)(hb:fn.body=some c)(hl:Nat.ble args.length fn.ntmps=true)
 (he:FnE Try.prog h.length fn.results.toList Q (evM om' Try.prog 5000 c [] ⟨mk fn.ntmps (ent args),h⟩)):ClQ om' f args h Q:=ClQ.start (pr:=pr) hp hf hb hl he
theorem ce{f:Nat}{fn:Func}{c:Code}{args:List AV}{h:aaA}{o:Out}{h':aaA}(hf:Try.prog.funcs[f]?=some fn)(he:FnE Try.prog h.length fn.results.toList (fun o1 h1=>(o1,h1)=(o,h')) (evM om' Try.prog 5000 c [] ⟨mk fn.ntmps (ent args),h⟩))(hp:pr f=none:=by exact rfl)(hb:fn.body=some c:=by exact rfl)(hl:Nat.ble args.length fn.ntmps=true:=by exact rfl):om'.call (.fn f) args h=some (o,h'):=(aKP hp hf hb hl he).eq
theorem lst{α σ ρ:Type}{c:Code}(N:Nat)(l:List α)(E:Nat→σ→Tm→aaA→Prop)(F:List α→σ→ρ)(Q:ρ→Ex→Tm→aaA→Prop)
 (stop:∀s t h Q',(∀e t h,Q (F [] s) e t h→Q' e ⟨mk N t,h⟩)→E l.length s t h→Rnd N (fun _ _=>False) Q' (evM om' Try.prog 5000 c [] ⟨mk N t,h⟩))
 (go:∀x rest i s t h J Q',(∀t' h' s',E (i+1) s' t' h'→F rest s'=F (x::rest) s→J t' h')→(∀e t h,Q (F (x::rest) s) e t h→Q' e ⟨mk N t,h⟩)→l[i]?=some x→i<l.length→E i s t h→
   Rnd N J Q' (evM om' Try.prog 5000 c [] ⟨mk N t,h⟩)):
 ∀s t h,E 0 s t h→LpQ om' c ⟨mk N t,h⟩ (Ot N (Q (F l s))):=auT (pr:=pr) rfl N l E F Q stop go
def iv(x:Int):List AV:=[.int .i64 x]
theorem abN{h:aaA}{b:Nat}{c:CB}(h0:h[b]?=some c)(l:aaA):(h++l)[b]?=some c:=by
 rw[List.getElem?_append_left (List.getElem?_eq_some_iff.1 h0).1];exact h0
end Go.Proofs.Ytfkokgjfpojeoaa
namespace Go.Proofs.Ytfkokgjfpojeoaa
open Go.Ev Go
set_option maxRecDepth 100000
set_option maxHeartbeats 16000000
structure aa9 where
 lo:Int
 hi:Int
 byp:Bool
def aa9.cells(s:aa9):List AV:=[.int .i64 s.lo,.int .i64 s.hi,.bool s.byp]
structure aaQ where
 nn:Bool
 sens:List Int
 need:Int
 level:Int
 above:Bool
def aaQ.cells(v:aaQ):List AV:=[slv 1 true v.nn (v.sens.map iv),.int .i64 v.need,.int .i64 v.level,.bool v.above]
structure aaR where
 vote:Int
 is:Bool
def aaR.cells(w:aaR):List AV:=[.int .i64 w.vote,.bool w.is]
structure aaP where
 frm:Int
 to:Int
 nn:Bool
 wants:List aaR
 cmd:Int
 after:Int
def aaP.cells(x:aaP):List AV:=[.int .i64 x.frm,.int .i64 x.to,slv 2 true x.nn (x.wants.map aaR.cells),.int .i64 x.cmd,.int .i64 x.after]
structure aa8 where
 nS:Bool
 sens:List aa9
 nV:Bool
 votes:List aaQ
 nM:Bool
 moves:List aaP
 states:Int
 cmds:Int
 bgn:Int
 nO:Bool
 opn:List Int
abbrev aa8.cells(m:aa8):List AV:=[slv 3 true m.nS (m.sens.map aa9.cells),slv 4 false m.nV (m.votes.map aaQ.cells),slv 5 false m.nM (m.moves.map aaP.cells),.int .i64 m.states,.int .i64 m.cmds,.int .i64 m.bgn,slv 1 true m.nO (m.opn.map iv)]
structure agF where
 nn:Bool
 reads:List Int
 cmd:Int
def agF.cells(s:agF):List AV:=[slv 1 true s.nn (s.reads.map iv),.int .i64 s.cmd]
structure aa8.small(m:aa8):Prop where
 sens:m.sens.length≤maxLen
 votes:m.votes.length≤maxLen
 moves:m.moves.length≤maxLen
 opn:m.opn.length≤maxLen
 vs:∀v∈m.votes,v.sens.length≤maxLen
 ws:∀x∈m.moves,x.wants.length≤maxLen
def inB(x lo hi:Int):Bool:=decide (lo≤x)&&decide (x≤hi)
theorem ajD(x lo hi:Int):om'.call (.fn 43) [.int .i64 x,.int .i64 lo,.int .i64 hi] []=some (.ret (.bool (inB x lo hi)),[]):=by
 (refine ce Try.func43 ?_;simp only[Try.f43];(have hb:=trivial;with_reducible repeat' (first|simp only[hb,Va.down,seval]|refine fsp ?_ ?_<;>intro hb|refine fd ?_|fail)))
 all_goals simp[inB, *]
theorem am6(x lo hi:Int):om'.call (.fn 48) [.int .i64 x,.int .i64 lo,.int .i64 hi] []=some (.ret (.bool (inB x lo hi)),[]):=by
 (refine ce Try.func48 ?_;simp only[Try.f48];(have hb:=trivial;with_reducible repeat' (first|simp only[hb,Va.down,seval]|refine fsp ?_ ?_<;>intro hb|refine fd ?_|fail)))
 all_goals simp[inB, *]
def akU(x:Int):Bool:=inB x (-10000) 10000
theorem apP(x:Int):om'.call (.fn 69) [.int .i64 x] []=some (.ret (.bool (akU x)),[]):=by
 (refine ce Try.func69 ?_;simp only[Try.f69];(have hb:=trivial;with_reducible repeat' (first|simp only[hb,Va.down,seval,ajD]|refine fsp ?_ ?_<;>intro hb|refine fd ?_|fail)))
 all_goals rfl
theorem aBD(x:Int):om'.call (.fn 82) [.int .i64 x] []=some (.ret (.bool (!akU x)),[]):=by
 (refine ce Try.func82 ?_;simp only[Try.f82];(have hb:=trivial;with_reducible repeat' (first|simp only[hb,Va.down,seval,apP]|refine fsp ?_ ?_<;>intro hb|refine fd ?_|fail)))
theorem azI(x:Int):om'.call (.fn 74) [.int .i64 x] []=some (.ret (.bool (!inB x 0 255)),[]):=by
 (refine ce Try.func74 ?_;simp only[Try.f74];(have hb:=trivial;with_reducible repeat' (first|simp only[hb,Va.down,seval,ajD]|refine fsp ?_ ?_<;>intro hb|refine fd ?_|fail)))
def alS(s:aa9)(v:aaQ)(r:Int):Bool:= !s.byp&&(!inB r s.lo s.hi||(if v.above=true then decide (v.level≤r)else decide (r≤v.level)))
theorem aF0(s:aa9)(v:aaQ)(r:Int):om'.call (.fn 76) [.agg [.int .i64 s.lo,.int .i64 s.hi,.bool s.byp],.agg [slv 1 true v.nn (v.sens.map iv),.int .i64 v.need,.int .i64 v.level,.bool v.above],.int .i64 r] []=some (.ret (.bool (alS s v r)),[]):=by
 (refine ce Try.func76 ?_;simp only[Try.f76];(have hb:=trivial;with_reducible repeat' (first|simp only[hb,Va.down,seval,aKR.down,ajD]|refine fsp ?_ ?_<;>intro hb|refine fd ?_|fail)))
 all_goals simp_all[alS]
def idx{α:Type}(p:α→Bool):List α→Int→Int
 | [],_=> -1
 |x::l,i=>if p x=true then i else idx p l (i+1)
theorem akC{α:Type}(p:α→Bool):∀(l:List α) (i:Int),0≤i→decide (0≤idx p l i)=l.any p
 | [],i,_=>rfl
 |x::l,i,h=>by
  unfold idx
  split
  ·rename_i hp;simp[h,hp]
  ·rename_i hp;rw[akC p l (i+1) (by omega)];simp[hp]
theorem awU{l:List Int}{nn:Bool}{g:Nat}{cap:List AV}{p:Int→Bool}(hc:cap.all (aaT 8)=true)(hc7:cap.all (aaT 7)=true)(hp:∀x∈l,om'.call (.fn g) (.int .i64 x::cap) []=some (.ret (.bool (p x)),[]))(hl:l.length≤maxLen):
 om'.call (.fn 91) [slv 1 true nn (l.map iv),.func (.func g) [] cap] []=some (.ret (.int .i64 (idx p l 0)),[]):=by
 (refine ce Try.func91 ?_;simp only[Try.f91];(have hb:=trivial;with_reducible repeat' (first|simp only[hb,Va.down,seval,ax4.down,aaK]|refine fsp ?_ ?_<;>intro hb|refine fd ?_|fail)))
 refine ac5 (lst 19 l (fun i (s:Int) t h=>s=i∧h=[]∧t 0=slv 1 true nn (l.map iv)∧t 1=.func (.func g) [] cap∧t 7=.int .i64 l.length∧t 8=.int .i64 i)
  (fun rest s=>idx p rest s) (fun r e t h=>h=[]∧((e=.exit 0∧r= -1)∨(e=.ret∧t 4=.int .i64 r))) ?_ ?_ 0 _ _ ?_) (fun e t h hk=>?_)
 ·rintro s t h Q' kQ ⟨rfl,rfl,h0,h1,h7,h8⟩
  (have hb:=trivial;with_reducible repeat' (first|simp only[hb,Va.down,seval,ax4.down,h0,h1,h7,h8,aa4,decide_false]|refine fsp ?_ ?_<;>intro hb|refine fd ?_|fail))
  exact kQ _ _ _ ⟨rfl,.inl ⟨rfl,rfl⟩⟩
 ·rintro x rest i s t h J Q' kJ kQ hx hi ⟨rfl,rfl,h0,h1,h7,h8⟩
  have hpx:=hp x (acJ hx)
  have hd:decide ((i:Int)<(l.length:Int))=true:=by simpa using hi
  (have hb:=trivial;with_reducible repeat' (first|simp only[hb,Va.down,seval,ax4.down,h0,h1,h7,h8,hd,hx,iv,hc,hc7,hpx,aaW hi hl]|refine fsp ?_ ?_<;>intro hb|refine fd ?_|fail))
  ·exact kQ _ _ _ ⟨rfl,.inr ⟨rfl,by simp[up,idx,hb]⟩⟩
  ·exact abX (kJ _ _ (i+1) ⟨by simp,rfl,by simp[up,h0],by simp[up,h1],by simp[up,h7],by simp[up]⟩ (by simp[idx,hb]))
 ·exact⟨rfl,rfl,by simp[up,ent],by simp[up,ent],by simp[up],by simp[up]⟩
 ·obtain⟨rfl,⟨rfl,hi⟩|⟨rfl,hi⟩⟩:=hk
  ·(have hb:=trivial;with_reducible repeat' (first|simp only[hb,Va.down,seval,ax4.down]|refine fsp ?_ ?_<;>intro hb|refine fd ?_|fail))
   rw[hi]
  ·(have hb:=trivial;with_reducible repeat' (first|simp only[hb,Va.down,seval,ax4.down,hi]|refine fsp ?_ ?_<;>intro hb|refine fd ?_|fail))
theorem an7{l:List Int}{nn:Bool}{g:Nat}{cap:List AV}{p:Int→Bool}(hc:cap.all (aaT 8)=true)(hc7:cap.all (aaT 7)=true)(hp:∀x∈l,om'.call (.fn g) (.int .i64 x::cap) []=some (.ret (.bool (p x)),[]))(hl:l.length≤maxLen):
 om'.call (.fn 73) [slv 1 true nn (l.map iv),.func (.func g) [] cap] []=some (.ret (.bool (l.any p)),[]):=by
 (refine ce Try.func73 ?_;simp only[Try.f73];(have hb:=trivial;with_reducible repeat' (first|simp only[hb,Va.down,seval,awU hc hc7 hp hl,hc,hc7,akC p l 0 (acH 0)]|refine fsp ?_ ?_<;>intro hb|refine fd ?_|fail)))
def ahE(b:Int):List Int→Option Int→Bool
 | [],_=>true
 |n::l,p=>inB n 0 (IntKind.i64.wrap (b-1))&&(match p with|none=>true|some q=> !decide (n≤q))&&ahE b l (some n)
theorem ao4{l:List Int}{nn:Bool}(b:Int)(hl:l.length≤maxLen):om'.call (.fn 53) [slv 1 true nn (l.map iv),.int .i64 b] []=some (.ret (.bool (ahE b l none)),[]):=by
 (refine ce Try.func53 ?_;simp only[Try.f53];(have hb:=trivial;with_reducible repeat' (first|simp only[hb,Va.down,seval,avQ.down,aaK]|refine fsp ?_ ?_<;>intro hb|refine fd ?_|fail)))
 refine ac5 (lst 33 l (fun i (s:Option Int) t h=>(i=0∧s=none∨0<i∧s=l[i-1]?)∧t 0=slv 1 true nn (l.map iv)∧t 1=.int .i64 b∧t 7=slv 1 true nn (l.map iv)∧t 8=.int .i64 l.length∧t 9=.int .i64 i)
  (fun rest s=>ahE b rest s) (fun r e t h=>if r=true then e=.exit 0 else e=.ret∧t 4=.bool false) ?_ ?_ none _ _ ?_) (fun e t h hk=>?_)
 ·rintro s t h Q' kQ ⟨hs,h0,h1,h7,h8,h9⟩
  (have hb:=trivial;with_reducible repeat' (first|simp only[hb,Va.down,seval,avQ.down,h0,h1,h7,h8,h9,aa4,decide_false]|refine fsp ?_ ?_<;>intro hb|refine fd ?_|fail))
  exact kQ _ _ _ (by simp[ahE])
 ·rintro x rest i s t h J Q' kJ kQ hx hi ⟨hs,h0,h1,h7,h8,h9⟩
  have hd:decide ((i:Int)<(l.length:Int))=true:=by simpa using hi
  have kF:∀{p:Option Int},(inB x 0 (IntKind.i64.wrap (b-1))&&(match p with|none=>true|some q=> !decide (x≤q)))=false→ahE b (x::rest) p=false:=fun h=>by simp[ahE,h]
  have kT:∀{p:Option Int},(inB x 0 (IntKind.i64.wrap (b-1))&&(match p with|none=>true|some q=> !decide (x≤q)))=true→ahE b rest (some x)=ahE b (x::rest) p:=fun h=>by simp[ahE,h]
  have hw:=aaW hi hl
  rcases hs with⟨rfl,rfl⟩|⟨hpos,rfl⟩
  ·simp only[ac8,Int.zero_add]at hd h9 hw
   (have hb:=trivial;with_reducible repeat' (first|simp only[hb,Va.down,seval,avQ.down,h0,h1,h7,h8,h9,hd,hx,iv,ajD,hw,Int.toNat_zero,acH,aa4,decide_false]|refine fsp ?_ ?_<;>intro hb|refine fd ?_|fail))
   all_goals first
    |exact kQ _ _ _ (by rw[if_neg (by rw[kF (by simp_all)];simp)];exact⟨rfl,rfl⟩)
    |exact abX (kJ _ _ (some x) ⟨.inr ⟨by omega,by simp[hx]⟩,by simp[up,h0],by simp[up,h1],by simp[up,h7],by simp[up,h8],by simp[up]<;>omega⟩ (kT (by simp_all)))
  ·obtain⟨j,rfl⟩:∃j,i=j+1:=⟨i-1,by omega⟩
   obtain⟨q,hq⟩:∃q,l[j]?=some q:=⟨l[j],afE (by omega)⟩
   have hj:IntKind.i64.wrap (((j+1:Nat):Int)-1)=(j:Int):=by unfold maxLen at hl;rw[ahH (by omega) (by omega)];omega
   have hg:decide (0<((j+1:Nat):Int))=true:=by rw[decide_eq_true_eq];omega
   simp only[afO,hq]at kJ kQ
   (have hb:=trivial;with_reducible repeat' (first|simp only[hb,Va.down,seval,avQ.down,h0,h1,h7,h8,h9,hd,hx,iv,ajD,hw,hj,hg,hq]|refine fsp ?_ ?_<;>intro hb|refine fd ?_|fail))
   all_goals first
    |exact kQ _ _ _ (by rw[if_neg (by rw[kF (by simp_all)];simp)];exact⟨rfl,rfl⟩)
    |exact abX (kJ _ _ (some x) ⟨.inr ⟨by omega,by simp[hx]⟩,by simp[up,h0],by simp[up,h1],by simp[up,h7],by simp[up,h8],by simp[up]<;>omega⟩ (kT (by simp_all)))
 ·exact⟨.inl ⟨rfl,rfl⟩,by simp[up,ent],by simp[up,ent],by simp[up,ent],by simp[up],by simp[up]⟩
 ·split at hk
  ·subst hk
   rename_i hr
   (have hb:=trivial;with_reducible repeat' (first|simp only[hb,Va.down,seval,avQ.down]|refine fsp ?_ ?_<;>intro hb|refine fd ?_|fail))
   all_goals simp[hr]
  ·obtain⟨rfl,h2⟩:=hk
   rename_i hr
   (have hb:=trivial;with_reducible repeat' (first|simp only[hb,Va.down,seval,avQ.down,h2]|refine fsp ?_ ?_<;>intro hb|refine fd ?_|fail))
   all_goals simp[hr]
def aj9(ns:Int)(v:aaQ):Bool:=ahE ns v.sens none&&inB v.need 1 v.sens.length&&akU v.level
theorem aDU(v:aaQ)(ns:Int)(hl:v.sens.length≤maxLen):om'.call (.fn 47) [.agg [slv 1 true v.nn (v.sens.map iv),.int .i64 v.need,.int .i64 v.level,.bool v.above],.int .i64 ns] []=some (.ret (.bool (aj9 ns v)),[]):=by
 (refine ce Try.func47 ?_;simp only[Try.f47];(have hb:=trivial;with_reducible repeat' (first|simp only[hb,Va.down,seval,av0.down,aaK]|refine fsp ?_ ?_<;>intro hb|refine fd ?_|fail)))
 refine ac5 (lst 51 v.sens (fun i (s:Option Int) t h=>(i=0∧s=none∨0<i∧s=v.sens[i-1]?)∧h[0]?=some (.live 4 false false [[slv 1 true v.nn (v.sens.map iv),.int .i64 v.need,.int .i64 v.level,.bool v.above]])∧t 1=.int .i64 ns∧t 2=.ptr 0 0 0∧t 5=.int .i64 i)
  (fun rest s=>ahE ns rest s) (fun r e t h=>if r=true then e=.exit 0∧h[0]?=some (.live 4 false false [[slv 1 true v.nn (v.sens.map iv),.int .i64 v.need,.int .i64 v.level,.bool v.above]])∧t 2=.ptr 0 0 0 else e=.ret∧t 4=.bool false) ?_ ?_ none _ _ ?_) (fun e t h hk=>?_)
 ·rintro s t h Q' kQ ⟨hs,hh,h1,h2,h5⟩
  (have hb:=trivial;with_reducible repeat' (first|simp only[hb,Va.down,seval,av0.down,hh,h1,h2,h5,aaK,aa4,decide_false]|refine fsp ?_ ?_<;>intro hb|refine fd ?_|fail))
  exact kQ _ _ _ (by simp[ahE,up,h2,hh])
 ·rintro x rest i s t h J Q' kJ kQ hx hi ⟨hs,hh,h1,h2,h5⟩
  have hd:decide ((i:Int)<(v.sens.length:Int))=true:=by simpa using hi
  have hA:=abN hh
  have kF:∀{p:Option Int},(inB x 0 (IntKind.i64.wrap (ns-1))&&(match p with|none=>true|some q=> !decide (x≤q)))=false→ahE ns (x::rest) p=false:=fun h=>by simp[ahE,h]
  have kT:∀{p:Option Int},(inB x 0 (IntKind.i64.wrap (ns-1))&&(match p with|none=>true|some q=> !decide (x≤q)))=true→ahE ns rest (some x)=ahE ns (x::rest) p:=fun h=>by simp[ahE,h]
  have hw:=aaW hi hl
  rcases hs with⟨rfl,rfl⟩|⟨hpos,rfl⟩
  ·simp only[ac8,Int.zero_add]at hd h5 hw
   (have hb:=trivial;with_reducible repeat' (first|simp only[hb,Va.down,seval,av0.down,hA,hh,h1,h2,h5,hd,hx,aaK,iv,am6,hw,Int.toNat_zero,acH,aa4,decide_false]|refine fsp ?_ ?_<;>intro hb|refine fd ?_|fail))
   all_goals first
    |exact kQ _ _ _ (by rw[if_neg (by rw[kF (by simp_all)];simp)];exact⟨rfl,rfl⟩)
    |exact abX (kJ _ _ (some x) ⟨.inr ⟨by omega,by simp[hx]⟩,by simp[hh],by simp[up,h1],by simp[up,h2],by simp[up]<;>omega⟩ (kT (by simp_all)))
  ·obtain⟨j,rfl⟩:∃j,i=j+1:=⟨i-1,by omega⟩
   obtain⟨q,hq⟩:∃q,v.sens[j]?=some q:=⟨v.sens[j],afE (by omega)⟩
   have hj:IntKind.i64.wrap (((j+1:Nat):Int)-1)=(j:Int):=by unfold maxLen at hl;rw[ahH (by omega) (by omega)];omega
   have hg:decide (0<((j+1:Nat):Int))=true:=by rw[decide_eq_true_eq];omega
   simp only[afO,hq]at kJ kQ
   (have hb:=trivial;with_reducible repeat' (first|simp only[hb,Va.down,seval,av0.down,hA,hh,h1,h2,h5,hd,hx,aaK,iv,am6,hw,hj,hg,hq]|refine fsp ?_ ?_<;>intro hb|refine fd ?_|fail))
   all_goals first
    |exact kQ _ _ _ (by rw[if_neg (by rw[kF (by simp_all)];simp)];exact⟨rfl,rfl⟩)
    |exact abX (kJ _ _ (some x) ⟨.inr ⟨by omega,by simp[hx]⟩,by simp[hh],by simp[up,h1],by simp[up,h2],by simp[up]<;>omega⟩ (kT (by simp_all)))
 ·exact⟨.inl ⟨rfl,rfl⟩,rfl,by simp[up,ent],by simp[up],by simp[up]⟩
 ·split at hk
  ·obtain⟨rfl,hh,h2⟩:=hk
   have hA:=abN hh
   rename_i hr
   (have hb:=trivial;with_reducible repeat' (first|simp only[hb,Va.down,seval,av0.down,hA,hh,h2,aaK,am6]|refine fsp ?_ ?_<;>intro hb|refine fd ?_|fail))
   all_goals simp_all[aj9,akU]
  ·obtain⟨rfl,h2⟩:=hk
   rename_i hr
   (have hb:=trivial;with_reducible repeat' (first|simp only[hb,Va.down,seval,av0.down,h2]|refine fsp ?_ ?_<;>intro hb|refine fd ?_|fail))
   all_goals simp[aj9,hr]
theorem aA7(o w:aaR):om'.call (.fn 90) [.agg [.int .i64 o.vote,.bool o.is],.ptr 0 0 0] [.live 2 true false [[.int .i64 w.vote,.bool w.is]]]=some (.ret (.bool (o.vote==w.vote)),[.live 2 true false [[.int .i64 w.vote,.bool w.is]]]):=by
 (refine ce Try.func90 ?_;simp only[Try.f90];(have hb:=trivial;with_reducible repeat' (first|simp only[hb,Vc.down,seval,aKD.down]|refine fsp ?_ ?_<;>intro hb|refine fd ?_|fail)))
theorem avM{l:List aaR}{nn:Bool}{g:Nat}{ww:aaR}{p:aaR→Bool}(hp:∀x∈l,om'.call (.fn g) (.agg [.int .i64 x.vote,.bool x.is]::[.ptr 0 0 0]) [.live 2 true false [[.int .i64 ww.vote,.bool ww.is]]]=some (.ret (.bool (p x)),[.live 2 true false [[.int .i64 ww.vote,.bool ww.is]]]))(hl:l.length≤maxLen):
 om'.call (.fn 98) [slv 2 true nn (l.map aaR.cells),.func (.func g) [] [.ptr 0 0 0]] [.live 2 true false [[.int .i64 ww.vote,.bool ww.is]]]=some (.ret (.int .i64 (idx p l 0)),[.live 2 true false [[.int .i64 ww.vote,.bool ww.is]]]):=by
 (refine ce Try.func98 ?_;simp only[Try.f98];(have hb:=trivial;with_reducible repeat' (first|simp only[hb,Vc.down,seval,an2.down,aaK]|refine fsp ?_ ?_<;>intro hb|refine fd ?_|fail)))
 refine ac5 (lst 19 l (fun i (s:Int) t h=>s=i∧h=[.live 2 true false [[.int .i64 ww.vote,.bool ww.is]]]∧t 0=slv 2 true nn (l.map aaR.cells)∧t 1=.func (.func g) [] [.ptr 0 0 0]∧t 7=.int .i64 l.length∧t 8=.int .i64 i)
  (fun rest s=>idx p rest s) (fun r e t h=>h=[.live 2 true false [[.int .i64 ww.vote,.bool ww.is]]]∧((e=.exit 0∧r= -1)∨(e=.ret∧t 4=.int .i64 r))) ?_ ?_ 0 _ _ ?_) (fun e t h hk=>?_)
 ·rintro s t h Q' kQ ⟨rfl,rfl,h0,h1,h7,h8⟩
  (have hb:=trivial;with_reducible repeat' (first|simp only[hb,Vc.down,seval,an2.down,h0,h1,h7,h8,aa4,decide_false]|refine fsp ?_ ?_<;>intro hb|refine fd ?_|fail))
  exact kQ _ _ _ ⟨rfl,.inl ⟨rfl,rfl⟩⟩
 ·rintro x rest i s t h J Q' kJ kQ hx hi ⟨rfl,rfl,h0,h1,h7,h8⟩
  have hpx:=hp x (acJ hx)
  have hd:decide ((i:Int)<(l.length:Int))=true:=by simpa using hi
  (have hb:=trivial;with_reducible repeat' (first|simp only[hb,Vc.down,seval,an2.down,h0,h1,h7,h8,hd,hx,aaR.cells,hpx,aaW hi hl]|refine fsp ?_ ?_<;>intro hb|refine fd ?_|fail))
  ·exact kQ _ _ _ ⟨rfl,.inr ⟨rfl,by simp[up,idx,hb]⟩⟩
  ·exact abX (kJ _ _ (i+1) ⟨by simp,rfl,by simp[up,h0],by simp[up,h1],by simp[up,h7],by simp[up]⟩ (by simp[idx,hb]))
 ·exact⟨rfl,rfl,by simp[up,ent],by simp[up,ent],by simp[up],by simp[up]⟩
 ·obtain⟨rfl,⟨rfl,hi⟩|⟨rfl,hi⟩⟩:=hk
  ·(have hb:=trivial;with_reducible repeat' (first|simp only[hb,Vc.down,seval,an2.down]|refine fsp ?_ ?_<;>intro hb|refine fd ?_|fail))
   rw[hi]
  ·(have hb:=trivial;with_reducible repeat' (first|simp only[hb,Vc.down,seval,an2.down,hi]|refine fsp ?_ ?_<;>intro hb|refine fd ?_|fail))
theorem arZ{l:List aaR}{nn:Bool}{g:Nat}{ww:aaR}{p:aaR→Bool}(hp:∀x∈l,om'.call (.fn g) (.agg [.int .i64 x.vote,.bool x.is]::[.ptr 0 0 0]) [.live 2 true false [[.int .i64 ww.vote,.bool ww.is]]]=some (.ret (.bool (p x)),[.live 2 true false [[.int .i64 ww.vote,.bool ww.is]]]))(hl:l.length≤maxLen):
 om'.call (.fn 89) [slv 2 true nn (l.map aaR.cells),.func (.func g) [] [.ptr 0 0 0]] [.live 2 true false [[.int .i64 ww.vote,.bool ww.is]]]=some (.ret (.bool (l.any p)),[.live 2 true false [[.int .i64 ww.vote,.bool ww.is]]]):=by
 (refine ce Try.func89 ?_;simp only[Try.f89];(have hb:=trivial;with_reducible repeat' (first|simp only[hb,Vc.down,seval,avM hp hl,akC p l 0 (acH 0)]|refine fsp ?_ ?_<;>intro hb|refine fd ?_|fail)))
def ae2(nv:Int):List aaR→List aaR→Bool
 |_,[]=>true
 |pre,w::l=>inB w.vote 0 (IntKind.i64.wrap (nv-1))&& !(pre.any fun o=>o.vote==w.vote)&&ae2 nv (pre++[w]) l
def agW(m:aa8)(x:aaP):Bool:=ae2 m.votes.length [] x.wants&&inB x.frm 0 (IntKind.i64.wrap (m.states-1))&&inB x.to 0 (IntKind.i64.wrap (m.states-1))&&decide (x.wants.length≤6)&&inB x.cmd (-1) (IntKind.i64.wrap (m.cmds-1))&&inB x.after 0 10
theorem aDR(m:aa8)(y:aaP)(hl:y.wants.length≤maxLen):om'.call (.fn 72) [.agg [slv 3 true m.nS (m.sens.map aa9.cells),slv 4 false m.nV (m.votes.map aaQ.cells),slv 5 false m.nM (m.moves.map aaP.cells),.int .i64 m.states,.int .i64 m.cmds,.int .i64 m.bgn,slv 1 true m.nO (m.opn.map iv)],.agg [.int .i64 y.frm,.int .i64 y.to,slv 2 true y.nn (y.wants.map aaR.cells),.int .i64 y.cmd,.int .i64 y.after]] []=some (.ret (.bool (agW m y)),[]):=by
 have l6:decide ((y.wants.length:Int)≤6)=decide (y.wants.length≤6):=by rw[decide_eq_decide];omega
 (refine ce Try.func72 ?_;simp only[Try.f72];(have hb:=trivial;with_reducible repeat' (first|simp only[hb,Vc.down,seval,asX.down,aaK]|refine fsp ?_ ?_<;>intro hb|refine fd ?_|fail)))
 refine ac5 (lst 65 y.wants (fun i (zz:List aaR) t h=>t 2=.ptr 0 0 0∧t 3=.ptr 1 0 0∧t 8=slv 2 true y.nn (y.wants.map aaR.cells)∧t 9=.int .i64 y.wants.length∧t 10=.int .i64 i∧(h[0]?=some (.live 7 false false [[slv 3 true m.nS (m.sens.map aa9.cells),slv 4 false m.nV (m.votes.map aaQ.cells),slv 5 false m.nM (m.moves.map aaP.cells),.int .i64 m.states,.int .i64 m.cmds,.int .i64 m.bgn,slv 1 true m.nO (m.opn.map iv)]])∧h[1]?=some (.live 5 false false [[.int .i64 y.frm,.int .i64 y.to,slv 2 true y.nn (y.wants.map aaR.cells),.int .i64 y.cmd,.int .i64 y.after]])∧zz=y.wants.take i)) (fun rest zz=>ae2 m.votes.length zz rest) (fun r e t h=>(if r=true then e=.exit 0∧t 2=.ptr 0 0 0∧t 3=.ptr 1 0 0∧h[0]?=some (.live 7 false false [[slv 3 true m.nS (m.sens.map aa9.cells),slv 4 false m.nV (m.votes.map aaQ.cells),slv 5 false m.nM (m.moves.map aaP.cells),.int .i64 m.states,.int .i64 m.cmds,.int .i64 m.bgn,slv 1 true m.nO (m.opn.map iv)]])∧h[1]?=some (.live 5 false false [[.int .i64 y.frm,.int .i64 y.to,slv 2 true y.nn (y.wants.map aaR.cells),.int .i64 y.cmd,.int .i64 y.after]])else e=.ret∧t 4=.bool false)) ?_ ?_ ([]) _ _ ?_) (fun e t h hk=>?_)
 ·rintro p t h Q' kQ ⟨h2,h3,h8,h9,h10,⟨hA,hB,hp⟩⟩
  (have hb:=trivial;with_reducible repeat' (first|simp only[hb,Vc.down,seval,asX.down,h2,h3,h8,h9,h10,aa4,decide_false]|refine fsp ?_ ?_<;>intro hb|refine fd ?_|fail))
  exact kQ _ _ _ (by rw[if_pos (by rfl)];exact⟨rfl,by simp[up,h2],by simp[up,h3],hA,hB⟩)
 ·rintro x rest i p t h J Q' kJ kQ hx hi ⟨h2,h3,h8,h9,h10,⟨hA,hB,hp⟩⟩
  have hd:decide ((i:Int)<(y.wants.length:Int))=true:=decide_eq_true (by omega)
  have hw:=aaW hi hl
  have hA1:=abN hA
  have hB1:=abN hB
  have hcW:=arZ (l:=y.wants.take i) (nn:=true) (ww:=x) (g:=90) (p:=fun o=>o.vote==x.vote) (fun o _=>aA7 o x) (by simp;omega)
  have hsl:=aFR (P:=Try.prog) (ty:=57) (n:=2) ⟨_,Try.underlying57,by kernel_rfl⟩ true y.nn (rows:=y.wants.map aaR.cells) (i:=i) (by simpa using hi)
  rw[aqB,List.map_take]at hcW
  subst hp
  cases c1:inB x.vote 0 (IntKind.i64.wrap ((m.votes.length:Int)-1))with
  |false=>
   (have hb:=trivial;with_reducible repeat' (first|simp only[hb,Vc.down,seval,asX.down,h2,h3,h8,h9,h10,hd,hx,hw,hA1,hB1,ajD,aaR.cells,aaK,hcW,hsl,c1]|refine fsp ?_ ?_<;>intro hb|refine fd ?_|fail))
   exact kQ _ _ _ (by rw[if_neg (by simp[ae2,c1])];exact⟨rfl,by simp[up]⟩)
  |true=>
   cases c2:(y.wants.take i).any (fun o=>o.vote==x.vote)with
   |true=>
    rw[c2]at hcW
    (have hb:=trivial;with_reducible repeat' (first|simp only[hb,Vc.down,seval,asX.down,h2,h3,h8,h9,h10,hd,hx,hw,hA1,hB1,ajD,aaR.cells,aaK,hcW,hsl,c1]|refine fsp ?_ ?_<;>intro hb|refine fd ?_|fail))
    exact kQ _ _ _ (by rw[if_neg (by simp only[ae2,c1,c2,abL,acR,acI];simp)];exact⟨rfl,by simp[up]⟩)
   |false=>
    rw[c2]at hcW
    (have hb:=trivial;with_reducible repeat' (first|simp only[hb,Vc.down,seval,asX.down,h2,h3,h8,h9,h10,hd,hx,hw,hA1,hB1,ajD,aaR.cells,aaK,hcW,hsl,c1]|refine fsp ?_ ?_<;>intro hb|refine fd ?_|fail))
    (refine abX (kJ _ _ (y.wants.take i++[x]) ⟨?_,?_,?_,?_,?_,⟨hA1 _,hB1 _,by rw[afP,hx];rfl⟩⟩ ?_);(simp[up,h2]);(simp[up,h3]);(simp[up,h8]);(simp[up,h9]);(simp[up]);(simp only[ae2,c1,c2,ab2,acN,acC]))
 ·exact⟨by simp[up,ent],by simp[up,ent],by simp[up,ent],by simp[up,ent],by simp[up],⟨rfl,rfl,rfl⟩⟩
 ·split at hk
  ·obtain⟨rfl,h2,h3,hA,hB⟩:=hk
   rename_i hr
   have hA1:=abN hA
   have hB1:=abN hB
   (have hb:=trivial;with_reducible repeat' (first|simp only[hb,Vc.down,seval,asX.down,h2,h3,hA,hB,hA1,hB1,ajD,aaK,l6]|refine fsp ?_ ?_<;>intro hb|refine fd ?_|fail))
   all_goals (refine congrArg (fun b=>(Out.ret (AV.bool b),([]:aaA))) ?_;symm;((try simp only[afR,abL,ab2]at *);simp only[agW, *,acR,acI,acN,acC,Bool.and_self,Bool.not_not,abL,ab2,List.all_cons,List.all_nil]))
  ·obtain⟨rfl,h4⟩:=hk
   rename_i hr
   (have hb:=trivial;with_reducible repeat' (first|simp only[hb,Vc.down,seval,asX.down,h4]|refine fsp ?_ ?_<;>intro hb|refine fd ?_|fail))
   all_goals simp_all[agW]
def au1(w:aaR):List aaR→Bool
 | []=>true
 |o::l=> !(o.vote==w.vote)&&au1 w l
theorem apA(w:aaR):∀l,au1 w l= !(l.any fun o=>o.vote==w.vote)
 | []=>rfl
 |o::l=>by simp[au1,apA w l]
theorem aFZ(m:aa8)(y:aaP)(hl:y.wants.length≤maxLen):om'.call (.fn 49) [.agg [slv 3 true m.nS (m.sens.map aa9.cells),slv 4 false m.nV (m.votes.map aaQ.cells),slv 5 false m.nM (m.moves.map aaP.cells),.int .i64 m.states,.int .i64 m.cmds,.int .i64 m.bgn,slv 1 true m.nO (m.opn.map iv)],.agg [.int .i64 y.frm,.int .i64 y.to,slv 2 true y.nn (y.wants.map aaR.cells),.int .i64 y.cmd,.int .i64 y.after]] []=some (.ret (.bool (agW m y)),[]):=by
 have l6:decide ((y.wants.length:Int)≤6)=decide (y.wants.length≤6):=by rw[decide_eq_decide];omega
 (refine ce Try.func49 ?_;simp only[Try.f49];(have hb:=trivial;with_reducible repeat' (first|simp only[hb,Vc.down,seval,am4.down,aaK]|refine fsp ?_ ?_<;>intro hb|refine fd ?_|fail)))
 refine ac5 (lst 77 y.wants (fun i (zz:List aaR) t h=>t 2=.ptr 0 0 0∧t 3=.ptr 1 0 0∧t 5=.int .i64 i∧(h=[.live 7 false false [[slv 3 true m.nS (m.sens.map aa9.cells),slv 4 false m.nV (m.votes.map aaQ.cells),slv 5 false m.nM (m.moves.map aaP.cells),.int .i64 m.states,.int .i64 m.cmds,.int .i64 m.bgn,slv 1 true m.nO (m.opn.map iv)]],.live 5 false false [[.int .i64 y.frm,.int .i64 y.to,slv 2 true y.nn (y.wants.map aaR.cells),.int .i64 y.cmd,.int .i64 y.after]]]∧zz=y.wants.take i)) (fun rest zz=>ae2 m.votes.length zz rest) (fun r e t h=>(if r=true then e=.exit 0∧t 2=.ptr 0 0 0∧t 3=.ptr 1 0 0∧h=[.live 7 false false [[slv 3 true m.nS (m.sens.map aa9.cells),slv 4 false m.nV (m.votes.map aaQ.cells),slv 5 false m.nM (m.moves.map aaP.cells),.int .i64 m.states,.int .i64 m.cmds,.int .i64 m.bgn,slv 1 true m.nO (m.opn.map iv)]],.live 5 false false [[.int .i64 y.frm,.int .i64 y.to,slv 2 true y.nn (y.wants.map aaR.cells),.int .i64 y.cmd,.int .i64 y.after]]]else e=.ret∧t 4=.bool false)) ?_ ?_ ([]) _ _ ?_) (fun e t h hk=>?_)
 ·rintro p t h Q' kQ ⟨h2,h3,h5,⟨rfl,hp⟩⟩
  (have hb:=trivial;with_reducible repeat' (first|simp only[hb,Vc.down,seval,am4.down,h2,h3,h5,aa4,decide_false,aaK]|refine fsp ?_ ?_<;>intro hb|refine fd ?_|fail))
  exact kQ _ _ _ (by rw[if_pos (by rfl)];exact⟨rfl,by simp[up,h2],by simp[up,h3],rfl⟩)
 ·rintro x rest i p t h J Q' kJ kQ hx hi ⟨h2,h3,h5,⟨rfl,hp⟩⟩
  have hd:decide ((i:Int)<(y.wants.length:Int))=true:=decide_eq_true (by omega)
  have hw:=aaW hi hl
  subst hp
  cases c1:inB x.vote 0 (IntKind.i64.wrap ((m.votes.length:Int)-1))with
  |false=>
   (have hb:=trivial;with_reducible repeat' (first|simp only[hb,Vc.down,seval,am4.down,h2,h3,h5,hd,hx,hw,am6,c1,aaR.cells,aaK]|refine fsp ?_ ?_<;>intro hb|refine fd ?_|fail))
   exact kQ _ _ _ (by rw[if_neg (by simp[ae2,c1])];exact⟨rfl,by simp[up]⟩)
  |true=>
   obtain⟨w,rfl⟩:∃w,w=x:=⟨_,rfl⟩
   obtain⟨k,rfl⟩:∃k,k=i:=⟨_,rfl⟩
   have hlen:(y.wants.take k).length=k:=by simp;omega
   have hxk:=hx
   (have hb:=trivial;with_reducible repeat' (first|simp only[hb,Vc.down,seval,am4.down,h2,h3,h5,hd,hx,hw,am6,c1,aaR.cells,aaK]|refine fsp ?_ ?_<;>intro hb|refine fd ?_|fail))
   refine ac5 (lst 77 (y.wants.take k) (fun i (zz:Unit) t h=>t 2=.ptr 0 0 0∧t 3=.ptr 1 0 0∧t 5=.int .i64 (k:Int)∧t 6=.int .i64 i∧h=[.live 7 false false [[slv 3 true m.nS (m.sens.map aa9.cells),slv 4 false m.nV (m.votes.map aaQ.cells),slv 5 false m.nM (m.moves.map aaP.cells),.int .i64 m.states,.int .i64 m.cmds,.int .i64 m.bgn,slv 1 true m.nO (m.opn.map iv)]],.live 5 false false [[.int .i64 y.frm,.int .i64 y.to,slv 2 true y.nn (y.wants.map aaR.cells),.int .i64 y.cmd,.int .i64 y.after]]]) (fun rest zz=>au1 w rest) (fun r e t h=>(if r=true then e=.exit 2∧t 2=.ptr 0 0 0∧t 3=.ptr 1 0 0∧t 5=.int .i64 (k:Int)∧h=[.live 7 false false [[slv 3 true m.nS (m.sens.map aa9.cells),slv 4 false m.nV (m.votes.map aaQ.cells),slv 5 false m.nM (m.moves.map aaP.cells),.int .i64 m.states,.int .i64 m.cmds,.int .i64 m.bgn,slv 1 true m.nO (m.opn.map iv)]],.live 5 false false [[.int .i64 y.frm,.int .i64 y.to,slv 2 true y.nn (y.wants.map aaR.cells),.int .i64 y.cmd,.int .i64 y.after]]]else e=.ret∧t 4=.bool false)) ?_ ?_ () _ _ ?_) (fun e tC hC hk=>?_)
   ·rintro _ t h Q' kQ ⟨h2,h3,h5,h6,rfl⟩
    (have hb:=trivial;with_reducible repeat' (first|simp only[hb,Vc.down,seval,am4.down,h2,h3,h5,h6,aa4,decide_false,hlen]|refine fsp ?_ ?_<;>intro hb|refine fd ?_|fail))
    exact kQ _ _ _ (by rw[if_pos (by rfl)];exact⟨rfl,by simp[up,h2],by simp[up,h3],by simp[up,h5],rfl⟩)
   ·rintro x rest i _ t h J Q' kJ kQ hx hi ⟨h2,h3,h5,h6,rfl⟩
    have hd:decide ((i:Int)<((y.wants.take k).length:Int))=true:=decide_eq_true (by omega)
    have hw:=aaW hi (by simp;omega)
    rw[hlen]at hd
    have hxi:y.wants[i]?=some x:=by rw[List.getElem?_take]at hx;split at hx;exact hx;cases hx
    cases c3:(x.vote==w.vote)with
    |true=>
     (have hb:=trivial;with_reducible repeat' (first|simp only[hb,Vc.down,seval,am4.down,h2,h3,h5,h6,hd,hxi,hxk,hw,c3,aaR.cells]|refine fsp ?_ ?_<;>intro hb|refine fd ?_|fail))
     exact kQ _ _ _ (by rw[if_neg (by simp[au1,c3])];exact⟨rfl,by simp[up]⟩)
    |false=>
     (have hb:=trivial;with_reducible repeat' (first|simp only[hb,Vc.down,seval,am4.down,h2,h3,h5,h6,hd,hxi,hxk,hw,c3,aaR.cells]|refine fsp ?_ ?_<;>intro hb|refine fd ?_|fail))
     (refine abX (kJ _ _ () ⟨?_,?_,?_,?_,rfl⟩ ?_);(simp[up,h2]);(simp[up,h3]);(simp[up,h5]);(simp[up]);(simp[au1,c3]))
   ·exact⟨by simp[up,ent,h2,h3,h5],by simp[up,ent,h2,h3,h5],by simp[up,ent,h2,h3,h5],by simp[up],rfl⟩
   ·split at hk
    ·rename_i hdup
     obtain⟨rfl,h2,h3,h5,rfl⟩:=hk
     (have hb:=trivial;with_reducible repeat' (first|simp only[hb,Vc.down,seval,am4.down,h2,h3,h5,hw]|refine fsp ?_ ?_<;>intro hb|refine fd ?_|fail))
     rw[apA]at hdup
     (refine abX (kJ _ _ (y.wants.take k++[w]) ⟨?_,?_,?_,⟨rfl,by rw[afP,hxk];rfl⟩⟩ ?_);(simp[up,h2]);(simp[up,h3]);(simp[up]);(simp only[ae2,c1,hdup,acC]))
    ·rename_i hdup
     obtain⟨rfl,h4⟩:=hk
     (have hb:=trivial;with_reducible repeat' (first|simp only[hb,Vc.down,seval,am4.down,h4]|refine fsp ?_ ?_<;>intro hb|refine fd ?_|fail))
     rw[apA]at hdup
     exact kQ _ _ _ (by rw[if_neg (by simp only[ae2,c1,acC,acV.2 hdup,acI];simp)];exact⟨rfl,by simp[up,h4]⟩)
 ·exact⟨by simp[up,ent],by simp[up,ent],by simp[up],⟨rfl,rfl⟩⟩
 ·split at hk
  ·obtain⟨rfl,h2,h3,rfl⟩:=hk
   rename_i hr
   (have hb:=trivial;with_reducible repeat' (first|simp only[hb,Vc.down,seval,am4.down,h2,h3,am6,aaK,l6]|refine fsp ?_ ?_<;>intro hb|refine fd ?_|fail))
   all_goals (refine congrArg (fun b=>(Out.ret (AV.bool b),([]:aaA))) ?_;symm;((try simp only[afR,abL,ab2]at *);simp only[agW, *,acR,acI,acN,acC,Bool.and_self,Bool.not_not,abL,ab2,List.all_cons,List.all_nil]))
  ·obtain⟨rfl,h4⟩:=hk
   rename_i hr
   (have hb:=trivial;with_reducible repeat' (first|simp only[hb,Vc.down,seval,am4.down,h4]|refine fsp ?_ ?_<;>intro hb|refine fd ?_|fail))
   all_goals simp_all[agW]
def asQ(s:aa9):Bool:=akU s.lo&&akU s.hi&& !decide (s.hi<s.lo)
def aiH(m:aa8):Bool:=decide (m.sens.length≤6)&&decide (m.votes.length≤6)&&decide (m.moves.length≤20)&&inB m.states 1 8&&inB m.cmds 0 4&&inB m.bgn 0 (IntKind.i64.wrap (m.states-1))&&((m.opn.length:Int)==m.states)
def acX(m:aa8):Bool:=aiH m&&m.sens.all asQ&&m.votes.all (aj9 m.sens.length)&&m.moves.all (agW m)&&m.opn.all (fun n=>inB n 0 255)
theorem azL(m:aa8)(x:aaP)(hl:x.wants.length≤maxLen):om'.call (.fn 71) [.agg [.int .i64 x.frm,.int .i64 x.to,slv 2 true x.nn (x.wants.map aaR.cells),.int .i64 x.cmd,.int .i64 x.after],.ptr 0 0 0] [.live 7 false false [[slv 3 true m.nS (m.sens.map aa9.cells),slv 4 false m.nV (m.votes.map aaQ.cells),slv 5 false m.nM (m.moves.map aaP.cells),.int .i64 m.states,.int .i64 m.cmds,.int .i64 m.bgn,slv 1 true m.nO (m.opn.map iv)]]]=some (.ret (.bool (!agW m x)),[.live 7 false false [[slv 3 true m.nS (m.sens.map aa9.cells),slv 4 false m.nV (m.votes.map aaQ.cells),slv 5 false m.nM (m.moves.map aaP.cells),.int .i64 m.states,.int .i64 m.cmds,.int .i64 m.bgn,slv 1 true m.nO (m.opn.map iv)]]]):=by
 have hm:=aDR m x hl
 (refine ce Try.func71 ?_;simp only[Try.f71];(have hb:=trivial;with_reducible repeat' (first|simp only[hb,Vc.down,seval,aJ7.down,hm]|refine fsp ?_ ?_<;>intro hb|refine fd ?_|fail)))
theorem atX{l:List aaP}{nn:Bool}{g:Nat}{mm:aa8}{p:aaP→Bool}(hp:∀x∈l,om'.call (.fn g) (.agg [.int .i64 x.frm,.int .i64 x.to,slv 2 true x.nn (x.wants.map aaR.cells),.int .i64 x.cmd,.int .i64 x.after]::[.ptr 0 0 0]) [.live 7 false false [[slv 3 true mm.nS (mm.sens.map aa9.cells),slv 4 false mm.nV (mm.votes.map aaQ.cells),slv 5 false mm.nM (mm.moves.map aaP.cells),.int .i64 mm.states,.int .i64 mm.cmds,.int .i64 mm.bgn,slv 1 true mm.nO (mm.opn.map iv)]]]=some (.ret (.bool (p x)),[.live 7 false false [[slv 3 true mm.nS (mm.sens.map aa9.cells),slv 4 false mm.nV (mm.votes.map aaQ.cells),slv 5 false mm.nM (mm.moves.map aaP.cells),.int .i64 mm.states,.int .i64 mm.cmds,.int .i64 mm.bgn,slv 1 true mm.nO (mm.opn.map iv)]]]))(hl:l.length≤maxLen):
 om'.call (.fn 88) [slv 5 false nn (l.map aaP.cells),.func (.func g) [] [.ptr 0 0 0]] [.live 7 false false [[slv 3 true mm.nS (mm.sens.map aa9.cells),slv 4 false mm.nV (mm.votes.map aaQ.cells),slv 5 false mm.nM (mm.moves.map aaP.cells),.int .i64 mm.states,.int .i64 mm.cmds,.int .i64 mm.bgn,slv 1 true mm.nO (mm.opn.map iv)]]]=some (.ret (.int .i64 (idx p l 0)),[.live 7 false false [[slv 3 true mm.nS (mm.sens.map aa9.cells),slv 4 false mm.nV (mm.votes.map aaQ.cells),slv 5 false mm.nM (mm.moves.map aaP.cells),.int .i64 mm.states,.int .i64 mm.cmds,.int .i64 mm.bgn,slv 1 true mm.nO (mm.opn.map iv)]]]):=by
 (refine ce Try.func88 ?_;simp only[Try.f88];(have hb:=trivial;with_reducible repeat' (first|simp only[hb,Vc.down,seval,ay9.down,aaK]|refine fsp ?_ ?_<;>intro hb|refine fd ?_|fail)))
 refine ac5 (lst 19 l (fun i (s:Int) t h=>s=i∧h=[.live 7 false false [[slv 3 true mm.nS (mm.sens.map aa9.cells),slv 4 false mm.nV (mm.votes.map aaQ.cells),slv 5 false mm.nM (mm.moves.map aaP.cells),.int .i64 mm.states,.int .i64 mm.cmds,.int .i64 mm.bgn,slv 1 true mm.nO (mm.opn.map iv)]]]∧t 0=slv 5 false nn (l.map aaP.cells)∧t 1=.func (.func g) [] [.ptr 0 0 0]∧t 7=.int .i64 l.length∧t 8=.int .i64 i)
  (fun rest s=>idx p rest s) (fun r e t h=>h=[.live 7 false false [[slv 3 true mm.nS (mm.sens.map aa9.cells),slv 4 false mm.nV (mm.votes.map aaQ.cells),slv 5 false mm.nM (mm.moves.map aaP.cells),.int .i64 mm.states,.int .i64 mm.cmds,.int .i64 mm.bgn,slv 1 true mm.nO (mm.opn.map iv)]]]∧((e=.exit 0∧r= -1)∨(e=.ret∧t 4=.int .i64 r))) ?_ ?_ 0 _ _ ?_) (fun e t h hk=>?_)
 ·rintro s t h Q' kQ ⟨rfl,rfl,h0,h1,h7,h8⟩
  (have hb:=trivial;with_reducible repeat' (first|simp only[hb,Vc.down,seval,ay9.down,h0,h1,h7,h8,aa4,decide_false]|refine fsp ?_ ?_<;>intro hb|refine fd ?_|fail))
  exact kQ _ _ _ ⟨rfl,.inl ⟨rfl,rfl⟩⟩
 ·rintro x rest i s t h J Q' kJ kQ hx hi ⟨rfl,rfl,h0,h1,h7,h8⟩
  have hpx:=hp x (acJ hx)
  have hd:decide ((i:Int)<(l.length:Int))=true:=by simpa using hi
  (have hb:=trivial;with_reducible repeat' (first|simp only[hb,Vc.down,seval,ay9.down,h0,h1,h7,h8,hd,hx,aaP.cells,hpx,aaW hi hl]|refine fsp ?_ ?_<;>intro hb|refine fd ?_|fail))
  ·exact kQ _ _ _ ⟨rfl,.inr ⟨rfl,by simp[up,idx,hb]⟩⟩
  ·exact abX (kJ _ _ (i+1) ⟨by simp,rfl,by simp[up,h0],by simp[up,h1],by simp[up,h7],by simp[up]⟩ (by simp[idx,hb]))
 ·exact⟨rfl,rfl,by simp[up,ent],by simp[up,ent],by simp[up],by simp[up]⟩
 ·obtain⟨rfl,⟨rfl,hi⟩|⟨rfl,hi⟩⟩:=hk
  ·(have hb:=trivial;with_reducible repeat' (first|simp only[hb,Vc.down,seval,ay9.down]|refine fsp ?_ ?_<;>intro hb|refine fd ?_|fail))
   rw[hi]
  ·(have hb:=trivial;with_reducible repeat' (first|simp only[hb,Vc.down,seval,ay9.down,hi]|refine fsp ?_ ?_<;>intro hb|refine fd ?_|fail))
theorem asT{l:List aaP}{nn:Bool}{g:Nat}{mm:aa8}{p:aaP→Bool}(hp:∀x∈l,om'.call (.fn g) (.agg [.int .i64 x.frm,.int .i64 x.to,slv 2 true x.nn (x.wants.map aaR.cells),.int .i64 x.cmd,.int .i64 x.after]::[.ptr 0 0 0]) [.live 7 false false [[slv 3 true mm.nS (mm.sens.map aa9.cells),slv 4 false mm.nV (mm.votes.map aaQ.cells),slv 5 false mm.nM (mm.moves.map aaP.cells),.int .i64 mm.states,.int .i64 mm.cmds,.int .i64 mm.bgn,slv 1 true mm.nO (mm.opn.map iv)]]]=some (.ret (.bool (p x)),[.live 7 false false [[slv 3 true mm.nS (mm.sens.map aa9.cells),slv 4 false mm.nV (mm.votes.map aaQ.cells),slv 5 false mm.nM (mm.moves.map aaP.cells),.int .i64 mm.states,.int .i64 mm.cmds,.int .i64 mm.bgn,slv 1 true mm.nO (mm.opn.map iv)]]]))(hl:l.length≤maxLen):
 om'.call (.fn 70) [slv 5 false nn (l.map aaP.cells),.func (.func g) [] [.ptr 0 0 0]] [.live 7 false false [[slv 3 true mm.nS (mm.sens.map aa9.cells),slv 4 false mm.nV (mm.votes.map aaQ.cells),slv 5 false mm.nM (mm.moves.map aaP.cells),.int .i64 mm.states,.int .i64 mm.cmds,.int .i64 mm.bgn,slv 1 true mm.nO (mm.opn.map iv)]]]=some (.ret (.bool (l.any p)),[.live 7 false false [[slv 3 true mm.nS (mm.sens.map aa9.cells),slv 4 false mm.nV (mm.votes.map aaQ.cells),slv 5 false mm.nM (mm.moves.map aaP.cells),.int .i64 mm.states,.int .i64 mm.cmds,.int .i64 mm.bgn,slv 1 true mm.nO (mm.opn.map iv)]]]):=by
 (refine ce Try.func70 ?_;simp only[Try.f70];(have hb:=trivial;with_reducible repeat' (first|simp only[hb,Vc.down,seval,atX hp hl,akC p l 0 (acH 0)]|refine fsp ?_ ?_<;>intro hb|refine fd ?_|fail)))
theorem as8(m:aa8)(hs:m.small):om'.call (.fn 42) [.agg [slv 3 true m.nS (m.sens.map aa9.cells),slv 4 false m.nV (m.votes.map aaQ.cells),slv 5 false m.nM (m.moves.map aaP.cells),.int .i64 m.states,.int .i64 m.cmds,.int .i64 m.bgn,slv 1 true m.nO (m.opn.map iv)]] []=some (.ret (.bool (acX m)),[]):=by
 have l1:decide ((6:Int)<(m.sens.length:Int))= !decide (m.sens.length≤6):=by rw[←decide_not,decide_eq_decide];omega
 have l2:decide ((6:Int)<(m.votes.length:Int))= !decide (m.votes.length≤6):=by rw[←decide_not,decide_eq_decide];omega
 have l3:decide ((20:Int)<(m.moves.length:Int))= !decide (m.moves.length≤20):=by rw[←decide_not,decide_eq_decide];omega
 cases hp:aiH m with
 |false=>
  have hp':acX m=false:=by simp[acX,hp]
  rw[hp']
  (refine ce Try.func42 ?_;simp only[Try.f42];(have hb:=trivial;with_reducible repeat' (first|simp only[hb,Vc.down,seval,anT.down,aaK,ajD,l1,l2,l3]|refine fsp ?_ ?_<;>intro hb|refine fd ?_|fail)))
  all_goals first
   |rfl
   |(exfalso;simp_all[aiH];done)
 |true=>
  have hp':=hp
  simp only[aiH,Bool.and_eq_true]at hp'
  obtain⟨⟨⟨⟨⟨⟨p1,p2⟩,p3⟩,p4⟩,p5⟩,p6⟩,p7⟩:=hp'
  (refine ce Try.func42 ?_;simp only[Try.f42];(have hb:=trivial;with_reducible repeat' (first|simp only[hb,Vc.down,seval,anT.down,aaK,ajD,l1,l2,l3,p1,p2,p3,p4,p5,p6,p7]|refine fsp ?_ ?_<;>intro hb|refine fd ?_|fail)))
  refine ac5 (lst 118 m.sens (fun i (zz:Unit) t h=>t 1=.ptr 0 0 0∧t 53=slv 3 true m.nS (m.sens.map aa9.cells)∧t 54=.int .i64 m.sens.length∧t 55=.int .i64 i∧(h[0]?=some (.live 7 false false [[slv 3 true m.nS (m.sens.map aa9.cells),slv 4 false m.nV (m.votes.map aaQ.cells),slv 5 false m.nM (m.moves.map aaP.cells),.int .i64 m.states,.int .i64 m.cmds,.int .i64 m.bgn,slv 1 true m.nO (m.opn.map iv)]]))) (fun rest zz=>rest.all asQ) (fun r e t h=>(if r=true then e=.exit 0∧t 1=.ptr 0 0 0∧h[0]?=some (.live 7 false false [[slv 3 true m.nS (m.sens.map aa9.cells),slv 4 false m.nV (m.votes.map aaQ.cells),slv 5 false m.nM (m.moves.map aaP.cells),.int .i64 m.states,.int .i64 m.cmds,.int .i64 m.bgn,slv 1 true m.nO (m.opn.map iv)]])else e=.ret∧t 2=.bool false)) ?_ ?_ () _ _ ?_) (fun e t h hk=>?_)
  ·rintro _ t h Q' kQ ⟨h1,h53,h54,h55,hA⟩
   (have hb:=trivial;with_reducible repeat' (first|simp only[hb,Vc.down,seval,anT.down,h1,h53,h54,h55,aa4,decide_false]|refine fsp ?_ ?_<;>intro hb|refine fd ?_|fail))
   exact kQ _ _ _ (by rw[if_pos (by rfl)];exact⟨rfl,by simp[up,h1],hA⟩)
  ·rintro x rest i _ t h J Q' kJ kQ hx hi ⟨h1,h53,h54,h55,hA⟩
   have hd:decide ((i:Int)<(m.sens.length:Int))=true:=decide_eq_true (by omega)
   have hw:=aaW hi hs.sens
   have hA1:=abN hA
   (have hb:=trivial;with_reducible repeat' (first|simp only[hb,Vc.down,seval,anT.down,h1,h53,h54,h55,hd,hx,hw,apP,aa9.cells,aaK]|refine fsp ?_ ?_<;>intro hb|refine fd ?_|fail))
   all_goals first
    |exact kQ _ _ _ (by rw[if_neg (by simp_all[asQ])];exact⟨rfl,by simp[up]⟩)
    |(refine abX (kJ _ _ () ⟨?_,?_,?_,?_,hA1 _⟩ ?_);(simp[up,h1]);(simp[up,h53]);(simp[up,h54]);(simp[up]);(simp_all[asQ]))
  ·exact⟨by simp[up,ent],by simp[up,ent],by simp[up,ent],by simp[up],rfl⟩
  ·split at hk
   ·obtain⟨rfl,h1,hA⟩:=hk
    rename_i hr1
    have hA1:=abN hA
    (have hb:=trivial;with_reducible repeat' (first|simp only[hb,Vc.down,seval,anT.down,h1,hA,hA1,aaK]|refine fsp ?_ ?_<;>intro hb|refine fd ?_|fail))
    refine ac5 (lst 118 m.votes (fun i (zz:Unit) t h=>t 1=.ptr 0 0 0∧t 78=slv 4 false m.nV (m.votes.map aaQ.cells)∧t 79=.int .i64 m.votes.length∧t 80=.int .i64 i∧(h[0]?=some (.live 7 false false [[slv 3 true m.nS (m.sens.map aa9.cells),slv 4 false m.nV (m.votes.map aaQ.cells),slv 5 false m.nM (m.moves.map aaP.cells),.int .i64 m.states,.int .i64 m.cmds,.int .i64 m.bgn,slv 1 true m.nO (m.opn.map iv)]]))) (fun rest zz=>rest.all (aj9 m.sens.length)) (fun r e t h=>(if r=true then e=.exit 2∧t 1=.ptr 0 0 0∧h[0]?=some (.live 7 false false [[slv 3 true m.nS (m.sens.map aa9.cells),slv 4 false m.nV (m.votes.map aaQ.cells),slv 5 false m.nM (m.moves.map aaP.cells),.int .i64 m.states,.int .i64 m.cmds,.int .i64 m.bgn,slv 1 true m.nO (m.opn.map iv)]])else e=.ret∧t 2=.bool false)) ?_ ?_ () _ _ ?_) (fun e t h hk=>?_)
    ·rintro _ t h Q' kQ ⟨h1,h78,h79,h80,hA⟩
     (have hb:=trivial;with_reducible repeat' (first|simp only[hb,Vc.down,seval,anT.down,h1,h78,h79,h80,aa4,decide_false]|refine fsp ?_ ?_<;>intro hb|refine fd ?_|fail))
     exact kQ _ _ _ (by rw[if_pos (by rfl)];exact⟨rfl,by simp[up,h1],hA⟩)
    ·rintro x rest i _ t h J Q' kJ kQ hx hi ⟨h1,h78,h79,h80,hA⟩
     have hd:decide ((i:Int)<(m.votes.length:Int))=true:=decide_eq_true (by omega)
     have hw:=aaW hi hs.votes
     have hA1:=abN hA
     have hin:=ao4 (nn:=x.nn) m.sens.length (hs.vs x (acJ hx))
     (have hb:=trivial;with_reducible repeat' (first|simp only[hb,Vc.down,seval,anT.down,h1,h78,h79,h80,hd,hx,hw,hA1,apP,ajD,hin,aaQ.cells,aaK]|refine fsp ?_ ?_<;>intro hb|refine fd ?_|fail))
     all_goals first
      |exact kQ _ _ _ (by rw[if_neg (by simp_all[aj9])];exact⟨rfl,by simp[up]⟩)
      |(refine abX (kJ _ _ () ⟨?_,?_,?_,?_,hA1 _⟩ ?_);(simp[up,h1]);(simp[up,h78]);(simp[up,h79]);(simp[up]);(simp_all[aj9]))
    ·exact⟨by simp[up,ent,h1],by simp[up,ent,h1],by simp[up,ent,h1],by simp[up],hA⟩
    ·split at hk
     ·obtain⟨rfl,h1,hA⟩:=hk
      rename_i hr2
      have hA1:=abN hA
      have hcM:=asT (mm:=m) (l:=m.moves) (nn:=m.nM) (g:=71) (p:=fun x=> !agW m x) (fun x hx=>azL m x (hs.ws x hx)) hs.moves
      have hcI:=an7 (l:=m.opn) (nn:=m.nO) (g:=74) (cap:=[]) (p:=fun x=> !inB x 0 255) rfl rfl (fun x _=>azI x) hs.opn
      (have hb:=trivial;with_reducible repeat' (first|simp only[hb,Vc.down,seval,anT.down,h1,hA,hA1,aaK,hcM,hcI]|refine fsp ?_ ?_<;>intro hb|refine fd ?_|fail))
      all_goals
       have q1:m.moves.all (agW m)= !(m.moves.any fun x=> !agW m x):=agD
       have q2:m.opn.all (fun n=>inB n 0 255)= !(m.opn.any fun x=> !inB x 0 255):=agD
       simp only[acX,hp,hr1,hr2,q1,q2,hb,abL,ab2,acC,acI,acN]
       try rfl
     ·obtain⟨rfl,h2⟩:=hk
      rename_i hr2
      (have hb:=trivial;with_reducible repeat' (first|simp only[hb,Vc.down,seval,anT.down,h2]|refine fsp ?_ ?_<;>intro hb|refine fd ?_|fail))
      all_goals simp[acX,hp,acV.2 hr2]
   ·obtain⟨rfl,h2⟩:=hk
    rename_i hr1
    (have hb:=trivial;with_reducible repeat' (first|simp only[hb,Vc.down,seval,anT.down,h2]|refine fsp ?_ ?_<;>intro hb|refine fd ?_|fail))
    all_goals simp[acX,hp,acV.2 hr1]
end Go.Proofs.Ytfkokgjfpojeoaa
