/- The functions of the layer, walked. -/
import Derived.Test.YtfkokgjfpojeoaaLibD
import Derived.Test.YtfkokgjfpojeoaaChecked
import Derived.Test.YtfkokgjfpojeoaaLibE
import Derived.Test.YtfkokgjfpojeoaaRows
import Derived.ProofKit
import Derived.LaidMore
import Derived.OpenShut
open And renaming intro→abJ
open List renaming length_map→abT,mem_of_getElem?→aeM,getElem?_eq_getElem→ahM,take_add_one→ahR,all_eq_not_any_not→aiA
open Int renaming lt_irrefl→acX,le_refl→aeK,natCast_zero→afA
open Bool renaming not_true→ac9,not_false→ad5,true_and→aeF,false_and→aeL,and_true→aeQ,and_false→aeT,eq_false_iff→aeZ,not_eq_eq_eq_not→ah6
open Nat renaming add_sub_cancel→ahQ
set_option linter.unusedSimpArgs false
set_option linter.unusedVariables false
namespace Go.Proofs.Ytfkokgjfpojeoaa
open Go.Ev
set_option maxRecDepth 100000
theorem ae9(h:aaA)(b r o:Nat):ld Try.prog 27 h (some (.ptr b r o))=ldR (ah7 (h[b]?) r) o 7:=apC ⟨by kernel_rfl,by kernel_rfl⟩ h b r o
theorem aw2(b r o:Nat):ftL Try.prog 27 (some (.ptr b r o))=some [.cells b o 7]:=arE (isA:=true) (n:=7) (by kernel_rfl) (by kernel_rfl) b r o
theorem ag1(b r o:Nat):fa Try.prog 29 (some (.ptr b r o)) 0=some (.ret (.ptr b r (o+0)),[]):=adU (show ad4 Try.prog 29 0 0 1 from⟨_,_,Try.underlying29,rfl,rfl,by kernel_rfl,by decide⟩) b r o
theorem aeN(h:aaA)(b r o:Nat):ld Try.prog 25 h (some (.ptr b r o))=ldC (ah7 (h[b]?) r) o:=aoB ⟨by kernel_rfl,1,by kernel_rfl⟩ h b r o
theorem auH(h:aaA)(c:AV)(cs:List AV):ld Try.prog 25 h (some (.iptr (c::cs)))=some (.ret c,[]):=avB ⟨by kernel_rfl,1,by kernel_rfl⟩ h c cs
theorem awT(b r o:Nat):ftL Try.prog 25 (some (.ptr b r o))=some [.cells b o 1]:=arE (isA:=false) (n:=1) (by kernel_rfl) (by kernel_rfl) b r o
theorem ae1(fl nn:Bool)(rows:List (List AV)):ln Try.prog 25 (some (slv 1 fl nn rows))=some (.ret (.int .i64 rows.length),[]):=aoY ⟨_,Try.underlying25,by kernel_rfl⟩ fl nn rows
theorem aoL(h:aaA)(b r o:Nat):ld Try.prog 29 h (some (.ptr b r o))=ldR (ah7 (h[b]?) r) o 2:=apC ⟨by kernel_rfl,by kernel_rfl⟩ h b r o
theorem agC(b r o:Nat):fa Try.prog 27 (some (.ptr b r o)) 3=some (.ret (.ptr b r (o+3)),[]):=adU (show ad4 Try.prog 27 3 3 1 from⟨_,_,Try.underlying27,rfl,rfl,by kernel_rfl,by decide⟩) b r o
theorem ac4(h:aaA)(b r o:Nat):ld Try.prog 3 h (some (.ptr b r o))=ldC (ah7 (h[b]?) r) o:=aoB ⟨by kernel_rfl,1,by kernel_rfl⟩ h b r o
theorem afE(h:aaA)(c:AV)(cs:List AV):ld Try.prog 3 h (some (.iptr (c::cs)))=some (.ret c,[]):=avB ⟨by kernel_rfl,1,by kernel_rfl⟩ h c cs
theorem ayY(b r o:Nat):ftL Try.prog 3 (some (.ptr b r o))=some [.cells b o 1]:=arE (isA:=false) (n:=1) (by kernel_rfl) (by kernel_rfl) b r o
theorem afI(b r o:Nat):fa Try.prog 27 (some (.ptr b r o)) 1=some (.ret (.ptr b r (o+1)),[]):=adU (show ad4 Try.prog 27 1 1 1 from⟨_,_,Try.underlying27,rfl,rfl,by kernel_rfl,by decide⟩) b r o
theorem afW(h:aaA)(b r o:Nat):ld Try.prog 23 h (some (.ptr b r o))=ldC (ah7 (h[b]?) r) o:=aoB ⟨by kernel_rfl,1,by kernel_rfl⟩ h b r o
theorem agU(fl nn:Bool)(rows:List (List AV)):ln Try.prog 23 (some (slv 4 fl nn rows))=some (.ret (.int .i64 rows.length),[]):=aoY ⟨_,Try.underlying23,by kernel_rfl⟩ fl nn rows
theorem aiS(fl nn:Bool)(rows:List (List AV))(k:IntKind)(i:Int):ia Try.prog 23 (some (slv 4 fl nn rows)) (some (.int k i))=if 0≤i then r1 ((rows[i.toNat]?).map .iptr)else none:=amX ⟨_,Try.underlying23,by kernel_rfl⟩ fl nn rows k i
theorem aoG(h:aaA)(b r o:Nat):ld Try.prog 48 h (some (.ptr b r o))=ldR (ah7 (h[b]?) r) o 4:=apC ⟨by kernel_rfl,by kernel_rfl⟩ h b r o
theorem ajC(h:aaA)(cs:List AV):ld Try.prog 48 h (some (.iptr cs))=if 4≤cs.length then some (.ret (.agg (cs.take 4)),[])else none:=avC ⟨by kernel_rfl,by kernel_rfl⟩ h cs
theorem asW:agN Try.prog 48=some (.agg [.nils,.int .i64 0,.int .i64 0,.bool false]):=by kernel_rfl
theorem asZ(h:aaA)(b r o:Nat)(v:AV):st_ Try.prog 48 h (some (.ptr b r o)) (some v)=sv 4 (h[b]?) b r o (abZ v):=aoQ (by kernel_rfl) h b r o v
theorem ah5(b r o:Nat):fa Try.prog 48 (some (.ptr b r o)) 0=some (.ret (.ptr b r (o+0)),[]):=adU (show ad4 Try.prog 48 0 0 1 from⟨_,_,Try.underlying48,rfl,rfl,by kernel_rfl,by decide⟩) b r o
theorem asU(cs:List AV):fa Try.prog 48 (some (.iptr cs)) 0=if 0+1≤cs.length then some (.ret (.iptr (cs.drop 0)),[])else none:=alP (show ad4 Try.prog 48 0 0 1 from⟨_,_,Try.underlying48,rfl,rfl,by kernel_rfl,by decide⟩) cs
theorem agS(fl nn:Bool)(rows:List (List AV))(k:IntKind)(i:Int):ia Try.prog 25 (some (slv 1 fl nn rows)) (some (.int k i))=if 0≤i then r1 ((rows[i.toNat]?).map .iptr)else none:=amX ⟨_,Try.underlying25,by kernel_rfl⟩ fl nn rows k i
theorem afH(b r o:Nat):fa Try.prog 27 (some (.ptr b r o)) 0=some (.ret (.ptr b r (o+0)),[]):=adU (show ad4 Try.prog 27 0 0 1 from⟨_,_,Try.underlying27,rfl,rfl,by kernel_rfl,by decide⟩) b r o
theorem afX(h:aaA)(b r o:Nat):ld Try.prog 22 h (some (.ptr b r o))=ldC (ah7 (h[b]?) r) o:=aoB ⟨by kernel_rfl,1,by kernel_rfl⟩ h b r o
theorem akK(fl nn:Bool)(rows:List (List AV))(k:IntKind)(i:Int):ia Try.prog 22 (some (slv 3 fl nn rows)) (some (.int k i))=if 0≤i then r1 ((rows[i.toNat]?).map .iptr)else none:=amX ⟨_,Try.underlying22,by kernel_rfl⟩ fl nn rows k i
theorem ai9(h:aaA)(cs:List AV):ld Try.prog 50 h (some (.iptr cs))=if 3≤cs.length then some (.ret (.agg (cs.take 3)),[])else none:=avC ⟨by kernel_rfl,by kernel_rfl⟩ h cs
theorem apB:agN Try.prog 50=some (.agg [.int .i64 0,.int .i64 0,.bool false]):=by kernel_rfl
theorem an5(h:aaA)(b r o:Nat)(v:AV):st_ Try.prog 50 h (some (.ptr b r o)) (some v)=sv 3 (h[b]?) b r o (abZ v):=aoQ (by kernel_rfl) h b r o v
theorem am1(b r o:Nat):fa Try.prog 50 (some (.ptr b r o)) 2=some (.ret (.ptr b r (o+2)),[]):=adU (show ad4 Try.prog 50 2 2 1 from⟨_,_,Try.underlying50,rfl,rfl,by kernel_rfl,by decide⟩) b r o
theorem amI(h:aaA)(b r o:Nat):ld Try.prog 4 h (some (.ptr b r o))=ldC (ah7 (h[b]?) r) o:=aoB ⟨by kernel_rfl,1,by kernel_rfl⟩ h b r o
theorem awH(h:aaA)(c:AV)(cs:List AV):ld Try.prog 4 h (some (.iptr (c::cs)))=some (.ret c,[]):=avB ⟨by kernel_rfl,1,by kernel_rfl⟩ h c cs
theorem ah3(b r o:Nat):fa Try.prog 50 (some (.ptr b r o)) 0=some (.ret (.ptr b r (o+0)),[]):=adU (show ad4 Try.prog 50 0 0 1 from⟨_,_,Try.underlying50,rfl,rfl,by kernel_rfl,by decide⟩) b r o
theorem ahX(b r o:Nat):fa Try.prog 50 (some (.ptr b r o)) 1=some (.ret (.ptr b r (o+1)),[]):=adU (show ad4 Try.prog 50 1 1 1 from⟨_,_,Try.underlying50,rfl,rfl,by kernel_rfl,by decide⟩) b r o
theorem anE(b r o:Nat):fa Try.prog 48 (some (.ptr b r o)) 3=some (.ret (.ptr b r (o+3)),[]):=adU (show ad4 Try.prog 48 3 3 1 from⟨_,_,Try.underlying48,rfl,rfl,by kernel_rfl,by decide⟩) b r o
theorem ahY(b r o:Nat):fa Try.prog 48 (some (.ptr b r o)) 2=some (.ret (.ptr b r (o+2)),[]):=adU (show ad4 Try.prog 48 2 2 1 from⟨_,_,Try.underlying48,rfl,rfl,by kernel_rfl,by decide⟩) b r o
theorem awZ(fl nn:Bool)(rows:List (List AV))(k:IntKind)(i:Int):ia Try.prog 51 (some (slv 1 fl nn rows)) (some (.int k i))=if 0≤i then r1 ((rows[i.toNat]?).map .iptr)else none:=amX ⟨_,Try.underlying51,by kernel_rfl⟩ fl nn rows k i
theorem ahW(b r o:Nat):fa Try.prog 48 (some (.ptr b r o)) 1=some (.ret (.ptr b r (o+1)),[]):=adU (show ad4 Try.prog 48 1 1 1 from⟨_,_,Try.underlying48,rfl,rfl,by kernel_rfl,by decide⟩) b r o
theorem aiM(fl nn:Bool)(rows:List (List AV)):ln Try.prog 22 (some (slv 3 fl nn rows))=some (.ret (.int .i64 rows.length),[]):=aoY ⟨_,Try.underlying22,by kernel_rfl⟩ fl nn rows
theorem ag0(b r o:Nat):fa Try.prog 27 (some (.ptr b r o)) 2=some (.ret (.ptr b r (o+2)),[]):=adU (show ad4 Try.prog 27 2 2 1 from⟨_,_,Try.underlying27,rfl,rfl,by kernel_rfl,by decide⟩) b r o
theorem ahN(h:aaA)(b r o:Nat):ld Try.prog 24 h (some (.ptr b r o))=ldC (ah7 (h[b]?) r) o:=aoB ⟨by kernel_rfl,1,by kernel_rfl⟩ h b r o
theorem ahF(fl nn:Bool)(rows:List (List AV)):ln Try.prog 24 (some (slv 5 fl nn rows))=some (.ret (.int .i64 rows.length),[]):=aoY ⟨_,Try.underlying24,by kernel_rfl⟩ fl nn rows
theorem ayB:agN Try.prog 56=some (.agg [.int .i64 0,.bool false]):=by kernel_rfl
theorem aA8:agN Try.prog 59=some (.agg [.int .i64 0,.int .i64 0,.nils,.int .i64 0,.int .i64 0]):=by kernel_rfl
theorem am6(b r o:Nat):fa Try.prog 27 (some (.ptr b r o)) 5=some (.ret (.ptr b r (o+5)),[]):=adU (show ad4 Try.prog 27 5 5 1 from⟨_,_,Try.underlying27,rfl,rfl,by kernel_rfl,by decide⟩) b r o
theorem aiE(fl nn:Bool)(rows:List (List AV))(k:IntKind)(i:Int):ia Try.prog 24 (some (slv 5 fl nn rows)) (some (.int k i))=if 0≤i then r1 ((rows[i.toNat]?).map .iptr)else none:=amX ⟨_,Try.underlying24,by kernel_rfl⟩ fl nn rows k i
theorem ah1(b r o:Nat):fa Try.prog 59 (some (.ptr b r o)) 2=some (.ret (.ptr b r (o+2)),[]):=adU (show ad4 Try.prog 59 2 2 1 from⟨_,_,Try.underlying59,rfl,rfl,by kernel_rfl,by decide⟩) b r o
theorem atO(cs:List AV):fa Try.prog 59 (some (.iptr cs)) 2=if 2+1≤cs.length then some (.ret (.iptr (cs.drop 2)),[])else none:=alP (show ad4 Try.prog 59 2 2 1 from⟨_,_,Try.underlying59,rfl,rfl,by kernel_rfl,by decide⟩) cs
theorem ajH(h:aaA)(b r o:Nat):ld Try.prog 57 h (some (.ptr b r o))=ldC (ah7 (h[b]?) r) o:=aoB ⟨by kernel_rfl,1,by kernel_rfl⟩ h b r o
theorem auF(h:aaA)(c:AV)(cs:List AV):ld Try.prog 57 h (some (.iptr (c::cs)))=some (.ret c,[]):=avB ⟨by kernel_rfl,1,by kernel_rfl⟩ h c cs
theorem aiR(fl nn:Bool)(rows:List (List AV)):ln Try.prog 57 (some (slv 2 fl nn rows))=some (.ret (.int .i64 rows.length),[]):=aoY ⟨_,Try.underlying57,by kernel_rfl⟩ fl nn rows
theorem akC(b r o:Nat):fa Try.prog 27 (some (.ptr b r o)) 6=some (.ret (.ptr b r (o+6)),[]):=adU (show ad4 Try.prog 27 6 6 1 from⟨_,_,Try.underlying27,rfl,rfl,by kernel_rfl,by decide⟩) b r o
theorem aqO(ps:List (Nat × AV)):aj6 Try.prog 86 ps=(ag2 (fun i=>([(0,1),(1,1)]:List (Nat × Nat))[i]?) (abZ (.agg [.int .i64 0,.int .i64 0])) ps).map .agg:=by kernel_rfl
theorem ahS(b r o:Nat):fa Try.prog 29 (some (.ptr b r o)) 1=some (.ret (.ptr b r (o+1)),[]):=adU (show ad4 Try.prog 29 1 1 1 from⟨_,_,Try.underlying29,rfl,rfl,by kernel_rfl,by decide⟩) b r o
theorem axQ(ps:List (Nat × AV)):aj6 Try.prog 90 ps=(ag2 (fun i=>([(0,1),(1,1)]:List (Nat × Nat))[i]?) (abZ (.agg [.int .i64 0,.int .i64 0])) ps).map .agg:=by kernel_rfl
theorem asG:agN Try.prog 86=some (.agg [.int .i64 0,.int .i64 0]):=by kernel_rfl
theorem ar1(h:aaA)(b r o:Nat)(v:AV):st_ Try.prog 86 h (some (.ptr b r o)) (some v)=sv 2 (h[b]?) b r o (abZ v):=aoQ (by kernel_rfl) h b r o v
theorem awR(b r o:Nat):ftS Try.prog 86 (some (.ptr b r o))=some [.cells b o 2]:=aC0 (by kernel_rfl) b r o
theorem akI(b r o:Nat):fa Try.prog 86 (some (.ptr b r o)) 0=some (.ret (.ptr b r (o+0)),[]):=adU (show ad4 Try.prog 86 0 0 1 from⟨_,_,Try.underlying86,rfl,rfl,by kernel_rfl,by decide⟩) b r o
theorem akD(b r o:Nat):fa Try.prog 86 (some (.ptr b r o)) 1=some (.ret (.ptr b r (o+1)),[]):=adU (show ad4 Try.prog 86 1 1 1 from⟨_,_,Try.underlying86,rfl,rfl,by kernel_rfl,by decide⟩) b r o
theorem af9(b r o:Nat):fa Try.prog 27 (some (.ptr b r o)) 4=some (.ret (.ptr b r (o+4)),[]):=adU (show ad4 Try.prog 27 4 4 1 from⟨_,_,Try.underlying27,rfl,rfl,by kernel_rfl,by decide⟩) b r o
theorem aoF(h:aaA)(b r o:Nat):ld Try.prog 59 h (some (.ptr b r o))=ldR (ah7 (h[b]?) r) o 5:=apC ⟨by kernel_rfl,by kernel_rfl⟩ h b r o
theorem ajM(h:aaA)(cs:List AV):ld Try.prog 59 h (some (.iptr cs))=if 5≤cs.length then some (.ret (.agg (cs.take 5)),[])else none:=avC ⟨by kernel_rfl,by kernel_rfl⟩ h cs
theorem aj0(b r o:Nat):fa Try.prog 59 (some (.ptr b r o)) 1=some (.ret (.ptr b r (o+1)),[]):=adU (show ad4 Try.prog 59 1 1 1 from⟨_,_,Try.underlying59,rfl,rfl,by kernel_rfl,by decide⟩) b r o
theorem ar6(cs:List AV):fa Try.prog 59 (some (.iptr cs)) 1=if 1+1≤cs.length then some (.ret (.iptr (cs.drop 1)),[])else none:=alP (show ad4 Try.prog 59 1 1 1 from⟨_,_,Try.underlying59,rfl,rfl,by kernel_rfl,by decide⟩) cs
theorem auD(h:aaA)(b r o:Nat):ld Try.prog 86 h (some (.ptr b r o))=ldR (ah7 (h[b]?) r) o 2:=apC ⟨by kernel_rfl,by kernel_rfl⟩ h b r o
theorem awV(base len:Nat)(ps:List (Nat × AV)):rD (adJ Try.prog base 51 len ps)=bsK 1 (.bool false) base len ps:=aK0 (e:=4) (by kernel_rfl) (by kernel_rfl) (by kernel_rfl) base len ps
theorem apU{O:Orc}(t:List AV)(h:aaA)(s x:Operand):aeC O Try.prog t h (.call ⟨.builtin .append,#[s,x],#[51,51]⟩)=apO Try.prog 51 h (aaW t s) (aaW t x):=aI0 t h s x 51 51 _ Try.underlying51
theorem axC(h:aaA)(s:AV)(a b r l:Nat):apO Try.prog 51 h (some s) (some (.slr a b r l))=apK 1 h (some s) (srK 1 h (some (.slr a b r l))):=aI1 (e:=4) (b:=1) (z:=.bool false) (by kernel_rfl) (by kernel_rfl) (by kernel_rfl) (by kernel_rfl) (by decide+kernel) h s _ (fun q e=>by cases e)
theorem az0(h:aaA)(b r o:Nat)(v:AV):st_ Try.prog 59 h (some (.ptr b r o)) (some v)=sv 5 (h[b]?) b r o (abZ v):=aoQ (by kernel_rfl) h b r o v
theorem auI(h:aaA)(b r o:Nat):ld Try.prog 90 h (some (.ptr b r o))=ldR (ah7 (h[b]?) r) o 2:=apC ⟨by kernel_rfl,by kernel_rfl⟩ h b r o
theorem atX(ps:List (Nat × AV)):aj6 Try.prog 126 ps=(ag2 (fun i=>([(0,5),(5,2),(7,2)]:List (Nat × Nat))[i]?) (abZ (.agg [.int .i64 0,.int .i64 0,.nils,.int .i64 0,.int .i64 0,.int .i64 0,.int .i64 0,.int .i64 0,.int .i64 0])) ps).map .agg:=by kernel_rfl
theorem akU(fl nn:Bool)(rows:List (List AV))(k:IntKind)(i:Int):ia Try.prog 57 (some (slv 2 fl nn rows)) (some (.int k i))=if 0≤i then r1 ((rows[i.toNat]?).map .iptr)else none:=amX ⟨_,Try.underlying57,by kernel_rfl⟩ fl nn rows k i
theorem ajY(b r o:Nat):fa Try.prog 56 (some (.ptr b r o)) 0=some (.ret (.ptr b r (o+0)),[]):=adU (show ad4 Try.prog 56 0 0 1 from⟨_,_,Try.underlying56,rfl,rfl,by kernel_rfl,by decide⟩) b r o
theorem anF(cs:List AV):fa Try.prog 56 (some (.iptr cs)) 0=if 0+1≤cs.length then some (.ret (.iptr (cs.drop 0)),[])else none:=alP (show ad4 Try.prog 56 0 0 1 from⟨_,_,Try.underlying56,rfl,rfl,by kernel_rfl,by decide⟩) cs
theorem ah0(b r o:Nat):fa Try.prog 59 (some (.ptr b r o)) 0=some (.ret (.ptr b r (o+0)),[]):=adU (show ad4 Try.prog 59 0 0 1 from⟨_,_,Try.underlying59,rfl,rfl,by kernel_rfl,by decide⟩) b r o
theorem ahU(b r o:Nat):fa Try.prog 59 (some (.ptr b r o)) 3=some (.ret (.ptr b r (o+3)),[]):=adU (show ad4 Try.prog 59 3 3 1 from⟨_,_,Try.underlying59,rfl,rfl,by kernel_rfl,by decide⟩) b r o
theorem ahZ(b r o:Nat):fa Try.prog 59 (some (.ptr b r o)) 4=some (.ret (.ptr b r (o+4)),[]):=adU (show ad4 Try.prog 59 4 4 1 from⟨_,_,Try.underlying59,rfl,rfl,by kernel_rfl,by decide⟩) b r o
theorem ar5(b r o:Nat):fa Try.prog 56 (some (.ptr b r o)) 1=some (.ret (.ptr b r (o+1)),[]):=adU (show ad4 Try.prog 56 1 1 1 from⟨_,_,Try.underlying56,rfl,rfl,by kernel_rfl,by decide⟩) b r o
theorem as3(cs:List AV):fa Try.prog 56 (some (.iptr cs)) 1=if 1+1≤cs.length then some (.ret (.iptr (cs.drop 1)),[])else none:=alP (show ad4 Try.prog 56 1 1 1 from⟨_,_,Try.underlying56,rfl,rfl,by kernel_rfl,by decide⟩) cs
theorem arW(b r o:Nat):fa Try.prog 90 (some (.ptr b r o)) 0=some (.ret (.ptr b r (o+0)),[]):=adU (show ad4 Try.prog 90 0 0 1 from⟨_,_,Try.underlying90,rfl,rfl,by kernel_rfl,by decide⟩) b r o
theorem aoT(h:aaA)(cs:List AV):ld Try.prog 56 h (some (.iptr cs))=if 2≤cs.length then some (.ret (.agg (cs.take 2)),[])else none:=avC ⟨by kernel_rfl,by kernel_rfl⟩ h cs
theorem ay7(h:aaA)(b r o:Nat)(v:AV):st_ Try.prog 56 h (some (.ptr b r o)) (some v)=sv 2 (h[b]?) b r o (abZ v):=aoQ (by kernel_rfl) h b r o v
theorem anM(h:aaA)(b r o:Nat):ld Try.prog 126 h (some (.ptr b r o))=ldR (ah7 (h[b]?) r) o 9:=apC ⟨by kernel_rfl,by kernel_rfl⟩ h b r o
theorem ag9(b r o:Nat):fa Try.prog 126 (some (.ptr b r o)) 0=some (.ret (.ptr b r (o+0)),[]):=adU (show ad4 Try.prog 126 0 0 5 from⟨_,_,Try.underlying126,rfl,rfl,by kernel_rfl,by decide⟩) b r o
theorem al6(b r o:Nat):fa Try.prog 126 (some (.ptr b r o)) 1=some (.ret (.ptr b r (o+5)),[]):=adU (show ad4 Try.prog 126 1 5 2 from⟨_,_,Try.underlying126,rfl,rfl,by kernel_rfl,by decide⟩) b r o
theorem alO(b r o:Nat):fa Try.prog 126 (some (.ptr b r o)) 2=some (.ret (.ptr b r (o+7)),[]):=adU (show ad4 Try.prog 126 2 7 2 from⟨_,_,Try.underlying126,rfl,rfl,by kernel_rfl,by decide⟩) b r o
theorem asC(b r o:Nat):fa Try.prog 90 (some (.ptr b r o)) 1=some (.ret (.ptr b r (o+1)),[]):=adU (show ad4 Try.prog 90 1 1 1 from⟨_,_,Try.underlying90,rfl,rfl,by kernel_rfl,by decide⟩) b r o
def TY3:=PLift.up (abJ @ae9 (abJ @ag1 (abJ @aeN (abJ @ae1 (abJ @aoL (abJ @agC @ac4))))))
def ao8:=PLift.up (abJ @afI (abJ @afW (abJ @agU (abJ @aiS (abJ @asU (abJ @aeN (abJ @auH (abJ @ae1 (abJ @ag0 (abJ @ahN (abJ @ahF (abJ @aiE (abJ @atO (abJ @auF (abJ @aiR (abJ @afH (abJ @afX (abJ @aiM @akC))))))))))))))))))
def aJI:=PLift.up (abJ @ae9 (abJ @aw2 (abJ @agC (abJ @ac4 (abJ @ayY (abJ @aoL (abJ @aqO (abJ @ag1 (abJ @aeN (abJ @awT (abJ @ahS (abJ @axQ (abJ @asG (abJ @ar1 (abJ @awR (abJ @akI @akD))))))))))))))))
def ajQ:=PLift.up (abJ @afH (abJ @afX (abJ @aiM (abJ @akK (abJ @ai9 (abJ @apB (abJ @an5 (abJ @ah3 (abJ @ac4 (abJ @afE (abJ @ahX (abJ @afI (abJ @afW (abJ @agU (abJ @aiS (abJ @ajC (abJ @agC (abJ @af9 (abJ @am6 (abJ @akC (abJ @aeN (abJ @ae1 (abJ @ag0 (abJ @ahN (abJ @ahF (abJ @agS (abJ @ae9 (abJ @aiE @ajM))))))))))))))))))))))))))))
def aK4:=PLift.up (abJ @ae9 (abJ @ag1 (abJ @aeN (abJ @ahS (abJ @ac4 @af9)))))
def ap3:=PLift.up (abJ @ae9 (abJ @ag1 (abJ @aeN (abJ @ag0 (abJ @ahN (abJ @ahF (abJ @aiE (abJ @ajM (abJ @ahS (abJ @ac4 (abJ @afE @ar6)))))))))))
def aAI:=PLift.up (abJ @ae1 (abJ @agS (abJ @afE (abJ @afH (abJ @afX @aiM)))))
def awJ:=PLift.up (abJ @afI (abJ @afW (abJ @agU (abJ @ae9 (abJ @aiS (abJ @ajC (abJ @awV (abJ @apU @axC))))))))
def apQ:=PLift.up (abJ @afH (abJ @afX (abJ @aiM (abJ @afI (abJ @afW (abJ @agU (abJ @ag0 (abJ @ahN (abJ @ahF (abJ @agC (abJ @ac4 (abJ @af9 (abJ @am6 (abJ @akC (abJ @aeN (abJ @ae1 (abJ @akK (abJ @ai9 (abJ @apB (abJ @an5 (abJ @ah3 (abJ @ahX (abJ @aiS (abJ @ajC (abJ @asW (abJ @asZ (abJ @ah5 (abJ @ahW @ahY))))))))))))))))))))))))))))
def aK2:=PLift.up (abJ @ae9 (abJ @ag1 (abJ @aeN (abJ @ahS (abJ @ac4 @af9)))))
def aA3:=PLift.up (abJ @auD (abJ @asG (abJ @ag0 (abJ @ahN (abJ @ahF (abJ @aiE (abJ @aoF (abJ @ajM (abJ @aA8 (abJ @az0 (abJ @auI (abJ @atX (abJ @aj0 (abJ @ac4 (abJ @aqO (abJ @ar1 (abJ @akI @akD)))))))))))))))))
def auM:=PLift.up (abJ @afI (abJ @afW (abJ @agU (abJ @aiS (abJ @aoG (abJ @ajC (abJ @asW (abJ @asZ (abJ @ah5 (abJ @aeN (abJ @ae1 (abJ @agS (abJ @ac4 (abJ @afE (abJ @afH (abJ @afX (abJ @akK (abJ @ai9 @ahW))))))))))))))))))
def aw4:=PLift.up (abJ @ah5 (abJ @aeN (abJ @ae1 (abJ @agS (abJ @ac4 (abJ @afE (abJ @ahW @ahY)))))))
def ao9:=PLift.up (abJ @ah1 (abJ @ajH (abJ @aiR (abJ @akU (abJ @anF (abJ @ac4 (abJ @afE (abJ @afI (abJ @afW (abJ @agU (abJ @ah0 (abJ @agC (abJ @aj0 (abJ @ahU (abJ @af9 @ahZ)))))))))))))))
def aAH:=PLift.up (abJ @ah1 (abJ @ajH (abJ @aiR (abJ @akU (abJ @anF (abJ @ac4 (abJ @afE (abJ @awZ (abJ @awH (abJ @as3 (abJ @ah0 (abJ @ahZ @ahU))))))))))))
def avW:=PLift.up (abJ @ae1 (abJ @agS @afE))
def aCH:=PLift.up (abJ @ah5 (abJ @aeN (abJ @ae1 (abJ @ae9 (abJ @aoG (abJ @agS (abJ @ac4 (abJ @afE @ahW))))))))
def aLE:=PLift.up (abJ @ae1 (abJ @afH (abJ @afX @aiM)))
def aK8:=PLift.up (abJ @ae9 @aoF)
def auN:=PLift.up (abJ @ah1 (abJ @ajH (abJ @aiR (abJ @akU (abJ @aoT (abJ @ayB (abJ @ay7 (abJ @ajY (abJ @ac4 (abJ @afI (abJ @afW (abJ @agU (abJ @ah0 (abJ @agC (abJ @aj0 (abJ @ahU (abJ @af9 @ahZ)))))))))))))))))
def aJN:=PLift.up (abJ @anM @anM)
def aKS:=PLift.up (abJ @am1 (abJ @amI (abJ @ah3 (abJ @ac4 (abJ @ahX (abJ @anE @ahY))))))
def aK5:=PLift.up (abJ @afH (abJ @afX (abJ @akK (abJ @ai9 (abJ @apB (abJ @an5 (abJ @am1 (abJ @amI (abJ @ah3 (abJ @ac4 (abJ @ahX (abJ @anE @ahY))))))))))))
def ay0:=PLift.up (abJ @ahF (abJ @aiE @ajM))
def aLF:=PLift.up (abJ @ajY @ac4)
def azH:=PLift.up (abJ @ae1 (abJ @agS @afE))
def aLC:=PLift.up (abJ @ag9 (abJ @ah0 (abJ @ac4 (abJ @al6 @akI))))
def aKZ:=PLift.up (abJ @ag9 (abJ @ahZ (abJ @ac4 (abJ @al6 @akD))))
def aKT:=PLift.up (abJ @ag9 (abJ @ah1 @ajH))
def aLA:=PLift.up (abJ @ag9 (abJ @ahU (abJ @ac4 (abJ @alO @asC))))
def ap2:=PLift.up (abJ @aiR (abJ @akU @aoT))
def aLH:=PLift.up (abJ @alO (abJ @arW (abJ @ac4 (abJ @ajY (abJ @ar5 @amI)))))
end Go.Proofs.Ytfkokgjfpojeoaa
namespace Go.Proofs.Ytfkokgjfpojeoaa
open Go Go.Ev Go.ChangeShapes Go.WideShapes Go.ChangeAt Go.RowKit
set_option maxRecDepth 100000
set_option maxHeartbeats 16000000
def mdL:List Nat:=[96,100,102,83]
def pr:afD:=⟨fun _=>none,(mdL.contains ·)⟩
noncomputable def om':Orc:=om Try.prog pr
def Va:=PLift.up (abJ EE.down EE.down)
def Vc:=PLift.up (abJ EG.down EVu.down)
theorem aKV{C:R→Prop}[NoN C]{n:Nat}{k:List acA}{c:Code}{s:St}(h:Un om' Try.prog n k c C (evM om' Try.prog 5000 c [] s)):C (lpK om' Try.prog n k (om'.loop c s)):=aIO (pr:=pr) h
theorem own:ownKnob Try.prog.godebug=none:=by kernel_rfl
theorem aLB:avY Try.prog:=fun f fn hf=>by
 have h:(Try.prog.funcs.toList.all fun fn=> !(fn.name== "runtime.NumGoroutine"))=true:=by kernel_rfl
 have:=List.all_eq_true.1 h fn (by rw[Array.mem_toList_iff];exact Array.mem_of_getElem? hf)
 simpa using this
theorem aH3:Try.prog.follows .mixedOrders=true:=by kernel_rfl
theorem aCU:laidOutB Try.prog=true:=by kernel_rfl
theorem ayX:aeW Try.prog (fun _=>none) om':=aH9 aLB (fun f p h=>by cases h) aH3
theorem aEM{W:World}{S:Nat→Prop}:Inv (fun _=>none) W S:=fun b o h=>by cases h
theorem aKP{f:Nat}{fn:Func}{c:Code}{args:List AV}{h:aaA}{Q:Out→aaA→Prop}(hp:pr f=none)(hf:Try.prog.funcs[f]?=some fn)(hb:fn.body=some c)(hl:Nat.ble args.length fn.ntmps=true)
 (he:FnE Try.prog h.length fn.results.toList Q (evM om' Try.prog 5000 c [] ⟨mk fn.ntmps (ent args),h⟩)):ClQ om' f args h Q:=ClQ.start (pr:=pr) hp hf hb hl he
theorem ce{f:Nat}{fn:Func}{c:Code}{args:List AV}{h:aaA}{o:Out}{h':aaA}(hf:Try.prog.funcs[f]?=some fn)(he:FnE Try.prog h.length fn.results.toList (fun o1 h1=>(o1,h1)=(o,h')) (evM om' Try.prog 5000 c [] ⟨mk fn.ntmps (ent args),h⟩))(hp:pr f=none:=by exact rfl)(hb:fn.body=some c:=by exact rfl)(hl:Nat.ble args.length fn.ntmps=true:=by exact rfl):om'.call (.fn f) args h=some (o,h'):=(aKP hp hf hb hl he).eq
theorem lst{α σ ρ:Type}{c:Code}(N:Nat)(l:List α)(E:Nat→σ→Tm→aaA→Prop)(F:List α→σ→ρ)(Q:ρ→Ex→Tm→aaA→Prop)
 (stop:∀s t h Q',(∀e t h,Q (F [] s) e t h→Q' e ⟨mk N t,h⟩)→E l.length s t h→Rnd N (fun _ _=>False) Q' (evM om' Try.prog 5000 c [] ⟨mk N t,h⟩))
 (go:∀x rest i s t h J Q',(∀t' h' s',E (i+1) s' t' h'→F rest s'=F (x::rest) s→J t' h')→(∀e t h,Q (F (x::rest) s) e t h→Q' e ⟨mk N t,h⟩)→l[i]?=some x→i<l.length→E i s t h→
   Rnd N J Q' (evM om' Try.prog 5000 c [] ⟨mk N t,h⟩)):
 ∀s t h,E 0 s t h→LpQ om' c ⟨mk N t,h⟩ (Ot N (Q (F l s))):=avV (pr:=pr) rfl N l E F Q stop go
def iv(x:Int):List AV:=[.int .i64 x]
theorem adK{h:aaA}{b:Nat}{c:CB}(h0:h[b]?=some c)(l:aaA):(h++l)[b]?=some c:=by
 rw[List.getElem?_append_left (List.getElem?_eq_some_iff.1 h0).1];exact h0
end Go.Proofs.Ytfkokgjfpojeoaa
namespace Go.Proofs.Ytfkokgjfpojeoaa
open Go.Ev Go
set_option maxRecDepth 100000
set_option maxHeartbeats 16000000
structure ac3 where
 lo:Int
 hi:Int
 byp:Bool
def ac3.cells(s:ac3):List AV:=[.int .i64 s.lo,.int .i64 s.hi,.bool s.byp]
structure acO where
 nn:Bool
 sens:List Int
 need:Int
 level:Int
 above:Bool
def acO.cells(v:acO):List AV:=[slv 1 true v.nn (v.sens.map iv),.int .i64 v.need,.int .i64 v.level,.bool v.above]
structure acP where
 vote:Int
 is:Bool
def acP.cells(w:acP):List AV:=[.int .i64 w.vote,.bool w.is]
structure acN where
 frm:Int
 to:Int
 nn:Bool
 wants:List acP
 cmd:Int
 after:Int
def acN.cells(x:acN):List AV:=[.int .i64 x.frm,.int .i64 x.to,slv 2 true x.nn (x.wants.map acP.cells),.int .i64 x.cmd,.int .i64 x.after]
structure acZ where
 nS:Bool
 sens:List ac3
 nV:Bool
 votes:List acO
 nM:Bool
 moves:List acN
 states:Int
 cmds:Int
 bgn:Int
 nO:Bool
 opn:List Int
abbrev acZ.cells(m:acZ):List AV:=[slv 3 true m.nS (m.sens.map ac3.cells),slv 4 false m.nV (m.votes.map acO.cells),slv 5 false m.nM (m.moves.map acN.cells),.int .i64 m.states,.int .i64 m.cmds,.int .i64 m.bgn,slv 1 true m.nO (m.opn.map iv)]
structure aiO where
 nn:Bool
 reads:List Int
 cmd:Int
def aiO.cells(s:aiO):List AV:=[slv 1 true s.nn (s.reads.map iv),.int .i64 s.cmd]
structure acZ.small(m:acZ):Prop where
 sens:m.sens.length≤maxLen
 votes:m.votes.length≤maxLen
 moves:m.moves.length≤maxLen
 opn:m.opn.length≤maxLen
 vs:∀v∈m.votes,v.sens.length≤maxLen
 ws:∀x∈m.moves,x.wants.length≤maxLen
def inB(x lo hi:Int):Bool:=decide (lo≤x)&&decide (x≤hi)
theorem alB(x lo hi:Int):om'.call (.fn 43) [.int .i64 x,.int .i64 lo,.int .i64 hi] []=some (.ret (.bool (inB x lo hi)),[]):=by
 (refine ce Try.func43 ?_;simp only[Try.f43];(have hb:=trivial;with_reducible repeat' (first|simp only[hb,Va.down,seval]|refine fsp ?_ ?_<;>intro hb|refine fd ?_|fail)))
 all_goals simp[inB, *]
theorem aoH(x lo hi:Int):om'.call (.fn 48) [.int .i64 x,.int .i64 lo,.int .i64 hi] []=some (.ret (.bool (inB x lo hi)),[]):=by
 (refine ce Try.func48 ?_;simp only[Try.f48];(have hb:=trivial;with_reducible repeat' (first|simp only[hb,Va.down,seval]|refine fsp ?_ ?_<;>intro hb|refine fd ?_|fail)))
 all_goals simp[inB, *]
def amS(x:Int):Bool:=inB x (-10000) 10000
theorem aq7(x:Int):om'.call (.fn 69) [.int .i64 x] []=some (.ret (.bool (amS x)),[]):=by
 (refine ce Try.func69 ?_;simp only[Try.f69];(have hb:=trivial;with_reducible repeat' (first|simp only[hb,Va.down,seval,alB]|refine fsp ?_ ?_<;>intro hb|refine fd ?_|fail)))
 all_goals rfl
theorem aBK(x:Int):om'.call (.fn 82) [.int .i64 x] []=some (.ret (.bool (!amS x)),[]):=by
 (refine ce Try.func82 ?_;simp only[Try.f82];(have hb:=trivial;with_reducible repeat' (first|simp only[hb,Va.down,seval,aq7]|refine fsp ?_ ?_<;>intro hb|refine fd ?_|fail)))
theorem aA2(x:Int):om'.call (.fn 74) [.int .i64 x] []=some (.ret (.bool (!inB x 0 255)),[]):=by
 (refine ce Try.func74 ?_;simp only[Try.f74];(have hb:=trivial;with_reducible repeat' (first|simp only[hb,Va.down,seval,alB]|refine fsp ?_ ?_<;>intro hb|refine fd ?_|fail)))
def anI(s:ac3)(v:acO)(r:Int):Bool:= !s.byp&&(!inB r s.lo s.hi||(if v.above=true then decide (v.level≤r)else decide (r≤v.level)))
theorem aEV(s:ac3)(v:acO)(r:Int):om'.call (.fn 76) [.agg [.int .i64 s.lo,.int .i64 s.hi,.bool s.byp],.agg [slv 1 true v.nn (v.sens.map iv),.int .i64 v.need,.int .i64 v.level,.bool v.above],.int .i64 r] []=some (.ret (.bool (anI s v r)),[]):=by
 (refine ce Try.func76 ?_;simp only[Try.f76];(have hb:=trivial;with_reducible repeat' (first|simp only[hb,Va.down,seval,aKS.down,alB]|refine fsp ?_ ?_<;>intro hb|refine fd ?_|fail)))
 all_goals simp_all[anI]
def idx{α:Type}(p:α→Bool):List α→Int→Int
 | [],_=> -1
 |x::l,i=>if p x=true then i else idx p l (i+1)
theorem al9{α:Type}(p:α→Bool):∀(l:List α) (i:Int),0≤i→decide (0≤idx p l i)=l.any p
 | [],i,_=>rfl
 |x::l,i,h=>by
  unfold idx
  split
  ·rename_i hp;simp[h,hp]
  ·rename_i hp;rw[al9 p l (i+1) (by omega)];simp[hp]
theorem ay9{l:List Int}{nn:Bool}{g:Nat}{cap:List AV}{p:Int→Bool}(hc:cap.all (acR 8)=true)(hc7:cap.all (acR 7)=true)(hp:∀x∈l,om'.call (.fn g) (.int .i64 x::cap) []=some (.ret (.bool (p x)),[]))(hl:l.length≤maxLen):
 om'.call (.fn 91) [slv 1 true nn (l.map iv),.func (.func g) [] cap] []=some (.ret (.int .i64 (idx p l 0)),[]):=by
 (refine ce Try.func91 ?_;simp only[Try.f91];(have hb:=trivial;with_reducible repeat' (first|simp only[hb,Va.down,seval,azH.down,abT]|refine fsp ?_ ?_<;>intro hb|refine fd ?_|fail)))
 refine ae4 (lst 19 l (fun i (s:Int) t h=>s=i∧h=[]∧t 0=slv 1 true nn (l.map iv)∧t 1=.func (.func g) [] cap∧t 7=.int .i64 l.length∧t 8=.int .i64 i)
  (fun rest s=>idx p rest s) (fun r e t h=>h=[]∧((e=.exit 0∧r= -1)∨(e=.ret∧t 4=.int .i64 r))) ?_ ?_ 0 _ _ ?_) (fun e t h hk=>?_)
 ·rintro s t h Q' kQ ⟨rfl,rfl,h0,h1,h7,h8⟩
  (have hb:=trivial;with_reducible repeat' (first|simp only[hb,Va.down,seval,azH.down,h0,h1,h7,h8,acX,decide_false]|refine fsp ?_ ?_<;>intro hb|refine fd ?_|fail))
  exact kQ _ _ _ ⟨rfl,.inl ⟨rfl,rfl⟩⟩
 ·rintro x rest i s t h J Q' kJ kQ hx hi ⟨rfl,rfl,h0,h1,h7,h8⟩
  have hpx:=hp x (aeM hx)
  have hd:decide ((i:Int)<(l.length:Int))=true:=by simpa using hi
  (have hb:=trivial;with_reducible repeat' (first|simp only[hb,Va.down,seval,azH.down,h0,h1,h7,h8,hd,hx,iv,hc,hc7,hpx,acT hi hl]|refine fsp ?_ ?_<;>intro hb|refine fd ?_|fail))
  ·exact kQ _ _ _ ⟨rfl,.inr ⟨rfl,by simp[up,idx,hb]⟩⟩
  ·exact adY (kJ _ _ (i+1) ⟨by simp,rfl,by simp[up,h0],by simp[up,h1],by simp[up,h7],by simp[up]⟩ (by simp[idx,hb]))
 ·exact⟨rfl,rfl,by simp[up,ent],by simp[up,ent],by simp[up],by simp[up]⟩
 ·obtain⟨rfl,⟨rfl,hi⟩|⟨rfl,hi⟩⟩:=hk
  ·(have hb:=trivial;with_reducible repeat' (first|simp only[hb,Va.down,seval,azH.down]|refine fsp ?_ ?_<;>intro hb|refine fd ?_|fail))
   rw[hi]
  ·(have hb:=trivial;with_reducible repeat' (first|simp only[hb,Va.down,seval,azH.down,hi]|refine fsp ?_ ?_<;>intro hb|refine fd ?_|fail))
theorem aqU{l:List Int}{nn:Bool}{g:Nat}{cap:List AV}{p:Int→Bool}(hc:cap.all (acR 8)=true)(hc7:cap.all (acR 7)=true)(hp:∀x∈l,om'.call (.fn g) (.int .i64 x::cap) []=some (.ret (.bool (p x)),[]))(hl:l.length≤maxLen):
 om'.call (.fn 73) [slv 1 true nn (l.map iv),.func (.func g) [] cap] []=some (.ret (.bool (l.any p)),[]):=by
 (refine ce Try.func73 ?_;simp only[Try.f73];(have hb:=trivial;with_reducible repeat' (first|simp only[hb,Va.down,seval,ay9 hc hc7 hp hl,hc,hc7,al9 p l 0 (aeK 0)]|refine fsp ?_ ?_<;>intro hb|refine fd ?_|fail)))
def ai6(b:Int):List Int→Option Int→Bool
 | [],_=>true
 |n::l,p=>inB n 0 (IntKind.i64.wrap (b-1))&&(match p with|none=>true|some q=> !decide (n≤q))&&ai6 b l (some n)
theorem aqY{l:List Int}{nn:Bool}(b:Int)(hl:l.length≤maxLen):om'.call (.fn 53) [slv 1 true nn (l.map iv),.int .i64 b] []=some (.ret (.bool (ai6 b l none)),[]):=by
 (refine ce Try.func53 ?_;simp only[Try.f53];(have hb:=trivial;with_reducible repeat' (first|simp only[hb,Va.down,seval,avW.down,abT]|refine fsp ?_ ?_<;>intro hb|refine fd ?_|fail)))
 refine ae4 (lst 33 l (fun i (s:Option Int) t h=>(i=0∧s=none∨0<i∧s=l[i-1]?)∧t 0=slv 1 true nn (l.map iv)∧t 1=.int .i64 b∧t 7=slv 1 true nn (l.map iv)∧t 8=.int .i64 l.length∧t 9=.int .i64 i)
  (fun rest s=>ai6 b rest s) (fun r e t h=>if r=true then e=.exit 0 else e=.ret∧t 4=.bool false) ?_ ?_ none _ _ ?_) (fun e t h hk=>?_)
 ·rintro s t h Q' kQ ⟨hs,h0,h1,h7,h8,h9⟩
  (have hb:=trivial;with_reducible repeat' (first|simp only[hb,Va.down,seval,avW.down,h0,h1,h7,h8,h9,acX,decide_false]|refine fsp ?_ ?_<;>intro hb|refine fd ?_|fail))
  exact kQ _ _ _ (by simp[ai6])
 ·rintro x rest i s t h J Q' kJ kQ hx hi ⟨hs,h0,h1,h7,h8,h9⟩
  have hd:decide ((i:Int)<(l.length:Int))=true:=by simpa using hi
  have kF:∀{p:Option Int},(inB x 0 (IntKind.i64.wrap (b-1))&&(match p with|none=>true|some q=> !decide (x≤q)))=false→ai6 b (x::rest) p=false:=fun h=>by simp[ai6,h]
  have kT:∀{p:Option Int},(inB x 0 (IntKind.i64.wrap (b-1))&&(match p with|none=>true|some q=> !decide (x≤q)))=true→ai6 b rest (some x)=ai6 b (x::rest) p:=fun h=>by simp[ai6,h]
  have hw:=acT hi hl
  rcases hs with⟨rfl,rfl⟩|⟨hpos,rfl⟩
  ·simp only[afA,Int.zero_add]at hd h9 hw
   (have hb:=trivial;with_reducible repeat' (first|simp only[hb,Va.down,seval,avW.down,h0,h1,h7,h8,h9,hd,hx,iv,alB,hw,Int.toNat_zero,aeK,acX,decide_false]|refine fsp ?_ ?_<;>intro hb|refine fd ?_|fail))
   all_goals first
    |exact kQ _ _ _ (by rw[if_neg (by rw[kF (by simp_all)];simp)];exact⟨rfl,rfl⟩)
    |exact adY (kJ _ _ (some x) ⟨.inr ⟨by omega,by simp[hx]⟩,by simp[up,h0],by simp[up,h1],by simp[up,h7],by simp[up,h8],by simp[up]<;>omega⟩ (kT (by simp_all)))
  ·obtain⟨j,rfl⟩:∃j,i=j+1:=⟨i-1,by omega⟩
   obtain⟨q,hq⟩:∃q,l[j]?=some q:=⟨l[j],ahM (by omega)⟩
   have hj:IntKind.i64.wrap (((j+1:Nat):Int)-1)=(j:Int):=by unfold maxLen at hl;rw[ai7 (by omega) (by omega)];omega
   have hg:decide (0<((j+1:Nat):Int))=true:=by rw[decide_eq_true_eq];omega
   simp only[ahQ,hq]at kJ kQ
   (have hb:=trivial;with_reducible repeat' (first|simp only[hb,Va.down,seval,avW.down,h0,h1,h7,h8,h9,hd,hx,iv,alB,hw,hj,hg,hq]|refine fsp ?_ ?_<;>intro hb|refine fd ?_|fail))
   all_goals first
    |exact kQ _ _ _ (by rw[if_neg (by rw[kF (by simp_all)];simp)];exact⟨rfl,rfl⟩)
    |exact adY (kJ _ _ (some x) ⟨.inr ⟨by omega,by simp[hx]⟩,by simp[up,h0],by simp[up,h1],by simp[up,h7],by simp[up,h8],by simp[up]<;>omega⟩ (kT (by simp_all)))
 ·exact⟨.inl ⟨rfl,rfl⟩,by simp[up,ent],by simp[up,ent],by simp[up,ent],by simp[up],by simp[up]⟩
 ·split at hk
  ·subst hk
   rename_i hr
   (have hb:=trivial;with_reducible repeat' (first|simp only[hb,Va.down,seval,avW.down]|refine fsp ?_ ?_<;>intro hb|refine fd ?_|fail))
   all_goals simp[hr]
  ·obtain⟨rfl,h2⟩:=hk
   rename_i hr
   (have hb:=trivial;with_reducible repeat' (first|simp only[hb,Va.down,seval,avW.down,h2]|refine fsp ?_ ?_<;>intro hb|refine fd ?_|fail))
   all_goals simp[hr]
def al3(ns:Int)(v:acO):Bool:=ai6 ns v.sens none&&inB v.need 1 v.sens.length&&amS v.level
theorem aEY(v:acO)(ns:Int)(hl:v.sens.length≤maxLen):om'.call (.fn 47) [.agg [slv 1 true v.nn (v.sens.map iv),.int .i64 v.need,.int .i64 v.level,.bool v.above],.int .i64 ns] []=some (.ret (.bool (al3 ns v)),[]):=by
 (refine ce Try.func47 ?_;simp only[Try.f47];(have hb:=trivial;with_reducible repeat' (first|simp only[hb,Va.down,seval,aw4.down,abT]|refine fsp ?_ ?_<;>intro hb|refine fd ?_|fail)))
 refine ae4 (lst 51 v.sens (fun i (s:Option Int) t h=>(i=0∧s=none∨0<i∧s=v.sens[i-1]?)∧h[0]?=some (.live 4 false false [[slv 1 true v.nn (v.sens.map iv),.int .i64 v.need,.int .i64 v.level,.bool v.above]])∧t 1=.int .i64 ns∧t 2=.ptr 0 0 0∧t 5=.int .i64 i)
  (fun rest s=>ai6 ns rest s) (fun r e t h=>if r=true then e=.exit 0∧h[0]?=some (.live 4 false false [[slv 1 true v.nn (v.sens.map iv),.int .i64 v.need,.int .i64 v.level,.bool v.above]])∧t 2=.ptr 0 0 0 else e=.ret∧t 4=.bool false) ?_ ?_ none _ _ ?_) (fun e t h hk=>?_)
 ·rintro s t h Q' kQ ⟨hs,hh,h1,h2,h5⟩
  (have hb:=trivial;with_reducible repeat' (first|simp only[hb,Va.down,seval,aw4.down,hh,h1,h2,h5,abT,acX,decide_false]|refine fsp ?_ ?_<;>intro hb|refine fd ?_|fail))
  exact kQ _ _ _ (by simp[ai6,up,h2,hh])
 ·rintro x rest i s t h J Q' kJ kQ hx hi ⟨hs,hh,h1,h2,h5⟩
  have hd:decide ((i:Int)<(v.sens.length:Int))=true:=by simpa using hi
  have hA:=adK hh
  have kF:∀{p:Option Int},(inB x 0 (IntKind.i64.wrap (ns-1))&&(match p with|none=>true|some q=> !decide (x≤q)))=false→ai6 ns (x::rest) p=false:=fun h=>by simp[ai6,h]
  have kT:∀{p:Option Int},(inB x 0 (IntKind.i64.wrap (ns-1))&&(match p with|none=>true|some q=> !decide (x≤q)))=true→ai6 ns rest (some x)=ai6 ns (x::rest) p:=fun h=>by simp[ai6,h]
  have hw:=acT hi hl
  rcases hs with⟨rfl,rfl⟩|⟨hpos,rfl⟩
  ·simp only[afA,Int.zero_add]at hd h5 hw
   (have hb:=trivial;with_reducible repeat' (first|simp only[hb,Va.down,seval,aw4.down,hA,hh,h1,h2,h5,hd,hx,abT,iv,aoH,hw,Int.toNat_zero,aeK,acX,decide_false]|refine fsp ?_ ?_<;>intro hb|refine fd ?_|fail))
   all_goals first
    |exact kQ _ _ _ (by rw[if_neg (by rw[kF (by simp_all)];simp)];exact⟨rfl,rfl⟩)
    |exact adY (kJ _ _ (some x) ⟨.inr ⟨by omega,by simp[hx]⟩,by simp[hh],by simp[up,h1],by simp[up,h2],by simp[up]<;>omega⟩ (kT (by simp_all)))
  ·obtain⟨j,rfl⟩:∃j,i=j+1:=⟨i-1,by omega⟩
   obtain⟨q,hq⟩:∃q,v.sens[j]?=some q:=⟨v.sens[j],ahM (by omega)⟩
   have hj:IntKind.i64.wrap (((j+1:Nat):Int)-1)=(j:Int):=by unfold maxLen at hl;rw[ai7 (by omega) (by omega)];omega
   have hg:decide (0<((j+1:Nat):Int))=true:=by rw[decide_eq_true_eq];omega
   simp only[ahQ,hq]at kJ kQ
   (have hb:=trivial;with_reducible repeat' (first|simp only[hb,Va.down,seval,aw4.down,hA,hh,h1,h2,h5,hd,hx,abT,iv,aoH,hw,hj,hg,hq]|refine fsp ?_ ?_<;>intro hb|refine fd ?_|fail))
   all_goals first
    |exact kQ _ _ _ (by rw[if_neg (by rw[kF (by simp_all)];simp)];exact⟨rfl,rfl⟩)
    |exact adY (kJ _ _ (some x) ⟨.inr ⟨by omega,by simp[hx]⟩,by simp[hh],by simp[up,h1],by simp[up,h2],by simp[up]<;>omega⟩ (kT (by simp_all)))
 ·exact⟨.inl ⟨rfl,rfl⟩,rfl,by simp[up,ent],by simp[up],by simp[up]⟩
 ·split at hk
  ·obtain⟨rfl,hh,h2⟩:=hk
   have hA:=adK hh
   rename_i hr
   (have hb:=trivial;with_reducible repeat' (first|simp only[hb,Va.down,seval,aw4.down,hA,hh,h2,abT,aoH]|refine fsp ?_ ?_<;>intro hb|refine fd ?_|fail))
   all_goals simp_all[al3,amS]
  ·obtain⟨rfl,h2⟩:=hk
   rename_i hr
   (have hb:=trivial;with_reducible repeat' (first|simp only[hb,Va.down,seval,aw4.down,h2]|refine fsp ?_ ?_<;>intro hb|refine fd ?_|fail))
   all_goals simp[al3,hr]
theorem aBP(o w:acP):om'.call (.fn 90) [.agg [.int .i64 o.vote,.bool o.is],.ptr 0 0 0] [.live 2 true false [[.int .i64 w.vote,.bool w.is]]]=some (.ret (.bool (o.vote==w.vote)),[.live 2 true false [[.int .i64 w.vote,.bool w.is]]]):=by
 (refine ce Try.func90 ?_;simp only[Try.f90];(have hb:=trivial;with_reducible repeat' (first|simp only[hb,Vc.down,seval,aLF.down]|refine fsp ?_ ?_<;>intro hb|refine fd ?_|fail)))
theorem aw9{l:List acP}{nn:Bool}{g:Nat}{ww:acP}{p:acP→Bool}(hp:∀x∈l,om'.call (.fn g) (.agg [.int .i64 x.vote,.bool x.is]::[.ptr 0 0 0]) [.live 2 true false [[.int .i64 ww.vote,.bool ww.is]]]=some (.ret (.bool (p x)),[.live 2 true false [[.int .i64 ww.vote,.bool ww.is]]]))(hl:l.length≤maxLen):
 om'.call (.fn 98) [slv 2 true nn (l.map acP.cells),.func (.func g) [] [.ptr 0 0 0]] [.live 2 true false [[.int .i64 ww.vote,.bool ww.is]]]=some (.ret (.int .i64 (idx p l 0)),[.live 2 true false [[.int .i64 ww.vote,.bool ww.is]]]):=by
 (refine ce Try.func98 ?_;simp only[Try.f98];(have hb:=trivial;with_reducible repeat' (first|simp only[hb,Vc.down,seval,ap2.down,abT]|refine fsp ?_ ?_<;>intro hb|refine fd ?_|fail)))
 refine ae4 (lst 19 l (fun i (s:Int) t h=>s=i∧h=[.live 2 true false [[.int .i64 ww.vote,.bool ww.is]]]∧t 0=slv 2 true nn (l.map acP.cells)∧t 1=.func (.func g) [] [.ptr 0 0 0]∧t 7=.int .i64 l.length∧t 8=.int .i64 i)
  (fun rest s=>idx p rest s) (fun r e t h=>h=[.live 2 true false [[.int .i64 ww.vote,.bool ww.is]]]∧((e=.exit 0∧r= -1)∨(e=.ret∧t 4=.int .i64 r))) ?_ ?_ 0 _ _ ?_) (fun e t h hk=>?_)
 ·rintro s t h Q' kQ ⟨rfl,rfl,h0,h1,h7,h8⟩
  (have hb:=trivial;with_reducible repeat' (first|simp only[hb,Vc.down,seval,ap2.down,h0,h1,h7,h8,acX,decide_false]|refine fsp ?_ ?_<;>intro hb|refine fd ?_|fail))
  exact kQ _ _ _ ⟨rfl,.inl ⟨rfl,rfl⟩⟩
 ·rintro x rest i s t h J Q' kJ kQ hx hi ⟨rfl,rfl,h0,h1,h7,h8⟩
  have hpx:=hp x (aeM hx)
  have hd:decide ((i:Int)<(l.length:Int))=true:=by simpa using hi
  (have hb:=trivial;with_reducible repeat' (first|simp only[hb,Vc.down,seval,ap2.down,h0,h1,h7,h8,hd,hx,acP.cells,hpx,acT hi hl]|refine fsp ?_ ?_<;>intro hb|refine fd ?_|fail))
  ·exact kQ _ _ _ ⟨rfl,.inr ⟨rfl,by simp[up,idx,hb]⟩⟩
  ·exact adY (kJ _ _ (i+1) ⟨by simp,rfl,by simp[up,h0],by simp[up,h1],by simp[up,h7],by simp[up]⟩ (by simp[idx,hb]))
 ·exact⟨rfl,rfl,by simp[up,ent],by simp[up,ent],by simp[up],by simp[up]⟩
 ·obtain⟨rfl,⟨rfl,hi⟩|⟨rfl,hi⟩⟩:=hk
  ·(have hb:=trivial;with_reducible repeat' (first|simp only[hb,Vc.down,seval,ap2.down]|refine fsp ?_ ?_<;>intro hb|refine fd ?_|fail))
   rw[hi]
  ·(have hb:=trivial;with_reducible repeat' (first|simp only[hb,Vc.down,seval,ap2.down,hi]|refine fsp ?_ ?_<;>intro hb|refine fd ?_|fail))
theorem auC{l:List acP}{nn:Bool}{g:Nat}{ww:acP}{p:acP→Bool}(hp:∀x∈l,om'.call (.fn g) (.agg [.int .i64 x.vote,.bool x.is]::[.ptr 0 0 0]) [.live 2 true false [[.int .i64 ww.vote,.bool ww.is]]]=some (.ret (.bool (p x)),[.live 2 true false [[.int .i64 ww.vote,.bool ww.is]]]))(hl:l.length≤maxLen):
 om'.call (.fn 89) [slv 2 true nn (l.map acP.cells),.func (.func g) [] [.ptr 0 0 0]] [.live 2 true false [[.int .i64 ww.vote,.bool ww.is]]]=some (.ret (.bool (l.any p)),[.live 2 true false [[.int .i64 ww.vote,.bool ww.is]]]):=by
 (refine ce Try.func89 ?_;simp only[Try.f89];(have hb:=trivial;with_reducible repeat' (first|simp only[hb,Vc.down,seval,aw9 hp hl,al9 p l 0 (aeK 0)]|refine fsp ?_ ?_<;>intro hb|refine fd ?_|fail)))
def ag5(nv:Int):List acP→List acP→Bool
 |_,[]=>true
 |pre,w::l=>inB w.vote 0 (IntKind.i64.wrap (nv-1))&& !(pre.any fun o=>o.vote==w.vote)&&ag5 nv (pre++[w]) l
def aiL(m:acZ)(x:acN):Bool:=ag5 m.votes.length [] x.wants&&inB x.frm 0 (IntKind.i64.wrap (m.states-1))&&inB x.to 0 (IntKind.i64.wrap (m.states-1))&&decide (x.wants.length≤6)&&inB x.cmd (-1) (IntKind.i64.wrap (m.cmds-1))&&inB x.after 0 10
theorem aGO(m:acZ)(y:acN)(hl:y.wants.length≤maxLen):om'.call (.fn 72) [.agg [slv 3 true m.nS (m.sens.map ac3.cells),slv 4 false m.nV (m.votes.map acO.cells),slv 5 false m.nM (m.moves.map acN.cells),.int .i64 m.states,.int .i64 m.cmds,.int .i64 m.bgn,slv 1 true m.nO (m.opn.map iv)],.agg [.int .i64 y.frm,.int .i64 y.to,slv 2 true y.nn (y.wants.map acP.cells),.int .i64 y.cmd,.int .i64 y.after]] []=some (.ret (.bool (aiL m y)),[]):=by
 have l6:decide ((y.wants.length:Int)≤6)=decide (y.wants.length≤6):=by rw[decide_eq_decide];omega
 (refine ce Try.func72 ?_;simp only[Try.f72];(have hb:=trivial;with_reducible repeat' (first|simp only[hb,Vc.down,seval,auN.down,abT]|refine fsp ?_ ?_<;>intro hb|refine fd ?_|fail)))
 refine ae4 (lst 65 y.wants (fun i (zz:List acP) t h=>t 2=.ptr 0 0 0∧t 3=.ptr 1 0 0∧t 8=slv 2 true y.nn (y.wants.map acP.cells)∧t 9=.int .i64 y.wants.length∧t 10=.int .i64 i∧(h[0]?=some (.live 7 false false [[slv 3 true m.nS (m.sens.map ac3.cells),slv 4 false m.nV (m.votes.map acO.cells),slv 5 false m.nM (m.moves.map acN.cells),.int .i64 m.states,.int .i64 m.cmds,.int .i64 m.bgn,slv 1 true m.nO (m.opn.map iv)]])∧h[1]?=some (.live 5 false false [[.int .i64 y.frm,.int .i64 y.to,slv 2 true y.nn (y.wants.map acP.cells),.int .i64 y.cmd,.int .i64 y.after]])∧zz=y.wants.take i)) (fun rest zz=>ag5 m.votes.length zz rest) (fun r e t h=>(if r=true then e=.exit 0∧t 2=.ptr 0 0 0∧t 3=.ptr 1 0 0∧h[0]?=some (.live 7 false false [[slv 3 true m.nS (m.sens.map ac3.cells),slv 4 false m.nV (m.votes.map acO.cells),slv 5 false m.nM (m.moves.map acN.cells),.int .i64 m.states,.int .i64 m.cmds,.int .i64 m.bgn,slv 1 true m.nO (m.opn.map iv)]])∧h[1]?=some (.live 5 false false [[.int .i64 y.frm,.int .i64 y.to,slv 2 true y.nn (y.wants.map acP.cells),.int .i64 y.cmd,.int .i64 y.after]])else e=.ret∧t 4=.bool false)) ?_ ?_ ([]) _ _ ?_) (fun e t h hk=>?_)
 ·rintro p t h Q' kQ ⟨h2,h3,h8,h9,h10,⟨hA,hB,hp⟩⟩
  (have hb:=trivial;with_reducible repeat' (first|simp only[hb,Vc.down,seval,auN.down,h2,h3,h8,h9,h10,acX,decide_false]|refine fsp ?_ ?_<;>intro hb|refine fd ?_|fail))
  exact kQ _ _ _ (by rw[if_pos (by rfl)];exact⟨rfl,by simp[up,h2],by simp[up,h3],hA,hB⟩)
 ·rintro x rest i p t h J Q' kJ kQ hx hi ⟨h2,h3,h8,h9,h10,⟨hA,hB,hp⟩⟩
  have hd:decide ((i:Int)<(y.wants.length:Int))=true:=decide_eq_true (by omega)
  have hw:=acT hi hl
  have hA1:=adK hA
  have hB1:=adK hB
  have hcW:=auC (l:=y.wants.take i) (nn:=true) (ww:=x) (g:=90) (p:=fun o=>o.vote==x.vote) (fun o _=>aBP o x) (by simp;omega)
  have hsl:=aG5 (P:=Try.prog) (ty:=57) (n:=2) ⟨_,Try.underlying57,by kernel_rfl⟩ true y.nn (rows:=y.wants.map acP.cells) (i:=i) (by simpa using hi)
  rw[as1,List.map_take]at hcW
  subst hp
  cases c1:inB x.vote 0 (IntKind.i64.wrap ((m.votes.length:Int)-1))with
  |false=>
   (have hb:=trivial;with_reducible repeat' (first|simp only[hb,Vc.down,seval,auN.down,h2,h3,h8,h9,h10,hd,hx,hw,hA1,hB1,alB,acP.cells,abT,hcW,hsl,c1]|refine fsp ?_ ?_<;>intro hb|refine fd ?_|fail))
   exact kQ _ _ _ (by rw[if_neg (by simp[ag5,c1])];exact⟨rfl,by simp[up]⟩)
  |true=>
   cases c2:(y.wants.take i).any (fun o=>o.vote==x.vote)with
   |true=>
    rw[c2]at hcW
    (have hb:=trivial;with_reducible repeat' (first|simp only[hb,Vc.down,seval,auN.down,h2,h3,h8,h9,h10,hd,hx,hw,hA1,hB1,alB,acP.cells,abT,hcW,hsl,c1]|refine fsp ?_ ?_<;>intro hb|refine fd ?_|fail))
    exact kQ _ _ _ (by rw[if_neg (by simp only[ag5,c1,c2,ac9,aeT,aeL];simp)];exact⟨rfl,by simp[up]⟩)
   |false=>
    rw[c2]at hcW
    (have hb:=trivial;with_reducible repeat' (first|simp only[hb,Vc.down,seval,auN.down,h2,h3,h8,h9,h10,hd,hx,hw,hA1,hB1,alB,acP.cells,abT,hcW,hsl,c1]|refine fsp ?_ ?_<;>intro hb|refine fd ?_|fail))
    (refine adY (kJ _ _ (y.wants.take i++[x]) ⟨?_,?_,?_,?_,?_,⟨hA1 _,hB1 _,by rw[ahR,hx];rfl⟩⟩ ?_);(simp[up,h2]);(simp[up,h3]);(simp[up,h8]);(simp[up,h9]);(simp[up]);(simp only[ag5,c1,c2,ad5,aeQ,aeF]))
 ·exact⟨by simp[up,ent],by simp[up,ent],by simp[up,ent],by simp[up,ent],by simp[up],⟨rfl,rfl,rfl⟩⟩
 ·split at hk
  ·obtain⟨rfl,h2,h3,hA,hB⟩:=hk
   rename_i hr
   have hA1:=adK hA
   have hB1:=adK hB
   (have hb:=trivial;with_reducible repeat' (first|simp only[hb,Vc.down,seval,auN.down,h2,h3,hA,hB,hA1,hB1,alB,abT,l6]|refine fsp ?_ ?_<;>intro hb|refine fd ?_|fail))
   all_goals (refine congrArg (fun b=>(Out.ret (AV.bool b),([]:aaA))) ?_;symm;((try simp only[ah6,ac9,ad5]at *);simp only[aiL, *,aeT,aeL,aeQ,aeF,Bool.and_self,Bool.not_not,ac9,ad5,List.all_cons,List.all_nil]))
  ·obtain⟨rfl,h4⟩:=hk
   rename_i hr
   (have hb:=trivial;with_reducible repeat' (first|simp only[hb,Vc.down,seval,auN.down,h4]|refine fsp ?_ ?_<;>intro hb|refine fd ?_|fail))
   all_goals simp_all[aiL]
def axJ(w:acP):List acP→Bool
 | []=>true
 |o::l=> !(o.vote==w.vote)&&axJ w l
theorem arH(w:acP):∀l,axJ w l= !(l.any fun o=>o.vote==w.vote)
 | []=>rfl
 |o::l=>by simp[axJ,arH w l]
theorem aFW(m:acZ)(y:acN)(hl:y.wants.length≤maxLen):om'.call (.fn 49) [.agg [slv 3 true m.nS (m.sens.map ac3.cells),slv 4 false m.nV (m.votes.map acO.cells),slv 5 false m.nM (m.moves.map acN.cells),.int .i64 m.states,.int .i64 m.cmds,.int .i64 m.bgn,slv 1 true m.nO (m.opn.map iv)],.agg [.int .i64 y.frm,.int .i64 y.to,slv 2 true y.nn (y.wants.map acP.cells),.int .i64 y.cmd,.int .i64 y.after]] []=some (.ret (.bool (aiL m y)),[]):=by
 have l6:decide ((y.wants.length:Int)≤6)=decide (y.wants.length≤6):=by rw[decide_eq_decide];omega
 (refine ce Try.func49 ?_;simp only[Try.f49];(have hb:=trivial;with_reducible repeat' (first|simp only[hb,Vc.down,seval,ao9.down,abT]|refine fsp ?_ ?_<;>intro hb|refine fd ?_|fail)))
 refine ae4 (lst 77 y.wants (fun i (zz:List acP) t h=>t 2=.ptr 0 0 0∧t 3=.ptr 1 0 0∧t 5=.int .i64 i∧(h=[.live 7 false false [[slv 3 true m.nS (m.sens.map ac3.cells),slv 4 false m.nV (m.votes.map acO.cells),slv 5 false m.nM (m.moves.map acN.cells),.int .i64 m.states,.int .i64 m.cmds,.int .i64 m.bgn,slv 1 true m.nO (m.opn.map iv)]],.live 5 false false [[.int .i64 y.frm,.int .i64 y.to,slv 2 true y.nn (y.wants.map acP.cells),.int .i64 y.cmd,.int .i64 y.after]]]∧zz=y.wants.take i)) (fun rest zz=>ag5 m.votes.length zz rest) (fun r e t h=>(if r=true then e=.exit 0∧t 2=.ptr 0 0 0∧t 3=.ptr 1 0 0∧h=[.live 7 false false [[slv 3 true m.nS (m.sens.map ac3.cells),slv 4 false m.nV (m.votes.map acO.cells),slv 5 false m.nM (m.moves.map acN.cells),.int .i64 m.states,.int .i64 m.cmds,.int .i64 m.bgn,slv 1 true m.nO (m.opn.map iv)]],.live 5 false false [[.int .i64 y.frm,.int .i64 y.to,slv 2 true y.nn (y.wants.map acP.cells),.int .i64 y.cmd,.int .i64 y.after]]]else e=.ret∧t 4=.bool false)) ?_ ?_ ([]) _ _ ?_) (fun e t h hk=>?_)
 ·rintro p t h Q' kQ ⟨h2,h3,h5,⟨rfl,hp⟩⟩
  (have hb:=trivial;with_reducible repeat' (first|simp only[hb,Vc.down,seval,ao9.down,h2,h3,h5,acX,decide_false,abT]|refine fsp ?_ ?_<;>intro hb|refine fd ?_|fail))
  exact kQ _ _ _ (by rw[if_pos (by rfl)];exact⟨rfl,by simp[up,h2],by simp[up,h3],rfl⟩)
 ·rintro x rest i p t h J Q' kJ kQ hx hi ⟨h2,h3,h5,⟨rfl,hp⟩⟩
  have hd:decide ((i:Int)<(y.wants.length:Int))=true:=decide_eq_true (by omega)
  have hw:=acT hi hl
  subst hp
  cases c1:inB x.vote 0 (IntKind.i64.wrap ((m.votes.length:Int)-1))with
  |false=>
   (have hb:=trivial;with_reducible repeat' (first|simp only[hb,Vc.down,seval,ao9.down,h2,h3,h5,hd,hx,hw,aoH,c1,acP.cells,abT]|refine fsp ?_ ?_<;>intro hb|refine fd ?_|fail))
   exact kQ _ _ _ (by rw[if_neg (by simp[ag5,c1])];exact⟨rfl,by simp[up]⟩)
  |true=>
   obtain⟨w,rfl⟩:∃w,w=x:=⟨_,rfl⟩
   obtain⟨k,rfl⟩:∃k,k=i:=⟨_,rfl⟩
   have hlen:(y.wants.take k).length=k:=by simp;omega
   have hxk:=hx
   (have hb:=trivial;with_reducible repeat' (first|simp only[hb,Vc.down,seval,ao9.down,h2,h3,h5,hd,hx,hw,aoH,c1,acP.cells,abT]|refine fsp ?_ ?_<;>intro hb|refine fd ?_|fail))
   refine ae4 (lst 77 (y.wants.take k) (fun i (zz:Unit) t h=>t 2=.ptr 0 0 0∧t 3=.ptr 1 0 0∧t 5=.int .i64 (k:Int)∧t 6=.int .i64 i∧h=[.live 7 false false [[slv 3 true m.nS (m.sens.map ac3.cells),slv 4 false m.nV (m.votes.map acO.cells),slv 5 false m.nM (m.moves.map acN.cells),.int .i64 m.states,.int .i64 m.cmds,.int .i64 m.bgn,slv 1 true m.nO (m.opn.map iv)]],.live 5 false false [[.int .i64 y.frm,.int .i64 y.to,slv 2 true y.nn (y.wants.map acP.cells),.int .i64 y.cmd,.int .i64 y.after]]]) (fun rest zz=>axJ w rest) (fun r e t h=>(if r=true then e=.exit 2∧t 2=.ptr 0 0 0∧t 3=.ptr 1 0 0∧t 5=.int .i64 (k:Int)∧h=[.live 7 false false [[slv 3 true m.nS (m.sens.map ac3.cells),slv 4 false m.nV (m.votes.map acO.cells),slv 5 false m.nM (m.moves.map acN.cells),.int .i64 m.states,.int .i64 m.cmds,.int .i64 m.bgn,slv 1 true m.nO (m.opn.map iv)]],.live 5 false false [[.int .i64 y.frm,.int .i64 y.to,slv 2 true y.nn (y.wants.map acP.cells),.int .i64 y.cmd,.int .i64 y.after]]]else e=.ret∧t 4=.bool false)) ?_ ?_ () _ _ ?_) (fun e tC hC hk=>?_)
   ·rintro _ t h Q' kQ ⟨h2,h3,h5,h6,rfl⟩
    (have hb:=trivial;with_reducible repeat' (first|simp only[hb,Vc.down,seval,ao9.down,h2,h3,h5,h6,acX,decide_false,hlen]|refine fsp ?_ ?_<;>intro hb|refine fd ?_|fail))
    exact kQ _ _ _ (by rw[if_pos (by rfl)];exact⟨rfl,by simp[up,h2],by simp[up,h3],by simp[up,h5],rfl⟩)
   ·rintro x rest i _ t h J Q' kJ kQ hx hi ⟨h2,h3,h5,h6,rfl⟩
    have hd:decide ((i:Int)<((y.wants.take k).length:Int))=true:=decide_eq_true (by omega)
    have hw:=acT hi (by simp;omega)
    rw[hlen]at hd
    have hxi:y.wants[i]?=some x:=by rw[List.getElem?_take]at hx;split at hx;exact hx;cases hx
    cases c3:(x.vote==w.vote)with
    |true=>
     (have hb:=trivial;with_reducible repeat' (first|simp only[hb,Vc.down,seval,ao9.down,h2,h3,h5,h6,hd,hxi,hxk,hw,c3,acP.cells]|refine fsp ?_ ?_<;>intro hb|refine fd ?_|fail))
     exact kQ _ _ _ (by rw[if_neg (by simp[axJ,c3])];exact⟨rfl,by simp[up]⟩)
    |false=>
     (have hb:=trivial;with_reducible repeat' (first|simp only[hb,Vc.down,seval,ao9.down,h2,h3,h5,h6,hd,hxi,hxk,hw,c3,acP.cells]|refine fsp ?_ ?_<;>intro hb|refine fd ?_|fail))
     (refine adY (kJ _ _ () ⟨?_,?_,?_,?_,rfl⟩ ?_);(simp[up,h2]);(simp[up,h3]);(simp[up,h5]);(simp[up]);(simp[axJ,c3]))
   ·exact⟨by simp[up,ent,h2,h3,h5],by simp[up,ent,h2,h3,h5],by simp[up,ent,h2,h3,h5],by simp[up],rfl⟩
   ·split at hk
    ·rename_i hdup
     obtain⟨rfl,h2,h3,h5,rfl⟩:=hk
     (have hb:=trivial;with_reducible repeat' (first|simp only[hb,Vc.down,seval,ao9.down,h2,h3,h5,hw]|refine fsp ?_ ?_<;>intro hb|refine fd ?_|fail))
     rw[arH]at hdup
     (refine adY (kJ _ _ (y.wants.take k++[w]) ⟨?_,?_,?_,⟨rfl,by rw[ahR,hxk];rfl⟩⟩ ?_);(simp[up,h2]);(simp[up,h3]);(simp[up]);(simp only[ag5,c1,hdup,aeF]))
    ·rename_i hdup
     obtain⟨rfl,h4⟩:=hk
     (have hb:=trivial;with_reducible repeat' (first|simp only[hb,Vc.down,seval,ao9.down,h4]|refine fsp ?_ ?_<;>intro hb|refine fd ?_|fail))
     rw[arH]at hdup
     exact kQ _ _ _ (by rw[if_neg (by simp only[ag5,c1,aeF,aeZ.2 hdup,aeL];simp)];exact⟨rfl,by simp[up,h4]⟩)
 ·exact⟨by simp[up,ent],by simp[up,ent],by simp[up],⟨rfl,rfl⟩⟩
 ·split at hk
  ·obtain⟨rfl,h2,h3,rfl⟩:=hk
   rename_i hr
   (have hb:=trivial;with_reducible repeat' (first|simp only[hb,Vc.down,seval,ao9.down,h2,h3,aoH,abT,l6]|refine fsp ?_ ?_<;>intro hb|refine fd ?_|fail))
   all_goals (refine congrArg (fun b=>(Out.ret (AV.bool b),([]:aaA))) ?_;symm;((try simp only[ah6,ac9,ad5]at *);simp only[aiL, *,aeT,aeL,aeQ,aeF,Bool.and_self,Bool.not_not,ac9,ad5,List.all_cons,List.all_nil]))
  ·obtain⟨rfl,h4⟩:=hk
   rename_i hr
   (have hb:=trivial;with_reducible repeat' (first|simp only[hb,Vc.down,seval,ao9.down,h4]|refine fsp ?_ ?_<;>intro hb|refine fd ?_|fail))
   all_goals simp_all[aiL]
def auA(s:ac3):Bool:=amS s.lo&&amS s.hi&& !decide (s.hi<s.lo)
def aj9(m:acZ):Bool:=decide (m.sens.length≤6)&&decide (m.votes.length≤6)&&decide (m.moves.length≤20)&&inB m.states 1 8&&inB m.cmds 0 4&&inB m.bgn 0 (IntKind.i64.wrap (m.states-1))&&((m.opn.length:Int)==m.states)
def ae0(m:acZ):Bool:=aj9 m&&m.sens.all auA&&m.votes.all (al3 m.sens.length)&&m.moves.all (aiL m)&&m.opn.all (fun n=>inB n 0 255)
theorem azF(m:acZ)(x:acN)(hl:x.wants.length≤maxLen):om'.call (.fn 71) [.agg [.int .i64 x.frm,.int .i64 x.to,slv 2 true x.nn (x.wants.map acP.cells),.int .i64 x.cmd,.int .i64 x.after],.ptr 0 0 0] [.live 7 false false [[slv 3 true m.nS (m.sens.map ac3.cells),slv 4 false m.nV (m.votes.map acO.cells),slv 5 false m.nM (m.moves.map acN.cells),.int .i64 m.states,.int .i64 m.cmds,.int .i64 m.bgn,slv 1 true m.nO (m.opn.map iv)]]]=some (.ret (.bool (!aiL m x)),[.live 7 false false [[slv 3 true m.nS (m.sens.map ac3.cells),slv 4 false m.nV (m.votes.map acO.cells),slv 5 false m.nM (m.moves.map acN.cells),.int .i64 m.states,.int .i64 m.cmds,.int .i64 m.bgn,slv 1 true m.nO (m.opn.map iv)]]]):=by
 have hm:=aGO m x hl
 (refine ce Try.func71 ?_;simp only[Try.f71];(have hb:=trivial;with_reducible repeat' (first|simp only[hb,Vc.down,seval,aK8.down,hm]|refine fsp ?_ ?_<;>intro hb|refine fd ?_|fail)))
theorem av2{l:List acN}{nn:Bool}{g:Nat}{mm:acZ}{p:acN→Bool}(hp:∀x∈l,om'.call (.fn g) (.agg [.int .i64 x.frm,.int .i64 x.to,slv 2 true x.nn (x.wants.map acP.cells),.int .i64 x.cmd,.int .i64 x.after]::[.ptr 0 0 0]) [.live 7 false false [[slv 3 true mm.nS (mm.sens.map ac3.cells),slv 4 false mm.nV (mm.votes.map acO.cells),slv 5 false mm.nM (mm.moves.map acN.cells),.int .i64 mm.states,.int .i64 mm.cmds,.int .i64 mm.bgn,slv 1 true mm.nO (mm.opn.map iv)]]]=some (.ret (.bool (p x)),[.live 7 false false [[slv 3 true mm.nS (mm.sens.map ac3.cells),slv 4 false mm.nV (mm.votes.map acO.cells),slv 5 false mm.nM (mm.moves.map acN.cells),.int .i64 mm.states,.int .i64 mm.cmds,.int .i64 mm.bgn,slv 1 true mm.nO (mm.opn.map iv)]]]))(hl:l.length≤maxLen):
 om'.call (.fn 88) [slv 5 false nn (l.map acN.cells),.func (.func g) [] [.ptr 0 0 0]] [.live 7 false false [[slv 3 true mm.nS (mm.sens.map ac3.cells),slv 4 false mm.nV (mm.votes.map acO.cells),slv 5 false mm.nM (mm.moves.map acN.cells),.int .i64 mm.states,.int .i64 mm.cmds,.int .i64 mm.bgn,slv 1 true mm.nO (mm.opn.map iv)]]]=some (.ret (.int .i64 (idx p l 0)),[.live 7 false false [[slv 3 true mm.nS (mm.sens.map ac3.cells),slv 4 false mm.nV (mm.votes.map acO.cells),slv 5 false mm.nM (mm.moves.map acN.cells),.int .i64 mm.states,.int .i64 mm.cmds,.int .i64 mm.bgn,slv 1 true mm.nO (mm.opn.map iv)]]]):=by
 (refine ce Try.func88 ?_;simp only[Try.f88];(have hb:=trivial;with_reducible repeat' (first|simp only[hb,Vc.down,seval,ay0.down,abT]|refine fsp ?_ ?_<;>intro hb|refine fd ?_|fail)))
 refine ae4 (lst 19 l (fun i (s:Int) t h=>s=i∧h=[.live 7 false false [[slv 3 true mm.nS (mm.sens.map ac3.cells),slv 4 false mm.nV (mm.votes.map acO.cells),slv 5 false mm.nM (mm.moves.map acN.cells),.int .i64 mm.states,.int .i64 mm.cmds,.int .i64 mm.bgn,slv 1 true mm.nO (mm.opn.map iv)]]]∧t 0=slv 5 false nn (l.map acN.cells)∧t 1=.func (.func g) [] [.ptr 0 0 0]∧t 7=.int .i64 l.length∧t 8=.int .i64 i)
  (fun rest s=>idx p rest s) (fun r e t h=>h=[.live 7 false false [[slv 3 true mm.nS (mm.sens.map ac3.cells),slv 4 false mm.nV (mm.votes.map acO.cells),slv 5 false mm.nM (mm.moves.map acN.cells),.int .i64 mm.states,.int .i64 mm.cmds,.int .i64 mm.bgn,slv 1 true mm.nO (mm.opn.map iv)]]]∧((e=.exit 0∧r= -1)∨(e=.ret∧t 4=.int .i64 r))) ?_ ?_ 0 _ _ ?_) (fun e t h hk=>?_)
 ·rintro s t h Q' kQ ⟨rfl,rfl,h0,h1,h7,h8⟩
  (have hb:=trivial;with_reducible repeat' (first|simp only[hb,Vc.down,seval,ay0.down,h0,h1,h7,h8,acX,decide_false]|refine fsp ?_ ?_<;>intro hb|refine fd ?_|fail))
  exact kQ _ _ _ ⟨rfl,.inl ⟨rfl,rfl⟩⟩
 ·rintro x rest i s t h J Q' kJ kQ hx hi ⟨rfl,rfl,h0,h1,h7,h8⟩
  have hpx:=hp x (aeM hx)
  have hd:decide ((i:Int)<(l.length:Int))=true:=by simpa using hi
  (have hb:=trivial;with_reducible repeat' (first|simp only[hb,Vc.down,seval,ay0.down,h0,h1,h7,h8,hd,hx,acN.cells,hpx,acT hi hl]|refine fsp ?_ ?_<;>intro hb|refine fd ?_|fail))
  ·exact kQ _ _ _ ⟨rfl,.inr ⟨rfl,by simp[up,idx,hb]⟩⟩
  ·exact adY (kJ _ _ (i+1) ⟨by simp,rfl,by simp[up,h0],by simp[up,h1],by simp[up,h7],by simp[up]⟩ (by simp[idx,hb]))
 ·exact⟨rfl,rfl,by simp[up,ent],by simp[up,ent],by simp[up],by simp[up]⟩
 ·obtain⟨rfl,⟨rfl,hi⟩|⟨rfl,hi⟩⟩:=hk
  ·(have hb:=trivial;with_reducible repeat' (first|simp only[hb,Vc.down,seval,ay0.down]|refine fsp ?_ ?_<;>intro hb|refine fd ?_|fail))
   rw[hi]
  ·(have hb:=trivial;with_reducible repeat' (first|simp only[hb,Vc.down,seval,ay0.down,hi]|refine fsp ?_ ?_<;>intro hb|refine fd ?_|fail))
theorem atY{l:List acN}{nn:Bool}{g:Nat}{mm:acZ}{p:acN→Bool}(hp:∀x∈l,om'.call (.fn g) (.agg [.int .i64 x.frm,.int .i64 x.to,slv 2 true x.nn (x.wants.map acP.cells),.int .i64 x.cmd,.int .i64 x.after]::[.ptr 0 0 0]) [.live 7 false false [[slv 3 true mm.nS (mm.sens.map ac3.cells),slv 4 false mm.nV (mm.votes.map acO.cells),slv 5 false mm.nM (mm.moves.map acN.cells),.int .i64 mm.states,.int .i64 mm.cmds,.int .i64 mm.bgn,slv 1 true mm.nO (mm.opn.map iv)]]]=some (.ret (.bool (p x)),[.live 7 false false [[slv 3 true mm.nS (mm.sens.map ac3.cells),slv 4 false mm.nV (mm.votes.map acO.cells),slv 5 false mm.nM (mm.moves.map acN.cells),.int .i64 mm.states,.int .i64 mm.cmds,.int .i64 mm.bgn,slv 1 true mm.nO (mm.opn.map iv)]]]))(hl:l.length≤maxLen):
 om'.call (.fn 70) [slv 5 false nn (l.map acN.cells),.func (.func g) [] [.ptr 0 0 0]] [.live 7 false false [[slv 3 true mm.nS (mm.sens.map ac3.cells),slv 4 false mm.nV (mm.votes.map acO.cells),slv 5 false mm.nM (mm.moves.map acN.cells),.int .i64 mm.states,.int .i64 mm.cmds,.int .i64 mm.bgn,slv 1 true mm.nO (mm.opn.map iv)]]]=some (.ret (.bool (l.any p)),[.live 7 false false [[slv 3 true mm.nS (mm.sens.map ac3.cells),slv 4 false mm.nV (mm.votes.map acO.cells),slv 5 false mm.nM (mm.moves.map acN.cells),.int .i64 mm.states,.int .i64 mm.cmds,.int .i64 mm.bgn,slv 1 true mm.nO (mm.opn.map iv)]]]):=by
 (refine ce Try.func70 ?_;simp only[Try.f70];(have hb:=trivial;with_reducible repeat' (first|simp only[hb,Vc.down,seval,av2 hp hl,al9 p l 0 (aeK 0)]|refine fsp ?_ ?_<;>intro hb|refine fd ?_|fail)))
theorem avN(m:acZ)(hs:m.small):om'.call (.fn 42) [.agg [slv 3 true m.nS (m.sens.map ac3.cells),slv 4 false m.nV (m.votes.map acO.cells),slv 5 false m.nM (m.moves.map acN.cells),.int .i64 m.states,.int .i64 m.cmds,.int .i64 m.bgn,slv 1 true m.nO (m.opn.map iv)]] []=some (.ret (.bool (ae0 m)),[]):=by
 have l1:decide ((6:Int)<(m.sens.length:Int))= !decide (m.sens.length≤6):=by rw[←decide_not,decide_eq_decide];omega
 have l2:decide ((6:Int)<(m.votes.length:Int))= !decide (m.votes.length≤6):=by rw[←decide_not,decide_eq_decide];omega
 have l3:decide ((20:Int)<(m.moves.length:Int))= !decide (m.moves.length≤20):=by rw[←decide_not,decide_eq_decide];omega
 cases hp:aj9 m with
 |false=>
  have hp':ae0 m=false:=by simp[ae0,hp]
  rw[hp']
  (refine ce Try.func42 ?_;simp only[Try.f42];(have hb:=trivial;with_reducible repeat' (first|simp only[hb,Vc.down,seval,apQ.down,abT,alB,l1,l2,l3]|refine fsp ?_ ?_<;>intro hb|refine fd ?_|fail)))
  all_goals first
   |rfl
   |(exfalso;simp_all[aj9];done)
 |true=>
  have hp':=hp
  simp only[aj9,Bool.and_eq_true]at hp'
  obtain⟨⟨⟨⟨⟨⟨p1,p2⟩,p3⟩,p4⟩,p5⟩,p6⟩,p7⟩:=hp'
  (refine ce Try.func42 ?_;simp only[Try.f42];(have hb:=trivial;with_reducible repeat' (first|simp only[hb,Vc.down,seval,apQ.down,abT,alB,l1,l2,l3,p1,p2,p3,p4,p5,p6,p7]|refine fsp ?_ ?_<;>intro hb|refine fd ?_|fail)))
  refine ae4 (lst 118 m.sens (fun i (zz:Unit) t h=>t 1=.ptr 0 0 0∧t 53=slv 3 true m.nS (m.sens.map ac3.cells)∧t 54=.int .i64 m.sens.length∧t 55=.int .i64 i∧(h[0]?=some (.live 7 false false [[slv 3 true m.nS (m.sens.map ac3.cells),slv 4 false m.nV (m.votes.map acO.cells),slv 5 false m.nM (m.moves.map acN.cells),.int .i64 m.states,.int .i64 m.cmds,.int .i64 m.bgn,slv 1 true m.nO (m.opn.map iv)]]))) (fun rest zz=>rest.all auA) (fun r e t h=>(if r=true then e=.exit 0∧t 1=.ptr 0 0 0∧h[0]?=some (.live 7 false false [[slv 3 true m.nS (m.sens.map ac3.cells),slv 4 false m.nV (m.votes.map acO.cells),slv 5 false m.nM (m.moves.map acN.cells),.int .i64 m.states,.int .i64 m.cmds,.int .i64 m.bgn,slv 1 true m.nO (m.opn.map iv)]])else e=.ret∧t 2=.bool false)) ?_ ?_ () _ _ ?_) (fun e t h hk=>?_)
  ·rintro _ t h Q' kQ ⟨h1,h53,h54,h55,hA⟩
   (have hb:=trivial;with_reducible repeat' (first|simp only[hb,Vc.down,seval,apQ.down,h1,h53,h54,h55,acX,decide_false]|refine fsp ?_ ?_<;>intro hb|refine fd ?_|fail))
   exact kQ _ _ _ (by rw[if_pos (by rfl)];exact⟨rfl,by simp[up,h1],hA⟩)
  ·rintro x rest i _ t h J Q' kJ kQ hx hi ⟨h1,h53,h54,h55,hA⟩
   have hd:decide ((i:Int)<(m.sens.length:Int))=true:=decide_eq_true (by omega)
   have hw:=acT hi hs.sens
   have hA1:=adK hA
   (have hb:=trivial;with_reducible repeat' (first|simp only[hb,Vc.down,seval,apQ.down,h1,h53,h54,h55,hd,hx,hw,aq7,ac3.cells,abT]|refine fsp ?_ ?_<;>intro hb|refine fd ?_|fail))
   all_goals first
    |exact kQ _ _ _ (by rw[if_neg (by simp_all[auA])];exact⟨rfl,by simp[up]⟩)
    |(refine adY (kJ _ _ () ⟨?_,?_,?_,?_,hA1 _⟩ ?_);(simp[up,h1]);(simp[up,h53]);(simp[up,h54]);(simp[up]);(simp_all[auA]))
  ·exact⟨by simp[up,ent],by simp[up,ent],by simp[up,ent],by simp[up],rfl⟩
  ·split at hk
   ·obtain⟨rfl,h1,hA⟩:=hk
    rename_i hr1
    have hA1:=adK hA
    (have hb:=trivial;with_reducible repeat' (first|simp only[hb,Vc.down,seval,apQ.down,h1,hA,hA1,abT]|refine fsp ?_ ?_<;>intro hb|refine fd ?_|fail))
    refine ae4 (lst 118 m.votes (fun i (zz:Unit) t h=>t 1=.ptr 0 0 0∧t 78=slv 4 false m.nV (m.votes.map acO.cells)∧t 79=.int .i64 m.votes.length∧t 80=.int .i64 i∧(h[0]?=some (.live 7 false false [[slv 3 true m.nS (m.sens.map ac3.cells),slv 4 false m.nV (m.votes.map acO.cells),slv 5 false m.nM (m.moves.map acN.cells),.int .i64 m.states,.int .i64 m.cmds,.int .i64 m.bgn,slv 1 true m.nO (m.opn.map iv)]]))) (fun rest zz=>rest.all (al3 m.sens.length)) (fun r e t h=>(if r=true then e=.exit 2∧t 1=.ptr 0 0 0∧h[0]?=some (.live 7 false false [[slv 3 true m.nS (m.sens.map ac3.cells),slv 4 false m.nV (m.votes.map acO.cells),slv 5 false m.nM (m.moves.map acN.cells),.int .i64 m.states,.int .i64 m.cmds,.int .i64 m.bgn,slv 1 true m.nO (m.opn.map iv)]])else e=.ret∧t 2=.bool false)) ?_ ?_ () _ _ ?_) (fun e t h hk=>?_)
    ·rintro _ t h Q' kQ ⟨h1,h78,h79,h80,hA⟩
     (have hb:=trivial;with_reducible repeat' (first|simp only[hb,Vc.down,seval,apQ.down,h1,h78,h79,h80,acX,decide_false]|refine fsp ?_ ?_<;>intro hb|refine fd ?_|fail))
     exact kQ _ _ _ (by rw[if_pos (by rfl)];exact⟨rfl,by simp[up,h1],hA⟩)
    ·rintro x rest i _ t h J Q' kJ kQ hx hi ⟨h1,h78,h79,h80,hA⟩
     have hd:decide ((i:Int)<(m.votes.length:Int))=true:=decide_eq_true (by omega)
     have hw:=acT hi hs.votes
     have hA1:=adK hA
     have hin:=aqY (nn:=x.nn) m.sens.length (hs.vs x (aeM hx))
     (have hb:=trivial;with_reducible repeat' (first|simp only[hb,Vc.down,seval,apQ.down,h1,h78,h79,h80,hd,hx,hw,hA1,aq7,alB,hin,acO.cells,abT]|refine fsp ?_ ?_<;>intro hb|refine fd ?_|fail))
     all_goals first
      |exact kQ _ _ _ (by rw[if_neg (by simp_all[al3])];exact⟨rfl,by simp[up]⟩)
      |(refine adY (kJ _ _ () ⟨?_,?_,?_,?_,hA1 _⟩ ?_);(simp[up,h1]);(simp[up,h78]);(simp[up,h79]);(simp[up]);(simp_all[al3]))
    ·exact⟨by simp[up,ent,h1],by simp[up,ent,h1],by simp[up,ent,h1],by simp[up],hA⟩
    ·split at hk
     ·obtain⟨rfl,h1,hA⟩:=hk
      rename_i hr2
      have hA1:=adK hA
      have hcM:=atY (mm:=m) (l:=m.moves) (nn:=m.nM) (g:=71) (p:=fun x=> !aiL m x) (fun x hx=>azF m x (hs.ws x hx)) hs.moves
      have hcI:=aqU (l:=m.opn) (nn:=m.nO) (g:=74) (cap:=[]) (p:=fun x=> !inB x 0 255) rfl rfl (fun x _=>aA2 x) hs.opn
      (have hb:=trivial;with_reducible repeat' (first|simp only[hb,Vc.down,seval,apQ.down,h1,hA,hA1,abT,hcM,hcI]|refine fsp ?_ ?_<;>intro hb|refine fd ?_|fail))
      all_goals
       have q1:m.moves.all (aiL m)= !(m.moves.any fun x=> !aiL m x):=aiA
       have q2:m.opn.all (fun n=>inB n 0 255)= !(m.opn.any fun x=> !inB x 0 255):=aiA
       simp only[ae0,hp,hr1,hr2,q1,q2,hb,ac9,ad5,aeF,aeL,aeQ]
       try rfl
     ·obtain⟨rfl,h2⟩:=hk
      rename_i hr2
      (have hb:=trivial;with_reducible repeat' (first|simp only[hb,Vc.down,seval,apQ.down,h2]|refine fsp ?_ ?_<;>intro hb|refine fd ?_|fail))
      all_goals simp[ae0,hp,aeZ.2 hr2]
   ·obtain⟨rfl,h2⟩:=hk
    rename_i hr1
    (have hb:=trivial;with_reducible repeat' (first|simp only[hb,Vc.down,seval,apQ.down,h2]|refine fsp ?_ ?_<;>intro hb|refine fd ?_|fail))
    all_goals simp[ae0,hp,aeZ.2 hr1]
end Go.Proofs.Ytfkokgjfpojeoaa
