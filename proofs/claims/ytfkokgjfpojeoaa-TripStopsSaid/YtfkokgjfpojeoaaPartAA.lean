/- The functions of the layer, walked. -/
import Derived.Test.YtfkokgjfpojeoaaLibE
import Derived.Test.YtfkokgjfpojeoaaChecked
import Derived.Test.YtfkokgjfpojeoaaLibD
import Derived.Test.YtfkokgjfpojeoaaRows
import Derived.Test.YtfkokgjfpojeoaaShelf
import Derived.ProofKit
import Derived.LaidMore
import Derived.OpenShut
open And renaming intro→aaA
open List renaming length_map→aaK,contains_cons→acI,contains_nil→acM,mem_of_getElem?→acY
open Int renaming lt_irrefl→aa0,le_refl→aa3
open Bool renaming not_true→aa9,not_false→abO,and_false→adV,false_and→ae2
set_option linter.unusedSimpArgs false
set_option linter.unusedVariables false
namespace Go.Proofs.Ytfkokgjfpojeoaa
open Go.Ev
set_option maxRecDepth 100000
theorem Dq(h:Aa)(b r o:Nat):ld Try.prog 27 h (some (.ptr b r o))=ldR (Lh (h[b]?) r) o 7:=fJ ⟨by kernel_rfl,by kernel_rfl⟩ h b r o
theorem cU(b r o:Nat):pP Try.prog 27 (some (.ptr b r o))=some [.cells b o 7]:=Ib (isA:=true) (n:=7) (by kernel_rfl) (by kernel_rfl) b r o
theorem Rq(b r o:Nat):fa Try.prog 29 (some (.ptr b r o)) 0=some (.ret (.ptr b r (o+0)),[]):=Dj (show Ef Try.prog 29 0 0 1 from⟨_,_,Try.underlying29,rfl,rfl,by kernel_rfl,by decide⟩) b r o
theorem tH(cs:List AV):fa Try.prog 29 (some (.iptr cs)) 0=if 0+1≤cs.length then some (.ret (.iptr (cs.drop 0)),[])else none:=fZ (show Ef Try.prog 29 0 0 1 from⟨_,_,Try.underlying29,rfl,rfl,by kernel_rfl,by decide⟩) cs
theorem Ec(h:Aa)(b r o:Nat):ld Try.prog 25 h (some (.ptr b r o))=vG (Lh (h[b]?) r) o:=Qz ⟨by kernel_rfl,1,by kernel_rfl⟩ h b r o
theorem kP(h:Aa)(c:AV)(cs:List AV):ld Try.prog 25 h (some (.iptr (c::cs)))=some (.ret c,[]):=akJ ⟨by kernel_rfl,1,by kernel_rfl⟩ h c cs
theorem Xw(b r o:Nat):pP Try.prog 25 (some (.ptr b r o))=some [.cells b o 1]:=Ib (isA:=false) (n:=1) (by kernel_rfl) (by kernel_rfl) b r o
theorem Ym(st b r len:Nat):ln Try.prog 25 (some (.slr st b r len))=some (.ret (.int .i64 len),[]):=dS (n:=1) ⟨_,Try.underlying25,by kernel_rfl⟩ st b r len
theorem Gf(fl nn:Bool)(rows:List (List AV)):ln Try.prog 25 (some (Ad 1 fl nn rows))=some (.ret (.int .i64 rows.length),[]):=dJ ⟨_,Try.underlying25,by kernel_rfl⟩ fl nn rows
theorem kH(h:Aa)(b r o:Nat):ld Try.prog 29 h (some (.ptr b r o))=ldR (Lh (h[b]?) r) o 2:=fJ ⟨by kernel_rfl,by kernel_rfl⟩ h b r o
theorem iK(h:Aa)(cs:List AV):ld Try.prog 29 h (some (.iptr cs))=if 2≤cs.length then some (.ret (.agg (cs.take 2)),[])else none:=wQ ⟨by kernel_rfl,by kernel_rfl⟩ h cs
theorem acO(b r o:Nat):pP Try.prog 29 (some (.ptr b r o))=some [.cells b o 2]:=Ib (isA:=true) (n:=2) (by kernel_rfl) (by kernel_rfl) b r o
theorem Jx(b r o:Nat):fa Try.prog 27 (some (.ptr b r o)) 3=some (.ret (.ptr b r (o+3)),[]):=Dj (show Ef Try.prog 27 3 3 1 from⟨_,_,Try.underlying27,rfl,rfl,by kernel_rfl,by decide⟩) b r o
theorem Bn(h:Aa)(b r o:Nat):ld Try.prog 3 h (some (.ptr b r o))=vG (Lh (h[b]?) r) o:=Qz ⟨by kernel_rfl,1,by kernel_rfl⟩ h b r o
theorem Hy(h:Aa)(c:AV)(cs:List AV):ld Try.prog 3 h (some (.iptr (c::cs)))=some (.ret c,[]):=akJ ⟨by kernel_rfl,1,by kernel_rfl⟩ h c cs
theorem jV(b r o:Nat):pP Try.prog 3 (some (.ptr b r o))=some [.cells b o 1]:=Ib (isA:=false) (n:=1) (by kernel_rfl) (by kernel_rfl) b r o
theorem Ee(b r o:Nat):fa Try.prog 27 (some (.ptr b r o)) 1=some (.ret (.ptr b r (o+1)),[]):=Dj (show Ef Try.prog 27 1 1 1 from⟨_,_,Try.underlying27,rfl,rfl,by kernel_rfl,by decide⟩) b r o
theorem Ew(h:Aa)(b r o:Nat):ld Try.prog 23 h (some (.ptr b r o))=vG (Lh (h[b]?) r) o:=Qz ⟨by kernel_rfl,1,by kernel_rfl⟩ h b r o
theorem ad0(b r o:Nat):pP Try.prog 23 (some (.ptr b r o))=some [.cells b o 1]:=Ib (isA:=false) (n:=1) (by kernel_rfl) (by kernel_rfl) b r o
theorem ab5(st b r len:Nat):ln Try.prog 23 (some (.slr st b r len))=some (.ret (.int .i64 len),[]):=dS (n:=4) ⟨_,Try.underlying23,by kernel_rfl⟩ st b r len
theorem adJ:ln Try.prog 23 (some .nils)=some (.ret (.int .i64 0),[]):=gW (n:=4) ⟨_,Try.underlying23,by kernel_rfl⟩
theorem Gm(fl nn:Bool)(rows:List (List AV)):ln Try.prog 23 (some (Ad 4 fl nn rows))=some (.ret (.int .i64 rows.length),[]):=dJ ⟨_,Try.underlying23,by kernel_rfl⟩ fl nn rows
theorem ac7(b r len:Nat)(k:IntKind)(i:Int):ia Try.prog 23 (some (.slr 4 b r len)) (some (.int k i))=if 0≤i∧i<len then some (.ret (.ptr b (r+i.toNat) 0),[])else none:=cN ⟨_,Try.underlying23,by kernel_rfl⟩ b r len k i
theorem Nc(fl nn:Bool)(rows:List (List AV))(k:IntKind)(i:Int):ia Try.prog 23 (some (Ad 4 fl nn rows)) (some (.int k i))=if 0≤i then r1 ((rows[i.toNat]?).map .iptr)else none:=cF ⟨_,Try.underlying23,by kernel_rfl⟩ fl nn rows k i
theorem jH(h:Aa)(b r o:Nat):ld Try.prog 48 h (some (.ptr b r o))=ldR (Lh (h[b]?) r) o 4:=fJ ⟨by kernel_rfl,by kernel_rfl⟩ h b r o
theorem Me(h:Aa)(cs:List AV):ld Try.prog 48 h (some (.iptr cs))=if 4≤cs.length then some (.ret (.agg (cs.take 4)),[])else none:=wQ ⟨by kernel_rfl,by kernel_rfl⟩ h cs
theorem Xo:Fp Try.prog 48=some (.agg [.nils,.int .i64 0,.int .i64 0,.bool false]):=by kernel_rfl
theorem Wm(h:Aa)(b r o:Nat)(v:AV):cQ Try.prog 48 h (some (.ptr b r o)) (some v)=sv 4 (h[b]?) b r o (Ah v):=Gh (by kernel_rfl) h b r o v
theorem Ru{O:Ea}(t:List AV)(h:Aa)(s x:Operand):Dl O Try.prog t h (.call ⟨.builtin .append,#[s,x],#[25,25]⟩)=jS Try.prog 25 h (Ae t s) (Ae t x):=aK t h s x 25 25 _ Try.underlying25
theorem pN(h:Aa)(s:AV)(a b r l:Nat):jS Try.prog 25 h (some s) (some (.slr a b r l))=sU 1 h (some s) (srK 1 h (some (.slr a b r l))):=Yz (e:=3) (b:=8) (z:=.int .i64 0) (by kernel_rfl) (by kernel_rfl) (by kernel_rfl) (by kernel_rfl) (by decide+kernel) h s _ (fun q e=>by cases e)
theorem adZ(h:Aa)(s:AV)(st:Nat)(fl:Bool)(rows:List (List AV)):jS Try.prog 25 h (some s) (some (.imm st fl rows))=sU 1 h (some s) (srK 1 h (some (.imm st fl rows))):=Yz (e:=3) (b:=8) (z:=.int .i64 0) (by kernel_rfl) (by kernel_rfl) (by kernel_rfl) (by kernel_rfl) (by decide+kernel) h s _ (fun q e=>by cases e)
theorem Oe(b r o:Nat):fa Try.prog 48 (some (.ptr b r o)) 0=some (.ret (.ptr b r (o+0)),[]):=Dj (show Ef Try.prog 48 0 0 1 from⟨_,_,Try.underlying48,rfl,rfl,by kernel_rfl,by decide⟩) b r o
theorem uL(cs:List AV):fa Try.prog 48 (some (.iptr cs)) 0=if 0+1≤cs.length then some (.ret (.iptr (cs.drop 0)),[])else none:=fZ (show Ef Try.prog 48 0 0 1 from⟨_,_,Try.underlying48,rfl,rfl,by kernel_rfl,by decide⟩) cs
theorem dO(b r len:Nat)(k:IntKind)(i:Int):ia Try.prog 25 (some (.slr 1 b r len)) (some (.int k i))=if 0≤i∧i<len then some (.ret (.ptr b (r+i.toNat) 0),[])else none:=cN ⟨_,Try.underlying25,by kernel_rfl⟩ b r len k i
theorem Jb(fl nn:Bool)(rows:List (List AV))(k:IntKind)(i:Int):ia Try.prog 25 (some (Ad 1 fl nn rows)) (some (.int k i))=if 0≤i then r1 ((rows[i.toNat]?).map .iptr)else none:=cF ⟨_,Try.underlying25,by kernel_rfl⟩ fl nn rows k i
theorem Eo(b r o:Nat):fa Try.prog 27 (some (.ptr b r o)) 0=some (.ret (.ptr b r (o+0)),[]):=Dj (show Ef Try.prog 27 0 0 1 from⟨_,_,Try.underlying27,rfl,rfl,by kernel_rfl,by decide⟩) b r o
theorem Fj(h:Aa)(b r o:Nat):ld Try.prog 22 h (some (.ptr b r o))=vG (Lh (h[b]?) r) o:=Qz ⟨by kernel_rfl,1,by kernel_rfl⟩ h b r o
theorem adE(b r o:Nat):pP Try.prog 22 (some (.ptr b r o))=some [.cells b o 1]:=Ib (isA:=false) (n:=1) (by kernel_rfl) (by kernel_rfl) b r o
theorem Tz(fl nn:Bool)(rows:List (List AV))(k:IntKind)(i:Int):ia Try.prog 22 (some (Ad 3 fl nn rows)) (some (.int k i))=if 0≤i then r1 ((rows[i.toNat]?).map .iptr)else none:=cF ⟨_,Try.underlying22,by kernel_rfl⟩ fl nn rows k i
theorem xJ(h:Aa)(b r o:Nat):ld Try.prog 50 h (some (.ptr b r o))=ldR (Lh (h[b]?) r) o 3:=fJ ⟨by kernel_rfl,by kernel_rfl⟩ h b r o
theorem Qe(h:Aa)(cs:List AV):ld Try.prog 50 h (some (.iptr cs))=if 3≤cs.length then some (.ret (.agg (cs.take 3)),[])else none:=wQ ⟨by kernel_rfl,by kernel_rfl⟩ h cs
theorem aO:Fp Try.prog 50=some (.agg [.int .i64 0,.int .i64 0,.bool false]):=by kernel_rfl
theorem aW(h:Aa)(b r o:Nat)(v:AV):cQ Try.prog 50 h (some (.ptr b r o)) (some v)=sv 3 (h[b]?) b r o (Ah v):=Gh (by kernel_rfl) h b r o v
theorem eZ(b r o:Nat):fa Try.prog 50 (some (.ptr b r o)) 2=some (.ret (.ptr b r (o+2)),[]):=Dj (show Ef Try.prog 50 2 2 1 from⟨_,_,Try.underlying50,rfl,rfl,by kernel_rfl,by decide⟩) b r o
theorem Nb(h:Aa)(b r o:Nat):ld Try.prog 4 h (some (.ptr b r o))=vG (Lh (h[b]?) r) o:=Qz ⟨by kernel_rfl,1,by kernel_rfl⟩ h b r o
theorem Nw(b r o:Nat):fa Try.prog 50 (some (.ptr b r o)) 0=some (.ret (.ptr b r (o+0)),[]):=Dj (show Ef Try.prog 50 0 0 1 from⟨_,_,Try.underlying50,rfl,rfl,by kernel_rfl,by decide⟩) b r o
theorem Oa(b r o:Nat):fa Try.prog 50 (some (.ptr b r o)) 1=some (.ret (.ptr b r (o+1)),[]):=Dj (show Ef Try.prog 50 1 1 1 from⟨_,_,Try.underlying50,rfl,rfl,by kernel_rfl,by decide⟩) b r o
theorem amO(h:Aa)(b r o:Nat)(v:AV):cQ Try.prog 3 h (some (.ptr b r o)) (some v)=sv 1 (h[b]?) b r o (Ah v):=Gh (by kernel_rfl) h b r o v
theorem adF(st b r len:Nat):ln Try.prog 51 (some (.slr st b r len))=some (.ret (.int .i64 len),[]):=dS (n:=1) ⟨_,Try.underlying51,by kernel_rfl⟩ st b r len
theorem fA(b r o:Nat):fa Try.prog 48 (some (.ptr b r o)) 3=some (.ret (.ptr b r (o+3)),[]):=Dj (show Ef Try.prog 48 3 3 1 from⟨_,_,Try.underlying48,rfl,rfl,by kernel_rfl,by decide⟩) b r o
theorem Oc(b r o:Nat):fa Try.prog 48 (some (.ptr b r o)) 2=some (.ret (.ptr b r (o+2)),[]):=Dj (show Ef Try.prog 48 2 2 1 from⟨_,_,Try.underlying48,rfl,rfl,by kernel_rfl,by decide⟩) b r o
theorem abT(b r len:Nat)(k:IntKind)(i:Int):ia Try.prog 51 (some (.slr 1 b r len)) (some (.int k i))=if 0≤i∧i<len then some (.ret (.ptr b (r+i.toNat) 0),[])else none:=cN ⟨_,Try.underlying51,by kernel_rfl⟩ b r len k i
theorem Xp(b r o:Nat):fa Try.prog 48 (some (.ptr b r o)) 1=some (.ret (.ptr b r (o+1)),[]):=Dj (show Ef Try.prog 48 1 1 1 from⟨_,_,Try.underlying48,rfl,rfl,by kernel_rfl,by decide⟩) b r o
theorem Kv(fl nn:Bool)(rows:List (List AV)):ln Try.prog 22 (some (Ad 3 fl nn rows))=some (.ret (.int .i64 rows.length),[]):=dJ ⟨_,Try.underlying22,by kernel_rfl⟩ fl nn rows
theorem ajR:Fp Try.prog 27=some (.agg [.nils,.nils,.nils,.int .i64 0,.int .i64 0,.int .i64 0,.nils]):=by kernel_rfl
theorem alW(h:Aa)(b r o:Nat)(v:AV):cQ Try.prog 27 h (some (.ptr b r o)) (some v)=sv 7 (h[b]?) b r o (Ah v):=Gh (by kernel_rfl) h b r o v
theorem mP{O:Ea}(t:List AV)(h:Aa)(s x:Operand):Dl O Try.prog t h (.call ⟨.builtin .append,#[s,x],#[22,22]⟩)=jS Try.prog 22 h (Ae t s) (Ae t x):=aK t h s x 22 22 _ Try.underlying22
theorem abS(h:Aa)(s:AV)(st:Nat)(fl:Bool)(rows:List (List AV)):jS Try.prog 22 h (some s) (some (.imm st fl rows))=sU 3 h (some s) (srK 3 h (some (.imm st fl rows))):=Yz (e:=50) (b:=24) (z:=.agg [.int .i64 0,.int .i64 0,.bool false]) (by kernel_rfl) (by kernel_rfl) (by kernel_rfl) (by kernel_rfl) (by decide+kernel) h s _ (fun q e=>by cases e)
theorem akZ(h:Aa)(b r o:Nat)(v:AV):cQ Try.prog 22 h (some (.ptr b r o)) (some v)=sv 1 (h[b]?) b r o (Ah v):=Gh (by kernel_rfl) h b r o v
theorem adO(b r o:Nat):xI Try.prog 22 (some (.ptr b r o))=some [.cells b o 1]:=Nn (by kernel_rfl) b r o
theorem aaI(h:Aa)(b r o:Nat)(v:AV):cQ Try.prog 4 h (some (.ptr b r o)) (some v)=sv 1 (h[b]?) b r o (Ah v):=Gh (by kernel_rfl) h b r o v
theorem Nu(b r o:Nat):fa Try.prog 27 (some (.ptr b r o)) 2=some (.ret (.ptr b r (o+2)),[]):=Dj (show Ef Try.prog 27 2 2 1 from⟨_,_,Try.underlying27,rfl,rfl,by kernel_rfl,by decide⟩) b r o
theorem Qh(h:Aa)(b r o:Nat):ld Try.prog 24 h (some (.ptr b r o))=vG (Lh (h[b]?) r) o:=Qz ⟨by kernel_rfl,1,by kernel_rfl⟩ h b r o
theorem aeW(b r o:Nat):pP Try.prog 24 (some (.ptr b r o))=some [.cells b o 1]:=Ib (isA:=false) (n:=1) (by kernel_rfl) (by kernel_rfl) b r o
theorem af1(st b r len:Nat):ln Try.prog 24 (some (.slr st b r len))=some (.ret (.int .i64 len),[]):=dS (n:=5) ⟨_,Try.underlying24,by kernel_rfl⟩ st b r len
theorem aeN:ln Try.prog 24 (some .nils)=some (.ret (.int .i64 0),[]):=gW (n:=5) ⟨_,Try.underlying24,by kernel_rfl⟩
theorem Ue(fl nn:Bool)(rows:List (List AV)):ln Try.prog 24 (some (Ad 5 fl nn rows))=some (.ret (.int .i64 rows.length),[]):=dJ ⟨_,Try.underlying24,by kernel_rfl⟩ fl nn rows
theorem ahQ:Fp Try.prog 56=some (.agg [.int .i64 0,.bool false]):=by kernel_rfl
theorem abY(base len:Nat)(ps:List (Nat × AV)):rD (Bm Try.prog base 57 len ps)=bsK 2 (.agg [.int .i64 0,.bool false]) base len ps:=rI (e:=56) (by kernel_rfl) (by kernel_rfl) (by kernel_rfl) base len ps
theorem agZ:Fp Try.prog 59=some (.agg [.int .i64 0,.int .i64 0,.nils,.int .i64 0,.int .i64 0]):=by kernel_rfl
theorem abW(base len:Nat)(ps:List (Nat × AV)):rD (Bm Try.prog base 24 len ps)=bsK 5 (.agg [.int .i64 0,.int .i64 0,.nils,.int .i64 0,.int .i64 0]) base len ps:=rI (e:=59) (by kernel_rfl) (by kernel_rfl) (by kernel_rfl) base len ps
theorem mA{O:Ea}(t:List AV)(h:Aa)(s x:Operand):Dl O Try.prog t h (.call ⟨.builtin .append,#[s,x],#[24,24]⟩)=jS Try.prog 24 h (Ae t s) (Ae t x):=aK t h s x 24 24 _ Try.underlying24
theorem aeK(h:Aa)(s:AV)(st:Nat)(fl:Bool)(rows:List (List AV)):jS Try.prog 24 h (some s) (some (.imm st fl rows))=sU 5 h (some s) (srK 5 h (some (.imm st fl rows))):=Yz (e:=59) (b:=56) (z:=.agg [.int .i64 0,.int .i64 0,.nils,.int .i64 0,.int .i64 0]) (by kernel_rfl) (by kernel_rfl) (by kernel_rfl) (by kernel_rfl) (by decide+kernel) h s _ (fun q e=>by cases e)
theorem akB(h:Aa)(b r o:Nat)(v:AV):cQ Try.prog 24 h (some (.ptr b r o)) (some v)=sv 1 (h[b]?) b r o (Ah v):=Gh (by kernel_rfl) h b r o v
theorem afN(b r o:Nat):xI Try.prog 24 (some (.ptr b r o))=some [.cells b o 1]:=Nn (by kernel_rfl) b r o
theorem nI(fl nn:Bool)(rows:List (List AV)):ln Try.prog 66 (some (Ad 2 fl nn rows))=some (.ret (.int .i64 rows.length),[]):=dJ ⟨_,Try.underlying66,by kernel_rfl⟩ fl nn rows
theorem Oh(b r o:Nat):fa Try.prog 27 (some (.ptr b r o)) 5=some (.ret (.ptr b r (o+5)),[]):=Dj (show Ef Try.prog 27 5 5 1 from⟨_,_,Try.underlying27,rfl,rfl,by kernel_rfl,by decide⟩) b r o
theorem oC(fl nn:Bool)(rows:List (List AV))(k:IntKind)(i:Int):ia Try.prog 66 (some (Ad 2 fl nn rows)) (some (.int k i))=if 0≤i then r1 ((rows[i.toNat]?).map .iptr)else none:=cF ⟨_,Try.underlying66,by kernel_rfl⟩ fl nn rows k i
theorem adA(b r len:Nat)(k:IntKind)(i:Int):ia Try.prog 24 (some (.slr 5 b r len)) (some (.int k i))=if 0≤i∧i<len then some (.ret (.ptr b (r+i.toNat) 0),[])else none:=cN ⟨_,Try.underlying24,by kernel_rfl⟩ b r len k i
theorem Yj(fl nn:Bool)(rows:List (List AV))(k:IntKind)(i:Int):ia Try.prog 24 (some (Ad 5 fl nn rows)) (some (.int k i))=if 0≤i then r1 ((rows[i.toNat]?).map .iptr)else none:=cF ⟨_,Try.underlying24,by kernel_rfl⟩ fl nn rows k i
theorem Qw(b r o:Nat):fa Try.prog 59 (some (.ptr b r o)) 2=some (.ret (.ptr b r (o+2)),[]):=Dj (show Ef Try.prog 59 2 2 1 from⟨_,_,Try.underlying59,rfl,rfl,by kernel_rfl,by decide⟩) b r o
theorem uR(cs:List AV):fa Try.prog 59 (some (.iptr cs)) 2=if 2+1≤cs.length then some (.ret (.iptr (cs.drop 2)),[])else none:=fZ (show Ef Try.prog 59 2 2 1 from⟨_,_,Try.underlying59,rfl,rfl,by kernel_rfl,by decide⟩) cs
theorem Um(h:Aa)(b r o:Nat):ld Try.prog 57 h (some (.ptr b r o))=vG (Lh (h[b]?) r) o:=Qz ⟨by kernel_rfl,1,by kernel_rfl⟩ h b r o
theorem yJ(h:Aa)(c:AV)(cs:List AV):ld Try.prog 57 h (some (.iptr (c::cs)))=some (.ret c,[]):=akJ ⟨by kernel_rfl,1,by kernel_rfl⟩ h c cs
theorem adB(b r o:Nat):pP Try.prog 57 (some (.ptr b r o))=some [.cells b o 1]:=Ib (isA:=false) (n:=1) (by kernel_rfl) (by kernel_rfl) b r o
theorem Yd(fl nn:Bool)(rows:List (List AV)):ln Try.prog 57 (some (Ad 2 fl nn rows))=some (.ret (.int .i64 rows.length),[]):=dJ ⟨_,Try.underlying57,by kernel_rfl⟩ fl nn rows
theorem Rh(b r o:Nat):fa Try.prog 27 (some (.ptr b r o)) 6=some (.ret (.ptr b r (o+6)),[]):=Dj (show Ef Try.prog 27 6 6 1 from⟨_,_,Try.underlying27,rfl,rfl,by kernel_rfl,by decide⟩) b r o
theorem dM(base len:Nat)(ps:List (Nat × AV)):rD (Bm Try.prog base 25 len ps)=bsK 1 (.int .i64 0) base len ps:=rI (e:=3) (by kernel_rfl) (by kernel_rfl) (by kernel_rfl) base len ps
theorem aiA:Fp Try.prog 29=some (.agg [.nils,.int .i64 0]):=by kernel_rfl
theorem aiU(h:Aa)(b r o:Nat)(v:AV):cQ Try.prog 29 h (some (.ptr b r o)) (some v)=sv 2 (h[b]?) b r o (Ah v):=Gh (by kernel_rfl) h b r o v
theorem ad8(b r o:Nat):xI Try.prog 29 (some (.ptr b r o))=some [.cells b o 2]:=Nn (by kernel_rfl) b r o
theorem nE(base len:Nat)(ps:List (Nat × AV)):rD (Bm Try.prog base 66 len ps)=bsK 2 (.agg [.nils,.int .i64 0]) base len ps:=rI (e:=29) (by kernel_rfl) (by kernel_rfl) (by kernel_rfl) base len ps
theorem Yf(ps:List (Nat × AV)):Ly Try.prog 86 ps=(Jj (fun i=>([(0,1),(1,1)]:List (Nat × Nat))[i]?) (Ah (.agg [.int .i64 0,.int .i64 0])) ps).map .agg:=by kernel_rfl
theorem Rl(b r o:Nat):fa Try.prog 29 (some (.ptr b r o)) 1=some (.ret (.ptr b r (o+1)),[]):=Dj (show Ef Try.prog 29 1 1 1 from⟨_,_,Try.underlying29,rfl,rfl,by kernel_rfl,by decide⟩) b r o
theorem oU(ps:List (Nat × AV)):Ly Try.prog 90 ps=(Jj (fun i=>([(0,1),(1,1)]:List (Nat × Nat))[i]?) (Ah (.agg [.int .i64 0,.int .i64 0])) ps).map .agg:=by kernel_rfl
theorem bY:Fp Try.prog 86=some (.agg [.int .i64 0,.int .i64 0]):=by kernel_rfl
theorem Wy(h:Aa)(b r o:Nat)(v:AV):cQ Try.prog 86 h (some (.ptr b r o)) (some v)=sv 2 (h[b]?) b r o (Ah v):=Gh (by kernel_rfl) h b r o v
theorem acR(b r o:Nat):xI Try.prog 86 (some (.ptr b r o))=some [.cells b o 2]:=Nn (by kernel_rfl) b r o
theorem Re(b r o:Nat):fa Try.prog 86 (some (.ptr b r o)) 0=some (.ret (.ptr b r (o+0)),[]):=Dj (show Ef Try.prog 86 0 0 1 from⟨_,_,Try.underlying86,rfl,rfl,by kernel_rfl,by decide⟩) b r o
theorem eR(b r o:Nat):fa Try.prog 86 (some (.ptr b r o)) 1=some (.ret (.ptr b r (o+1)),[]):=Dj (show Ef Try.prog 86 1 1 1 from⟨_,_,Try.underlying86,rfl,rfl,by kernel_rfl,by decide⟩) b r o
theorem Hj(b r o:Nat):fa Try.prog 27 (some (.ptr b r o)) 4=some (.ret (.ptr b r (o+4)),[]):=Dj (show Ef Try.prog 27 4 4 1 from⟨_,_,Try.underlying27,rfl,rfl,by kernel_rfl,by decide⟩) b r o
theorem kM(h:Aa)(b r o:Nat):ld Try.prog 59 h (some (.ptr b r o))=ldR (Lh (h[b]?) r) o 5:=fJ ⟨by kernel_rfl,by kernel_rfl⟩ h b r o
theorem Zj(h:Aa)(cs:List AV):ld Try.prog 59 h (some (.iptr cs))=if 5≤cs.length then some (.ret (.agg (cs.take 5)),[])else none:=wQ ⟨by kernel_rfl,by kernel_rfl⟩ h cs
theorem Wz(b r o:Nat):fa Try.prog 59 (some (.ptr b r o)) 1=some (.ret (.ptr b r (o+1)),[]):=Dj (show Ef Try.prog 59 1 1 1 from⟨_,_,Try.underlying59,rfl,rfl,by kernel_rfl,by decide⟩) b r o
theorem uV:Fp Try.prog 96=some (.nils):=by kernel_rfl
theorem tB(h:Aa)(b r o:Nat)(v:AV):cQ Try.prog 96 h (some (.ptr b r o)) (some v)=sv 1 (h[b]?) b r o (Ah v):=Gh (by kernel_rfl) h b r o v
theorem aeQ(b r o:Nat):xI Try.prog 96 (some (.ptr b r o))=some [.cells b o 1]:=Nn (by kernel_rfl) b r o
theorem Uy(h:Aa)(b r o:Nat):ld Try.prog 96 h (some (.ptr b r o))=vG (Lh (h[b]?) r) o:=Qz ⟨by kernel_rfl,1,by kernel_rfl⟩ h b r o
theorem acB(b r o:Nat):pP Try.prog 96 (some (.ptr b r o))=some [.cells b o 1]:=Ib (isA:=false) (n:=1) (by kernel_rfl) (by kernel_rfl) b r o
theorem adP:Fp Try.prog 103=some (.nilm):=by kernel_rfl
theorem afO(h:Aa)(b r o:Nat)(v:AV):cQ Try.prog 103 h (some (.ptr b r o)) (some v)=sv 1 (h[b]?) b r o (Ah v):=Gh (by kernel_rfl) h b r o v
theorem anJ:Fp Try.prog 4=some (.bool false):=by kernel_rfl
theorem acS:Fp Try.prog 104=some (.nilf):=by kernel_rfl
theorem aeI(h:Aa)(b r o:Nat)(v:AV):cQ Try.prog 104 h (some (.ptr b r o)) (some v)=sv 1 (h[b]?) b r o (Ah v):=Gh (by kernel_rfl) h b r o v
theorem pJ(st b r len:Nat):ln Try.prog 99 (some (.slr st b r len))=some (.ret (.int .i64 len),[]):=dS (n:=2) ⟨_,Try.underlying99,by kernel_rfl⟩ st b r len
theorem aeU:ln Try.prog 99 (some .nils)=some (.ret (.int .i64 0),[]):=gW (n:=2) ⟨_,Try.underlying99,by kernel_rfl⟩
theorem nY(b r len:Nat)(k:IntKind)(i:Int):ia Try.prog 99 (some (.slr 2 b r len)) (some (.int k i))=if 0≤i∧i<len then some (.ret (.ptr b (r+i.toNat) 0),[])else none:=cN ⟨_,Try.underlying99,by kernel_rfl⟩ b r len k i
theorem Jo(h:Aa)(b r o:Nat):ld Try.prog 86 h (some (.ptr b r o))=ldR (Lh (h[b]?) r) o 2:=fJ ⟨by kernel_rfl,by kernel_rfl⟩ h b r o
theorem dH(b r o:Nat):pP Try.prog 86 (some (.ptr b r o))=some [.cells b o 2]:=Ib (isA:=true) (n:=2) (by kernel_rfl) (by kernel_rfl) b r o
theorem eX(h:Aa)(b r o:Nat):ld Try.prog 104 h (some (.ptr b r o))=vG (Lh (h[b]?) r) o:=Qz ⟨by kernel_rfl,1,by kernel_rfl⟩ h b r o
theorem xH(b r o:Nat):pP Try.prog 104 (some (.ptr b r o))=some [.cells b o 1]:=Ib (isA:=false) (n:=1) (by kernel_rfl) (by kernel_rfl) b r o
theorem Yw{O:Ea}(t:List AV)(h:Aa)(s x:Operand):Dl O Try.prog t h (.call ⟨.builtin .append,#[s,x],#[66,66]⟩)=jS Try.prog 66 h (Ae t s) (Ae t x):=aK t h s x 66 66 _ Try.underlying66
theorem pB(h:Aa)(s:AV)(a b r l:Nat):jS Try.prog 66 h (some s) (some (.slr a b r l))=sU 2 h (some s) (srK 2 h (some (.slr a b r l))):=Yz (e:=29) (b:=32) (z:=.agg [.nils,.int .i64 0]) (by kernel_rfl) (by kernel_rfl) (by kernel_rfl) (by kernel_rfl) (by decide+kernel) h s _ (fun q e=>by cases e)
theorem ae1(base:Nat)(l c:Option AV):msO Try.prog 25 base l c=msK 1 (.int .i64 0) base l c:=ax0 (e:=3) (n:=1) (b:=8) (by kernel_rfl) (by kernel_rfl) (by kernel_rfl) (by kernel_rfl) (by decide+kernel) base l c
theorem afY(base len:Nat)(ps:List (Nat × AV)):rD (Bm Try.prog base 51 len ps)=bsK 1 (.bool false) base len ps:=rI (e:=4) (by kernel_rfl) (by kernel_rfl) (by kernel_rfl) base len ps
theorem lW{O:Ea}(t:List AV)(h:Aa)(s x:Operand):Dl O Try.prog t h (.call ⟨.builtin .append,#[s,x],#[51,51]⟩)=jS Try.prog 51 h (Ae t s) (Ae t x):=aK t h s x 51 51 _ Try.underlying51
theorem ae3(h:Aa)(s:AV)(a b r l:Nat):jS Try.prog 51 h (some s) (some (.slr a b r l))=sU 1 h (some s) (srK 1 h (some (.slr a b r l))):=Yz (e:=4) (b:=1) (z:=.bool false) (by kernel_rfl) (by kernel_rfl) (by kernel_rfl) (by kernel_rfl) (by decide+kernel) h s _ (fun q e=>by cases e)
theorem ahJ:Fp Try.prog 66=some (.nils):=by kernel_rfl
theorem uM(h:Aa)(b r o:Nat)(v:AV):cQ Try.prog 66 h (some (.ptr b r o)) (some v)=sv 1 (h[b]?) b r o (Ah v):=Gh (by kernel_rfl) h b r o v
theorem pC(b r o:Nat):xI Try.prog 66 (some (.ptr b r o))=some [.cells b o 1]:=Nn (by kernel_rfl) b r o
theorem Zy(h:Aa)(b r o:Nat):ld Try.prog 66 h (some (.ptr b r o))=vG (Lh (h[b]?) r) o:=Qz ⟨by kernel_rfl,1,by kernel_rfl⟩ h b r o
theorem oG(b r o:Nat):pP Try.prog 66 (some (.ptr b r o))=some [.cells b o 1]:=Ib (isA:=false) (n:=1) (by kernel_rfl) (by kernel_rfl) b r o
theorem xW(ps:List (Nat × AV)):Ly Try.prog 119 ps=(Jj (fun i=>([(0,7),(7,2),(9,1),(10,1)]:List (Nat × Nat))[i]?) (Ah (.agg [.nils,.nils,.nils,.int .i64 0,.int .i64 0,.int .i64 0,.nils,.int .i64 0,.int .i64 0,.nils,.bool false])) ps).map .agg:=by kernel_rfl
theorem qI(b r o:Nat):fa Try.prog 119 (some (.ptr b r o)) 0=some (.ret (.ptr b r (o+0)),[]):=Dj (show Ef Try.prog 119 0 0 7 from⟨_,_,Try.underlying119,rfl,rfl,by kernel_rfl,by decide⟩) b r o
theorem qG(b r o:Nat):fa Try.prog 119 (some (.ptr b r o)) 2=some (.ret (.ptr b r (o+9)),[]):=Dj (show Ef Try.prog 119 2 9 1 from⟨_,_,Try.underlying119,rfl,rfl,by kernel_rfl,by decide⟩) b r o
theorem rH(b r o:Nat):fa Try.prog 119 (some (.ptr b r o)) 1=some (.ret (.ptr b r (o+7)),[]):=Dj (show Ef Try.prog 119 1 7 2 from⟨_,_,Try.underlying119,rfl,rfl,by kernel_rfl,by decide⟩) b r o
theorem ae8(base len:Nat)(ps:List (Nat × AV)):rD (Bm Try.prog base 22 len ps)=bsK 3 (.agg [.int .i64 0,.int .i64 0,.bool false]) base len ps:=rI (e:=50) (by kernel_rfl) (by kernel_rfl) (by kernel_rfl) base len ps
theorem ab3(base len:Nat)(ps:List (Nat × AV)):rD (Bm Try.prog base 23 len ps)=bsK 4 (.agg [.nils,.int .i64 0,.int .i64 0,.bool false]) base len ps:=rI (e:=48) (by kernel_rfl) (by kernel_rfl) (by kernel_rfl) base len ps
theorem pF(ps:List (Nat × AV)):Ly Try.prog 29 ps=(Jj (fun i=>([(0,1),(1,1)]:List (Nat × Nat))[i]?) (Ah (.agg [.nils,.int .i64 0])) ps).map .agg:=by kernel_rfl
theorem aiZ(h:Aa)(b r o:Nat)(v:AV):cQ Try.prog 59 h (some (.ptr b r o)) (some v)=sv 5 (h[b]?) b r o (Ah v):=Gh (by kernel_rfl) h b r o v
theorem aD(h:Aa)(b r o:Nat):ld Try.prog 90 h (some (.ptr b r o))=ldR (Lh (h[b]?) r) o 2:=fJ ⟨by kernel_rfl,by kernel_rfl⟩ h b r o
theorem adX(b r o:Nat):pP Try.prog 90 (some (.ptr b r o))=some [.cells b o 2]:=Ib (isA:=true) (n:=2) (by kernel_rfl) (by kernel_rfl) b r o
theorem yE(ps:List (Nat × AV)):Ly Try.prog 126 ps=(Jj (fun i=>([(0,5),(5,2),(7,2)]:List (Nat × Nat))[i]?) (Ah (.agg [.int .i64 0,.int .i64 0,.nils,.int .i64 0,.int .i64 0,.int .i64 0,.int .i64 0,.int .i64 0,.int .i64 0])) ps).map .agg:=by kernel_rfl
theorem dD(fl nn:Bool)(rows:List (List AV))(k:IntKind)(i:Int):ia Try.prog 57 (some (Ad 2 fl nn rows)) (some (.int k i))=if 0≤i then r1 ((rows[i.toNat]?).map .iptr)else none:=cF ⟨_,Try.underlying57,by kernel_rfl⟩ fl nn rows k i
theorem Xs(b r o:Nat):fa Try.prog 56 (some (.ptr b r o)) 0=some (.ret (.ptr b r (o+0)),[]):=Dj (show Ef Try.prog 56 0 0 1 from⟨_,_,Try.underlying56,rfl,rfl,by kernel_rfl,by decide⟩) b r o
theorem vK(cs:List AV):fa Try.prog 56 (some (.iptr cs)) 0=if 0+1≤cs.length then some (.ret (.iptr (cs.drop 0)),[])else none:=fZ (show Ef Try.prog 56 0 0 1 from⟨_,_,Try.underlying56,rfl,rfl,by kernel_rfl,by decide⟩) cs
theorem Wg(b r o:Nat):fa Try.prog 59 (some (.ptr b r o)) 0=some (.ret (.ptr b r (o+0)),[]):=Dj (show Ef Try.prog 59 0 0 1 from⟨_,_,Try.underlying59,rfl,rfl,by kernel_rfl,by decide⟩) b r o
theorem Wq(b r o:Nat):fa Try.prog 59 (some (.ptr b r o)) 3=some (.ret (.ptr b r (o+3)),[]):=Dj (show Ef Try.prog 59 3 3 1 from⟨_,_,Try.underlying59,rfl,rfl,by kernel_rfl,by decide⟩) b r o
theorem Wi(b r o:Nat):fa Try.prog 59 (some (.ptr b r o)) 4=some (.ret (.ptr b r (o+4)),[]):=Dj (show Ef Try.prog 59 4 4 1 from⟨_,_,Try.underlying59,rfl,rfl,by kernel_rfl,by decide⟩) b r o
theorem wT(b r o:Nat):fa Try.prog 56 (some (.ptr b r o)) 1=some (.ret (.ptr b r (o+1)),[]):=Dj (show Ef Try.prog 56 1 1 1 from⟨_,_,Try.underlying56,rfl,rfl,by kernel_rfl,by decide⟩) b r o
theorem adY:Fp Try.prog 129=some (.nilm):=by kernel_rfl
theorem afH(h:Aa)(b r o:Nat)(v:AV):cQ Try.prog 129 h (some (.ptr b r o)) (some v)=sv 1 (h[b]?) b r o (Ah v):=Gh (by kernel_rfl) h b r o v
theorem sA:Fp Try.prog 25=some (.nils):=by kernel_rfl
theorem jR(h:Aa)(b r o:Nat)(v:AV):cQ Try.prog 25 h (some (.ptr b r o)) (some v)=sv 1 (h[b]?) b r o (Ah v):=Gh (by kernel_rfl) h b r o v
theorem acH(b r o:Nat):xI Try.prog 25 (some (.ptr b r o))=some [.cells b o 1]:=Nn (by kernel_rfl) b r o
theorem aeY:Fp Try.prog 130=some (.nilf):=by kernel_rfl
theorem af0(h:Aa)(b r o:Nat)(v:AV):cQ Try.prog 130 h (some (.ptr b r o)) (some v)=sv 1 (h[b]?) b r o (Ah v):=Gh (by kernel_rfl) h b r o v
theorem eO(h:Aa)(b r o:Nat):ld Try.prog 130 h (some (.ptr b r o))=vG (Lh (h[b]?) r) o:=Qz ⟨by kernel_rfl,1,by kernel_rfl⟩ h b r o
theorem yI(ps:List (Nat × AV)):Ly Try.prog 114 ps=(Jj (fun i=>([(0,2),(2,1)]:List (Nat × Nat))[i]?) (Ah (.agg [.int .i64 0,.int .i64 0,.int .i64 0])) ps).map .agg:=by kernel_rfl
theorem zM(ps:List (Nat × AV)):Ly Try.prog 135 ps=(Jj (fun i=>([(0,1)]:List (Nat × Nat))[i]?) (Ah (.agg [.nils])) ps).map .agg:=by kernel_rfl
theorem pA(base len:Nat)(ps:List (Nat × AV)):rD (Bm Try.prog base 99 len ps)=bsK 2 (.agg [.int .i64 0,.int .i64 0]) base len ps:=rI (e:=86) (by kernel_rfl) (by kernel_rfl) (by kernel_rfl) base len ps
theorem Zd{O:Ea}(t:List AV)(h:Aa)(s x:Operand):Dl O Try.prog t h (.call ⟨.builtin .append,#[s,x],#[99,99]⟩)=jS Try.prog 99 h (Ae t s) (Ae t x):=aK t h s x 99 99 _ Try.underlying99
theorem oN(h:Aa)(s:AV)(a b r l:Nat):jS Try.prog 99 h (some s) (some (.slr a b r l))=sU 2 h (some s) (srK 2 h (some (.slr a b r l))):=Yz (e:=86) (b:=16) (z:=.agg [.int .i64 0,.int .i64 0]) (by kernel_rfl) (by kernel_rfl) (by kernel_rfl) (by kernel_rfl) (by decide+kernel) h s _ (fun q e=>by cases e)
theorem nQ(st b r len:Nat):ln Try.prog 96 (some (.slr st b r len))=some (.ret (.int .i64 len),[]):=dS (n:=2) ⟨_,Try.underlying96,by kernel_rfl⟩ st b r len
theorem nF(b r len:Nat)(k:IntKind)(i:Int):ia Try.prog 96 (some (.slr 2 b r len)) (some (.int k i))=if 0≤i∧i<len then some (.ret (.ptr b (r+i.toNat) 0),[])else none:=cN ⟨_,Try.underlying96,by kernel_rfl⟩ b r len k i
theorem sZ:Fp Try.prog 90=some (.agg [.int .i64 0,.int .i64 0]):=by kernel_rfl
theorem uP(h:Aa)(b r o:Nat)(v:AV):cQ Try.prog 90 h (some (.ptr b r o)) (some v)=sv 2 (h[b]?) b r o (Ah v):=Gh (by kernel_rfl) h b r o v
theorem ab1:Fp Try.prog 114=some (.agg [.int .i64 0,.int .i64 0,.int .i64 0]):=by kernel_rfl
theorem ab2(h:Aa)(b r o:Nat)(v:AV):cQ Try.prog 114 h (some (.ptr b r o)) (some v)=sv 3 (h[b]?) b r o (Ah v):=Gh (by kernel_rfl) h b r o v
theorem uA(h:Aa)(b r o:Nat):ld Try.prog 103 h (some (.ptr b r o))=vG (Lh (h[b]?) r) o:=Qz ⟨by kernel_rfl,1,by kernel_rfl⟩ h b r o
theorem eP(b r o:Nat):fa Try.prog 90 (some (.ptr b r o)) 0=some (.ret (.ptr b r (o+0)),[]):=Dj (show Ef Try.prog 90 0 0 1 from⟨_,_,Try.underlying90,rfl,rfl,by kernel_rfl,by decide⟩) b r o
theorem aeZ(n:Nat)(fl:Bool)(rows:List (List AV)):Fz Try.prog .eql 25 (.imm n fl rows) .nils=some (.bool false):=Nx Try.underlying25 n fl rows
theorem ae5:Fz Try.prog .eql 25 .nils .nils=some (.bool true):=Le Try.underlying25
theorem ah6(h:Aa)(b r o:Nat)(v:AV):cQ Try.prog 23 h (some (.ptr b r o)) (some v)=sv 1 (h[b]?) b r o (Ah v):=Gh (by kernel_rfl) h b r o v
theorem adW(b r o:Nat):xI Try.prog 23 (some (.ptr b r o))=some [.cells b o 1]:=Nn (by kernel_rfl) b r o
theorem alT(h:Aa)(b r o:Nat)(v:AV):cQ Try.prog 57 h (some (.ptr b r o)) (some v)=sv 1 (h[b]?) b r o (Ah v):=Gh (by kernel_rfl) h b r o v
theorem adL(b r o:Nat):xI Try.prog 57 (some (.ptr b r o))=some [.cells b o 1]:=Nn (by kernel_rfl) b r o
theorem pZ(b r o:Nat):fa Try.prog 119 (some (.ptr b r o)) 3=some (.ret (.ptr b r (o+10)),[]):=Dj (show Ef Try.prog 119 3 10 1 from⟨_,_,Try.underlying119,rfl,rfl,by kernel_rfl,by decide⟩) b r o
theorem iG(h:Aa)(cs:List AV):ld Try.prog 56 h (some (.iptr cs))=if 2≤cs.length then some (.ret (.agg (cs.take 2)),[])else none:=wQ ⟨by kernel_rfl,by kernel_rfl⟩ h cs
theorem ai6(h:Aa)(b r o:Nat)(v:AV):cQ Try.prog 56 h (some (.ptr b r o)) (some v)=sv 2 (h[b]?) b r o (Ah v):=Gh (by kernel_rfl) h b r o v
theorem eW(h:Aa)(b r o:Nat):ld Try.prog 126 h (some (.ptr b r o))=ldR (Lh (h[b]?) r) o 9:=fJ ⟨by kernel_rfl,by kernel_rfl⟩ h b r o
theorem wX(h:Aa)(b r o:Nat):ld Try.prog 129 h (some (.ptr b r o))=vG (Lh (h[b]?) r) o:=Qz ⟨by kernel_rfl,1,by kernel_rfl⟩ h b r o
theorem ac2(base len:Nat)(ps:List (Nat × AV)):rD (Bm Try.prog base 96 len ps)=bsK 2 (.agg [.int .i64 0,.int .i64 0]) base len ps:=rI (e:=90) (by kernel_rfl) (by kernel_rfl) (by kernel_rfl) base len ps
theorem mD{O:Ea}(t:List AV)(h:Aa)(s x:Operand):Dl O Try.prog t h (.call ⟨.builtin .append,#[s,x],#[96,96]⟩)=jS Try.prog 96 h (Ae t s) (Ae t x):=aK t h s x 96 96 _ Try.underlying96
theorem af2(h:Aa)(s:AV)(a b r l:Nat):jS Try.prog 96 h (some s) (some (.slr a b r l))=sU 2 h (some s) (srK 2 h (some (.slr a b r l))):=Yz (e:=90) (b:=16) (z:=.agg [.int .i64 0,.int .i64 0]) (by kernel_rfl) (by kernel_rfl) (by kernel_rfl) (by kernel_rfl) (by decide+kernel) h s _ (fun q e=>by cases e)
theorem ab7(n:Nat)(fl:Bool)(rows:List (List AV)):Fz Try.prog .eql 22 (.imm n fl rows) .nils=some (.bool false):=Nx Try.underlying22 n fl rows
theorem afJ:Fz Try.prog .eql 22 .nils .nils=some (.bool true):=Le Try.underlying22
theorem acD(n:Nat)(fl:Bool)(rows:List (List AV)):Fz Try.prog .eql 23 (.imm n fl rows) .nils=some (.bool false):=Nx Try.underlying23 n fl rows
theorem ad1:Fz Try.prog .eql 23 .nils .nils=some (.bool true):=Le Try.underlying23
theorem mV{O:Ea}(t:List AV)(h:Aa)(s x:Operand):Dl O Try.prog t h (.call ⟨.builtin .append,#[s,x],#[23,23]⟩)=jS Try.prog 23 h (Ae t s) (Ae t x):=aK t h s x 23 23 _ Try.underlying23
theorem acV(h:Aa)(s:AV)(st:Nat)(fl:Bool)(rows:List (List AV)):jS Try.prog 23 h (some s) (some (.imm st fl rows))=sU 4 h (some s) (srK 4 h (some (.imm st fl rows))):=Yz (e:=48) (b:=48) (z:=.agg [.nils,.int .i64 0,.int .i64 0,.bool false]) (by kernel_rfl) (by kernel_rfl) (by kernel_rfl) (by kernel_rfl) (by decide+kernel) h s _ (fun q e=>by cases e)
theorem ac3(n:Nat)(fl:Bool)(rows:List (List AV)):Fz Try.prog .eql 24 (.imm n fl rows) .nils=some (.bool false):=Nx Try.underlying24 n fl rows
theorem acX:Fz Try.prog .eql 24 .nils .nils=some (.bool true):=Le Try.underlying24
theorem acL(n:Nat)(fl:Bool)(rows:List (List AV)):Fz Try.prog .eql 57 (.imm n fl rows) .nils=some (.bool false):=Nx Try.underlying57 n fl rows
theorem acA:Fz Try.prog .eql 57 .nils .nils=some (.bool true):=Le Try.underlying57
theorem mN{O:Ea}(t:List AV)(h:Aa)(s x:Operand):Dl O Try.prog t h (.call ⟨.builtin .append,#[s,x],#[57,57]⟩)=jS Try.prog 57 h (Ae t s) (Ae t x):=aK t h s x 57 57 _ Try.underlying57
theorem abZ(h:Aa)(s:AV)(st:Nat)(fl:Bool)(rows:List (List AV)):jS Try.prog 57 h (some s) (some (.imm st fl rows))=sU 2 h (some s) (srK 2 h (some (.imm st fl rows))):=Yz (e:=56) (b:=16) (z:=.agg [.int .i64 0,.bool false]) (by kernel_rfl) (by kernel_rfl) (by kernel_rfl) (by kernel_rfl) (by decide+kernel) h s _ (fun q e=>by cases e)
theorem Oy(b r o:Nat):fa Try.prog 126 (some (.ptr b r o)) 0=some (.ret (.ptr b r (o+0)),[]):=Dj (show Ef Try.prog 126 0 0 5 from⟨_,_,Try.underlying126,rfl,rfl,by kernel_rfl,by decide⟩) b r o
theorem bW(b r o:Nat):fa Try.prog 126 (some (.ptr b r o)) 1=some (.ret (.ptr b r (o+5)),[]):=Dj (show Ef Try.prog 126 1 5 2 from⟨_,_,Try.underlying126,rfl,rfl,by kernel_rfl,by decide⟩) b r o
theorem cA(b r o:Nat):fa Try.prog 126 (some (.ptr b r o)) 2=some (.ret (.ptr b r (o+7)),[]):=Dj (show Ef Try.prog 126 2 7 2 from⟨_,_,Try.underlying126,rfl,rfl,by kernel_rfl,by decide⟩) b r o
theorem wB(b r o:Nat):fa Try.prog 90 (some (.ptr b r o)) 1=some (.ret (.ptr b r (o+1)),[]):=Dj (show Ef Try.prog 90 1 1 1 from⟨_,_,Try.underlying90,rfl,rfl,by kernel_rfl,by decide⟩) b r o
theorem bJ(b r o:Nat):fa Try.prog 135 (some (.ptr b r o)) 0=some (.ret (.ptr b r (o+0)),[]):=Dj (show Ef Try.prog 135 0 0 1 from⟨_,_,Try.underlying135,rfl,rfl,by kernel_rfl,by decide⟩) b r o
theorem jI(h:Aa)(b r o:Nat):ld Try.prog 99 h (some (.ptr b r o))=vG (Lh (h[b]?) r) o:=Qz ⟨by kernel_rfl,1,by kernel_rfl⟩ h b r o
theorem ad6(b r o:Nat):pP Try.prog 99 (some (.ptr b r o))=some [.cells b o 1]:=Ib (isA:=false) (n:=1) (by kernel_rfl) (by kernel_rfl) b r o
theorem uS(h:Aa)(b r o:Nat)(v:AV):cQ Try.prog 99 h (some (.ptr b r o)) (some v)=sv 1 (h[b]?) b r o (Ah v):=Gh (by kernel_rfl) h b r o v
theorem aeC(b r o:Nat):xI Try.prog 99 (some (.ptr b r o))=some [.cells b o 1]:=Nn (by kernel_rfl) b r o
def Qq:=PLift.up (aaA @Dq (aaA @Ee (aaA @Ew (aaA @Gm (aaA @Gf (aaA @nI (aaA @Oh (aaA @Bn (aaA @oC (aaA @iK (aaA @tH (aaA @kP (aaA @adF (aaA @abT @Nb))))))))))))))
def kB:=PLift.up (aaA @Ee (aaA @Ew (aaA @Gm (aaA @Nc (aaA @uL (aaA @Ec (aaA @kP (aaA @Gf (aaA @Nu (aaA @Qh (aaA @Ue (aaA @Yj (aaA @uR (aaA @yJ (aaA @Yd (aaA @Eo (aaA @Fj (aaA @Kv @Rh))))))))))))))))))
def Vw:=PLift.up (aaA @Eo (aaA @Fj (aaA @Kv (aaA @Tz (aaA @Qe (aaA @aO (aaA @aW (aaA @Nw (aaA @Bn (aaA @Hy (aaA @Oa (aaA @Ee (aaA @Ew (aaA @Gm (aaA @Nc (aaA @Me (aaA @Jx (aaA @Hj (aaA @Oh (aaA @Rh (aaA @Ec (aaA @Gf (aaA @Nu (aaA @Qh (aaA @Ue (aaA @Jb (aaA @Dq (aaA @Yj @Zj))))))))))))))))))))))))))))
def az2:=PLift.up (aaA @Dq (aaA @Rq (aaA @Ec (aaA @Rl (aaA @Bn @Hj)))))
def am7:=PLift.up (aaA @Dq (aaA @Eo (aaA @Fj @Kv)))
def aeT:=PLift.up (aaA @Dq (aaA @Bn (aaA @Ee (aaA @Ew (aaA @Gm (aaA @Ec (aaA @Jx (aaA @uV (aaA @tB (aaA @Uy (aaA @adP (aaA @afO (aaA @anJ (aaA @aaI (aaA @acS (aaA @aeI (aaA @pJ (aaA @nY (aaA @Jo (aaA @bY (aaA @Wy (aaA @eX @Nb))))))))))))))))))))))
def adG:=PLift.up (aaA @Gf (aaA @Jb (aaA @Bn (aaA @Hy @Jx))))
def ahS:=PLift.up (aaA @Gf (aaA @Jb (aaA @Hy (aaA @Eo (aaA @Fj @Kv)))))
def aeL:=PLift.up (aaA @Dq (aaA @Ee (aaA @Ew (aaA @Gm (aaA @afY (aaA @lW @ae3))))))
def ac6:=PLift.up (aaA @nI (aaA @Dq (aaA @oC @iK)))
def afE:=PLift.up (aaA @Gf (aaA @Jb @Hy))
def awD:=PLift.up (aaA @Dq (aaA @cU (aaA @Oh (aaA @Bn (aaA @jV (aaA @Yf @xW))))))
def aj6:=PLift.up (aaA @qI (aaA @Dq (aaA @cU (aaA @kH (aaA @acO (aaA @qG (aaA @Zy (aaA @oG (aaA @rH (aaA @Jo (aaA @dH (aaA @Rq (aaA @Ec (aaA @Xw (aaA @Rl (aaA @Bn (aaA @jV (aaA @oU (aaA @Wy (aaA @acR (aaA @nE (aaA @Yw (aaA @pB (aaA @uM (aaA @pC @Re)))))))))))))))))))))))))
def Ta:=PLift.up (aaA @Eo (aaA @Fj (aaA @Kv (aaA @Ee (aaA @Ew (aaA @Gm (aaA @Nu (aaA @Qh (aaA @Ue (aaA @Jx (aaA @Bn (aaA @Hj (aaA @Oh (aaA @Rh (aaA @Ec (aaA @Gf (aaA @Tz (aaA @Qe (aaA @aO (aaA @aW (aaA @Nw (aaA @Oa (aaA @Nc (aaA @Me (aaA @Xo (aaA @Wm (aaA @Oe (aaA @Xp @Oc))))))))))))))))))))))))))))
def aAE:=PLift.up (aaA @Dq (aaA @Rq (aaA @Ec (aaA @Rl (aaA @Bn @Hj)))))
def mX:=PLift.up (aaA @Jo (aaA @bY (aaA @Nu (aaA @Qh (aaA @Ue (aaA @Yj (aaA @kM (aaA @Zj (aaA @agZ (aaA @aiZ (aaA @aD (aaA @yE (aaA @Wz (aaA @Bn (aaA @Yf (aaA @Wy (aaA @Re @eR)))))))))))))))))
def bC:=PLift.up (aaA @Ee (aaA @Ew (aaA @Gm (aaA @Nc (aaA @jH (aaA @Me (aaA @Xo (aaA @Wm (aaA @Oe (aaA @Ec (aaA @Gf (aaA @Jb (aaA @Bn (aaA @Hy (aaA @Eo (aaA @Fj (aaA @Tz (aaA @Qe @Xp))))))))))))))))))
def aeF:=PLift.up (aaA @Oe (aaA @Ec (aaA @Gf (aaA @Jb (aaA @Bn (aaA @Hy (aaA @Xp @Oc)))))))
def lJ:=PLift.up (aaA @Qw (aaA @Um (aaA @Yd (aaA @dD (aaA @vK (aaA @Bn (aaA @Hy (aaA @Ee (aaA @Ew (aaA @Gm (aaA @Wg (aaA @Jx (aaA @Wz (aaA @Wq (aaA @Hj @Wi)))))))))))))))
def ao9:=PLift.up (aaA @Hj (aaA @Bn (aaA @Eo (aaA @Fj (aaA @Kv (aaA @Dq @Ym))))))
def fN:=PLift.up (aaA @Gf (aaA @Jb @Hy))
def awK:=PLift.up (aaA @ahJ (aaA @uV (aaA @adY (aaA @afH (aaA @Eo (aaA @Fj (aaA @Kv (aaA @ae1 (aaA @sA (aaA @jR (aaA @aeY (aaA @af0 (aaA @eO (aaA @Zy @Uy))))))))))))))
def mH:=PLift.up (aaA @Oh (aaA @Bn (aaA @Yf (aaA @bY (aaA @Wy (aaA @Jo (aaA @yI (aaA @zM (aaA @pA (aaA @Zd (aaA @oN (aaA @nQ (aaA @nF (aaA @aD (aaA @sZ (aaA @uP (aaA @Dq (aaA @ab1 @ab2))))))))))))))))))
def rM:=PLift.up (aaA @Ec (aaA @Re (aaA @Bn (aaA @uA (aaA @Jo (aaA @dH (aaA @Nb (aaA @aaI (aaA @Uy (aaA @nQ (aaA @nF (aaA @aD (aaA @adX (aaA @sZ (aaA @uP (aaA @eP (aaA @eX (aaA @xH (aaA @Dq @cU)))))))))))))))))))
def az1:=PLift.up (aaA @Gf (aaA @Eo (aaA @Fj @Kv)))
def aj9:=PLift.up (aaA @aeZ (aaA @ae5 (aaA @dM (aaA @Ru @adZ))))
def Zl:=PLift.up (aaA @Dq (aaA @ajR (aaA @Eo (aaA @Fj (aaA @adE (aaA @Ee (aaA @Ew (aaA @ad0 (aaA @Nu (aaA @Qh (aaA @aeW (aaA @Rh (aaA @Ec (aaA @Xw (aaA @akZ (aaA @adO (aaA @ah6 (aaA @adW (aaA @akB (aaA @afN (aaA @jR (aaA @acH (aaA @ab5 (aaA @adJ (aaA @ac7 (aaA @Oe (aaA @af1 (aaA @aeN (aaA @adA (aaA @Qw (aaA @Um (aaA @adB (aaA @alT (aaA @adL @alW))))))))))))))))))))))))))))))))))
def azD:=PLift.up (aaA @pZ @Nb)
def ayN:=PLift.up (aaA @kH (aaA @aiA (aaA @Rq (aaA @Ec (aaA @Xw (aaA @Rl (aaA @Bn (aaA @jV (aaA @pF (aaA @aiU @ad8))))))))))
def axP:=PLift.up (aaA @Dq @kM)
def bU:=PLift.up (aaA @Qw (aaA @Um (aaA @Yd (aaA @dD (aaA @iG (aaA @ahQ (aaA @ai6 (aaA @Xs (aaA @Bn (aaA @Ee (aaA @Ew (aaA @Gm (aaA @Wg (aaA @Jx (aaA @Wz (aaA @Wq (aaA @Hj @Wi)))))))))))))))))
def aqD:=PLift.up (aaA @eW @eW)
def aw2:=PLift.up (aaA @eZ (aaA @Nb (aaA @Nw (aaA @Bn (aaA @Oa (aaA @fA @Oc))))))
def Ub:=PLift.up (aaA @Eo (aaA @Fj (aaA @Tz (aaA @Qe (aaA @aO (aaA @aW (aaA @dM (aaA @eZ (aaA @Nb (aaA @Nw (aaA @Bn (aaA @Oa (aaA @Ru (aaA @pN (aaA @Ee (aaA @Ew (aaA @Gm (aaA @Nc (aaA @Me (aaA @Xo (aaA @Wm (aaA @Oc (aaA @fA (aaA @Ym @dO))))))))))))))))))))))))
def mF:=PLift.up (aaA @Bn (aaA @Ec (aaA @Xw (aaA @Ym (aaA @Dq (aaA @wX (aaA @Hj (aaA @Zy (aaA @oG (aaA @pF (aaA @nE (aaA @Yw (aaA @pB (aaA @Uy (aaA @acB (aaA @oU (aaA @ac2 (aaA @mD (aaA @af2 (aaA @uM (aaA @pC (aaA @tB (aaA @aeQ (aaA @dO (aaA @amO @eO)))))))))))))))))))))))))
def aqA:=PLift.up (aaA @Eo (aaA @Fj (aaA @Bn (aaA @Tz (aaA @Qe (aaA @aO (aaA @aW (aaA @Nw (aaA @Oa (aaA @dM (aaA @sA (aaA @jR (aaA @Ee (aaA @Ew (aaA @Gm (aaA @Nc (aaA @Me (aaA @Xo (aaA @Wm (aaA @Ec (aaA @Oc (aaA @Ru @pN))))))))))))))))))))))
def ahL:=PLift.up (aaA @Gf (aaA @Jb @Hy))
def as7:=PLift.up (aaA @ab7 (aaA @afJ (aaA @ae8 (aaA @mP @abS))))
def auT:=PLift.up (aaA @acD (aaA @ad1 (aaA @ab3 (aaA @mV @acV))))
def atS:=PLift.up (aaA @ac3 (aaA @acX (aaA @abW (aaA @mA @aeK))))
def auH:=PLift.up (aaA @acL (aaA @acA (aaA @abY (aaA @mN @abZ))))
def lX:=PLift.up (aaA @Ue (aaA @Yj @Zj))
def aw9:=PLift.up (aaA @Xs @Bn)
def mR:=PLift.up (aaA @Gf (aaA @Jb @Hy))
def awF:=PLift.up (aaA @Oy (aaA @Wg (aaA @Bn (aaA @bW @Re))))
def ayE:=PLift.up (aaA @Oy (aaA @Wi (aaA @Bn (aaA @bW @eR))))
def axK:=PLift.up (aaA @Oy (aaA @Qw @Um))
def ax7:=PLift.up (aaA @Oy (aaA @Wq (aaA @Bn (aaA @cA @wB))))
def lF:=PLift.up (aaA @Ec (aaA @Ym (aaA @dO (aaA @Bn (aaA @Ee (aaA @Ew (aaA @Gm (aaA @Nc (aaA @jH (aaA @Me (aaA @Xo (aaA @Wm (aaA @Oe @xJ)))))))))))))
def Su:=PLift.up (aaA @Yd (aaA @dD @iG))
def axZ:=PLift.up (aaA @cA (aaA @eP (aaA @Bn (aaA @Xs (aaA @wT @Nb)))))
def aqP:=PLift.up (aaA @bJ (aaA @jI (aaA @ad6 (aaA @Jo (aaA @dH (aaA @pA (aaA @Zd (aaA @oN (aaA @uS @aeC)))))))))
def ag4:=PLift.up (aaA @Jo (aaA @bY (aaA @bJ (aaA @jI (aaA @pJ (aaA @aeU (aaA @Yf (aaA @Wy (aaA @nY @uS)))))))))
end Go.Proofs.Ytfkokgjfpojeoaa
namespace Go.Proofs.Ytfkokgjfpojeoaa.Ko
open Go Go.Ev Go.ChangeShapes Go.WideShapes Go.ChangeAt Go.RowKit
set_option maxRecDepth 100000
set_option maxHeartbeats 16000000
def mdL:List Nat:=[96,100,102,83]
def pr:Hl:={ at_:=fun _=>none,md:=(mdL.contains ·) }
noncomputable def Bh:Ea:=om Try.prog pr
theorem Vp(f:Nat):Bh.md f=([96,100,102,83]:List Nat).contains f:=Eq.trans rfl rfl
def Vc:=PLift.up (aaA EG.down (aaA EVu.down @Vp))
theorem arL{C:R→Prop}[NoN C]{n:Nat}{k:List Ar}{c:Code}{s:St}(h:Un Bh Try.prog n k c C (Ce Bh Try.prog 5000 c [] s)):C (lpK Bh Try.prog n k (Bh.loop c s)):=aqW (pr:=pr) h
theorem aoD:zE Try.prog:=fun f fn hf=>by
 have h:(Try.prog.funcs.toList.all fun fn=> !(fn.name== "runtime.NumGoroutine"))=true:=by kernel_rfl
 have:=List.all_eq_true.1 h fn (by rw[Array.mem_toList_iff];exact Array.mem_of_getElem? hf)
 simpa using this
theorem mixed:Try.prog.follows .mixedOrders=true:=by kernel_rfl
theorem calls_ok:Gi Try.prog (fun _=>none) Bh:=aqX aoD ⟨fun f p h=>(by cases h),fun f p h=>(by cases h)⟩ mixed
theorem sO{f:Nat}{fn:Func}{c:Code}{args:List AV}{h:Aa}{Q:Dk→Aa→Prop}(hp:pr f=none)(hf:Try.prog.funcs[f]?=some fn)(hb:fn.body=some c)(hl:Nat.ble args.length fn.ntmps=true)
 (he:FnE Try.prog h.length fn.results.toList Q (Ce Bh Try.prog 5000 c [] ⟨mk fn.ntmps (Cj args),h⟩)):ClQ Bh f args h Q:=ClQ.start (pr:=pr) hp hf hb hl he
theorem ce{f:Nat}{fn:Func}{c:Code}{args:List AV}{h:Aa}{o:Dk}{h':Aa}(hf:Try.prog.funcs[f]?=some fn)(he:FnE Try.prog h.length fn.results.toList (fun o1 h1=>(o1,h1)=(o,h')) (Ce Bh Try.prog 5000 c [] ⟨mk fn.ntmps (Cj args),h⟩))(hp:pr f=none:=by exact rfl)(hb:fn.body=some c:=by exact rfl)(hl:Nat.ble args.length fn.ntmps=true:=by exact rfl):Bh.call (.fn f) args h=some (o,h'):=(sO hp hf hb hl he).eq
theorem Lp{α σ ρ:Type}{c:Code}(N:Nat)(l:List α)(E:Nat→σ→Tm→Aa→Prop)(F:List α→σ→ρ)(Q:ρ→Ex→Tm→Aa→Prop)
 (stop:∀s t h Q',(∀e t h,Q (F [] s) e t h→Q' e ⟨mk N t,h⟩)→E l.length s t h→mU N (fun _ _=>False) Q' (Ce Bh Try.prog 5000 c [] ⟨mk N t,h⟩))
 (go:∀x rest i s t h J Q',(∀t' h' s',E (i+1) s' t' h'→F rest s'=F (x::rest) s→J t' h')→(∀e t h,Q (F (x::rest) s) e t h→Q' e ⟨mk N t,h⟩)→l[i]?=some x→i<l.length→E i s t h→
   mU N J Q' (Ce Bh Try.prog 5000 c [] ⟨mk N t,h⟩)):
 ∀s t h,E 0 s t h→LpQ Bh c ⟨mk N t,h⟩ (Ot N (Q (F l s))):=oP (pr:=pr) rfl N l E F Q stop go
def iv(x:Int):List AV:=[.int .i64 x]
theorem Ab{h:Aa}{b:Nat}{c:CB}(h0:h[b]?=some c)(l:Aa):(h++l)[b]?=some c:=by
 rw[List.getElem?_append_left (List.getElem?_eq_some_iff.1 h0).1];exact h0
end Go.Proofs.Ytfkokgjfpojeoaa.Ko
namespace Go.Proofs.Ytfkokgjfpojeoaa.Ko
open Go.Ev Go
set_option maxRecDepth 100000
set_option maxHeartbeats 16000000
structure Ba where
 lo:Int
 hi:Int
 byp:Bool
def Ba.cells(s:Ba):List AV:=[.int .i64 s.lo,.int .i64 s.hi,.bool s.byp]
structure Ag where
 nn:Bool
 sens:List Int
 need:Int
 level:Int
 above:Bool
def Ag.cells(v:Ag):List AV:=[Ad 1 true v.nn (v.sens.map iv),.int .i64 v.need,.int .i64 v.level,.bool v.above]
structure Aj where
 vote:Int
 is:Bool
def Aj.cells(w:Aj):List AV:=[.int .i64 w.vote,.bool w.is]
structure Ai where
 frm:Int
 to:Int
 nn:Bool
 wants:List Aj
 cmd:Int
 after:Int
def Ai.cells(x:Ai):List AV:=[.int .i64 x.frm,.int .i64 x.to,Ad 2 true x.nn (x.wants.map Aj.cells),.int .i64 x.cmd,.int .i64 x.after]
structure Ac where
 nS:Bool
 sens:List Ba
 nV:Bool
 votes:List Ag
 nM:Bool
 moves:List Ai
 states:Int
 cmds:Int
 bgn:Int
 nO:Bool
 opn:List Int
abbrev Ac.cells(m:Ac):List AV:=[Ad 3 true m.nS (m.sens.map Ba.cells),Ad 4 false m.nV (m.votes.map Ag.cells),Ad 5 false m.nM (m.moves.map Ai.cells),.int .i64 m.states,.int .i64 m.cmds,.int .i64 m.bgn,Ad 1 true m.nO (m.opn.map iv)]
structure Ac.small(m:Ac):Prop where
 sens:m.sens.length≤maxLen
 votes:m.votes.length≤maxLen
 moves:m.moves.length≤maxLen
 opn:m.opn.length≤maxLen
 vs:∀v∈m.votes,v.sens.length≤maxLen
 ws:∀x∈m.moves,x.wants.length≤maxLen
def Ie(x lo hi:Int):Bool:=decide (lo≤x)&&decide (x≤hi)
theorem Nj(x lo hi:Int):Bh.call (.fn 43) [.int .i64 x,.int .i64 lo,.int .i64 hi] []=some (.ret (.bool (Ie x lo hi)),[]):=by
 (refine ce Try.func43 ?_;simp only[Try.f43];(have hb:=trivial;with_reducible repeat' (first|simp only[hb,Vc.down,seval]|refine An ?_ ?_<;>intro hb|refine fd ?_|fail)))
 all_goals simp[Ie, *]
def Kw(x:Int):Bool:=Ie x (-10000) 10000
theorem Vj(x:Int):Bh.call (.fn 69) [.int .i64 x] []=some (.ret (.bool (Kw x)),[]):=by
 (refine ce Try.func69 ?_;simp only[Try.f69];(have hb:=trivial;with_reducible repeat' (first|simp only[hb,Vc.down,seval,Nj]|refine An ?_ ?_<;>intro hb|refine fd ?_|fail)))
 all_goals rfl
theorem lP(x:Int):Bh.call (.fn 74) [.int .i64 x] []=some (.ret (.bool (!Ie x 0 255)),[]):=by
 (refine ce Try.func74 ?_;simp only[Try.f74];(have hb:=trivial;with_reducible repeat' (first|simp only[hb,Vc.down,seval,Nj]|refine An ?_ ?_<;>intro hb|refine fd ?_|fail)))
def Lm(s:Ba)(v:Ag)(r:Int):Bool:= !s.byp&&(!Ie r s.lo s.hi||(if v.above=true then decide (v.level≤r)else decide (r≤v.level)))
theorem qC(s:Ba)(v:Ag)(r:Int):Bh.call (.fn 76) [.agg [.int .i64 s.lo,.int .i64 s.hi,.bool s.byp],.agg [Ad 1 true v.nn (v.sens.map iv),.int .i64 v.need,.int .i64 v.level,.bool v.above],.int .i64 r] []=some (.ret (.bool (Lm s v r)),[]):=by
 (refine ce Try.func76 ?_;simp only[Try.f76];(have hb:=trivial;with_reducible repeat' (first|simp only[hb,Vc.down,seval,aw2.down,Nj]|refine An ?_ ?_<;>intro hb|refine fd ?_|fail)))
 all_goals simp_all[Lm]
def Rx{α:Type}(p:α→Bool):List α→Int→Int
 | [],_=> -1
 |x::l,i=>if p x=true then i else Rx p l (i+1)
theorem Jl{α:Type}(p:α→Bool):∀(l:List α) (i:Int),0≤i→decide (0≤Rx p l i)=l.any p
 | [],i,_=>rfl
 |x::l,i,h=>by
  unfold Rx
  split
  ·rename_i hp;simp[h,hp]
  ·rename_i hp;rw[Jl p l (i+1) (by omega)];simp[hp]
theorem hU{l:List Int}{nn:Bool}{g:Nat}{cap:List AV}{p:Int→Bool}(hc:cap.all (Az 8)=true)(hc7:cap.all (Az 7)=true)(hp:∀x∈l,Bh.call (.fn g) (.int .i64 x::cap) []=some (.ret (.bool (p x)),[]))(hl:l.length≤maxLen)(hgm:Bh.md g=false:=by exact rfl):
 Bh.call (.fn 91) [Ad 1 true nn (l.map iv),.func (.func g) [] cap] []=some (.ret (.int .i64 (Rx p l 0)),[]):=by
 (refine ce Try.func91 ?_;simp only[Try.f91];(have hb:=trivial;with_reducible repeat' (first|simp only[hb,Vc.down,seval,mR.down,aaK]|refine An ?_ ?_<;>intro hb|refine fd ?_|fail)))
 refine Ci (Lp 19 l (fun i (s:Int) t h=>s=i∧h=[]∧t 0=Ad 1 true nn (l.map iv)∧t 1=.func (.func g) [] cap∧t 7=.int .i64 l.length∧t 8=.int .i64 i)
  (fun rest s=>Rx p rest s) (fun r e t h=>h=[]∧((e=.exit 0∧r= -1)∨(e=.ret∧t 4=.int .i64 r))) ?_ ?_ 0 _ _ ?_) (fun e t h hk=>?_)
 ·rintro s t h Q' kQ ⟨rfl,rfl,h0,h1,h7,h8⟩
  (have hb:=trivial;with_reducible repeat' (first|simp only[hb,Vc.down,seval,mR.down,h0,h1,h7,h8,aa0,decide_false]|refine An ?_ ?_<;>intro hb|refine fd ?_|fail))
  exact kQ _ _ _ ⟨rfl,.inl ⟨rfl,rfl⟩⟩
 ·rintro x rest i s t h J Q' kJ kQ hx hi ⟨rfl,rfl,h0,h1,h7,h8⟩
  have hgm2:=hgm
  simp only[Vp,acI,acM,Bool.or_false]at hgm2
  have hpx:=hp x (acY hx)
  have hd:decide ((i:Int)<(l.length:Int))=true:=by simpa using hi
  (have hb:=trivial;with_reducible repeat' (first|simp only[hb,Vc.down,seval,mR.down,h0,h1,h7,h8,hd,hx,iv,hc,hc7,hpx,hgm2,Aq hi hl]|refine An ?_ ?_<;>intro hb|refine fd ?_|fail))
  ·exact kQ _ _ _ ⟨rfl,.inr ⟨rfl,by simp[up,Rx,hb]⟩⟩
  ·exact Av (kJ _ _ (i+1) ⟨by simp,rfl,by simp[up,h0],by simp[up,h1],by simp[up,h7],by simp[up]⟩ (by simp[Rx,hb]))
 ·exact⟨rfl,rfl,by simp[up,Cj],by simp[up,Cj],by simp[up],by simp[up]⟩
 ·obtain⟨rfl,⟨rfl,hi⟩|⟨rfl,hi⟩⟩:=hk
  ·(have hb:=trivial;with_reducible repeat' (first|simp only[hb,Vc.down,seval,mR.down]|refine An ?_ ?_<;>intro hb|refine fd ?_|fail))
   rw[hi]
  ·(have hb:=trivial;with_reducible repeat' (first|simp only[hb,Vc.down,seval,mR.down,hi]|refine An ?_ ?_<;>intro hb|refine fd ?_|fail))
theorem Yc{l:List Int}{nn:Bool}{g:Nat}{cap:List AV}{p:Int→Bool}(hc:cap.all (Az 8)=true)(hc7:cap.all (Az 7)=true)(hp:∀x∈l,Bh.call (.fn g) (.int .i64 x::cap) []=some (.ret (.bool (p x)),[]))(hl:l.length≤maxLen)(hgm:Bh.md g=false:=by exact rfl):
 Bh.call (.fn 73) [Ad 1 true nn (l.map iv),.func (.func g) [] cap] []=some (.ret (.bool (l.any p)),[]):=by
 (refine ce Try.func73 ?_;simp only[Try.f73];(have hb:=trivial;with_reducible repeat' (first|simp only[hb,Vc.down,seval,hU hc hc7 hp hl hgm,hc,hc7,Jl p l 0 (aa3 0)]|refine An ?_ ?_<;>intro hb|refine fd ?_|fail)))
def Hf(b:Int):List Int→Option Int→Bool
 | [],_=>true
 |n::l,p=>Ie n 0 (IntKind.i64.wrap (b-1))&&(match p with|none=>true|some q=> !decide (n≤q))&&Hf b l (some n)
theorem Pj{l:List Int}{nn:Bool}(b:Int)(hl:l.length≤maxLen):Bh.call (.fn 53) [Ad 1 true nn (l.map iv),.int .i64 b] []=some (.ret (.bool (Hf b l none)),[]):=by
 (refine ce Try.func53 ?_;simp only[Try.f53];(have hb:=trivial;with_reducible repeat' (first|simp only[hb,Vc.down,seval,fN.down,aaK]|refine An ?_ ?_<;>intro hb|refine fd ?_|fail)))
 refine Ci (Lp 33 l (fun i (s:Option Int) t h=>(i=0∧s=none∨0<i∧s=l[i-1]?)∧t 0=Ad 1 true nn (l.map iv)∧t 1=.int .i64 b∧t 7=Ad 1 true nn (l.map iv)∧t 8=.int .i64 l.length∧t 9=.int .i64 i)
  (fun rest s=>Hf b rest s) (fun r e t h=>if r=true then e=.exit 0 else e=.ret∧t 4=.bool false) ?_ ?_ none _ _ ?_) (fun e t h hk=>?_)
 ·rintro s t h Q' kQ ⟨hs,h0,h1,h7,h8,h9⟩
  (have hb:=trivial;with_reducible repeat' (first|simp only[hb,Vc.down,seval,fN.down,h0,h1,h7,h8,h9,aa0,decide_false]|refine An ?_ ?_<;>intro hb|refine fd ?_|fail))
  exact kQ _ _ _ (by simp[Hf])
 ·rintro x rest i s t h J Q' kJ kQ hx hi ⟨hs,h0,h1,h7,h8,h9⟩
  have hd:decide ((i:Int)<(l.length:Int))=true:=by simpa using hi
  have kF:∀{p:Option Int},(Ie x 0 (IntKind.i64.wrap (b-1))&&(match p with|none=>true|some q=> !decide (x≤q)))=false→Hf b (x::rest) p=false:=fun h=>by simp[Hf,h]
  have kT:∀{p:Option Int},(Ie x 0 (IntKind.i64.wrap (b-1))&&(match p with|none=>true|some q=> !decide (x≤q)))=true→Hf b rest (some x)=Hf b (x::rest) p:=fun h=>by simp[Hf,h]
  have hw:=Aq hi hl
  rcases hs with⟨rfl,rfl⟩|⟨hpos,rfl⟩
  ·simp only[Int.natCast_zero,Int.zero_add]at hd h9 hw
   (have hb:=trivial;with_reducible repeat' (first|simp only[hb,Vc.down,seval,fN.down,h0,h1,h7,h8,h9,hd,hx,iv,Nj,hw,Int.toNat_zero,aa3,aa0,decide_false]|refine An ?_ ?_<;>intro hb|refine fd ?_|fail))
   all_goals first
    |exact kQ _ _ _ (by rw[if_neg (by rw[kF (by simp_all)];simp)];exact⟨rfl,rfl⟩)
    |exact Av (kJ _ _ (some x) ⟨.inr ⟨by omega,by simp[hx]⟩,by simp[up,h0],by simp[up,h1],by simp[up,h7],by simp[up,h8],by simp[up]<;>omega⟩ (kT (by simp_all)))
  ·obtain⟨j,rfl⟩:∃j,i=j+1:=⟨i-1,by omega⟩
   obtain⟨q,hq⟩:∃q,l[j]?=some q:=⟨l[j],List.getElem?_eq_getElem (by omega)⟩
   have hj:IntKind.i64.wrap (((j+1:Nat):Int)-1)=(j:Int):=by unfold maxLen at hl;rw[Du (by omega) (by omega)];omega
   have hg:decide (0<((j+1:Nat):Int))=true:=by rw[decide_eq_true_eq];omega
   simp only[Nat.add_sub_cancel,hq]at kJ kQ
   (have hb:=trivial;with_reducible repeat' (first|simp only[hb,Vc.down,seval,fN.down,h0,h1,h7,h8,h9,hd,hx,iv,Nj,hw,hj,hg,hq]|refine An ?_ ?_<;>intro hb|refine fd ?_|fail))
   all_goals first
    |exact kQ _ _ _ (by rw[if_neg (by rw[kF (by simp_all)];simp)];exact⟨rfl,rfl⟩)
    |exact Av (kJ _ _ (some x) ⟨.inr ⟨by omega,by simp[hx]⟩,by simp[up,h0],by simp[up,h1],by simp[up,h7],by simp[up,h8],by simp[up]<;>omega⟩ (kT (by simp_all)))
 ·exact⟨.inl ⟨rfl,rfl⟩,by simp[up,Cj],by simp[up,Cj],by simp[up,Cj],by simp[up],by simp[up]⟩
 ·split at hk
  ·subst hk
   rename_i hr
   (have hb:=trivial;with_reducible repeat' (first|simp only[hb,Vc.down,seval,fN.down]|refine An ?_ ?_<;>intro hb|refine fd ?_|fail))
   all_goals simp[hr]
  ·obtain⟨rfl,h2⟩:=hk
   rename_i hr
   (have hb:=trivial;with_reducible repeat' (first|simp only[hb,Vc.down,seval,fN.down,h2]|refine An ?_ ?_<;>intro hb|refine fd ?_|fail))
   all_goals simp[hr]
def Qo(ns:Int)(v:Ag):Bool:=Hf ns v.sens none&&Ie v.need 1 v.sens.length&&Kw v.level
theorem qR(o w:Aj):Bh.call (.fn 90) [.agg [.int .i64 o.vote,.bool o.is],.ptr 0 0 0] [.live 2 true false [[.int .i64 w.vote,.bool w.is]]]=some (.ret (.bool (o.vote==w.vote)),[.live 2 true false [[.int .i64 w.vote,.bool w.is]]]):=by
 (refine ce Try.func90 ?_;simp only[Try.f90];(have hb:=trivial;with_reducible repeat' (first|simp only[hb,Vc.down,seval,aw9.down]|refine An ?_ ?_<;>intro hb|refine fd ?_|fail)))
theorem cH{l:List Aj}{nn:Bool}{g:Nat}{ww:Aj}{p:Aj→Bool}(hp:∀x∈l,Bh.call (.fn g) (.agg [.int .i64 x.vote,.bool x.is]::[.ptr 0 0 0]) [.live 2 true false [[.int .i64 ww.vote,.bool ww.is]]]=some (.ret (.bool (p x)),[.live 2 true false [[.int .i64 ww.vote,.bool ww.is]]]))(hl:l.length≤maxLen)(hgm:Bh.md g=false:=by exact rfl):
 Bh.call (.fn 98) [Ad 2 true nn (l.map Aj.cells),.func (.func g) [] [.ptr 0 0 0]] [.live 2 true false [[.int .i64 ww.vote,.bool ww.is]]]=some (.ret (.int .i64 (Rx p l 0)),[.live 2 true false [[.int .i64 ww.vote,.bool ww.is]]]):=by
 (refine ce Try.func98 ?_;simp only[Try.f98];(have hb:=trivial;with_reducible repeat' (first|simp only[hb,Vc.down,seval,Su.down,aaK]|refine An ?_ ?_<;>intro hb|refine fd ?_|fail)))
 refine Ci (Lp 19 l (fun i (s:Int) t h=>s=i∧h=[.live 2 true false [[.int .i64 ww.vote,.bool ww.is]]]∧t 0=Ad 2 true nn (l.map Aj.cells)∧t 1=.func (.func g) [] [.ptr 0 0 0]∧t 7=.int .i64 l.length∧t 8=.int .i64 i)
  (fun rest s=>Rx p rest s) (fun r e t h=>h=[.live 2 true false [[.int .i64 ww.vote,.bool ww.is]]]∧((e=.exit 0∧r= -1)∨(e=.ret∧t 4=.int .i64 r))) ?_ ?_ 0 _ _ ?_) (fun e t h hk=>?_)
 ·rintro s t h Q' kQ ⟨rfl,rfl,h0,h1,h7,h8⟩
  (have hb:=trivial;with_reducible repeat' (first|simp only[hb,Vc.down,seval,Su.down,h0,h1,h7,h8,aa0,decide_false]|refine An ?_ ?_<;>intro hb|refine fd ?_|fail))
  exact kQ _ _ _ ⟨rfl,.inl ⟨rfl,rfl⟩⟩
 ·rintro x rest i s t h J Q' kJ kQ hx hi ⟨rfl,rfl,h0,h1,h7,h8⟩
  have hgm2:=hgm
  simp only[Vp,acI,acM,Bool.or_false]at hgm2
  have hpx:=hp x (acY hx)
  have hd:decide ((i:Int)<(l.length:Int))=true:=by simpa using hi
  (have hb:=trivial;with_reducible repeat' (first|simp only[hb,Vc.down,seval,Su.down,h0,h1,h7,h8,hd,hx,Aj.cells,hpx,hgm2,Aq hi hl]|refine An ?_ ?_<;>intro hb|refine fd ?_|fail))
  ·exact kQ _ _ _ ⟨rfl,.inr ⟨rfl,by simp[up,Rx,hb]⟩⟩
  ·exact Av (kJ _ _ (i+1) ⟨by simp,rfl,by simp[up,h0],by simp[up,h1],by simp[up,h7],by simp[up]⟩ (by simp[Rx,hb]))
 ·exact⟨rfl,rfl,by simp[up,Cj],by simp[up,Cj],by simp[up],by simp[up]⟩
 ·obtain⟨rfl,⟨rfl,hi⟩|⟨rfl,hi⟩⟩:=hk
  ·(have hb:=trivial;with_reducible repeat' (first|simp only[hb,Vc.down,seval,Su.down]|refine An ?_ ?_<;>intro hb|refine fd ?_|fail))
   rw[hi]
  ·(have hb:=trivial;with_reducible repeat' (first|simp only[hb,Vc.down,seval,Su.down,hi]|refine An ?_ ?_<;>intro hb|refine fd ?_|fail))
theorem aE{l:List Aj}{nn:Bool}{g:Nat}{ww:Aj}{p:Aj→Bool}(hp:∀x∈l,Bh.call (.fn g) (.agg [.int .i64 x.vote,.bool x.is]::[.ptr 0 0 0]) [.live 2 true false [[.int .i64 ww.vote,.bool ww.is]]]=some (.ret (.bool (p x)),[.live 2 true false [[.int .i64 ww.vote,.bool ww.is]]]))(hl:l.length≤maxLen)(hgm:Bh.md g=false:=by exact rfl):
 Bh.call (.fn 89) [Ad 2 true nn (l.map Aj.cells),.func (.func g) [] [.ptr 0 0 0]] [.live 2 true false [[.int .i64 ww.vote,.bool ww.is]]]=some (.ret (.bool (l.any p)),[.live 2 true false [[.int .i64 ww.vote,.bool ww.is]]]):=by
 (refine ce Try.func89 ?_;simp only[Try.f89];(have hb:=trivial;with_reducible repeat' (first|simp only[hb,Vc.down,seval,cH hp hl hgm,Jl p l 0 (aa3 0)]|refine An ?_ ?_<;>intro hb|refine fd ?_|fail)))
def Hn(nv:Int):List Aj→List Aj→Bool
 |_,[]=>true
 |pre,w::l=>Ie w.vote 0 (IntKind.i64.wrap (nv-1))&& !(pre.any fun o=>o.vote==w.vote)&&Hn nv (pre++[w]) l
def Is(m:Ac)(x:Ai):Bool:=Hn m.votes.length [] x.wants&&Ie x.frm 0 (IntKind.i64.wrap (m.states-1))&&Ie x.to 0 (IntKind.i64.wrap (m.states-1))&&decide (x.wants.length≤6)&&Ie x.cmd (-1) (IntKind.i64.wrap (m.cmds-1))&&Ie x.after 0 10
theorem yB(m:Ac)(y:Ai)(hl:y.wants.length≤maxLen):Bh.call (.fn 72) [.agg [Ad 3 true m.nS (m.sens.map Ba.cells),Ad 4 false m.nV (m.votes.map Ag.cells),Ad 5 false m.nM (m.moves.map Ai.cells),.int .i64 m.states,.int .i64 m.cmds,.int .i64 m.bgn,Ad 1 true m.nO (m.opn.map iv)],.agg [.int .i64 y.frm,.int .i64 y.to,Ad 2 true y.nn (y.wants.map Aj.cells),.int .i64 y.cmd,.int .i64 y.after]] []=some (.ret (.bool (Is m y)),[]):=by
 have l6:decide ((y.wants.length:Int)≤6)=decide (y.wants.length≤6):=by rw[decide_eq_decide];omega
 (refine ce Try.func72 ?_;simp only[Try.f72];(have hb:=trivial;with_reducible repeat' (first|simp only[hb,Vc.down,seval,bU.down,aaK]|refine An ?_ ?_<;>intro hb|refine fd ?_|fail)))
 refine Ci (Lp 65 y.wants (fun i (zz:List Aj) t h=>t 2=.ptr 0 0 0∧t 3=.ptr 1 0 0∧t 8=Ad 2 true y.nn (y.wants.map Aj.cells)∧t 9=.int .i64 y.wants.length∧t 10=.int .i64 i∧(h[0]?=some (.live 7 false false [[Ad 3 true m.nS (m.sens.map Ba.cells),Ad 4 false m.nV (m.votes.map Ag.cells),Ad 5 false m.nM (m.moves.map Ai.cells),.int .i64 m.states,.int .i64 m.cmds,.int .i64 m.bgn,Ad 1 true m.nO (m.opn.map iv)]])∧h[1]?=some (.live 5 false false [[.int .i64 y.frm,.int .i64 y.to,Ad 2 true y.nn (y.wants.map Aj.cells),.int .i64 y.cmd,.int .i64 y.after]])∧zz=y.wants.take i)) (fun rest zz=>Hn m.votes.length zz rest) (fun r e t h=>(if r=true then e=.exit 0∧t 2=.ptr 0 0 0∧t 3=.ptr 1 0 0∧h[0]?=some (.live 7 false false [[Ad 3 true m.nS (m.sens.map Ba.cells),Ad 4 false m.nV (m.votes.map Ag.cells),Ad 5 false m.nM (m.moves.map Ai.cells),.int .i64 m.states,.int .i64 m.cmds,.int .i64 m.bgn,Ad 1 true m.nO (m.opn.map iv)]])∧h[1]?=some (.live 5 false false [[.int .i64 y.frm,.int .i64 y.to,Ad 2 true y.nn (y.wants.map Aj.cells),.int .i64 y.cmd,.int .i64 y.after]])else e=.ret∧t 4=.bool false)) ?_ ?_ ([]) _ _ ?_) (fun e t h hk=>?_)
 ·rintro p t h Q' kQ ⟨h2,h3,h8,h9,h10,⟨hA,hB,hp⟩⟩
  (have hb:=trivial;with_reducible repeat' (first|simp only[hb,Vc.down,seval,bU.down,h2,h3,h8,h9,h10,aa0,decide_false]|refine An ?_ ?_<;>intro hb|refine fd ?_|fail))
  exact kQ _ _ _ (by rw[if_pos (by rfl)];exact⟨rfl,by simp[up,h2],by simp[up,h3],hA,hB⟩)
 ·rintro x rest i p t h J Q' kJ kQ hx hi ⟨h2,h3,h8,h9,h10,⟨hA,hB,hp⟩⟩
  have hd:decide ((i:Int)<(y.wants.length:Int))=true:=decide_eq_true (by omega)
  have hw:=Aq hi hl
  have hA1:=Ab hA
  have hB1:=Ab hB
  have hcW:=aE (l:=y.wants.take i) (nn:=true) (ww:=x) (g:=90) (p:=fun o=>o.vote==x.vote) (fun o _=>qR o x) (by simp;omega)
  have hsl:=agR (P:=Try.prog) (ty:=57) (n:=2) ⟨_,Try.underlying57,by kernel_rfl⟩ true y.nn (rows:=y.wants.map Aj.cells) (i:=i) (by simpa using hi)
  rw[Sz,List.map_take]at hcW
  subst hp
  cases c1:Ie x.vote 0 (IntKind.i64.wrap ((m.votes.length:Int)-1))with
  |false=>
   (have hb:=trivial;with_reducible repeat' (first|simp only[hb,Vc.down,seval,bU.down,h2,h3,h8,h9,h10,hd,hx,hw,hA1,hB1,Nj,Aj.cells,aaK,hcW,hsl,c1]|refine An ?_ ?_<;>intro hb|refine fd ?_|fail))
   exact kQ _ _ _ (by rw[if_neg (by simp[Hn,c1])];exact⟨rfl,by simp[up]⟩)
  |true=>
   cases c2:(y.wants.take i).any (fun o=>o.vote==x.vote)with
   |true=>
    rw[c2]at hcW
    (have hb:=trivial;with_reducible repeat' (first|simp only[hb,Vc.down,seval,bU.down,h2,h3,h8,h9,h10,hd,hx,hw,hA1,hB1,Nj,Aj.cells,aaK,hcW,hsl,c1]|refine An ?_ ?_<;>intro hb|refine fd ?_|fail))
    exact kQ _ _ _ (by rw[if_neg (by simp only[Hn,c1,c2,aa9,adV,ae2];simp)];exact⟨rfl,by simp[up]⟩)
   |false=>
    rw[c2]at hcW
    (have hb:=trivial;with_reducible repeat' (first|simp only[hb,Vc.down,seval,bU.down,h2,h3,h8,h9,h10,hd,hx,hw,hA1,hB1,Nj,Aj.cells,aaK,hcW,hsl,c1]|refine An ?_ ?_<;>intro hb|refine fd ?_|fail))
    (refine Av (kJ _ _ (y.wants.take i++[x]) ⟨?_,?_,?_,?_,?_,⟨hA1 _,hB1 _,by rw[List.take_add_one,hx];rfl⟩⟩ ?_);(simp[up,h2]);(simp[up,h3]);(simp[up,h8]);(simp[up,h9]);(simp[up]);(simp only[Hn,c1,c2,abO,Bool.and_true,Bool.true_and]))
 ·exact⟨by simp[up,Cj],by simp[up,Cj],by simp[up,Cj],by simp[up,Cj],by simp[up],⟨rfl,rfl,rfl⟩⟩
 ·split at hk
  ·obtain⟨rfl,h2,h3,hA,hB⟩:=hk
   rename_i hr
   have hA1:=Ab hA
   have hB1:=Ab hB
   (have hb:=trivial;with_reducible repeat' (first|simp only[hb,Vc.down,seval,bU.down,h2,h3,hA,hB,hA1,hB1,Nj,aaK,l6]|refine An ?_ ?_<;>intro hb|refine fd ?_|fail))
   all_goals (refine congrArg (fun b=>(Dk.ret (AV.bool b),([]:Aa))) ?_;symm;((try simp only[Bool.not_eq_eq_eq_not,aa9,abO]at *);simp only[Is, *,adV,ae2,Bool.and_true,Bool.true_and,Bool.and_self,Bool.not_not,aa9,abO,List.all_cons,List.all_nil]))
  ·obtain⟨rfl,h4⟩:=hk
   rename_i hr
   (have hb:=trivial;with_reducible repeat' (first|simp only[hb,Vc.down,seval,bU.down,h4]|refine An ?_ ?_<;>intro hb|refine fd ?_|fail))
   all_goals simp_all[Is]
end Go.Proofs.Ytfkokgjfpojeoaa.Ko
