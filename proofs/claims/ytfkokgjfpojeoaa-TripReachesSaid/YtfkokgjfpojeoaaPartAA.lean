/- The functions of the layer, walked. -/
import Derived.Test.YtfkokgjfpojeoaaLibE
import Derived.Test.YtfkokgjfpojeoaaChecked
import Derived.Test.YtfkokgjfpojeoaaLibD
import Derived.Test.YtfkokgjfpojeoaaRows
import Derived.Test.YtfkokgjfpojeoaaShelf
import Derived.ProofKit
import Derived.LaidMore
import Derived.OpenShut
open And renaming intro→acE
open List renaming length_map→acG,mem_of_getElem?→acZ,contains_cons→aiC,contains_nil→aiH,all_eq_not_any_not→al5
open Int renaming lt_irrefl→acK,le_refl→adD
open Bool renaming not_true→ahZ,not_false→ah3,or_false→aiI,false_and→aiK,and_true→al2,true_and→al3,and_false→al4,eq_false_iff→al6
set_option linter.unusedSimpArgs false
set_option linter.unusedVariables false
namespace Go.Proofs.Ytfkokgjfpojeoaa
open Go.Ev
set_option maxRecDepth 100000
theorem Gt(h:Ab)(b r o:Nat):ld Try.prog 27 h (some (.ptr b r o))=ldR (Qp (h[b]?) r) o 7:=wM ⟨by kernel_rfl,by kernel_rfl⟩ h b r o
theorem vG(b r o:Nat):fa Try.prog 29 (some (.ptr b r o)) 0=some (.ret (.ptr b r (o+0)),[]):=Gv (show Hu Try.prog 29 0 0 1 from⟨_,_,Try.underlying29,rfl,rfl,by kernel_rfl,by decide⟩) b r o
theorem wS(cs:List AV):fa Try.prog 29 (some (.iptr cs)) 0=if 0+1≤cs.length then some (.ret (.iptr (cs.drop 0)),[])else none:=fV (show Hu Try.prog 29 0 0 1 from⟨_,_,Try.underlying29,rfl,rfl,by kernel_rfl,by decide⟩) cs
theorem Jz(h:Ab)(b r o:Nat):ld Try.prog 25 h (some (.ptr b r o))=ldC (Qp (h[b]?) r) o:=dZ ⟨by kernel_rfl,1,by kernel_rfl⟩ h b r o
theorem oY(h:Ab)(c:AV)(cs:List AV):ld Try.prog 25 h (some (.iptr (c::cs)))=some (.ret c,[]):=aoZ ⟨by kernel_rfl,1,by kernel_rfl⟩ h c cs
theorem sN(b r o:Nat):ftL Try.prog 25 (some (.ptr b r o))=some [.cells b o 1]:=gG (isA:=false) (n:=1) (by kernel_rfl) (by kernel_rfl) b r o
theorem bD(st b r len:Nat):ln Try.prog 25 (some (.slr st b r len))=some (.ret (.int .i64 len),[]):=aaF (n:=1) ⟨_,Try.underlying25,by kernel_rfl⟩ st b r len
theorem asM:ln Try.prog 25 (some .nils)=some (.ret (.int .i64 0),[]):=yN (n:=1) ⟨_,Try.underlying25,by kernel_rfl⟩
theorem Oj(fl nn:Bool)(rows:List (List AV)):ln Try.prog 25 (some (Af 1 fl nn rows))=some (.ret (.int .i64 rows.length),[]):=sO ⟨_,Try.underlying25,by kernel_rfl⟩ fl nn rows
theorem gI(h:Ab)(b r o:Nat):ld Try.prog 29 h (some (.ptr b r o))=ldR (Qp (h[b]?) r) o 2:=wM ⟨by kernel_rfl,by kernel_rfl⟩ h b r o
theorem asD(b r o:Nat):ftL Try.prog 29 (some (.ptr b r o))=some [.cells b o 2]:=gG (isA:=true) (n:=2) (by kernel_rfl) (by kernel_rfl) b r o
theorem Lp(b r o:Nat):fa Try.prog 27 (some (.ptr b r o)) 3=some (.ret (.ptr b r (o+3)),[]):=Gv (show Hu Try.prog 27 3 3 1 from⟨_,_,Try.underlying27,rfl,rfl,by kernel_rfl,by decide⟩) b r o
theorem Dh(h:Ab)(b r o:Nat):ld Try.prog 3 h (some (.ptr b r o))=ldC (Qp (h[b]?) r) o:=dZ ⟨by kernel_rfl,1,by kernel_rfl⟩ h b r o
theorem Kt(h:Ab)(c:AV)(cs:List AV):ld Try.prog 3 h (some (.iptr (c::cs)))=some (.ret c,[]):=aoZ ⟨by kernel_rfl,1,by kernel_rfl⟩ h c cs
theorem aaJ(b r o:Nat):ftL Try.prog 3 (some (.ptr b r o))=some [.cells b o 1]:=gG (isA:=false) (n:=1) (by kernel_rfl) (by kernel_rfl) b r o
theorem Ks(b r o:Nat):fa Try.prog 27 (some (.ptr b r o)) 1=some (.ret (.ptr b r (o+1)),[]):=Gv (show Hu Try.prog 27 1 1 1 from⟨_,_,Try.underlying27,rfl,rfl,by kernel_rfl,by decide⟩) b r o
theorem Nj(h:Ab)(b r o:Nat):ld Try.prog 23 h (some (.ptr b r o))=ldC (Qp (h[b]?) r) o:=dZ ⟨by kernel_rfl,1,by kernel_rfl⟩ h b r o
theorem Qf(fl nn:Bool)(rows:List (List AV)):ln Try.prog 23 (some (Af 4 fl nn rows))=some (.ret (.int .i64 rows.length),[]):=sO ⟨_,Try.underlying23,by kernel_rfl⟩ fl nn rows
theorem Vl(fl nn:Bool)(rows:List (List AV))(k:IntKind)(i:Int):ia Try.prog 23 (some (Af 4 fl nn rows)) (some (.int k i))=if 0≤i then r1 ((rows[i.toNat]?).map .iptr)else none:=pG ⟨_,Try.underlying23,by kernel_rfl⟩ fl nn rows k i
theorem oQ(h:Ab)(b r o:Nat):ld Try.prog 48 h (some (.ptr b r o))=ldR (Qp (h[b]?) r) o 4:=wM ⟨by kernel_rfl,by kernel_rfl⟩ h b r o
theorem Vd(h:Ab)(cs:List AV):ld Try.prog 48 h (some (.iptr cs))=if 4≤cs.length then some (.ret (.agg (cs.take 4)),[])else none:=apZ ⟨by kernel_rfl,by kernel_rfl⟩ h cs
theorem lH:Le Try.prog 48=some (.agg [.nils,.int .i64 0,.int .i64 0,.bool false]):=by kernel_rfl
theorem kK(h:Ab)(b r o:Nat)(v:AV):st_ Try.prog 48 h (some (.ptr b r o)) (some v)=sv 4 (h[b]?) b r o (Am v):=Qo (by kernel_rfl) h b r o v
theorem Ni{O:Hv}(t:List AV)(h:Ab)(s x:Operand):Hn O Try.prog t h (.call ⟨.builtin .append,#[s,x],#[25,25]⟩)=apO Try.prog 25 h (Ai t s) (Ai t x):=agQ t h s x 25 25 _ Try.underlying25
theorem aV(h:Ab)(s:AV)(a b r l:Nat):apO Try.prog 25 h (some s) (some (.slr a b r l))=apK 1 h (some s) (srK 1 h (some (.slr a b r l))):=sB (e:=3) (b:=8) (z:=.int .i64 0) (by kernel_rfl) (by kernel_rfl) (by kernel_rfl) (by kernel_rfl) (by decide+kernel) h s _ (fun q e=>by cases e)
theorem as5(h:Ab)(s:AV)(st:Nat)(fl:Bool)(rows:List (List AV)):apO Try.prog 25 h (some s) (some (.imm st fl rows))=apK 1 h (some s) (srK 1 h (some (.imm st fl rows))):=sB (e:=3) (b:=8) (z:=.int .i64 0) (by kernel_rfl) (by kernel_rfl) (by kernel_rfl) (by kernel_rfl) (by decide+kernel) h s _ (fun q e=>by cases e)
theorem aq5(h:Ab)(s:AV)  :apO Try.prog 25 h (some s) (some .nils)=apK 1 h (some s) (srK 1 h (some .nils)):=sB (e:=3) (b:=8) (z:=.int .i64 0) (by kernel_rfl) (by kernel_rfl) (by kernel_rfl) (by kernel_rfl) (by decide+kernel) h s _ (fun q e=>by cases e)
theorem Yz(b r o:Nat):fa Try.prog 48 (some (.ptr b r o)) 0=some (.ret (.ptr b r (o+0)),[]):=Gv (show Hu Try.prog 48 0 0 1 from⟨_,_,Try.underlying48,rfl,rfl,by kernel_rfl,by decide⟩) b r o
theorem ak2(cs:List AV):fa Try.prog 48 (some (.iptr cs)) 0=if 0+1≤cs.length then some (.ret (.iptr (cs.drop 0)),[])else none:=fV (show Hu Try.prog 48 0 0 1 from⟨_,_,Try.underlying48,rfl,rfl,by kernel_rfl,by decide⟩) cs
theorem dY(b r len:Nat)(k:IntKind)(i:Int):ia Try.prog 25 (some (.slr 1 b r len)) (some (.int k i))=if 0≤i∧i<len then some (.ret (.ptr b (r+i.toNat) 0),[])else none:=pR ⟨_,Try.underlying25,by kernel_rfl⟩ b r len k i
theorem Tq(fl nn:Bool)(rows:List (List AV))(k:IntKind)(i:Int):ia Try.prog 25 (some (Af 1 fl nn rows)) (some (.int k i))=if 0≤i then r1 ((rows[i.toNat]?).map .iptr)else none:=pG ⟨_,Try.underlying25,by kernel_rfl⟩ fl nn rows k i
theorem Jc(b r o:Nat):fa Try.prog 27 (some (.ptr b r o)) 0=some (.ret (.ptr b r (o+0)),[]):=Gv (show Hu Try.prog 27 0 0 1 from⟨_,_,Try.underlying27,rfl,rfl,by kernel_rfl,by decide⟩) b r o
theorem Ky(h:Ab)(b r o:Nat):ld Try.prog 22 h (some (.ptr b r o))=ldC (Qp (h[b]?) r) o:=dZ ⟨by kernel_rfl,1,by kernel_rfl⟩ h b r o
theorem bF(fl nn:Bool)(rows:List (List AV))(k:IntKind)(i:Int):ia Try.prog 22 (some (Af 3 fl nn rows)) (some (.int k i))=if 0≤i then r1 ((rows[i.toNat]?).map .iptr)else none:=pG ⟨_,Try.underlying22,by kernel_rfl⟩ fl nn rows k i
theorem am5(h:Ab)(b r o:Nat):ld Try.prog 50 h (some (.ptr b r o))=ldR (Qp (h[b]?) r) o 3:=wM ⟨by kernel_rfl,by kernel_rfl⟩ h b r o
theorem Xm(h:Ab)(cs:List AV):ld Try.prog 50 h (some (.iptr cs))=if 3≤cs.length then some (.ret (.agg (cs.take 3)),[])else none:=apZ ⟨by kernel_rfl,by kernel_rfl⟩ h cs
theorem kU:Le Try.prog 50=some (.agg [.int .i64 0,.int .i64 0,.bool false]):=by kernel_rfl
theorem jL(h:Ab)(b r o:Nat)(v:AV):st_ Try.prog 50 h (some (.ptr b r o)) (some v)=sv 3 (h[b]?) b r o (Am v):=Qo (by kernel_rfl) h b r o v
theorem iW(b r o:Nat):fa Try.prog 50 (some (.ptr b r o)) 2=some (.ret (.ptr b r (o+2)),[]):=Gv (show Hu Try.prog 50 2 2 1 from⟨_,_,Try.underlying50,rfl,rfl,by kernel_rfl,by decide⟩) b r o
theorem Xj(h:Ab)(b r o:Nat):ld Try.prog 4 h (some (.ptr b r o))=ldC (Qp (h[b]?) r) o:=dZ ⟨by kernel_rfl,1,by kernel_rfl⟩ h b r o
theorem asU(h:Ab)(c:AV)(cs:List AV):ld Try.prog 4 h (some (.iptr (c::cs)))=some (.ret c,[]):=aoZ ⟨by kernel_rfl,1,by kernel_rfl⟩ h c cs
theorem Vz(b r o:Nat):fa Try.prog 50 (some (.ptr b r o)) 0=some (.ret (.ptr b r (o+0)),[]):=Gv (show Hu Try.prog 50 0 0 1 from⟨_,_,Try.underlying50,rfl,rfl,by kernel_rfl,by decide⟩) b r o
theorem Wa(b r o:Nat):fa Try.prog 50 (some (.ptr b r o)) 1=some (.ret (.ptr b r (o+1)),[]):=Gv (show Hu Try.prog 50 1 1 1 from⟨_,_,Try.underlying50,rfl,rfl,by kernel_rfl,by decide⟩) b r o
theorem aBC(h:Ab)(b r o:Nat)(v:AV):st_ Try.prog 3 h (some (.ptr b r o)) (some v)=sv 1 (h[b]?) b r o (Am v):=Qo (by kernel_rfl) h b r o v
theorem jC(b r o:Nat):fa Try.prog 48 (some (.ptr b r o)) 3=some (.ret (.ptr b r (o+3)),[]):=Gv (show Hu Try.prog 48 3 3 1 from⟨_,_,Try.underlying48,rfl,rfl,by kernel_rfl,by decide⟩) b r o
theorem Vh(b r o:Nat):fa Try.prog 48 (some (.ptr b r o)) 2=some (.ret (.ptr b r (o+2)),[]):=Gv (show Hu Try.prog 48 2 2 1 from⟨_,_,Try.underlying48,rfl,rfl,by kernel_rfl,by decide⟩) b r o
theorem uB(b r len:Nat)(k:IntKind)(i:Int):ia Try.prog 51 (some (.slr 1 b r len)) (some (.int k i))=if 0≤i∧i<len then some (.ret (.ptr b (r+i.toNat) 0),[])else none:=pR ⟨_,Try.underlying51,by kernel_rfl⟩ b r len k i
theorem asP(fl nn:Bool)(rows:List (List AV))(k:IntKind)(i:Int):ia Try.prog 51 (some (Af 1 fl nn rows)) (some (.int k i))=if 0≤i then r1 ((rows[i.toNat]?).map .iptr)else none:=pG ⟨_,Try.underlying51,by kernel_rfl⟩ fl nn rows k i
theorem dC(b r o:Nat):fa Try.prog 48 (some (.ptr b r o)) 1=some (.ret (.ptr b r (o+1)),[]):=Gv (show Hu Try.prog 48 1 1 1 from⟨_,_,Try.underlying48,rfl,rfl,by kernel_rfl,by decide⟩) b r o
theorem Xq(fl nn:Bool)(rows:List (List AV)):ln Try.prog 22 (some (Af 3 fl nn rows))=some (.ret (.int .i64 rows.length),[]):=sO ⟨_,Try.underlying22,by kernel_rfl⟩ fl nn rows
theorem aAI(h:Ab)(b r o:Nat)(v:AV):st_ Try.prog 4 h (some (.ptr b r o)) (some v)=sv 1 (h[b]?) b r o (Am v):=Qo (by kernel_rfl) h b r o v
theorem Yp(b r o:Nat):fa Try.prog 27 (some (.ptr b r o)) 2=some (.ret (.ptr b r (o+2)),[]):=Gv (show Hu Try.prog 27 2 2 1 from⟨_,_,Try.underlying27,rfl,rfl,by kernel_rfl,by decide⟩) b r o
theorem bZ(h:Ab)(b r o:Nat):ld Try.prog 24 h (some (.ptr b r o))=ldC (Qp (h[b]?) r) o:=dZ ⟨by kernel_rfl,1,by kernel_rfl⟩ h b r o
theorem aQ(fl nn:Bool)(rows:List (List AV)):ln Try.prog 24 (some (Af 5 fl nn rows))=some (.ret (.int .i64 rows.length),[]):=sO ⟨_,Try.underlying24,by kernel_rfl⟩ fl nn rows
theorem axT:Le Try.prog 56=some (.agg [.int .i64 0,.bool false]):=by kernel_rfl
theorem av1:Le Try.prog 59=some (.agg [.int .i64 0,.int .i64 0,.nils,.int .i64 0,.int .i64 0]):=by kernel_rfl
theorem afT(st b r len:Nat):ln Try.prog 66 (some (.slr st b r len))=some (.ret (.int .i64 len),[]):=aaF (n:=2) ⟨_,Try.underlying66,by kernel_rfl⟩ st b r len
theorem afU:ln Try.prog 66 (some .nils)=some (.ret (.int .i64 0),[]):=yN (n:=2) ⟨_,Try.underlying66,by kernel_rfl⟩
theorem aeP(fl nn:Bool)(rows:List (List AV)):ln Try.prog 66 (some (Af 2 fl nn rows))=some (.ret (.int .i64 rows.length),[]):=sO ⟨_,Try.underlying66,by kernel_rfl⟩ fl nn rows
theorem cH(b r o:Nat):fa Try.prog 27 (some (.ptr b r o)) 5=some (.ret (.ptr b r (o+5)),[]):=Gv (show Hu Try.prog 27 5 5 1 from⟨_,_,Try.underlying27,rfl,rfl,by kernel_rfl,by decide⟩) b r o
theorem sP(b r len:Nat)(k:IntKind)(i:Int):ia Try.prog 66 (some (.slr 2 b r len)) (some (.int k i))=if 0≤i∧i<len then some (.ret (.ptr b (r+i.toNat) 0),[])else none:=pR ⟨_,Try.underlying66,by kernel_rfl⟩ b r len k i
theorem agB(fl nn:Bool)(rows:List (List AV))(k:IntKind)(i:Int):ia Try.prog 66 (some (Af 2 fl nn rows)) (some (.int k i))=if 0≤i then r1 ((rows[i.toNat]?).map .iptr)else none:=pG ⟨_,Try.underlying66,by kernel_rfl⟩ fl nn rows k i
theorem dW(fl nn:Bool)(rows:List (List AV))(k:IntKind)(i:Int):ia Try.prog 24 (some (Af 5 fl nn rows)) (some (.int k i))=if 0≤i then r1 ((rows[i.toNat]?).map .iptr)else none:=pG ⟨_,Try.underlying24,by kernel_rfl⟩ fl nn rows k i
theorem cL(b r o:Nat):fa Try.prog 59 (some (.ptr b r o)) 2=some (.ret (.ptr b r (o+2)),[]):=Gv (show Hu Try.prog 59 2 2 1 from⟨_,_,Try.underlying59,rfl,rfl,by kernel_rfl,by decide⟩) b r o
theorem alR(cs:List AV):fa Try.prog 59 (some (.iptr cs)) 2=if 2+1≤cs.length then some (.ret (.iptr (cs.drop 2)),[])else none:=fV (show Hu Try.prog 59 2 2 1 from⟨_,_,Try.underlying59,rfl,rfl,by kernel_rfl,by decide⟩) cs
theorem iE(h:Ab)(b r o:Nat):ld Try.prog 57 h (some (.ptr b r o))=ldC (Qp (h[b]?) r) o:=dZ ⟨by kernel_rfl,1,by kernel_rfl⟩ h b r o
theorem anQ(h:Ab)(c:AV)(cs:List AV):ld Try.prog 57 h (some (.iptr (c::cs)))=some (.ret c,[]):=aoZ ⟨by kernel_rfl,1,by kernel_rfl⟩ h c cs
theorem eV(fl nn:Bool)(rows:List (List AV)):ln Try.prog 57 (some (Af 2 fl nn rows))=some (.ret (.int .i64 rows.length),[]):=sO ⟨_,Try.underlying57,by kernel_rfl⟩ fl nn rows
theorem jZ(b r o:Nat):fa Try.prog 27 (some (.ptr b r o)) 6=some (.ret (.ptr b r (o+6)),[]):=Gv (show Hu Try.prog 27 6 6 1 from⟨_,_,Try.underlying27,rfl,rfl,by kernel_rfl,by decide⟩) b r o
theorem Xv(base len:Nat)(ps:List (Nat × AV)):rD (Du Try.prog base 25 len ps)=bsK 1 (.int .i64 0) base len ps:=aqX (e:=3) (by kernel_rfl) (by kernel_rfl) (by kernel_rfl) base len ps
theorem akV:Le Try.prog 29=some (.agg [.nils,.int .i64 0]):=by kernel_rfl
theorem aaS(h:Ab)(b r o:Nat)(v:AV):st_ Try.prog 29 h (some (.ptr b r o)) (some v)=sv 2 (h[b]?) b r o (Am v):=Qo (by kernel_rfl) h b r o v
theorem arS(b r o:Nat):ftS Try.prog 29 (some (.ptr b r o))=some [.cells b o 2]:=sG (by kernel_rfl) b r o
theorem lY(base len:Nat)(ps:List (Nat × AV)):rD (Du Try.prog base 66 len ps)=bsK 2 (.agg [.nils,.int .i64 0]) base len ps:=aqX (e:=29) (by kernel_rfl) (by kernel_rfl) (by kernel_rfl) base len ps
theorem uZ(ps:List (Nat × AV)):Zr Try.prog 86 ps=(Vj (fun i=>([(0,1),(1,1)]:List (Nat × Nat))[i]?) (Am (.agg [.int .i64 0,.int .i64 0])) ps).map .agg:=by kernel_rfl
theorem wR(b r o:Nat):fa Try.prog 29 (some (.ptr b r o)) 1=some (.ret (.ptr b r (o+1)),[]):=Gv (show Hu Try.prog 29 1 1 1 from⟨_,_,Try.underlying29,rfl,rfl,by kernel_rfl,by decide⟩) b r o
theorem vX(cs:List AV):fa Try.prog 29 (some (.iptr cs)) 1=if 1+1≤cs.length then some (.ret (.iptr (cs.drop 1)),[])else none:=fV (show Hu Try.prog 29 1 1 1 from⟨_,_,Try.underlying29,rfl,rfl,by kernel_rfl,by decide⟩) cs
theorem arY(ps:List (Nat × AV)):Zr Try.prog 90 ps=(Vj (fun i=>([(0,1),(1,1)]:List (Nat × Nat))[i]?) (Am (.agg [.int .i64 0,.int .i64 0])) ps).map .agg:=by kernel_rfl
theorem cB:Le Try.prog 86=some (.agg [.int .i64 0,.int .i64 0]):=by kernel_rfl
theorem bV(h:Ab)(b r o:Nat)(v:AV):st_ Try.prog 86 h (some (.ptr b r o)) (some v)=sv 2 (h[b]?) b r o (Am v):=Qo (by kernel_rfl) h b r o v
theorem ar4(b r o:Nat):ftS Try.prog 86 (some (.ptr b r o))=some [.cells b o 2]:=sG (by kernel_rfl) b r o
theorem dB(b r o:Nat):fa Try.prog 86 (some (.ptr b r o)) 0=some (.ret (.ptr b r (o+0)),[]):=Gv (show Hu Try.prog 86 0 0 1 from⟨_,_,Try.underlying86,rfl,rfl,by kernel_rfl,by decide⟩) b r o
theorem vA(b r o:Nat):fa Try.prog 86 (some (.ptr b r o)) 1=some (.ret (.ptr b r (o+1)),[]):=Gv (show Hu Try.prog 86 1 1 1 from⟨_,_,Try.underlying86,rfl,rfl,by kernel_rfl,by decide⟩) b r o
theorem Si(b r o:Nat):fa Try.prog 27 (some (.ptr b r o)) 4=some (.ret (.ptr b r (o+4)),[]):=Gv (show Hu Try.prog 27 4 4 1 from⟨_,_,Try.underlying27,rfl,rfl,by kernel_rfl,by decide⟩) b r o
theorem zS(h:Ab)(b r o:Nat):ld Try.prog 59 h (some (.ptr b r o))=ldR (Qp (h[b]?) r) o 5:=wM ⟨by kernel_rfl,by kernel_rfl⟩ h b r o
theorem gX(h:Ab)(cs:List AV):ld Try.prog 59 h (some (.iptr cs))=if 5≤cs.length then some (.ret (.agg (cs.take 5)),[])else none:=apZ ⟨by kernel_rfl,by kernel_rfl⟩ h cs
theorem lA(b r o:Nat):fa Try.prog 59 (some (.ptr b r o)) 1=some (.ret (.ptr b r (o+1)),[]):=Gv (show Hu Try.prog 59 1 1 1 from⟨_,_,Try.underlying59,rfl,rfl,by kernel_rfl,by decide⟩) b r o
theorem alQ(cs:List AV):fa Try.prog 59 (some (.iptr cs)) 1=if 1+1≤cs.length then some (.ret (.iptr (cs.drop 1)),[])else none:=fV (show Hu Try.prog 59 1 1 1 from⟨_,_,Try.underlying59,rfl,rfl,by kernel_rfl,by decide⟩) cs
theorem aw0:Le Try.prog 96=some (.nils):=by kernel_rfl
theorem awG(h:Ab)(b r o:Nat)(v:AV):st_ Try.prog 96 h (some (.ptr b r o)) (some v)=sv 1 (h[b]?) b r o (Am v):=Qo (by kernel_rfl) h b r o v
theorem ar8(b r o:Nat):ftS Try.prog 96 (some (.ptr b r o))=some [.cells b o 1]:=sG (by kernel_rfl) b r o
theorem yW(h:Ab)(b r o:Nat):ld Try.prog 96 h (some (.ptr b r o))=ldC (Qp (h[b]?) r) o:=dZ ⟨by kernel_rfl,1,by kernel_rfl⟩ h b r o
theorem asK(b r o:Nat):ftL Try.prog 96 (some (.ptr b r o))=some [.cells b o 1]:=gG (isA:=false) (n:=1) (by kernel_rfl) (by kernel_rfl) b r o
theorem tI(st b r len:Nat):ln Try.prog 99 (some (.slr st b r len))=some (.ret (.int .i64 len),[]):=aaF (n:=2) ⟨_,Try.underlying99,by kernel_rfl⟩ st b r len
theorem aqY:ln Try.prog 99 (some .nils)=some (.ret (.int .i64 0),[]):=yN (n:=2) ⟨_,Try.underlying99,by kernel_rfl⟩
theorem tQ(b r len:Nat)(k:IntKind)(i:Int):ia Try.prog 99 (some (.slr 2 b r len)) (some (.int k i))=if 0≤i∧i<len then some (.ret (.ptr b (r+i.toNat) 0),[])else none:=pR ⟨_,Try.underlying99,by kernel_rfl⟩ b r len k i
theorem Qn(h:Ab)(b r o:Nat):ld Try.prog 86 h (some (.ptr b r o))=ldR (Qp (h[b]?) r) o 2:=wM ⟨by kernel_rfl,by kernel_rfl⟩ h b r o
theorem agH(b r o:Nat):ftL Try.prog 86 (some (.ptr b r o))=some [.cells b o 2]:=gG (isA:=true) (n:=2) (by kernel_rfl) (by kernel_rfl) b r o
theorem Yo{O:Hv}(t:List AV)(h:Ab)(s x:Operand):Hn O Try.prog t h (.call ⟨.builtin .append,#[s,x],#[66,66]⟩)=apO Try.prog 66 h (Ai t s) (Ai t x):=agQ t h s x 66 66 _ Try.underlying66
theorem mG(h:Ab)(s:AV)(a b r l:Nat):apO Try.prog 66 h (some s) (some (.slr a b r l))=apK 2 h (some s) (srK 2 h (some (.slr a b r l))):=sB (e:=29) (b:=32) (z:=.agg [.nils,.int .i64 0]) (by kernel_rfl) (by kernel_rfl) (by kernel_rfl) (by kernel_rfl) (by decide+kernel) h s _ (fun q e=>by cases e)
theorem asJ(h:Ab)(s:AV)  :apO Try.prog 66 h (some s) (some .nils)=apK 2 h (some s) (srK 2 h (some .nils)):=sB (e:=29) (b:=32) (z:=.agg [.nils,.int .i64 0]) (by kernel_rfl) (by kernel_rfl) (by kernel_rfl) (by kernel_rfl) (by decide+kernel) h s _ (fun q e=>by cases e)
theorem arU(base:Nat)(l c:Option AV):msO Try.prog 25 base l c=msK 1 (.int .i64 0) base l c:=ax8 (e:=3) (n:=1) (b:=8) (by kernel_rfl) (by kernel_rfl) (by kernel_rfl) (by kernel_rfl) (by decide+kernel) base l c
theorem ar1(base len:Nat)(ps:List (Nat × AV)):rD (Du Try.prog base 51 len ps)=bsK 1 (.bool false) base len ps:=aqX (e:=4) (by kernel_rfl) (by kernel_rfl) (by kernel_rfl) base len ps
theorem adM{O:Hv}(t:List AV)(h:Ab)(s x:Operand):Hn O Try.prog t h (.call ⟨.builtin .append,#[s,x],#[51,51]⟩)=apO Try.prog 51 h (Ai t s) (Ai t x):=agQ t h s x 51 51 _ Try.underlying51
theorem arF(h:Ab)(s:AV)(a b r l:Nat):apO Try.prog 51 h (some s) (some (.slr a b r l))=apK 1 h (some s) (srK 1 h (some (.slr a b r l))):=sB (e:=4) (b:=1) (z:=.bool false) (by kernel_rfl) (by kernel_rfl) (by kernel_rfl) (by kernel_rfl) (by decide+kernel) h s _ (fun q e=>by cases e)
theorem akU:Le Try.prog 66=some (.nils):=by kernel_rfl
theorem aaB(h:Ab)(b r o:Nat)(v:AV):st_ Try.prog 66 h (some (.ptr b r o)) (some v)=sv 1 (h[b]?) b r o (Am v):=Qo (by kernel_rfl) h b r o v
theorem aeG(b r o:Nat):ftS Try.prog 66 (some (.ptr b r o))=some [.cells b o 1]:=sG (by kernel_rfl) b r o
theorem aq6:Le Try.prog 100=some (.nilm):=by kernel_rfl
theorem arB(h:Ab)(b r o:Nat)(v:AV):st_ Try.prog 100 h (some (.ptr b r o)) (some v)=sv 1 (h[b]?) b r o (Am v):=Qo (by kernel_rfl) h b r o v
theorem zN(b r len:Nat)(k:IntKind)(i:Int):ia Try.prog 106 (some (.slr 1 b r len)) (some (.int k i))=if 0≤i∧i<len then some (.ret (.ptr b (r+i.toNat) 0),[])else none:=pR ⟨_,Try.underlying106,by kernel_rfl⟩ b r len k i
theorem bL(h:Ab)(b r o:Nat):ld Try.prog 66 h (some (.ptr b r o))=ldC (Qp (h[b]?) r) o:=dZ ⟨by kernel_rfl,1,by kernel_rfl⟩ h b r o
theorem agF(b r o:Nat):ftL Try.prog 66 (some (.ptr b r o))=some [.cells b o 1]:=gG (isA:=false) (n:=1) (by kernel_rfl) (by kernel_rfl) b r o
theorem uQ(ps:List (Nat × AV)):Zr Try.prog 29 ps=(Vj (fun i=>([(0,1),(1,1)]:List (Nat × Nat))[i]?) (Am (.agg [.nils,.int .i64 0])) ps).map .agg:=by kernel_rfl
theorem aw1(h:Ab)(b r o:Nat)(v:AV):st_ Try.prog 59 h (some (.ptr b r o)) (some v)=sv 5 (h[b]?) b r o (Am v):=Qo (by kernel_rfl) h b r o v
theorem ab8(h:Ab)(b r o:Nat):ld Try.prog 90 h (some (.ptr b r o))=ldR (Qp (h[b]?) r) o 2:=wM ⟨by kernel_rfl,by kernel_rfl⟩ h b r o
theorem an1(ps:List (Nat × AV)):Zr Try.prog 126 ps=(Vj (fun i=>([(0,5),(5,2),(7,2)]:List (Nat × Nat))[i]?) (Am (.agg [.int .i64 0,.int .i64 0,.nils,.int .i64 0,.int .i64 0,.int .i64 0,.int .i64 0,.int .i64 0,.int .i64 0])) ps).map .agg:=by kernel_rfl
theorem mS(fl nn:Bool)(rows:List (List AV))(k:IntKind)(i:Int):ia Try.prog 57 (some (Af 2 fl nn rows)) (some (.int k i))=if 0≤i then r1 ((rows[i.toNat]?).map .iptr)else none:=pG ⟨_,Try.underlying57,by kernel_rfl⟩ fl nn rows k i
theorem kZ(b r o:Nat):fa Try.prog 56 (some (.ptr b r o)) 0=some (.ret (.ptr b r (o+0)),[]):=Gv (show Hu Try.prog 56 0 0 1 from⟨_,_,Try.underlying56,rfl,rfl,by kernel_rfl,by decide⟩) b r o
theorem vE(cs:List AV):fa Try.prog 56 (some (.iptr cs)) 0=if 0+1≤cs.length then some (.ret (.iptr (cs.drop 0)),[])else none:=fV (show Hu Try.prog 56 0 0 1 from⟨_,_,Try.underlying56,rfl,rfl,by kernel_rfl,by decide⟩) cs
theorem cN(b r o:Nat):fa Try.prog 59 (some (.ptr b r o)) 0=some (.ret (.ptr b r (o+0)),[]):=Gv (show Hu Try.prog 59 0 0 1 from⟨_,_,Try.underlying59,rfl,rfl,by kernel_rfl,by decide⟩) b r o
theorem dA(b r o:Nat):fa Try.prog 59 (some (.ptr b r o)) 3=some (.ret (.ptr b r (o+3)),[]):=Gv (show Hu Try.prog 59 3 3 1 from⟨_,_,Try.underlying59,rfl,rfl,by kernel_rfl,by decide⟩) b r o
theorem dE(b r o:Nat):fa Try.prog 59 (some (.ptr b r o)) 4=some (.ret (.ptr b r (o+4)),[]):=Gv (show Hu Try.prog 59 4 4 1 from⟨_,_,Try.underlying59,rfl,rfl,by kernel_rfl,by decide⟩) b r o
theorem akN(b r o:Nat):fa Try.prog 56 (some (.ptr b r o)) 1=some (.ret (.ptr b r (o+1)),[]):=Gv (show Hu Try.prog 56 1 1 1 from⟨_,_,Try.underlying56,rfl,rfl,by kernel_rfl,by decide⟩) b r o
theorem akC(cs:List AV):fa Try.prog 56 (some (.iptr cs)) 1=if 1+1≤cs.length then some (.ret (.iptr (cs.drop 1)),[])else none:=fV (show Hu Try.prog 56 1 1 1 from⟨_,_,Try.underlying56,rfl,rfl,by kernel_rfl,by decide⟩) cs
theorem asV:Le Try.prog 129=some (.nilm):=by kernel_rfl
theorem arV(h:Ab)(b r o:Nat)(v:AV):st_ Try.prog 129 h (some (.ptr b r o)) (some v)=sv 1 (h[b]?) b r o (Am v):=Qo (by kernel_rfl) h b r o v
theorem ai8:Le Try.prog 25=some (.nils):=by kernel_rfl
theorem ajJ(h:Ab)(b r o:Nat)(v:AV):st_ Try.prog 25 h (some (.ptr b r o)) (some v)=sv 1 (h[b]?) b r o (Am v):=Qo (by kernel_rfl) h b r o v
theorem aq4:Le Try.prog 130=some (.nilf):=by kernel_rfl
theorem as3(h:Ab)(b r o:Nat)(v:AV):st_ Try.prog 130 h (some (.ptr b r o)) (some v)=sv 1 (h[b]?) b r o (Am v):=Qo (by kernel_rfl) h b r o v
theorem vV(h:Ab)(b r o:Nat):ld Try.prog 130 h (some (.ptr b r o))=ldC (Qp (h[b]?) r) o:=dZ ⟨by kernel_rfl,1,by kernel_rfl⟩ h b r o
theorem an4(ps:List (Nat × AV)):Zr Try.prog 114 ps=(Vj (fun i=>([(0,2),(2,1)]:List (Nat × Nat))[i]?) (Am (.agg [.int .i64 0,.int .i64 0,.int .i64 0])) ps).map .agg:=by kernel_rfl
theorem anI(ps:List (Nat × AV)):Zr Try.prog 135 ps=(Vj (fun i=>([(0,1)]:List (Nat × Nat))[i]?) (Am (.agg [.nils])) ps).map .agg:=by kernel_rfl
theorem afD(base len:Nat)(ps:List (Nat × AV)):rD (Du Try.prog base 99 len ps)=bsK 2 (.agg [.int .i64 0,.int .i64 0]) base len ps:=aqX (e:=86) (by kernel_rfl) (by kernel_rfl) (by kernel_rfl) base len ps
theorem nU{O:Hv}(t:List AV)(h:Ab)(s x:Operand):Hn O Try.prog t h (.call ⟨.builtin .append,#[s,x],#[99,99]⟩)=apO Try.prog 99 h (Ai t s) (Ai t x):=agQ t h s x 99 99 _ Try.underlying99
theorem af4(h:Ab)(s:AV)(a b r l:Nat):apO Try.prog 99 h (some s) (some (.slr a b r l))=apK 2 h (some s) (srK 2 h (some (.slr a b r l))):=sB (e:=86) (b:=16) (z:=.agg [.int .i64 0,.int .i64 0]) (by kernel_rfl) (by kernel_rfl) (by kernel_rfl) (by kernel_rfl) (by decide+kernel) h s _ (fun q e=>by cases e)
theorem arZ(st b r len:Nat):ln Try.prog 96 (some (.slr st b r len))=some (.ret (.int .i64 len),[]):=aaF (n:=2) ⟨_,Try.underlying96,by kernel_rfl⟩ st b r len
theorem arH(b r len:Nat)(k:IntKind)(i:Int):ia Try.prog 96 (some (.slr 2 b r len)) (some (.int k i))=if 0≤i∧i<len then some (.ret (.ptr b (r+i.toNat) 0),[])else none:=pR ⟨_,Try.underlying96,by kernel_rfl⟩ b r len k i
theorem auJ:Le Try.prog 90=some (.agg [.int .i64 0,.int .i64 0]):=by kernel_rfl
theorem awR(h:Ab)(b r o:Nat)(v:AV):st_ Try.prog 90 h (some (.ptr b r o)) (some v)=sv 2 (h[b]?) b r o (Am v):=Qo (by kernel_rfl) h b r o v
theorem agM:Le Try.prog 114=some (.agg [.int .i64 0,.int .i64 0,.int .i64 0]):=by kernel_rfl
theorem afF(h:Ab)(b r o:Nat)(v:AV):st_ Try.prog 114 h (some (.ptr b r o)) (some v)=sv 3 (h[b]?) b r o (Am v):=Qo (by kernel_rfl) h b r o v
theorem aj2(b r o:Nat):fa Try.prog 90 (some (.ptr b r o)) 0=some (.ret (.ptr b r (o+0)),[]):=Gv (show Hu Try.prog 90 0 0 1 from⟨_,_,Try.underlying90,rfl,rfl,by kernel_rfl,by decide⟩) b r o
theorem anB(base:Nat)(l c:Option AV):msO Try.prog 106 base l c=msK 1 (.nils) base l c:=ax8 (e:=66) (n:=1) (b:=24) (by kernel_rfl) (by kernel_rfl) (by kernel_rfl) (by kernel_rfl) (by decide+kernel) base l c
theorem aqQ(base:Nat)(l c:Option AV):msO Try.prog 51 base l c=msK 1 (.bool false) base l c:=ax8 (e:=4) (n:=1) (b:=1) (by kernel_rfl) (by kernel_rfl) (by kernel_rfl) (by kernel_rfl) (by decide+kernel) base l c
theorem amQ(base len:Nat)(ps:List (Nat × AV)):rD (Du Try.prog base 143 len ps)=bsK 1 (.nils) base len ps:=aqX (e:=25) (by kernel_rfl) (by kernel_rfl) (by kernel_rfl) base len ps
theorem anY(st b r len:Nat):ln Try.prog 143 (some (.slr st b r len))=some (.ret (.int .i64 len),[]):=aaF (n:=1) ⟨_,Try.underlying143,by kernel_rfl⟩ st b r len
theorem anA(b r len:Nat)(k:IntKind)(i:Int):ia Try.prog 143 (some (.slr 1 b r len)) (some (.int k i))=if 0≤i∧i<len then some (.ret (.ptr b (r+i.toNat) 0),[])else none:=pR ⟨_,Try.underlying143,by kernel_rfl⟩ b r len k i
theorem xE{O:Hv}(t:List AV)(h:Ab)(s x:Operand):Hn O Try.prog t h (.call ⟨.builtin .append,#[s,x],#[143,143]⟩)=apO Try.prog 143 h (Ai t s) (Ai t x):=agQ t h s x 143 143 _ Try.underlying143
theorem amH(h:Ab)(s:AV)(a b r l:Nat):apO Try.prog 143 h (some s) (some (.slr a b r l))=apK 1 h (some s) (srK 1 h (some (.slr a b r l))):=sB (e:=25) (b:=24) (z:=.nils) (by kernel_rfl) (by kernel_rfl) (by kernel_rfl) (by kernel_rfl) (by decide+kernel) h s _ (fun q e=>by cases e)
theorem alP(h:Ab)(b r o:Nat):ld Try.prog 100 h (some (.ptr b r o))=ldC (Qp (h[b]?) r) o:=dZ ⟨by kernel_rfl,1,by kernel_rfl⟩ h b r o
theorem ah9(b r o:Nat):fa Try.prog 114 (some (.ptr b r o)) 1=some (.ret (.ptr b r (o+2)),[]):=Gv (show Hu Try.prog 114 1 2 1 from⟨_,_,Try.underlying114,rfl,rfl,by kernel_rfl,by decide⟩) b r o
theorem ah8(b r o:Nat):fa Try.prog 114 (some (.ptr b r o)) 0=some (.ret (.ptr b r (o+0)),[]):=Gv (show Hu Try.prog 114 0 0 2 from⟨_,_,Try.underlying114,rfl,rfl,by kernel_rfl,by decide⟩) b r o
theorem aqO(n:Nat)(fl:Bool)(rows:List (List AV)):Pn Try.prog .eql 25 (.imm n fl rows) .nils=some (.bool false):=alN Try.underlying25 n fl rows
theorem ab6(h:Ab)(cs:List AV):ld Try.prog 56 h (some (.iptr cs))=if 2≤cs.length then some (.ret (.agg (cs.take 2)),[])else none:=apZ ⟨by kernel_rfl,by kernel_rfl⟩ h cs
theorem au2(h:Ab)(b r o:Nat)(v:AV):st_ Try.prog 56 h (some (.ptr b r o)) (some v)=sv 2 (h[b]?) b r o (Am v):=Qo (by kernel_rfl) h b r o v
theorem wP(h:Ab)(b r o:Nat):ld Try.prog 126 h (some (.ptr b r o))=ldR (Qp (h[b]?) r) o 9:=wM ⟨by kernel_rfl,by kernel_rfl⟩ h b r o
theorem akF(h:Ab)(b r o:Nat):ld Try.prog 129 h (some (.ptr b r o))=ldC (Qp (h[b]?) r) o:=dZ ⟨by kernel_rfl,1,by kernel_rfl⟩ h b r o
theorem ap5(base len:Nat)(ps:List (Nat × AV)):rD (Du Try.prog base 96 len ps)=bsK 2 (.agg [.int .i64 0,.int .i64 0]) base len ps:=aqX (e:=90) (by kernel_rfl) (by kernel_rfl) (by kernel_rfl) base len ps
theorem acQ{O:Hv}(t:List AV)(h:Ab)(s x:Operand):Hn O Try.prog t h (.call ⟨.builtin .append,#[s,x],#[96,96]⟩)=apO Try.prog 96 h (Ai t s) (Ai t x):=agQ t h s x 96 96 _ Try.underlying96
theorem aqF(h:Ab)(s:AV)(a b r l:Nat):apO Try.prog 96 h (some s) (some (.slr a b r l))=apK 2 h (some s) (srK 2 h (some (.slr a b r l))):=sB (e:=90) (b:=16) (z:=.agg [.int .i64 0,.int .i64 0]) (by kernel_rfl) (by kernel_rfl) (by kernel_rfl) (by kernel_rfl) (by decide+kernel) h s _ (fun q e=>by cases e)
theorem aB(b r o:Nat):fa Try.prog 126 (some (.ptr b r o)) 0=some (.ret (.ptr b r (o+0)),[]):=Gv (show Hu Try.prog 126 0 0 5 from⟨_,_,Try.underlying126,rfl,rfl,by kernel_rfl,by decide⟩) b r o
theorem rN(b r o:Nat):fa Try.prog 126 (some (.ptr b r o)) 1=some (.ret (.ptr b r (o+5)),[]):=Gv (show Hu Try.prog 126 1 5 2 from⟨_,_,Try.underlying126,rfl,rfl,by kernel_rfl,by decide⟩) b r o
theorem rO(b r o:Nat):fa Try.prog 126 (some (.ptr b r o)) 2=some (.ret (.ptr b r (o+7)),[]):=Gv (show Hu Try.prog 126 2 7 2 from⟨_,_,Try.underlying126,rfl,rfl,by kernel_rfl,by decide⟩) b r o
theorem aiY(b r o:Nat):fa Try.prog 90 (some (.ptr b r o)) 1=some (.ret (.ptr b r (o+1)),[]):=Gv (show Hu Try.prog 90 1 1 1 from⟨_,_,Try.underlying90,rfl,rfl,by kernel_rfl,by decide⟩) b r o
theorem qW(b r o:Nat):fa Try.prog 135 (some (.ptr b r o)) 0=some (.ret (.ptr b r (o+0)),[]):=Gv (show Hu Try.prog 135 0 0 1 from⟨_,_,Try.underlying135,rfl,rfl,by kernel_rfl,by decide⟩) b r o
theorem aa3(h:Ab)(b r o:Nat):ld Try.prog 99 h (some (.ptr b r o))=ldC (Qp (h[b]?) r) o:=dZ ⟨by kernel_rfl,1,by kernel_rfl⟩ h b r o
theorem arW(b r o:Nat):ftL Try.prog 99 (some (.ptr b r o))=some [.cells b o 1]:=gG (isA:=false) (n:=1) (by kernel_rfl) (by kernel_rfl) b r o
theorem ajB(h:Ab)(b r o:Nat)(v:AV):st_ Try.prog 99 h (some (.ptr b r o)) (some v)=sv 1 (h[b]?) b r o (Am v):=Qo (by kernel_rfl) h b r o v
theorem as0(b r o:Nat):ftS Try.prog 99 (some (.ptr b r o))=some [.cells b o 1]:=sG (by kernel_rfl) b r o
def TY9:=PLift.up (acE @Gt (acE @asM (acE @afU (acE @Lp @Dh))))
def zP:=PLift.up (acE @Ks (acE @Nj (acE @Qf (acE @Vl (acE @ak2 (acE @Jz (acE @oY (acE @Oj (acE @Yp (acE @bZ (acE @aQ (acE @dW (acE @alR (acE @anQ (acE @eV (acE @Jc (acE @Ky (acE @Xq @jZ))))))))))))))))))
def iR:=PLift.up (acE @Jc (acE @Ky (acE @Xq (acE @bF (acE @Xm (acE @kU (acE @jL (acE @Vz (acE @Dh (acE @Kt (acE @Wa (acE @Ks (acE @Nj (acE @Qf (acE @Vl (acE @Vd (acE @Lp (acE @Si (acE @cH (acE @jZ (acE @Jz (acE @Oj (acE @Yp (acE @bZ (acE @aQ (acE @Tq (acE @Gt (acE @dW @gX))))))))))))))))))))))))))))
def acM:=PLift.up (acE @Gt (acE @vG (acE @Jz (acE @Yp (acE @bZ (acE @aQ (acE @dW (acE @gX (acE @wR (acE @Dh (acE @Kt @alQ)))))))))))
def aT6:=PLift.up (acE @Gt (acE @Jc (acE @Ky @Xq)))
def arC:=PLift.up (acE @Ks (acE @Nj (acE @Qf (acE @Gt (acE @Vl (acE @Vd (acE @ar1 (acE @adM @arF))))))))
def aaG:=PLift.up (acE @Gt (acE @Lp (acE @Dh (acE @tI (acE @tQ (acE @Qn (acE @cB (acE @bV (acE @dB (acE @Xv (acE @Ni @aV)))))))))))
def acN:=PLift.up (acE @Gt (acE @Lp (acE @Dh (acE @akU (acE @aaB (acE @aq6 (acE @arB (acE @tI (acE @tQ (acE @Qn (acE @cB (acE @bV @dB))))))))))))
def a4N:=PLift.up (acE @Oj (acE @Tq @Kt))
def abI:=PLift.up (acE @Gt (acE @Lp (acE @Dh (acE @uB (acE @Xj (acE @Xv (acE @Ni @aV)))))))
def ac9:=PLift.up (acE @Gt (acE @zN (acE @bL (acE @uB @Xj))))
def azY:=PLift.up (acE @aeP (acE @agB (acE @vX (acE @Kt (acE @wS @oY)))))
def sV:=PLift.up (acE @aeP (acE @agB (acE @wS (acE @oY (acE @Oj (acE @Tq (acE @Kt @vX)))))))
def fF:=PLift.up (acE @Jc (acE @Ky (acE @Xq (acE @Ks (acE @Nj (acE @Qf (acE @Yp (acE @bZ (acE @aQ (acE @Lp (acE @Dh (acE @Si (acE @cH (acE @jZ (acE @Jz (acE @Oj (acE @bF (acE @Xm (acE @kU (acE @jL (acE @Vz (acE @Wa (acE @Vl (acE @Vd (acE @lH (acE @kK (acE @Yz (acE @dC @Vh))))))))))))))))))))))))))))
def acU:=PLift.up (acE @Qn (acE @cB (acE @Yp (acE @bZ (acE @aQ (acE @dW (acE @zS (acE @gX (acE @av1 (acE @aw1 (acE @ab8 (acE @an1 (acE @lA (acE @Dh (acE @uZ (acE @bV (acE @dB @vA)))))))))))))))))
def sE:=PLift.up (acE @Ks (acE @Nj (acE @Qf (acE @Vl (acE @oQ (acE @Vd (acE @lH (acE @kK (acE @Yz (acE @Jz (acE @Oj (acE @Tq (acE @Dh (acE @Kt (acE @Jc (acE @Ky (acE @bF (acE @Xm @dC))))))))))))))))))
def ap2:=PLift.up (acE @Yz (acE @Jz (acE @Oj (acE @Tq (acE @Dh (acE @Kt (acE @dC @Vh)))))))
def aaV:=PLift.up (acE @cL (acE @iE (acE @eV (acE @mS (acE @vE (acE @Dh (acE @Kt (acE @Ks (acE @Nj (acE @Qf (acE @cN (acE @Lp (acE @lA (acE @dA (acE @Si @dE)))))))))))))))
def awL:=PLift.up (acE @cL (acE @iE (acE @eV (acE @mS (acE @vE (acE @Dh (acE @Kt (acE @asP (acE @asU (acE @akC (acE @cN (acE @dE @dA))))))))))))
def aBU:=PLift.up (acE @Si (acE @Dh (acE @Jc (acE @Ky (acE @Xq (acE @Gt @bD))))))
def xP:=PLift.up (acE @Oj (acE @Tq @Kt))
def bj7:=PLift.up (acE @akU (acE @aw0 (acE @asV (acE @arV (acE @Jc (acE @Ky (acE @Xq (acE @arU (acE @ai8 (acE @ajJ (acE @aq4 (acE @as3 (acE @vV (acE @bL @yW))))))))))))))
def ac8:=PLift.up (acE @cH (acE @Dh (acE @uZ (acE @cB (acE @bV (acE @Qn (acE @an4 (acE @anI (acE @afD (acE @nU (acE @af4 (acE @arZ (acE @arH (acE @ab8 (acE @auJ (acE @awR (acE @Gt (acE @agM @afF))))))))))))))))))
def adN:=PLift.up (acE @Lp (acE @Dh (acE @aaJ (acE @anB (acE @aqQ (acE @Gt (acE @cH (acE @uB (acE @aAI (acE @Xv (acE @bD (acE @dY (acE @afT (acE @sP (acE @gI (acE @asD (acE @Xj (acE @zN (acE @bL (acE @agF (acE @Yo (acE @mG (acE @asJ (acE @lY (acE @aaB (acE @aeG (acE @Ni @aV)))))))))))))))))))))))))))
def eE:=PLift.up (acE @amQ (acE @Jc (acE @Ky (acE @Xq (acE @Gt (acE @anY (acE @bD (acE @anA (acE @Jz (acE @sN (acE @Ni (acE @aV (acE @aq5 (acE @dY (acE @Dh (acE @aaJ (acE @Xv (acE @xE (acE @amH (acE @Si (acE @uQ (acE @lY (acE @Yo @mG)))))))))))))))))))))))
def aM6:=PLift.up (acE @Yz (acE @Jz (acE @Oj (acE @Gt (acE @oQ (acE @Tq (acE @Dh (acE @Kt @dC))))))))
def axF:=PLift.up (acE @Qn (acE @cB (acE @akV (acE @bV (acE @aaS (acE @gI (acE @lY (acE @Yo @mG))))))))
def bhF:=PLift.up (acE @Qn (acE @agH (acE @gI (acE @cB (acE @akV (acE @alP (acE @agM (acE @afF (acE @ah9 (acE @Dh (acE @aaJ (acE @uQ (acE @bV (acE @ar4 (acE @aaS (acE @arS (acE @bL (acE @sP (acE @ah8 (acE @vG (acE @Jz (acE @sN @wR))))))))))))))))))))))
def blB:=PLift.up (acE @aqO (acE @Xv (acE @Ni @as5)))
def bkU:=PLift.up (acE @Gt @zS)
def qM:=PLift.up (acE @cL (acE @iE (acE @eV (acE @mS (acE @ab6 (acE @axT (acE @au2 (acE @kZ (acE @Dh (acE @Ks (acE @Nj (acE @Qf (acE @cN (acE @Lp (acE @lA (acE @dA (acE @Si @dE)))))))))))))))))
def aBJ:=PLift.up (acE @wP @wP)
def bj8:=PLift.up (acE @iW (acE @Xj (acE @Vz (acE @Dh (acE @Wa (acE @jC @Vh))))))
def fG:=PLift.up (acE @Jc (acE @Ky (acE @bF (acE @Xm (acE @kU (acE @jL (acE @Xv (acE @iW (acE @Xj (acE @Vz (acE @Dh (acE @Wa (acE @Ni (acE @aV (acE @Ks (acE @Nj (acE @Qf (acE @Vl (acE @Vd (acE @lH (acE @kK (acE @Vh (acE @jC (acE @bD @dY))))))))))))))))))))))))
def adV:=PLift.up (acE @Dh (acE @Jz (acE @sN (acE @bD (acE @Gt (acE @akF (acE @Si (acE @bL (acE @agF (acE @uQ (acE @lY (acE @Yo (acE @mG (acE @yW (acE @asK (acE @arY (acE @ap5 (acE @acQ (acE @aqF (acE @aaB (acE @aeG (acE @awG (acE @ar8 (acE @dY (acE @aBC @vV)))))))))))))))))))))))))
def azZ:=PLift.up (acE @Jc (acE @Ky (acE @Dh (acE @bF (acE @Xm (acE @kU (acE @jL (acE @Vz (acE @Wa (acE @Xv (acE @ai8 (acE @ajJ (acE @Ks (acE @Nj (acE @Qf (acE @Vl (acE @Vd (acE @lH (acE @kK (acE @Jz (acE @Vh (acE @Ni @aV))))))))))))))))))))))
def ayB:=PLift.up (acE @Oj (acE @Tq @Kt))
def bmI:=PLift.up (acE @Jc (acE @Ky (acE @bF (acE @Xm (acE @kU (acE @jL (acE @iW (acE @Xj (acE @Vz (acE @Dh (acE @Wa (acE @jC @Vh))))))))))))
def anW:=PLift.up (acE @afT (acE @afU (acE @sP (acE @gI @aaS))))
def adR:=PLift.up (acE @aQ (acE @dW @gX))
def blS:=PLift.up (acE @kZ @Dh)
def ac5:=PLift.up (acE @Oj (acE @Tq @Kt))
def bi6:=PLift.up (acE @aB (acE @cN (acE @Dh (acE @rN @dB))))
def blI:=PLift.up (acE @aB (acE @dE (acE @Dh (acE @rN @vA))))
def bkP:=PLift.up (acE @aB (acE @cL @iE))
def bi7:=PLift.up (acE @aB (acE @dA (acE @Dh (acE @rO @aiY))))
def aa6:=PLift.up (acE @Jz (acE @bD (acE @dY (acE @Dh (acE @Ks (acE @Nj (acE @Qf (acE @Vl (acE @oQ (acE @Vd (acE @lH (acE @kK (acE @Yz @am5)))))))))))))
def eL:=PLift.up (acE @eV (acE @mS @ab6))
def bjQ:=PLift.up (acE @rO (acE @aj2 (acE @Dh (acE @kZ (acE @akN @Xj)))))
def bbI:=PLift.up (acE @qW (acE @aa3 (acE @arW (acE @Qn (acE @agH (acE @afD (acE @nU (acE @af4 (acE @ajB @as0)))))))))
def avA:=PLift.up (acE @Qn (acE @cB (acE @qW (acE @aa3 (acE @tI (acE @aqY (acE @uZ (acE @bV (acE @tQ @ajB)))))))))
end Go.Proofs.Ytfkokgjfpojeoaa
namespace Go.Proofs.Ytfkokgjfpojeoaa.Ko
open Go Go.Ev Go.ChangeShapes Go.WideShapes Go.ChangeAt Go.RowKit
set_option maxRecDepth 100000
set_option maxHeartbeats 16000000
def mdL:List Nat:=[96,100,102,83]
def pr:Oz:={ at_:=fun _=>none,md:=(mdL.contains ·) }
noncomputable def Dc:Hv:=om Try.prog pr
theorem lI(f:Nat):Dc.md f=([96,100,102,83]:List Nat).contains f:=Eq.trans rfl rfl
def Vc:=PLift.up (acE EG.down (acE EVu.down @lI))
theorem bh9{C:R→Prop}[NoN C]{n:Nat}{k:List Be}{c:Code}{s:St}(h:Un Dc Try.prog n k c C (Ej Dc Try.prog 5000 c [] s)):C (lpK Dc Try.prog n k (Dc.loop c s)):=a6W (pr:=pr) h
theorem aW3:anV Try.prog:=fun f fn hf=>by
 have h:(Try.prog.funcs.toList.all fun fn=> !(fn.name== "runtime.NumGoroutine"))=true:=by kernel_rfl
 have:=List.all_eq_true.1 h fn (by rw[Array.mem_toList_iff];exact Array.mem_of_getElem? hf)
 simpa using this
theorem mixed:Try.prog.follows .mixedOrders=true:=by kernel_rfl
theorem calls_ok:Ld Try.prog (fun _=>none) Dc:=bbF aW3 ⟨fun f p h=>(by cases h),fun f p h=>(by cases h)⟩ mixed
theorem abD{f:Nat}{fn:Func}{c:Code}{args:List AV}{h:Ab}{Q:Gp→Ab→Prop}(hp:pr f=none)(hf:Try.prog.funcs[f]?=some fn)(hb:fn.body=some c)(hl:Nat.ble args.length fn.ntmps=true)
 (he:FnE Try.prog h.length fn.results.toList Q (Ej Dc Try.prog 5000 c [] ⟨mk fn.ntmps (Eg args),h⟩)):ClQ Dc f args h Q:=ClQ.start (pr:=pr) hp hf hb hl he
theorem ce{f:Nat}{fn:Func}{c:Code}{args:List AV}{h:Ab}{o:Gp}{h':Ab}(hf:Try.prog.funcs[f]?=some fn)(he:FnE Try.prog h.length fn.results.toList (fun o1 h1=>(o1,h1)=(o,h')) (Ej Dc Try.prog 5000 c [] ⟨mk fn.ntmps (Eg args),h⟩))(hp:pr f=none:=by exact rfl)(hb:fn.body=some c:=by exact rfl)(hl:Nat.ble args.length fn.ntmps=true:=by exact rfl):Dc.call (.fn f) args h=some (o,h'):=(abD hp hf hb hl he).eq
theorem Ss{α σ ρ:Type}{c:Code}(N:Nat)(l:List α)(E:Nat→σ→Tm→Ab→Prop)(F:List α→σ→ρ)(Q:ρ→Ex→Tm→Ab→Prop)
 (stop:∀s t h Q',(∀e t h,Q (F [] s) e t h→Q' e ⟨mk N t,h⟩)→E l.length s t h→Rnd N (fun _ _=>False) Q' (Ej Dc Try.prog 5000 c [] ⟨mk N t,h⟩))
 (go:∀x rest i s t h J Q',(∀t' h' s',E (i+1) s' t' h'→F rest s'=F (x::rest) s→J t' h')→(∀e t h,Q (F (x::rest) s) e t h→Q' e ⟨mk N t,h⟩)→l[i]?=some x→i<l.length→E i s t h→
   Rnd N J Q' (Ej Dc Try.prog 5000 c [] ⟨mk N t,h⟩)):
 ∀s t h,E 0 s t h→LpQ Dc c ⟨mk N t,h⟩ (Ot N (Q (F l s))):=afW (pr:=pr) rfl N l E F Q stop go
def iv(x:Int):List AV:=[.int .i64 x]
theorem Ac{h:Ab}{b:Nat}{c:CB}(h0:h[b]?=some c)(l:Ab):(h++l)[b]?=some c:=by
 rw[List.getElem?_append_left (List.getElem?_eq_some_iff.1 h0).1];exact h0
end Go.Proofs.Ytfkokgjfpojeoaa.Ko
namespace Go.Proofs.Ytfkokgjfpojeoaa.Ko
open Go.Ev Go
set_option maxRecDepth 100000
set_option maxHeartbeats 16000000
structure Bz where
 lo:Int
 hi:Int
 byp:Bool
def Bz.cells(s:Bz):List AV:=[.int .i64 s.lo,.int .i64 s.hi,.bool s.byp]
structure Aj where
 nn:Bool
 sens:List Int
 need:Int
 level:Int
 above:Bool
def Aj.cells(v:Aj):List AV:=[Af 1 true v.nn (v.sens.map iv),.int .i64 v.need,.int .i64 v.level,.bool v.above]
structure Ao where
 vote:Int
 is:Bool
def Ao.cells(w:Ao):List AV:=[.int .i64 w.vote,.bool w.is]
structure Ap where
 frm:Int
 to:Int
 nn:Bool
 wants:List Ao
 cmd:Int
 after:Int
def Ap.cells(x:Ap):List AV:=[.int .i64 x.frm,.int .i64 x.to,Af 2 true x.nn (x.wants.map Ao.cells),.int .i64 x.cmd,.int .i64 x.after]
structure Ad where
 nS:Bool
 sens:List Bz
 nV:Bool
 votes:List Aj
 nM:Bool
 moves:List Ap
 states:Int
 cmds:Int
 bgn:Int
 nO:Bool
 opn:List Int
abbrev Ad.cells(m:Ad):List AV:=[Af 3 true m.nS (m.sens.map Bz.cells),Af 4 false m.nV (m.votes.map Aj.cells),Af 5 false m.nM (m.moves.map Ap.cells),.int .i64 m.states,.int .i64 m.cmds,.int .i64 m.bgn,Af 1 true m.nO (m.opn.map iv)]
structure Ad.small(m:Ad):Prop where
 sens:m.sens.length≤maxLen
 votes:m.votes.length≤maxLen
 moves:m.moves.length≤maxLen
 opn:m.opn.length≤maxLen
 vs:∀v∈m.votes,v.sens.length≤maxLen
 ws:∀x∈m.moves,x.wants.length≤maxLen
def To(x lo hi:Int):Bool:=decide (lo≤x)&&decide (x≤hi)
theorem Xb(x lo hi:Int):Dc.call (.fn 43) [.int .i64 x,.int .i64 lo,.int .i64 hi] []=some (.ret (.bool (To x lo hi)),[]):=by
 (refine ce Try.func43 ?_;simp only[Try.f43];(have hb:=trivial;with_reducible repeat' (first|simp only[hb,Vc.down,seval]|refine Aq ?_ ?_<;>intro hb|refine fd ?_|fail)))
 all_goals simp[To, *]
def aF(x:Int):Bool:=To x (-10000) 10000
theorem lN(x:Int):Dc.call (.fn 69) [.int .i64 x] []=some (.ret (.bool (aF x)),[]):=by
 (refine ce Try.func69 ?_;simp only[Try.f69];(have hb:=trivial;with_reducible repeat' (first|simp only[hb,Vc.down,seval,Xb]|refine Aq ?_ ?_<;>intro hb|refine fd ?_|fail)))
 all_goals rfl
theorem aaZ(x:Int):Dc.call (.fn 74) [.int .i64 x] []=some (.ret (.bool (!To x 0 255)),[]):=by
 (refine ce Try.func74 ?_;simp only[Try.f74];(have hb:=trivial;with_reducible repeat' (first|simp only[hb,Vc.down,seval,Xb]|refine Aq ?_ ?_<;>intro hb|refine fd ?_|fail)))
def Qk(s:Bz)(v:Aj)(r:Int):Bool:= !s.byp&&(!To r s.lo s.hi||(if v.above=true then decide (v.level≤r)else decide (r≤v.level)))
theorem ahK(s:Bz)(v:Aj)(r:Int):Dc.call (.fn 76) [.agg [.int .i64 s.lo,.int .i64 s.hi,.bool s.byp],.agg [Af 1 true v.nn (v.sens.map iv),.int .i64 v.need,.int .i64 v.level,.bool v.above],.int .i64 r] []=some (.ret (.bool (Qk s v r)),[]):=by
 (refine ce Try.func76 ?_;simp only[Try.f76];(have hb:=trivial;with_reducible repeat' (first|simp only[hb,Vc.down,seval,bj8.down,Xb]|refine Aq ?_ ?_<;>intro hb|refine fd ?_|fail)))
 all_goals simp_all[Qk]
def dT{α:Type}(p:α→Bool):List α→Int→Int
 | [],_=> -1
 |x::l,i=>if p x=true then i else dT p l (i+1)
theorem Ur{α:Type}(p:α→Bool):∀(l:List α) (i:Int),0≤i→decide (0≤dT p l i)=l.any p
 | [],i,_=>rfl
 |x::l,i,h=>by
  unfold dT
  split
  ·rename_i hp;simp[h,hp]
  ·rename_i hp;rw[Ur p l (i+1) (by omega)];simp[hp]
theorem abA{l:List Int}{nn:Bool}{g:Nat}{cap:List AV}{p:Int→Bool}(hc:cap.all (Cc 8)=true)(hc7:cap.all (Cc 7)=true)(hp:∀x∈l,Dc.call (.fn g) (.int .i64 x::cap) []=some (.ret (.bool (p x)),[]))(hl:l.length≤maxLen)(hgm:Dc.md g=false:=by exact rfl):
 Dc.call (.fn 91) [Af 1 true nn (l.map iv),.func (.func g) [] cap] []=some (.ret (.int .i64 (dT p l 0)),[]):=by
 (refine ce Try.func91 ?_;simp only[Try.f91];(have hb:=trivial;with_reducible repeat' (first|simp only[hb,Vc.down,seval,ac5.down,acG]|refine Aq ?_ ?_<;>intro hb|refine fd ?_|fail)))
 refine Dl (Ss 19 l (fun i (s:Int) t h=>s=i∧h=[]∧t 0=Af 1 true nn (l.map iv)∧t 1=.func (.func g) [] cap∧t 7=.int .i64 l.length∧t 8=.int .i64 i)
  (fun rest s=>dT p rest s) (fun r e t h=>h=[]∧((e=.exit 0∧r= -1)∨(e=.ret∧t 4=.int .i64 r))) ?_ ?_ 0 _ _ ?_) (fun e t h hk=>?_)
 ·rintro s t h Q' kQ ⟨rfl,rfl,h0,h1,h7,h8⟩
  (have hb:=trivial;with_reducible repeat' (first|simp only[hb,Vc.down,seval,ac5.down,h0,h1,h7,h8,acK,decide_false]|refine Aq ?_ ?_<;>intro hb|refine fd ?_|fail))
  exact kQ _ _ _ ⟨rfl,.inl ⟨rfl,rfl⟩⟩
 ·rintro x rest i s t h J Q' kJ kQ hx hi ⟨rfl,rfl,h0,h1,h7,h8⟩
  have hgm2:=hgm
  simp only[lI,aiC,aiH,aiI]at hgm2
  have hpx:=hp x (acZ hx)
  have hd:decide ((i:Int)<(l.length:Int))=true:=by simpa using hi
  (have hb:=trivial;with_reducible repeat' (first|simp only[hb,Vc.down,seval,ac5.down,h0,h1,h7,h8,hd,hx,iv,hc,hc7,hpx,hgm2,Av hi hl]|refine Aq ?_ ?_<;>intro hb|refine fd ?_|fail))
  ·exact kQ _ _ _ ⟨rfl,.inr ⟨rfl,by simp[up,dT,hb]⟩⟩
  ·exact Ax (kJ _ _ (i+1) ⟨by simp,rfl,by simp[up,h0],by simp[up,h1],by simp[up,h7],by simp[up]⟩ (by simp[dT,hb]))
 ·exact⟨rfl,rfl,by simp[up,Eg],by simp[up,Eg],by simp[up],by simp[up]⟩
 ·obtain⟨rfl,⟨rfl,hi⟩|⟨rfl,hi⟩⟩:=hk
  ·(have hb:=trivial;with_reducible repeat' (first|simp only[hb,Vc.down,seval,ac5.down]|refine Aq ?_ ?_<;>intro hb|refine fd ?_|fail))
   rw[hi]
  ·(have hb:=trivial;with_reducible repeat' (first|simp only[hb,Vc.down,seval,ac5.down,hi]|refine Aq ?_ ?_<;>intro hb|refine fd ?_|fail))
theorem tZ{l:List Int}{nn:Bool}{g:Nat}{cap:List AV}{p:Int→Bool}(hc:cap.all (Cc 8)=true)(hc7:cap.all (Cc 7)=true)(hp:∀x∈l,Dc.call (.fn g) (.int .i64 x::cap) []=some (.ret (.bool (p x)),[]))(hl:l.length≤maxLen)(hgm:Dc.md g=false:=by exact rfl):
 Dc.call (.fn 73) [Af 1 true nn (l.map iv),.func (.func g) [] cap] []=some (.ret (.bool (l.any p)),[]):=by
 (refine ce Try.func73 ?_;simp only[Try.f73];(have hb:=trivial;with_reducible repeat' (first|simp only[hb,Vc.down,seval,abA hc hc7 hp hl hgm,hc,hc7,Ur p l 0 (adD 0)]|refine Aq ?_ ?_<;>intro hb|refine fd ?_|fail)))
def We(b:Int):List Int→Option Int→Bool
 | [],_=>true
 |n::l,p=>To n 0 (IntKind.i64.wrap (b-1))&&(match p with|none=>true|some q=> !decide (n≤q))&&We b l (some n)
theorem iF{l:List Int}{nn:Bool}(b:Int)(hl:l.length≤maxLen):Dc.call (.fn 53) [Af 1 true nn (l.map iv),.int .i64 b] []=some (.ret (.bool (We b l none)),[]):=by
 (refine ce Try.func53 ?_;simp only[Try.f53];(have hb:=trivial;with_reducible repeat' (first|simp only[hb,Vc.down,seval,xP.down,acG]|refine Aq ?_ ?_<;>intro hb|refine fd ?_|fail)))
 refine Dl (Ss 33 l (fun i (s:Option Int) t h=>(i=0∧s=none∨0<i∧s=l[i-1]?)∧t 0=Af 1 true nn (l.map iv)∧t 1=.int .i64 b∧t 7=Af 1 true nn (l.map iv)∧t 8=.int .i64 l.length∧t 9=.int .i64 i)
  (fun rest s=>We b rest s) (fun r e t h=>if r=true then e=.exit 0 else e=.ret∧t 4=.bool false) ?_ ?_ none _ _ ?_) (fun e t h hk=>?_)
 ·rintro s t h Q' kQ ⟨hs,h0,h1,h7,h8,h9⟩
  (have hb:=trivial;with_reducible repeat' (first|simp only[hb,Vc.down,seval,xP.down,h0,h1,h7,h8,h9,acK,decide_false]|refine Aq ?_ ?_<;>intro hb|refine fd ?_|fail))
  exact kQ _ _ _ (by simp[We])
 ·rintro x rest i s t h J Q' kJ kQ hx hi ⟨hs,h0,h1,h7,h8,h9⟩
  have hd:decide ((i:Int)<(l.length:Int))=true:=by simpa using hi
  have kF:∀{p:Option Int},(To x 0 (IntKind.i64.wrap (b-1))&&(match p with|none=>true|some q=> !decide (x≤q)))=false→We b (x::rest) p=false:=fun h=>by simp[We,h]
  have kT:∀{p:Option Int},(To x 0 (IntKind.i64.wrap (b-1))&&(match p with|none=>true|some q=> !decide (x≤q)))=true→We b rest (some x)=We b (x::rest) p:=fun h=>by simp[We,h]
  have hw:=Av hi hl
  rcases hs with⟨rfl,rfl⟩|⟨hpos,rfl⟩
  ·simp only[Int.natCast_zero,Int.zero_add]at hd h9 hw
   (have hb:=trivial;with_reducible repeat' (first|simp only[hb,Vc.down,seval,xP.down,h0,h1,h7,h8,h9,hd,hx,iv,Xb,hw,Int.toNat_zero,adD,acK,decide_false]|refine Aq ?_ ?_<;>intro hb|refine fd ?_|fail))
   all_goals first
    |exact kQ _ _ _ (by rw[if_neg (by rw[kF (by simp_all)];simp)];exact⟨rfl,rfl⟩)
    |exact Ax (kJ _ _ (some x) ⟨.inr ⟨by omega,by simp[hx]⟩,by simp[up,h0],by simp[up,h1],by simp[up,h7],by simp[up,h8],by simp[up]<;>omega⟩ (kT (by simp_all)))
  ·obtain⟨j,rfl⟩:∃j,i=j+1:=⟨i-1,by omega⟩
   obtain⟨q,hq⟩:∃q,l[j]?=some q:=⟨l[j],List.getElem?_eq_getElem (by omega)⟩
   have hj:IntKind.i64.wrap (((j+1:Nat):Int)-1)=(j:Int):=by unfold maxLen at hl;rw[Ed (by omega) (by omega)];omega
   have hg:decide (0<((j+1:Nat):Int))=true:=by rw[decide_eq_true_eq];omega
   simp only[Nat.add_sub_cancel,hq]at kJ kQ
   (have hb:=trivial;with_reducible repeat' (first|simp only[hb,Vc.down,seval,xP.down,h0,h1,h7,h8,h9,hd,hx,iv,Xb,hw,hj,hg,hq]|refine Aq ?_ ?_<;>intro hb|refine fd ?_|fail))
   all_goals first
    |exact kQ _ _ _ (by rw[if_neg (by rw[kF (by simp_all)];simp)];exact⟨rfl,rfl⟩)
    |exact Ax (kJ _ _ (some x) ⟨.inr ⟨by omega,by simp[hx]⟩,by simp[up,h0],by simp[up,h1],by simp[up,h7],by simp[up,h8],by simp[up]<;>omega⟩ (kT (by simp_all)))
 ·exact⟨.inl ⟨rfl,rfl⟩,by simp[up,Eg],by simp[up,Eg],by simp[up,Eg],by simp[up],by simp[up]⟩
 ·split at hk
  ·subst hk
   rename_i hr
   (have hb:=trivial;with_reducible repeat' (first|simp only[hb,Vc.down,seval,xP.down]|refine Aq ?_ ?_<;>intro hb|refine fd ?_|fail))
   all_goals simp[hr]
  ·obtain⟨rfl,h2⟩:=hk
   rename_i hr
   (have hb:=trivial;with_reducible repeat' (first|simp only[hb,Vc.down,seval,xP.down,h2]|refine Aq ?_ ?_<;>intro hb|refine fd ?_|fail))
   all_goals simp[hr]
def bQ(ns:Int)(v:Aj):Bool:=We ns v.sens none&&To v.need 1 v.sens.length&&aF v.level
theorem ahN(o w:Ao):Dc.call (.fn 90) [.agg [.int .i64 o.vote,.bool o.is],.ptr 0 0 0] [.live 2 true false [[.int .i64 w.vote,.bool w.is]]]=some (.ret (.bool (o.vote==w.vote)),[.live 2 true false [[.int .i64 w.vote,.bool w.is]]]):=by
 (refine ce Try.func90 ?_;simp only[Try.f90];(have hb:=trivial;with_reducible repeat' (first|simp only[hb,Vc.down,seval,blS.down]|refine Aq ?_ ?_<;>intro hb|refine fd ?_|fail)))
theorem uC{l:List Ao}{nn:Bool}{g:Nat}{ww:Ao}{p:Ao→Bool}(hp:∀x∈l,Dc.call (.fn g) (.agg [.int .i64 x.vote,.bool x.is]::[.ptr 0 0 0]) [.live 2 true false [[.int .i64 ww.vote,.bool ww.is]]]=some (.ret (.bool (p x)),[.live 2 true false [[.int .i64 ww.vote,.bool ww.is]]]))(hl:l.length≤maxLen)(hgm:Dc.md g=false:=by exact rfl):
 Dc.call (.fn 98) [Af 2 true nn (l.map Ao.cells),.func (.func g) [] [.ptr 0 0 0]] [.live 2 true false [[.int .i64 ww.vote,.bool ww.is]]]=some (.ret (.int .i64 (dT p l 0)),[.live 2 true false [[.int .i64 ww.vote,.bool ww.is]]]):=by
 (refine ce Try.func98 ?_;simp only[Try.f98];(have hb:=trivial;with_reducible repeat' (first|simp only[hb,Vc.down,seval,eL.down,acG]|refine Aq ?_ ?_<;>intro hb|refine fd ?_|fail)))
 refine Dl (Ss 19 l (fun i (s:Int) t h=>s=i∧h=[.live 2 true false [[.int .i64 ww.vote,.bool ww.is]]]∧t 0=Af 2 true nn (l.map Ao.cells)∧t 1=.func (.func g) [] [.ptr 0 0 0]∧t 7=.int .i64 l.length∧t 8=.int .i64 i)
  (fun rest s=>dT p rest s) (fun r e t h=>h=[.live 2 true false [[.int .i64 ww.vote,.bool ww.is]]]∧((e=.exit 0∧r= -1)∨(e=.ret∧t 4=.int .i64 r))) ?_ ?_ 0 _ _ ?_) (fun e t h hk=>?_)
 ·rintro s t h Q' kQ ⟨rfl,rfl,h0,h1,h7,h8⟩
  (have hb:=trivial;with_reducible repeat' (first|simp only[hb,Vc.down,seval,eL.down,h0,h1,h7,h8,acK,decide_false]|refine Aq ?_ ?_<;>intro hb|refine fd ?_|fail))
  exact kQ _ _ _ ⟨rfl,.inl ⟨rfl,rfl⟩⟩
 ·rintro x rest i s t h J Q' kJ kQ hx hi ⟨rfl,rfl,h0,h1,h7,h8⟩
  have hgm2:=hgm
  simp only[lI,aiC,aiH,aiI]at hgm2
  have hpx:=hp x (acZ hx)
  have hd:decide ((i:Int)<(l.length:Int))=true:=by simpa using hi
  (have hb:=trivial;with_reducible repeat' (first|simp only[hb,Vc.down,seval,eL.down,h0,h1,h7,h8,hd,hx,Ao.cells,hpx,hgm2,Av hi hl]|refine Aq ?_ ?_<;>intro hb|refine fd ?_|fail))
  ·exact kQ _ _ _ ⟨rfl,.inr ⟨rfl,by simp[up,dT,hb]⟩⟩
  ·exact Ax (kJ _ _ (i+1) ⟨by simp,rfl,by simp[up,h0],by simp[up,h1],by simp[up,h7],by simp[up]⟩ (by simp[dT,hb]))
 ·exact⟨rfl,rfl,by simp[up,Eg],by simp[up,Eg],by simp[up],by simp[up]⟩
 ·obtain⟨rfl,⟨rfl,hi⟩|⟨rfl,hi⟩⟩:=hk
  ·(have hb:=trivial;with_reducible repeat' (first|simp only[hb,Vc.down,seval,eL.down]|refine Aq ?_ ?_<;>intro hb|refine fd ?_|fail))
   rw[hi]
  ·(have hb:=trivial;with_reducible repeat' (first|simp only[hb,Vc.down,seval,eL.down,hi]|refine Aq ?_ ?_<;>intro hb|refine fd ?_|fail))
theorem pH{l:List Ao}{nn:Bool}{g:Nat}{ww:Ao}{p:Ao→Bool}(hp:∀x∈l,Dc.call (.fn g) (.agg [.int .i64 x.vote,.bool x.is]::[.ptr 0 0 0]) [.live 2 true false [[.int .i64 ww.vote,.bool ww.is]]]=some (.ret (.bool (p x)),[.live 2 true false [[.int .i64 ww.vote,.bool ww.is]]]))(hl:l.length≤maxLen)(hgm:Dc.md g=false:=by exact rfl):
 Dc.call (.fn 89) [Af 2 true nn (l.map Ao.cells),.func (.func g) [] [.ptr 0 0 0]] [.live 2 true false [[.int .i64 ww.vote,.bool ww.is]]]=some (.ret (.bool (l.any p)),[.live 2 true false [[.int .i64 ww.vote,.bool ww.is]]]):=by
 (refine ce Try.func89 ?_;simp only[Try.f89];(have hb:=trivial;with_reducible repeat' (first|simp only[hb,Vc.down,seval,uC hp hl hgm,Ur p l 0 (adD 0)]|refine Aq ?_ ?_<;>intro hb|refine fd ?_|fail)))
def Qa(nv:Int):List Ao→List Ao→Bool
 |_,[]=>true
 |pre,w::l=>To w.vote 0 (IntKind.i64.wrap (nv-1))&& !(pre.any fun o=>o.vote==w.vote)&&Qa nv (pre++[w]) l
def Sj(m:Ad)(x:Ap):Bool:=Qa m.votes.length [] x.wants&&To x.frm 0 (IntKind.i64.wrap (m.states-1))&&To x.to 0 (IntKind.i64.wrap (m.states-1))&&decide (x.wants.length≤6)&&To x.cmd (-1) (IntKind.i64.wrap (m.cmds-1))&&To x.after 0 10
theorem am8(m:Ad)(y:Ap)(hl:y.wants.length≤maxLen):Dc.call (.fn 72) [.agg [Af 3 true m.nS (m.sens.map Bz.cells),Af 4 false m.nV (m.votes.map Aj.cells),Af 5 false m.nM (m.moves.map Ap.cells),.int .i64 m.states,.int .i64 m.cmds,.int .i64 m.bgn,Af 1 true m.nO (m.opn.map iv)],.agg [.int .i64 y.frm,.int .i64 y.to,Af 2 true y.nn (y.wants.map Ao.cells),.int .i64 y.cmd,.int .i64 y.after]] []=some (.ret (.bool (Sj m y)),[]):=by
 have l6:decide ((y.wants.length:Int)≤6)=decide (y.wants.length≤6):=by rw[decide_eq_decide];omega
 (refine ce Try.func72 ?_;simp only[Try.f72];(have hb:=trivial;with_reducible repeat' (first|simp only[hb,Vc.down,seval,qM.down,acG]|refine Aq ?_ ?_<;>intro hb|refine fd ?_|fail)))
 refine Dl (Ss 65 y.wants (fun i (zz:List Ao) t h=>t 2=.ptr 0 0 0∧t 3=.ptr 1 0 0∧t 8=Af 2 true y.nn (y.wants.map Ao.cells)∧t 9=.int .i64 y.wants.length∧t 10=.int .i64 i∧(h[0]?=some (.live 7 false false [[Af 3 true m.nS (m.sens.map Bz.cells),Af 4 false m.nV (m.votes.map Aj.cells),Af 5 false m.nM (m.moves.map Ap.cells),.int .i64 m.states,.int .i64 m.cmds,.int .i64 m.bgn,Af 1 true m.nO (m.opn.map iv)]])∧h[1]?=some (.live 5 false false [[.int .i64 y.frm,.int .i64 y.to,Af 2 true y.nn (y.wants.map Ao.cells),.int .i64 y.cmd,.int .i64 y.after]])∧zz=y.wants.take i)) (fun rest zz=>Qa m.votes.length zz rest) (fun r e t h=>(if r=true then e=.exit 0∧t 2=.ptr 0 0 0∧t 3=.ptr 1 0 0∧h[0]?=some (.live 7 false false [[Af 3 true m.nS (m.sens.map Bz.cells),Af 4 false m.nV (m.votes.map Aj.cells),Af 5 false m.nM (m.moves.map Ap.cells),.int .i64 m.states,.int .i64 m.cmds,.int .i64 m.bgn,Af 1 true m.nO (m.opn.map iv)]])∧h[1]?=some (.live 5 false false [[.int .i64 y.frm,.int .i64 y.to,Af 2 true y.nn (y.wants.map Ao.cells),.int .i64 y.cmd,.int .i64 y.after]])else e=.ret∧t 4=.bool false)) ?_ ?_ ([]) _ _ ?_) (fun e t h hk=>?_)
 ·rintro p t h Q' kQ ⟨h2,h3,h8,h9,h10,⟨hA,hB,hp⟩⟩
  (have hb:=trivial;with_reducible repeat' (first|simp only[hb,Vc.down,seval,qM.down,h2,h3,h8,h9,h10,acK,decide_false]|refine Aq ?_ ?_<;>intro hb|refine fd ?_|fail))
  exact kQ _ _ _ (by rw[if_pos (by rfl)];exact⟨rfl,by simp[up,h2],by simp[up,h3],hA,hB⟩)
 ·rintro x rest i p t h J Q' kJ kQ hx hi ⟨h2,h3,h8,h9,h10,⟨hA,hB,hp⟩⟩
  have hd:decide ((i:Int)<(y.wants.length:Int))=true:=decide_eq_true (by omega)
  have hw:=Av hi hl
  have hA1:=Ac hA
  have hB1:=Ac hB
  have hcW:=pH (l:=y.wants.take i) (nn:=true) (ww:=x) (g:=90) (p:=fun o=>o.vote==x.vote) (fun o _=>ahN o x) (by simp;omega)
  have hsl:=ayW (P:=Try.prog) (ty:=57) (n:=2) ⟨_,Try.underlying57,by kernel_rfl⟩ true y.nn (rows:=y.wants.map Ao.cells) (i:=i) (by simpa using hi)
  rw[Wv,List.map_take]at hcW
  subst hp
  cases c1:To x.vote 0 (IntKind.i64.wrap ((m.votes.length:Int)-1))with
  |false=>
   (have hb:=trivial;with_reducible repeat' (first|simp only[hb,Vc.down,seval,qM.down,h2,h3,h8,h9,h10,hd,hx,hw,hA1,hB1,Xb,Ao.cells,acG,hcW,hsl,c1]|refine Aq ?_ ?_<;>intro hb|refine fd ?_|fail))
   exact kQ _ _ _ (by rw[if_neg (by simp[Qa,c1])];exact⟨rfl,by simp[up]⟩)
  |true=>
   cases c2:(y.wants.take i).any (fun o=>o.vote==x.vote)with
   |true=>
    rw[c2]at hcW
    (have hb:=trivial;with_reducible repeat' (first|simp only[hb,Vc.down,seval,qM.down,h2,h3,h8,h9,h10,hd,hx,hw,hA1,hB1,Xb,Ao.cells,acG,hcW,hsl,c1]|refine Aq ?_ ?_<;>intro hb|refine fd ?_|fail))
    exact kQ _ _ _ (by rw[if_neg (by simp only[Qa,c1,c2,ahZ,al4,aiK];simp)];exact⟨rfl,by simp[up]⟩)
   |false=>
    rw[c2]at hcW
    (have hb:=trivial;with_reducible repeat' (first|simp only[hb,Vc.down,seval,qM.down,h2,h3,h8,h9,h10,hd,hx,hw,hA1,hB1,Xb,Ao.cells,acG,hcW,hsl,c1]|refine Aq ?_ ?_<;>intro hb|refine fd ?_|fail))
    (refine Ax (kJ _ _ (y.wants.take i++[x]) ⟨?_,?_,?_,?_,?_,⟨hA1 _,hB1 _,by rw[List.take_add_one,hx];rfl⟩⟩ ?_);(simp[up,h2]);(simp[up,h3]);(simp[up,h8]);(simp[up,h9]);(simp[up]);(simp only[Qa,c1,c2,ah3,al2,al3]))
 ·exact⟨by simp[up,Eg],by simp[up,Eg],by simp[up,Eg],by simp[up,Eg],by simp[up],⟨rfl,rfl,rfl⟩⟩
 ·split at hk
  ·obtain⟨rfl,h2,h3,hA,hB⟩:=hk
   rename_i hr
   have hA1:=Ac hA
   have hB1:=Ac hB
   (have hb:=trivial;with_reducible repeat' (first|simp only[hb,Vc.down,seval,qM.down,h2,h3,hA,hB,hA1,hB1,Xb,acG,l6]|refine Aq ?_ ?_<;>intro hb|refine fd ?_|fail))
   all_goals (refine congrArg (fun b=>(Gp.ret (AV.bool b),([]:Ab))) ?_;symm;((try simp only[Bool.not_eq_eq_eq_not,ahZ,ah3]at *);simp only[Sj, *,al4,aiK,al2,al3,Bool.and_self,Bool.not_not,ahZ,ah3,List.all_cons,List.all_nil]))
  ·obtain⟨rfl,h4⟩:=hk
   rename_i hr
   (have hb:=trivial;with_reducible repeat' (first|simp only[hb,Vc.down,seval,qM.down,h4]|refine Aq ?_ ?_<;>intro hb|refine fd ?_|fail))
   all_goals simp_all[Sj]
def sT(s:Bz):Bool:=aF s.lo&&aF s.hi&& !decide (s.hi<s.lo)
def Xd(m:Ad):Bool:=decide (m.sens.length≤6)&&decide (m.votes.length≤6)&&decide (m.moves.length≤20)&&To m.states 1 8&&To m.cmds 0 4&&To m.bgn 0 (IntKind.i64.wrap (m.states-1))&&((m.opn.length:Int)==m.states)
def Bh(m:Ad):Bool:=Xd m&&m.sens.all sT&&m.votes.all (bQ m.sens.length)&&m.moves.all (Sj m)&&m.opn.all (fun n=>To n 0 255)
theorem aaP(m:Ad)(x:Ap)(hl:x.wants.length≤maxLen):Dc.call (.fn 71) [.agg [.int .i64 x.frm,.int .i64 x.to,Af 2 true x.nn (x.wants.map Ao.cells),.int .i64 x.cmd,.int .i64 x.after],.ptr 0 0 0] [.live 7 false false [[Af 3 true m.nS (m.sens.map Bz.cells),Af 4 false m.nV (m.votes.map Aj.cells),Af 5 false m.nM (m.moves.map Ap.cells),.int .i64 m.states,.int .i64 m.cmds,.int .i64 m.bgn,Af 1 true m.nO (m.opn.map iv)]]]=some (.ret (.bool (!Sj m x)),[.live 7 false false [[Af 3 true m.nS (m.sens.map Bz.cells),Af 4 false m.nV (m.votes.map Aj.cells),Af 5 false m.nM (m.moves.map Ap.cells),.int .i64 m.states,.int .i64 m.cmds,.int .i64 m.bgn,Af 1 true m.nO (m.opn.map iv)]]]):=by
 have hm:=am8 m x hl
 (refine ce Try.func71 ?_;simp only[Try.f71];(have hb:=trivial;with_reducible repeat' (first|simp only[hb,Vc.down,seval,bkU.down,hm]|refine Aq ?_ ?_<;>intro hb|refine fd ?_|fail)))
theorem uD{l:List Ap}{nn:Bool}{g:Nat}{mm:Ad}{p:Ap→Bool}(hp:∀x∈l,Dc.call (.fn g) (.agg [.int .i64 x.frm,.int .i64 x.to,Af 2 true x.nn (x.wants.map Ao.cells),.int .i64 x.cmd,.int .i64 x.after]::[.ptr 0 0 0]) [.live 7 false false [[Af 3 true mm.nS (mm.sens.map Bz.cells),Af 4 false mm.nV (mm.votes.map Aj.cells),Af 5 false mm.nM (mm.moves.map Ap.cells),.int .i64 mm.states,.int .i64 mm.cmds,.int .i64 mm.bgn,Af 1 true mm.nO (mm.opn.map iv)]]]=some (.ret (.bool (p x)),[.live 7 false false [[Af 3 true mm.nS (mm.sens.map Bz.cells),Af 4 false mm.nV (mm.votes.map Aj.cells),Af 5 false mm.nM (mm.moves.map Ap.cells),.int .i64 mm.states,.int .i64 mm.cmds,.int .i64 mm.bgn,Af 1 true mm.nO (mm.opn.map iv)]]]))(hl:l.length≤maxLen)(hgm:Dc.md g=false:=by exact rfl):
 Dc.call (.fn 88) [Af 5 false nn (l.map Ap.cells),.func (.func g) [] [.ptr 0 0 0]] [.live 7 false false [[Af 3 true mm.nS (mm.sens.map Bz.cells),Af 4 false mm.nV (mm.votes.map Aj.cells),Af 5 false mm.nM (mm.moves.map Ap.cells),.int .i64 mm.states,.int .i64 mm.cmds,.int .i64 mm.bgn,Af 1 true mm.nO (mm.opn.map iv)]]]=some (.ret (.int .i64 (dT p l 0)),[.live 7 false false [[Af 3 true mm.nS (mm.sens.map Bz.cells),Af 4 false mm.nV (mm.votes.map Aj.cells),Af 5 false mm.nM (mm.moves.map Ap.cells),.int .i64 mm.states,.int .i64 mm.cmds,.int .i64 mm.bgn,Af 1 true mm.nO (mm.opn.map iv)]]]):=by
 (refine ce Try.func88 ?_;simp only[Try.f88];(have hb:=trivial;with_reducible repeat' (first|simp only[hb,Vc.down,seval,adR.down,acG]|refine Aq ?_ ?_<;>intro hb|refine fd ?_|fail)))
 refine Dl (Ss 19 l (fun i (s:Int) t h=>s=i∧h=[.live 7 false false [[Af 3 true mm.nS (mm.sens.map Bz.cells),Af 4 false mm.nV (mm.votes.map Aj.cells),Af 5 false mm.nM (mm.moves.map Ap.cells),.int .i64 mm.states,.int .i64 mm.cmds,.int .i64 mm.bgn,Af 1 true mm.nO (mm.opn.map iv)]]]∧t 0=Af 5 false nn (l.map Ap.cells)∧t 1=.func (.func g) [] [.ptr 0 0 0]∧t 7=.int .i64 l.length∧t 8=.int .i64 i)
  (fun rest s=>dT p rest s) (fun r e t h=>h=[.live 7 false false [[Af 3 true mm.nS (mm.sens.map Bz.cells),Af 4 false mm.nV (mm.votes.map Aj.cells),Af 5 false mm.nM (mm.moves.map Ap.cells),.int .i64 mm.states,.int .i64 mm.cmds,.int .i64 mm.bgn,Af 1 true mm.nO (mm.opn.map iv)]]]∧((e=.exit 0∧r= -1)∨(e=.ret∧t 4=.int .i64 r))) ?_ ?_ 0 _ _ ?_) (fun e t h hk=>?_)
 ·rintro s t h Q' kQ ⟨rfl,rfl,h0,h1,h7,h8⟩
  (have hb:=trivial;with_reducible repeat' (first|simp only[hb,Vc.down,seval,adR.down,h0,h1,h7,h8,acK,decide_false]|refine Aq ?_ ?_<;>intro hb|refine fd ?_|fail))
  exact kQ _ _ _ ⟨rfl,.inl ⟨rfl,rfl⟩⟩
 ·rintro x rest i s t h J Q' kJ kQ hx hi ⟨rfl,rfl,h0,h1,h7,h8⟩
  have hgm2:=hgm
  simp only[lI,aiC,aiH,aiI]at hgm2
  have hpx:=hp x (acZ hx)
  have hd:decide ((i:Int)<(l.length:Int))=true:=by simpa using hi
  (have hb:=trivial;with_reducible repeat' (first|simp only[hb,Vc.down,seval,adR.down,h0,h1,h7,h8,hd,hx,Ap.cells,hpx,hgm2,Av hi hl]|refine Aq ?_ ?_<;>intro hb|refine fd ?_|fail))
  ·exact kQ _ _ _ ⟨rfl,.inr ⟨rfl,by simp[up,dT,hb]⟩⟩
  ·exact Ax (kJ _ _ (i+1) ⟨by simp,rfl,by simp[up,h0],by simp[up,h1],by simp[up,h7],by simp[up]⟩ (by simp[dT,hb]))
 ·exact⟨rfl,rfl,by simp[up,Eg],by simp[up,Eg],by simp[up],by simp[up]⟩
 ·obtain⟨rfl,⟨rfl,hi⟩|⟨rfl,hi⟩⟩:=hk
  ·(have hb:=trivial;with_reducible repeat' (first|simp only[hb,Vc.down,seval,adR.down]|refine Aq ?_ ?_<;>intro hb|refine fd ?_|fail))
   rw[hi]
  ·(have hb:=trivial;with_reducible repeat' (first|simp only[hb,Vc.down,seval,adR.down,hi]|refine Aq ?_ ?_<;>intro hb|refine fd ?_|fail))
theorem pS{l:List Ap}{nn:Bool}{g:Nat}{mm:Ad}{p:Ap→Bool}(hp:∀x∈l,Dc.call (.fn g) (.agg [.int .i64 x.frm,.int .i64 x.to,Af 2 true x.nn (x.wants.map Ao.cells),.int .i64 x.cmd,.int .i64 x.after]::[.ptr 0 0 0]) [.live 7 false false [[Af 3 true mm.nS (mm.sens.map Bz.cells),Af 4 false mm.nV (mm.votes.map Aj.cells),Af 5 false mm.nM (mm.moves.map Ap.cells),.int .i64 mm.states,.int .i64 mm.cmds,.int .i64 mm.bgn,Af 1 true mm.nO (mm.opn.map iv)]]]=some (.ret (.bool (p x)),[.live 7 false false [[Af 3 true mm.nS (mm.sens.map Bz.cells),Af 4 false mm.nV (mm.votes.map Aj.cells),Af 5 false mm.nM (mm.moves.map Ap.cells),.int .i64 mm.states,.int .i64 mm.cmds,.int .i64 mm.bgn,Af 1 true mm.nO (mm.opn.map iv)]]]))(hl:l.length≤maxLen)(hgm:Dc.md g=false:=by exact rfl):
 Dc.call (.fn 70) [Af 5 false nn (l.map Ap.cells),.func (.func g) [] [.ptr 0 0 0]] [.live 7 false false [[Af 3 true mm.nS (mm.sens.map Bz.cells),Af 4 false mm.nV (mm.votes.map Aj.cells),Af 5 false mm.nM (mm.moves.map Ap.cells),.int .i64 mm.states,.int .i64 mm.cmds,.int .i64 mm.bgn,Af 1 true mm.nO (mm.opn.map iv)]]]=some (.ret (.bool (l.any p)),[.live 7 false false [[Af 3 true mm.nS (mm.sens.map Bz.cells),Af 4 false mm.nV (mm.votes.map Aj.cells),Af 5 false mm.nM (mm.moves.map Ap.cells),.int .i64 mm.states,.int .i64 mm.cmds,.int .i64 mm.bgn,Af 1 true mm.nO (mm.opn.map iv)]]]):=by
 (refine ce Try.func70 ?_;simp only[Try.f70];(have hb:=trivial;with_reducible repeat' (first|simp only[hb,Vc.down,seval,uD hp hl hgm,Ur p l 0 (adD 0)]|refine Aq ?_ ?_<;>intro hb|refine fd ?_|fail)))
theorem mO(m:Ad)(hs:m.small):Dc.call (.fn 42) [.agg [Af 3 true m.nS (m.sens.map Bz.cells),Af 4 false m.nV (m.votes.map Aj.cells),Af 5 false m.nM (m.moves.map Ap.cells),.int .i64 m.states,.int .i64 m.cmds,.int .i64 m.bgn,Af 1 true m.nO (m.opn.map iv)]] []=some (.ret (.bool (Bh m)),[]):=by
 have l1:decide ((6:Int)<(m.sens.length:Int))= !decide (m.sens.length≤6):=by rw[←decide_not,decide_eq_decide];omega
 have l2:decide ((6:Int)<(m.votes.length:Int))= !decide (m.votes.length≤6):=by rw[←decide_not,decide_eq_decide];omega
 have l3:decide ((20:Int)<(m.moves.length:Int))= !decide (m.moves.length≤20):=by rw[←decide_not,decide_eq_decide];omega
 cases hp:Xd m with
 |false=>
  have hp':Bh m=false:=by simp[Bh,hp]
  rw[hp']
  (refine ce Try.func42 ?_;simp only[Try.f42];(have hb:=trivial;with_reducible repeat' (first|simp only[hb,Vc.down,seval,fF.down,acG,Xb,l1,l2,l3]|refine Aq ?_ ?_<;>intro hb|refine fd ?_|fail)))
  all_goals first
   |rfl
   |(exfalso;simp_all[Xd];done)
 |true=>
  have hp':=hp
  simp only[Xd,Bool.and_eq_true]at hp'
  obtain⟨⟨⟨⟨⟨⟨p1,p2⟩,p3⟩,p4⟩,p5⟩,p6⟩,p7⟩:=hp'
  (refine ce Try.func42 ?_;simp only[Try.f42];(have hb:=trivial;with_reducible repeat' (first|simp only[hb,Vc.down,seval,fF.down,acG,Xb,l1,l2,l3,p1,p2,p3,p4,p5,p6,p7]|refine Aq ?_ ?_<;>intro hb|refine fd ?_|fail)))
  refine Dl (Ss 118 m.sens (fun i (zz:Unit) t h=>t 1=.ptr 0 0 0∧t 53=Af 3 true m.nS (m.sens.map Bz.cells)∧t 54=.int .i64 m.sens.length∧t 55=.int .i64 i∧(h[0]?=some (.live 7 false false [[Af 3 true m.nS (m.sens.map Bz.cells),Af 4 false m.nV (m.votes.map Aj.cells),Af 5 false m.nM (m.moves.map Ap.cells),.int .i64 m.states,.int .i64 m.cmds,.int .i64 m.bgn,Af 1 true m.nO (m.opn.map iv)]]))) (fun rest zz=>rest.all sT) (fun r e t h=>(if r=true then e=.exit 0∧t 1=.ptr 0 0 0∧h[0]?=some (.live 7 false false [[Af 3 true m.nS (m.sens.map Bz.cells),Af 4 false m.nV (m.votes.map Aj.cells),Af 5 false m.nM (m.moves.map Ap.cells),.int .i64 m.states,.int .i64 m.cmds,.int .i64 m.bgn,Af 1 true m.nO (m.opn.map iv)]])else e=.ret∧t 2=.bool false)) ?_ ?_ () _ _ ?_) (fun e t h hk=>?_)
  ·rintro _ t h Q' kQ ⟨h1,h53,h54,h55,hA⟩
   (have hb:=trivial;with_reducible repeat' (first|simp only[hb,Vc.down,seval,fF.down,h1,h53,h54,h55,acK,decide_false]|refine Aq ?_ ?_<;>intro hb|refine fd ?_|fail))
   exact kQ _ _ _ (by rw[if_pos (by rfl)];exact⟨rfl,by simp[up,h1],hA⟩)
  ·rintro x rest i _ t h J Q' kJ kQ hx hi ⟨h1,h53,h54,h55,hA⟩
   have hd:decide ((i:Int)<(m.sens.length:Int))=true:=decide_eq_true (by omega)
   have hw:=Av hi hs.sens
   have hA1:=Ac hA
   (have hb:=trivial;with_reducible repeat' (first|simp only[hb,Vc.down,seval,fF.down,h1,h53,h54,h55,hd,hx,hw,lN,Bz.cells,acG]|refine Aq ?_ ?_<;>intro hb|refine fd ?_|fail))
   all_goals first
    |exact kQ _ _ _ (by rw[if_neg (by simp_all[sT])];exact⟨rfl,by simp[up]⟩)
    |(refine Ax (kJ _ _ () ⟨?_,?_,?_,?_,hA1 _⟩ ?_);(simp[up,h1]);(simp[up,h53]);(simp[up,h54]);(simp[up]);(simp_all[sT]))
  ·exact⟨by simp[up,Eg],by simp[up,Eg],by simp[up,Eg],by simp[up],rfl⟩
  ·split at hk
   ·obtain⟨rfl,h1,hA⟩:=hk
    rename_i hr1
    have hA1:=Ac hA
    (have hb:=trivial;with_reducible repeat' (first|simp only[hb,Vc.down,seval,fF.down,h1,hA,hA1,acG]|refine Aq ?_ ?_<;>intro hb|refine fd ?_|fail))
    refine Dl (Ss 118 m.votes (fun i (zz:Unit) t h=>t 1=.ptr 0 0 0∧t 78=Af 4 false m.nV (m.votes.map Aj.cells)∧t 79=.int .i64 m.votes.length∧t 80=.int .i64 i∧(h[0]?=some (.live 7 false false [[Af 3 true m.nS (m.sens.map Bz.cells),Af 4 false m.nV (m.votes.map Aj.cells),Af 5 false m.nM (m.moves.map Ap.cells),.int .i64 m.states,.int .i64 m.cmds,.int .i64 m.bgn,Af 1 true m.nO (m.opn.map iv)]]))) (fun rest zz=>rest.all (bQ m.sens.length)) (fun r e t h=>(if r=true then e=.exit 2∧t 1=.ptr 0 0 0∧h[0]?=some (.live 7 false false [[Af 3 true m.nS (m.sens.map Bz.cells),Af 4 false m.nV (m.votes.map Aj.cells),Af 5 false m.nM (m.moves.map Ap.cells),.int .i64 m.states,.int .i64 m.cmds,.int .i64 m.bgn,Af 1 true m.nO (m.opn.map iv)]])else e=.ret∧t 2=.bool false)) ?_ ?_ () _ _ ?_) (fun e t h hk=>?_)
    ·rintro _ t h Q' kQ ⟨h1,h78,h79,h80,hA⟩
     (have hb:=trivial;with_reducible repeat' (first|simp only[hb,Vc.down,seval,fF.down,h1,h78,h79,h80,acK,decide_false]|refine Aq ?_ ?_<;>intro hb|refine fd ?_|fail))
     exact kQ _ _ _ (by rw[if_pos (by rfl)];exact⟨rfl,by simp[up,h1],hA⟩)
    ·rintro x rest i _ t h J Q' kJ kQ hx hi ⟨h1,h78,h79,h80,hA⟩
     have hd:decide ((i:Int)<(m.votes.length:Int))=true:=decide_eq_true (by omega)
     have hw:=Av hi hs.votes
     have hA1:=Ac hA
     have hin:=iF (nn:=x.nn) m.sens.length (hs.vs x (acZ hx))
     (have hb:=trivial;with_reducible repeat' (first|simp only[hb,Vc.down,seval,fF.down,h1,h78,h79,h80,hd,hx,hw,hA1,lN,Xb,hin,Aj.cells,acG]|refine Aq ?_ ?_<;>intro hb|refine fd ?_|fail))
     all_goals first
      |exact kQ _ _ _ (by rw[if_neg (by simp_all[bQ])];exact⟨rfl,by simp[up]⟩)
      |(refine Ax (kJ _ _ () ⟨?_,?_,?_,?_,hA1 _⟩ ?_);(simp[up,h1]);(simp[up,h78]);(simp[up,h79]);(simp[up]);(simp_all[bQ]))
    ·exact⟨by simp[up,Eg,h1],by simp[up,Eg,h1],by simp[up,Eg,h1],by simp[up],hA⟩
    ·split at hk
     ·obtain⟨rfl,h1,hA⟩:=hk
      rename_i hr2
      have hA1:=Ac hA
      have hcM:=pS (mm:=m) (l:=m.moves) (nn:=m.nM) (g:=71) (p:=fun x=> !Sj m x) (fun x hx=>aaP m x (hs.ws x hx)) hs.moves
      have hcI:=tZ (l:=m.opn) (nn:=m.nO) (g:=74) (cap:=[]) (p:=fun x=> !To x 0 255) rfl rfl (fun x _=>aaZ x) hs.opn
      (have hb:=trivial;with_reducible repeat' (first|simp only[hb,Vc.down,seval,fF.down,h1,hA,hA1,acG,hcM,hcI]|refine Aq ?_ ?_<;>intro hb|refine fd ?_|fail))
      all_goals
       have q1:m.moves.all (Sj m)= !(m.moves.any fun x=> !Sj m x):=al5
       have q2:m.opn.all (fun n=>To n 0 255)= !(m.opn.any fun x=> !To x 0 255):=al5
       simp only[Bh,hp,hr1,hr2,q1,q2,hb,ahZ,ah3,al3,aiK,al2]
       try rfl
     ·obtain⟨rfl,h2⟩:=hk
      rename_i hr2
      (have hb:=trivial;with_reducible repeat' (first|simp only[hb,Vc.down,seval,fF.down,h2]|refine Aq ?_ ?_<;>intro hb|refine fd ?_|fail))
      all_goals simp[Bh,hp,al6.2 hr2]
   ·obtain⟨rfl,h2⟩:=hk
    rename_i hr1
    (have hb:=trivial;with_reducible repeat' (first|simp only[hb,Vc.down,seval,fF.down,h2]|refine Aq ?_ ?_<;>intro hb|refine fd ?_|fail))
    all_goals simp[Bh,hp,al6.2 hr1]
end Go.Proofs.Ytfkokgjfpojeoaa.Ko
