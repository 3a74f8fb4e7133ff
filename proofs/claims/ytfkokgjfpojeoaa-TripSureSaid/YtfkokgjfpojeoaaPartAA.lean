/- The functions of the layer, walked. -/
import Derived.Test.YtfkokgjfpojeoaaLibD
import Derived.Test.YtfkokgjfpojeoaaChecked
import Derived.Test.YtfkokgjfpojeoaaLibE
import Derived.Test.YtfkokgjfpojeoaaRows
import Derived.ProofKit
import Derived.LaidMore
import Derived.OpenShut
open And renaming intro→afR
open List renaming length_map→af1,mem_of_getElem?→ag9,getElem?_eq_getElem→aoM,take_add_one→apF,all_eq_not_any_not→awG
open Int renaming lt_irrefl→agD,le_refl→aiI,natCast_zero→ak5
open Bool renaming eq_false_iff→agI,not_true→ahJ,not_false→ahP,true_and→ah6,false_and→aiO,and_true→aiV,and_false→akD,not_eq_eq_eq_not→atL,and_eq_true→auB
open Nat renaming add_sub_cancel→aoV
set_option linter.unusedSimpArgs false
set_option linter.unusedVariables false
namespace Go.Proofs.Ytfkokgjfpojeoaa
open Go.Ev
set_option maxRecDepth 100000
theorem Jd(h:Aa)(b r o:Nat):ld Try.prog 27 h (some (.ptr b r o))=tU (Lm (h[b]?) r) o 7:=aF ⟨by kernel_rfl,by kernel_rfl⟩ h b r o
theorem Gn(h:Aa)(b r o:Nat):ld Try.prog 25 h (some (.ptr b r o))=rU (Lm (h[b]?) r) o:=Xm ⟨by kernel_rfl,1,by kernel_rfl⟩ h b r o
theorem fP(h:Aa)(c:AV)(cs:List AV):ld Try.prog 25 h (some (.iptr (c::cs)))=some (.ret c,[]):=jE ⟨by kernel_rfl,1,by kernel_rfl⟩ h c cs
theorem Ek(fl nn:Bool)(rows:List (List AV)):ln Try.prog 25 (some (Af 1 fl nn rows))=some (.ret (.int .i64 rows.length),[]):=Xk ⟨_,Try.underlying25,by kernel_rfl⟩ fl nn rows
theorem Jp(b r o:Nat):fa Try.prog 27 (some (.ptr b r o)) 3=some (.ret (.ptr b r (o+3)),[]):=Cb (show Dh Try.prog 27 3 3 1 from⟨_,_,Try.underlying27,rfl,rfl,by kernel_rfl,by decide⟩) b r o
theorem Ci(h:Aa)(b r o:Nat):ld Try.prog 3 h (some (.ptr b r o))=rU (Lm (h[b]?) r) o:=Xm ⟨by kernel_rfl,1,by kernel_rfl⟩ h b r o
theorem Gh(h:Aa)(c:AV)(cs:List AV):ld Try.prog 3 h (some (.iptr (c::cs)))=some (.ret c,[]):=jE ⟨by kernel_rfl,1,by kernel_rfl⟩ h c cs
theorem Eb(b r o:Nat):fa Try.prog 27 (some (.ptr b r o)) 1=some (.ret (.ptr b r (o+1)),[]):=Cb (show Dh Try.prog 27 1 1 1 from⟨_,_,Try.underlying27,rfl,rfl,by kernel_rfl,by decide⟩) b r o
theorem Ew(h:Aa)(b r o:Nat):ld Try.prog 23 h (some (.ptr b r o))=rU (Lm (h[b]?) r) o:=Xm ⟨by kernel_rfl,1,by kernel_rfl⟩ h b r o
theorem Gi(fl nn:Bool)(rows:List (List AV)):ln Try.prog 23 (some (Af 4 fl nn rows))=some (.ret (.int .i64 rows.length),[]):=Xk ⟨_,Try.underlying23,by kernel_rfl⟩ fl nn rows
theorem Ix(fl nn:Bool)(rows:List (List AV))(k:IntKind)(i:Int):ia Try.prog 23 (some (Af 4 fl nn rows)) (some (.int k i))=if 0≤i then r1 ((rows[i.toNat]?).map .iptr)else none:=Ys ⟨_,Try.underlying23,by kernel_rfl⟩ fl nn rows k i
theorem gP(h:Aa)(b r o:Nat):ld Try.prog 48 h (some (.ptr b r o))=tU (Lm (h[b]?) r) o 4:=aF ⟨by kernel_rfl,by kernel_rfl⟩ h b r o
theorem Jg(h:Aa)(cs:List AV):ld Try.prog 48 h (some (.iptr cs))=if 4≤cs.length then some (.ret (.agg (cs.take 4)),[])else none:=iP ⟨by kernel_rfl,by kernel_rfl⟩ h cs
theorem Tt:Ht Try.prog 48=some (.agg [.nils,.int .i64 0,.int .i64 0,.bool false]):=by kernel_rfl
theorem Tu(h:Aa)(b r o:Nat)(v:AV):rW Try.prog 48 h (some (.ptr b r o)) (some v)=sv 4 (h[b]?) b r o (Ah v):=Uy (by kernel_rfl) h b r o v
theorem Zj{O:Dq}(t:List AV)(h:Aa)(s x:Operand):Df O Try.prog t h (.call ⟨.builtin .append,#[s,x],#[25,25]⟩)=wL Try.prog 25 h (Ac t s) (Ac t x):=wM t h s x 25 25 _ Try.underlying25
theorem lX(h:Aa)(s:AV)(st:Nat)(fl:Bool)(rows:List (List AV)):wL Try.prog 25 h (some s) (some (.imm st fl rows))=apK 1 h (some s) (srK 1 h (some (.imm st fl rows))):=wA (e:=3) (b:=8) (z:=.int .i64 0) (by kernel_rfl) (by kernel_rfl) (by kernel_rfl) (by kernel_rfl) (by decide+kernel) h s _ (fun q e=>by cases e)
theorem Ic(b r o:Nat):fa Try.prog 48 (some (.ptr b r o)) 0=some (.ret (.ptr b r (o+0)),[]):=Cb (show Dh Try.prog 48 0 0 1 from⟨_,_,Try.underlying48,rfl,rfl,by kernel_rfl,by decide⟩) b r o
theorem dE(cs:List AV):fa Try.prog 48 (some (.iptr cs)) 0=if 0+1≤cs.length then some (.ret (.iptr (cs.drop 0)),[])else none:=Wv (show Dh Try.prog 48 0 0 1 from⟨_,_,Try.underlying48,rfl,rfl,by kernel_rfl,by decide⟩) cs
theorem mB(b r len:Nat)(k:IntKind)(i:Int):ia Try.prog 25 (some (.slr 1 b r len)) (some (.int k i))=if 0≤i∧i<len then some (.ret (.ptr b (r+i.toNat) 0),[])else none:=qG ⟨_,Try.underlying25,by kernel_rfl⟩ b r len k i
theorem Hg(fl nn:Bool)(rows:List (List AV))(k:IntKind)(i:Int):ia Try.prog 25 (some (Af 1 fl nn rows)) (some (.int k i))=if 0≤i then r1 ((rows[i.toNat]?).map .iptr)else none:=Ys ⟨_,Try.underlying25,by kernel_rfl⟩ fl nn rows k i
theorem Ep(b r o:Nat):fa Try.prog 27 (some (.ptr b r o)) 0=some (.ret (.ptr b r (o+0)),[]):=Cb (show Dh Try.prog 27 0 0 1 from⟨_,_,Try.underlying27,rfl,rfl,by kernel_rfl,by decide⟩) b r o
theorem Fp(h:Aa)(b r o:Nat):ld Try.prog 22 h (some (.ptr b r o))=rU (Lm (h[b]?) r) o:=Xm ⟨by kernel_rfl,1,by kernel_rfl⟩ h b r o
theorem Kv(fl nn:Bool)(rows:List (List AV))(k:IntKind)(i:Int):ia Try.prog 22 (some (Af 3 fl nn rows)) (some (.int k i))=if 0≤i then r1 ((rows[i.toNat]?).map .iptr)else none:=Ys ⟨_,Try.underlying22,by kernel_rfl⟩ fl nn rows k i
theorem Ns(h:Aa)(cs:List AV):ld Try.prog 50 h (some (.iptr cs))=if 3≤cs.length then some (.ret (.agg (cs.take 3)),[])else none:=iP ⟨by kernel_rfl,by kernel_rfl⟩ h cs
theorem Xu:Ht Try.prog 50=some (.agg [.int .i64 0,.int .i64 0,.bool false]):=by kernel_rfl
theorem Yg(h:Aa)(b r o:Nat)(v:AV):rW Try.prog 50 h (some (.ptr b r o)) (some v)=sv 3 (h[b]?) b r o (Ah v):=Uy (by kernel_rfl) h b r o v
theorem Wc(b r o:Nat):fa Try.prog 50 (some (.ptr b r o)) 2=some (.ret (.ptr b r (o+2)),[]):=Cb (show Dh Try.prog 50 2 2 1 from⟨_,_,Try.underlying50,rfl,rfl,by kernel_rfl,by decide⟩) b r o
theorem cP(cs:List AV):fa Try.prog 50 (some (.iptr cs)) 2=if 2+1≤cs.length then some (.ret (.iptr (cs.drop 2)),[])else none:=Wv (show Dh Try.prog 50 2 2 1 from⟨_,_,Try.underlying50,rfl,rfl,by kernel_rfl,by decide⟩) cs
theorem Uu(h:Aa)(b r o:Nat):ld Try.prog 4 h (some (.ptr b r o))=rU (Lm (h[b]?) r) o:=Xm ⟨by kernel_rfl,1,by kernel_rfl⟩ h b r o
theorem jS(h:Aa)(c:AV)(cs:List AV):ld Try.prog 4 h (some (.iptr (c::cs)))=some (.ret c,[]):=jE ⟨by kernel_rfl,1,by kernel_rfl⟩ h c cs
theorem Jy(b r o:Nat):fa Try.prog 50 (some (.ptr b r o)) 0=some (.ret (.ptr b r (o+0)),[]):=Cb (show Dh Try.prog 50 0 0 1 from⟨_,_,Try.underlying50,rfl,rfl,by kernel_rfl,by decide⟩) b r o
theorem Jo(b r o:Nat):fa Try.prog 50 (some (.ptr b r o)) 1=some (.ret (.ptr b r (o+1)),[]):=Cb (show Dh Try.prog 50 1 1 1 from⟨_,_,Try.underlying50,rfl,rfl,by kernel_rfl,by decide⟩) b r o
theorem sB(h:Aa)(b r o:Nat)(v:AV):rW Try.prog 3 h (some (.ptr b r o)) (some v)=sv 1 (h[b]?) b r o (Ah v):=Uy (by kernel_rfl) h b r o v
theorem lS(st b r len:Nat):ln Try.prog 51 (some (.slr st b r len))=some (.ret (.int .i64 len),[]):=wT (n:=1) ⟨_,Try.underlying51,by kernel_rfl⟩ st b r len
theorem Wa(b r o:Nat):fa Try.prog 48 (some (.ptr b r o)) 3=some (.ret (.ptr b r (o+3)),[]):=Cb (show Dh Try.prog 48 3 3 1 from⟨_,_,Try.underlying48,rfl,rfl,by kernel_rfl,by decide⟩) b r o
theorem Jv(b r o:Nat):fa Try.prog 48 (some (.ptr b r o)) 2=some (.ret (.ptr b r (o+2)),[]):=Cb (show Dh Try.prog 48 2 2 1 from⟨_,_,Try.underlying48,rfl,rfl,by kernel_rfl,by decide⟩) b r o
theorem jY(b r len:Nat)(k:IntKind)(i:Int):ia Try.prog 51 (some (.slr 1 b r len)) (some (.int k i))=if 0≤i∧i<len then some (.ret (.ptr b (r+i.toNat) 0),[])else none:=qG ⟨_,Try.underlying51,by kernel_rfl⟩ b r len k i
theorem Ie(b r o:Nat):fa Try.prog 48 (some (.ptr b r o)) 1=some (.ret (.ptr b r (o+1)),[]):=Cb (show Dh Try.prog 48 1 1 1 from⟨_,_,Try.underlying48,rfl,rfl,by kernel_rfl,by decide⟩) b r o
theorem Ll(fl nn:Bool)(rows:List (List AV)):ln Try.prog 22 (some (Af 3 fl nn rows))=some (.ret (.int .i64 rows.length),[]):=Xk ⟨_,Try.underlying22,by kernel_rfl⟩ fl nn rows
theorem Jw(b r o:Nat):fa Try.prog 27 (some (.ptr b r o)) 2=some (.ret (.ptr b r (o+2)),[]):=Cb (show Dh Try.prog 27 2 2 1 from⟨_,_,Try.underlying27,rfl,rfl,by kernel_rfl,by decide⟩) b r o
theorem Nh(h:Aa)(b r o:Nat):ld Try.prog 24 h (some (.ptr b r o))=rU (Lm (h[b]?) r) o:=Xm ⟨by kernel_rfl,1,by kernel_rfl⟩ h b r o
theorem Ld(fl nn:Bool)(rows:List (List AV)):ln Try.prog 24 (some (Af 5 fl nn rows))=some (.ret (.int .i64 rows.length),[]):=Xk ⟨_,Try.underlying24,by kernel_rfl⟩ fl nn rows
theorem nF:Ht Try.prog 56=some (.agg [.int .i64 0,.bool false]):=by kernel_rfl
theorem nP:Ht Try.prog 59=some (.agg [.int .i64 0,.int .i64 0,.nils,.int .i64 0,.int .i64 0]):=by kernel_rfl
theorem Wh(b r o:Nat):fa Try.prog 27 (some (.ptr b r o)) 5=some (.ret (.ptr b r (o+5)),[]):=Cb (show Dh Try.prog 27 5 5 1 from⟨_,_,Try.underlying27,rfl,rfl,by kernel_rfl,by decide⟩) b r o
theorem Px(fl nn:Bool)(rows:List (List AV))(k:IntKind)(i:Int):ia Try.prog 24 (some (Af 5 fl nn rows)) (some (.int k i))=if 0≤i then r1 ((rows[i.toNat]?).map .iptr)else none:=Ys ⟨_,Try.underlying24,by kernel_rfl⟩ fl nn rows k i
theorem Om(b r o:Nat):fa Try.prog 59 (some (.ptr b r o)) 2=some (.ret (.ptr b r (o+2)),[]):=Cb (show Dh Try.prog 59 2 2 1 from⟨_,_,Try.underlying59,rfl,rfl,by kernel_rfl,by decide⟩) b r o
theorem eU(cs:List AV):fa Try.prog 59 (some (.iptr cs)) 2=if 2+1≤cs.length then some (.ret (.iptr (cs.drop 2)),[])else none:=Wv (show Dh Try.prog 59 2 2 1 from⟨_,_,Try.underlying59,rfl,rfl,by kernel_rfl,by decide⟩) cs
theorem Rm(h:Aa)(b r o:Nat):ld Try.prog 57 h (some (.ptr b r o))=rU (Lm (h[b]?) r) o:=Xm ⟨by kernel_rfl,1,by kernel_rfl⟩ h b r o
theorem fR(h:Aa)(c:AV)(cs:List AV):ld Try.prog 57 h (some (.iptr (c::cs)))=some (.ret c,[]):=jE ⟨by kernel_rfl,1,by kernel_rfl⟩ h c cs
theorem Po(fl nn:Bool)(rows:List (List AV)):ln Try.prog 57 (some (Af 2 fl nn rows))=some (.ret (.int .i64 rows.length),[]):=Xk ⟨_,Try.underlying57,by kernel_rfl⟩ fl nn rows
theorem Oy(b r o:Nat):fa Try.prog 27 (some (.ptr b r o)) 6=some (.ret (.ptr b r (o+6)),[]):=Cb (show Dh Try.prog 27 6 6 1 from⟨_,_,Try.underlying27,rfl,rfl,by kernel_rfl,by decide⟩) b r o
theorem lF(ps:List (Nat × AV)):Rb Try.prog 86 ps=(Ij (fun i=>([(0,1),(1,1)]:List (Nat × Nat))[i]?) (Ah (.agg [.int .i64 0,.int .i64 0])) ps).map .agg:=by kernel_rfl
theorem mQ:Ht Try.prog 86=some (.agg [.int .i64 0,.int .i64 0]):=by kernel_rfl
theorem nX(h:Aa)(b r o:Nat)(v:AV):rW Try.prog 86 h (some (.ptr b r o)) (some v)=sv 2 (h[b]?) b r o (Ah v):=Uy (by kernel_rfl) h b r o v
theorem Wg(b r o:Nat):fa Try.prog 86 (some (.ptr b r o)) 0=some (.ret (.ptr b r (o+0)),[]):=Cb (show Dh Try.prog 86 0 0 1 from⟨_,_,Try.underlying86,rfl,rfl,by kernel_rfl,by decide⟩) b r o
theorem Vv(b r o:Nat):fa Try.prog 86 (some (.ptr b r o)) 1=some (.ret (.ptr b r (o+1)),[]):=Cb (show Dh Try.prog 86 1 1 1 from⟨_,_,Try.underlying86,rfl,rfl,by kernel_rfl,by decide⟩) b r o
theorem Jq(b r o:Nat):fa Try.prog 27 (some (.ptr b r o)) 4=some (.ret (.ptr b r (o+4)),[]):=Cb (show Dh Try.prog 27 4 4 1 from⟨_,_,Try.underlying27,rfl,rfl,by kernel_rfl,by decide⟩) b r o
theorem Yx(h:Aa)(b r o:Nat):ld Try.prog 59 h (some (.ptr b r o))=tU (Lm (h[b]?) r) o 5:=aF ⟨by kernel_rfl,by kernel_rfl⟩ h b r o
theorem Rk(h:Aa)(cs:List AV):ld Try.prog 59 h (some (.iptr cs))=if 5≤cs.length then some (.ret (.agg (cs.take 5)),[])else none:=iP ⟨by kernel_rfl,by kernel_rfl⟩ h cs
theorem Pg(b r o:Nat):fa Try.prog 59 (some (.ptr b r o)) 1=some (.ret (.ptr b r (o+1)),[]):=Cb (show Dh Try.prog 59 1 1 1 from⟨_,_,Try.underlying59,rfl,rfl,by kernel_rfl,by decide⟩) b r o
theorem fU(h:Aa)(b r o:Nat):ld Try.prog 86 h (some (.ptr b r o))=tU (Lm (h[b]?) r) o 2:=aF ⟨by kernel_rfl,by kernel_rfl⟩ h b r o
theorem jJ(base len:Nat)(ps:List (Nat × AV)):rD (Bm Try.prog base 51 len ps)=bsK 1 (.bool false) base len ps:=aJS (e:=4) (by kernel_rfl) (by kernel_rfl) (by kernel_rfl) base len ps
theorem Zx{O:Dq}(t:List AV)(h:Aa)(s x:Operand):Df O Try.prog t h (.call ⟨.builtin .append,#[s,x],#[51,51]⟩)=wL Try.prog 51 h (Ac t s) (Ac t x):=wM t h s x 51 51 _ Try.underlying51
theorem lL(h:Aa)(s:AV)(a b r l:Nat):wL Try.prog 51 h (some s) (some (.slr a b r l))=apK 1 h (some s) (srK 1 h (some (.slr a b r l))):=wA (e:=4) (b:=1) (z:=.bool false) (by kernel_rfl) (by kernel_rfl) (by kernel_rfl) (by kernel_rfl) (by decide+kernel) h s _ (fun q e=>by cases e)
theorem pW(h:Aa)(b r o:Nat)(v:AV):rW Try.prog 59 h (some (.ptr b r o)) (some v)=sv 5 (h[b]?) b r o (Ah v):=Uy (by kernel_rfl) h b r o v
theorem gI(h:Aa)(b r o:Nat):ld Try.prog 90 h (some (.ptr b r o))=tU (Lm (h[b]?) r) o 2:=aF ⟨by kernel_rfl,by kernel_rfl⟩ h b r o
theorem fC(ps:List (Nat × AV)):Rb Try.prog 126 ps=(Ij (fun i=>([(0,5),(5,2),(7,2)]:List (Nat × Nat))[i]?) (Ah (.agg [.int .i64 0,.int .i64 0,.nils,.int .i64 0,.int .i64 0,.int .i64 0,.int .i64 0,.int .i64 0,.int .i64 0])) ps).map .agg:=by kernel_rfl
theorem Uz(fl nn:Bool)(rows:List (List AV))(k:IntKind)(i:Int):ia Try.prog 57 (some (Af 2 fl nn rows)) (some (.int k i))=if 0≤i then r1 ((rows[i.toNat]?).map .iptr)else none:=Ys ⟨_,Try.underlying57,by kernel_rfl⟩ fl nn rows k i
theorem Ox(b r o:Nat):fa Try.prog 56 (some (.ptr b r o)) 0=some (.ret (.ptr b r (o+0)),[]):=Cb (show Dh Try.prog 56 0 0 1 from⟨_,_,Try.underlying56,rfl,rfl,by kernel_rfl,by decide⟩) b r o
theorem eY(cs:List AV):fa Try.prog 56 (some (.iptr cs)) 0=if 0+1≤cs.length then some (.ret (.iptr (cs.drop 0)),[])else none:=Wv (show Dh Try.prog 56 0 0 1 from⟨_,_,Try.underlying56,rfl,rfl,by kernel_rfl,by decide⟩) cs
theorem Of(b r o:Nat):fa Try.prog 59 (some (.ptr b r o)) 0=some (.ret (.ptr b r (o+0)),[]):=Cb (show Dh Try.prog 59 0 0 1 from⟨_,_,Try.underlying59,rfl,rfl,by kernel_rfl,by decide⟩) b r o
theorem Pj(b r o:Nat):fa Try.prog 59 (some (.ptr b r o)) 3=some (.ret (.ptr b r (o+3)),[]):=Cb (show Dh Try.prog 59 3 3 1 from⟨_,_,Try.underlying59,rfl,rfl,by kernel_rfl,by decide⟩) b r o
theorem Pm(b r o:Nat):fa Try.prog 59 (some (.ptr b r o)) 4=some (.ret (.ptr b r (o+4)),[]):=Cb (show Dh Try.prog 59 4 4 1 from⟨_,_,Try.underlying59,rfl,rfl,by kernel_rfl,by decide⟩) b r o
theorem dY(b r o:Nat):fa Try.prog 56 (some (.ptr b r o)) 1=some (.ret (.ptr b r (o+1)),[]):=Cb (show Dh Try.prog 56 1 1 1 from⟨_,_,Try.underlying56,rfl,rfl,by kernel_rfl,by decide⟩) b r o
theorem dO(b r o:Nat):fa Try.prog 90 (some (.ptr b r o)) 0=some (.ret (.ptr b r (o+0)),[]):=Cb (show Dh Try.prog 90 0 0 1 from⟨_,_,Try.underlying90,rfl,rfl,by kernel_rfl,by decide⟩) b r o
theorem Zg(h:Aa)(cs:List AV):ld Try.prog 56 h (some (.iptr cs))=if 2≤cs.length then some (.ret (.agg (cs.take 2)),[])else none:=iP ⟨by kernel_rfl,by kernel_rfl⟩ h cs
theorem mP(h:Aa)(b r o:Nat)(v:AV):rW Try.prog 56 h (some (.ptr b r o)) (some v)=sv 2 (h[b]?) b r o (Ah v):=Uy (by kernel_rfl) h b r o v
theorem Vt(h:Aa)(b r o:Nat):ld Try.prog 126 h (some (.ptr b r o))=tU (Lm (h[b]?) r) o 9:=aF ⟨by kernel_rfl,by kernel_rfl⟩ h b r o
theorem Il(b r o:Nat):fa Try.prog 126 (some (.ptr b r o)) 0=some (.ret (.ptr b r (o+0)),[]):=Cb (show Dh Try.prog 126 0 0 5 from⟨_,_,Try.underlying126,rfl,rfl,by kernel_rfl,by decide⟩) b r o
theorem Ss(b r o:Nat):fa Try.prog 126 (some (.ptr b r o)) 1=some (.ret (.ptr b r (o+5)),[]):=Cb (show Dh Try.prog 126 1 5 2 from⟨_,_,Try.underlying126,rfl,rfl,by kernel_rfl,by decide⟩) b r o
theorem Tq(b r o:Nat):fa Try.prog 126 (some (.ptr b r o)) 2=some (.ret (.ptr b r (o+7)),[]):=Cb (show Dh Try.prog 126 2 7 2 from⟨_,_,Try.underlying126,rfl,rfl,by kernel_rfl,by decide⟩) b r o
theorem dS(b r o:Nat):fa Try.prog 90 (some (.ptr b r o)) 1=some (.ret (.ptr b r (o+1)),[]):=Cb (show Dh Try.prog 90 1 1 1 from⟨_,_,Try.underlying90,rfl,rfl,by kernel_rfl,by decide⟩) b r o
def Qf:=PLift.up (afR @Jd (afR @Eb (afR @Ew (afR @Gi (afR @Ix (afR @Jg (afR @Tt (afR @Tu (afR @Zj (afR @lX (afR @Ic (afR @Gn (afR @Ek (afR @mB (afR @Hg (afR @Ci (afR @Gh (afR @Ep (afR @Fp (afR @Kv (afR @Ns (afR @Xu (afR @Yg (afR @Wc (afR @Uu (afR @Jy (afR @Jo (afR @sB (afR @lS (afR @Wa (afR @Jv (afR @jY @Ie))))))))))))))))))))))))))))))))
def Yo:=PLift.up (afR @Eb (afR @Ew (afR @Gi (afR @Ix (afR @dE (afR @Gn (afR @fP (afR @Ek (afR @Jw (afR @Nh (afR @Ld (afR @Px (afR @eU (afR @fR (afR @Po (afR @Ep (afR @Fp (afR @Ll @Oy))))))))))))))))))
def Oa:=PLift.up (afR @Ep (afR @Fp (afR @Ll (afR @Kv (afR @Ns (afR @Xu (afR @Yg (afR @Jy (afR @Ci (afR @Gh (afR @Jo (afR @Eb (afR @Ew (afR @Gi (afR @Ix (afR @Jg (afR @Jp (afR @Jq (afR @Wh (afR @Oy (afR @Gn (afR @Ek (afR @Jw (afR @Nh (afR @Ld (afR @Hg (afR @Jd (afR @Px @Rk))))))))))))))))))))))))))))
def dD:=PLift.up (afR @Jd (afR @Eb (afR @Ew (afR @Gi (afR @Ix (afR @Jg (afR @Tt (afR @Tu (afR @Ic (afR @Gn (afR @Ek (afR @Hg (afR @Ci (afR @Gh (afR @Ep (afR @Fp (afR @Kv (afR @cP (afR @jS @Ie)))))))))))))))))))
def mN:=PLift.up (afR @Ek (afR @Hg (afR @Gh (afR @Ep (afR @Fp @Ll)))))
def lM:=PLift.up (afR @Jd (afR @Eb (afR @Ew (afR @Gi (afR @jJ (afR @Zx @lL))))))
def Zq:=PLift.up (afR @Ep (afR @Fp (afR @Ll (afR @Eb (afR @Ew (afR @Gi (afR @Jw (afR @Nh (afR @Ld (afR @Jp (afR @Ci (afR @Jq (afR @Wh (afR @Oy (afR @Gn (afR @Ek (afR @Kv (afR @Ns (afR @Xu (afR @Yg (afR @Jy (afR @Jo (afR @Ix (afR @Jg (afR @Tt (afR @Tu (afR @Ic (afR @Ie @Jv))))))))))))))))))))))))))))
def qJ:=PLift.up (afR @fU (afR @mQ (afR @Jw (afR @Nh (afR @Ld (afR @Px (afR @Yx (afR @Rk (afR @nP (afR @pW (afR @gI (afR @fC (afR @Pg (afR @Ci (afR @lF (afR @nX (afR @Wg @Vv)))))))))))))))))
def gB:=PLift.up (afR @Eb (afR @Ew (afR @Gi (afR @Ix (afR @gP (afR @Jg (afR @Tt (afR @Tu (afR @Ic (afR @Gn (afR @Ek (afR @Hg (afR @Ci (afR @Gh (afR @Ep (afR @Fp (afR @Kv (afR @Ns @Ie))))))))))))))))))
def lO:=PLift.up (afR @Ic (afR @Gn (afR @Ek (afR @Hg (afR @Ci (afR @Gh (afR @Ie @Jv)))))))
def Ze:=PLift.up (afR @Om (afR @Rm (afR @Po (afR @Uz (afR @eY (afR @Ci (afR @Gh (afR @Eb (afR @Ew (afR @Gi (afR @Of (afR @Jp (afR @Pg (afR @Pj (afR @Jq @Pm)))))))))))))))
def kO:=PLift.up (afR @Ek (afR @Hg @Gh))
def aIL:=PLift.up (afR @Ek (afR @Ep (afR @Fp @Ll)))
def aG3:=PLift.up (afR @Jd @Yx)
def fZ:=PLift.up (afR @Om (afR @Rm (afR @Po (afR @Uz (afR @Zg (afR @nF (afR @mP (afR @Ox (afR @Ci (afR @Eb (afR @Ew (afR @Gi (afR @Of (afR @Jp (afR @Pg (afR @Pj (afR @Jq @Pm)))))))))))))))))
def aoG:=PLift.up (afR @Vt @Vt)
def aJT:=PLift.up (afR @Wc (afR @Uu (afR @Jy (afR @Ci (afR @Jo (afR @Wa @Jv))))))
def qC:=PLift.up (afR @Ld (afR @Px @Rk))
def aHZ:=PLift.up (afR @Ox @Ci)
def rO:=PLift.up (afR @Ek (afR @Hg @Gh))
def aHE:=PLift.up (afR @Il (afR @Of (afR @Ci (afR @Ss @Wg))))
def aG7:=PLift.up (afR @Il (afR @Pm (afR @Ci (afR @Ss @Vv))))
def aG2:=PLift.up (afR @Il (afR @Om @Rm))
def aJQ:=PLift.up (afR @Il (afR @Pj (afR @Ci (afR @Tq @dS))))
def Zp:=PLift.up (afR @Po (afR @Uz @Zg))
def aGZ:=PLift.up (afR @Tq (afR @dO (afR @Ci (afR @Ox (afR @dY @Uu)))))
end Go.Proofs.Ytfkokgjfpojeoaa
namespace Go.Proofs.Ytfkokgjfpojeoaa
open Go Go.Ev Go.ChangeShapes Go.WideShapes Go.ChangeAt Go.RowKit
set_option maxRecDepth 100000
set_option maxHeartbeats 16000000
def mdL:List Nat:=[96,100,102,83]
def pr:Fa:=⟨fun _=>none,(mdL.contains ·)⟩
noncomputable def Fg:Dq:=om Try.prog pr
def Va:=PLift.up (afR EE.down EE.down)
def Vc:=PLift.up (afR EG.down EVu.down)
theorem aJO{C:R→Prop}[rV C]{n:Nat}{k:List Aj}{c:Code}{s:St}(h:Un Fg Try.prog n k c C (Bj Fg Try.prog 5000 c [] s)):C (vT Fg Try.prog n k (Fg.loop c s)):=anN (pr:=pr) h
theorem own:ownKnob Try.prog.godebug=none:=by kernel_rfl
theorem aJR:lG Try.prog:=fun f fn hf=>by
 have h:(Try.prog.funcs.toList.all fun fn=> !(fn.name== "runtime.NumGoroutine"))=true:=by kernel_rfl
 have:=List.all_eq_true.1 h fn (by rw[Array.mem_toList_iff];exact Array.mem_of_getElem? hf)
 simpa using this
theorem azU:Try.prog.follows .mixedOrders=true:=by kernel_rfl
theorem sD:laidOutB Try.prog=true:=by kernel_rfl
theorem oD:Ee Try.prog (fun _=>none) Fg:=auS aJR (fun f p h=>by cases h) azU
theorem yW{W:World}{S:Nat→Prop}:Vh (fun _=>none) W S:=fun b o h=>by cases h
theorem aIK{f:Nat}{fn:Func}{c:Code}{args:List AV}{h:Aa}{Q:Du→Aa→Prop}(hp:pr f=none)(hf:Try.prog.funcs[f]?=some fn)(hb:fn.body=some c)(hl:Nat.ble args.length fn.ntmps=true)
 (he:FnE Try.prog h.length fn.results.toList Q (Bj Fg Try.prog 5000 c [] ⟨mk fn.ntmps (Ef args),h⟩)):ClQ Fg f args h Q:=ClQ.start (pr:=pr) hp hf hb hl he
theorem ce{f:Nat}{fn:Func}{c:Code}{args:List AV}{h:Aa}{o:Du}{h':Aa}(hf:Try.prog.funcs[f]?=some fn)(he:FnE Try.prog h.length fn.results.toList (fun o1 h1=>(o1,h1)=(o,h')) (Bj Fg Try.prog 5000 c [] ⟨mk fn.ntmps (Ef args),h⟩))(hp:pr f=none:=by exact rfl)(hb:fn.body=some c:=by exact rfl)(hl:Nat.ble args.length fn.ntmps=true:=by exact rfl):Fg.call (.fn f) args h=some (o,h'):=(aIK hp hf hb hl he).eq
theorem Xa{α σ ρ:Type}{c:Code}(N:Nat)(l:List α)(E:Nat→σ→Tm→Aa→Prop)(F:List α→σ→ρ)(Q:ρ→Ex→Tm→Aa→Prop)
 (stop:∀s t h Q',(∀e t h,Q (F [] s) e t h→Q' e ⟨mk N t,h⟩)→E l.length s t h→jQ N (fun _ _=>False) Q' (Bj Fg Try.prog 5000 c [] ⟨mk N t,h⟩))
 (go:∀x rest i s t h J Q',(∀t' h' s',E (i+1) s' t' h'→F rest s'=F (x::rest) s→J t' h')→(∀e t h,Q (F (x::rest) s) e t h→Q' e ⟨mk N t,h⟩)→l[i]?=some x→i<l.length→E i s t h→
   jQ N J Q' (Bj Fg Try.prog 5000 c [] ⟨mk N t,h⟩)):
 ∀s t h,E 0 s t h→rY Fg c ⟨mk N t,h⟩ (Ot N (Q (F l s))):=jV (pr:=pr) rfl N l E F Q stop go
def iv(x:Int):List AV:=[.int .i64 x]
theorem Bc{h:Aa}{b:Nat}{c:CB}(h0:h[b]?=some c)(l:Aa):(h++l)[b]?=some c:=by
 rw[List.getElem?_append_left (List.getElem?_eq_some_iff.1 h0).1];exact h0
end Go.Proofs.Ytfkokgjfpojeoaa
namespace Go.Proofs.Ytfkokgjfpojeoaa
open Go.Ev Go
set_option maxRecDepth 100000
set_option maxHeartbeats 16000000
structure Bd where
 lo:Int
 hi:Int
 byp:Bool
def Bd.cells(s:Bd):List AV:=[.int .i64 s.lo,.int .i64 s.hi,.bool s.byp]
structure Ag where
 nn:Bool
 sens:List Int
 need:Int
 level:Int
 above:Bool
def Ag.cells(v:Ag):List AV:=[Af 1 true v.nn (v.sens.map iv),.int .i64 v.need,.int .i64 v.level,.bool v.above]
structure Ao where
 vote:Int
 is:Bool
def Ao.cells(w:Ao):List AV:=[.int .i64 w.vote,.bool w.is]
structure Am where
 frm:Int
 to:Int
 nn:Bool
 wants:List Ao
 cmd:Int
 after:Int
def Am.cells(x:Am):List AV:=[.int .i64 x.frm,.int .i64 x.to,Af 2 true x.nn (x.wants.map Ao.cells),.int .i64 x.cmd,.int .i64 x.after]
structure Ax where
 nS:Bool
 sens:List Bd
 nV:Bool
 votes:List Ag
 nM:Bool
 moves:List Am
 states:Int
 cmds:Int
 bgn:Int
 nO:Bool
 opn:List Int
abbrev Ax.cells(m:Ax):List AV:=[Af 3 true m.nS (m.sens.map Bd.cells),Af 4 false m.nV (m.votes.map Ag.cells),Af 5 false m.nM (m.moves.map Am.cells),.int .i64 m.states,.int .i64 m.cmds,.int .i64 m.bgn,Af 1 true m.nO (m.opn.map iv)]
structure Ax.small(m:Ax):Prop where
 sens:m.sens.length≤maxLen
 votes:m.votes.length≤maxLen
 moves:m.moves.length≤maxLen
 opn:m.opn.length≤maxLen
 vs:∀v∈m.votes,v.sens.length≤maxLen
 ws:∀x∈m.moves,x.wants.length≤maxLen
def Iw(x lo hi:Int):Bool:=decide (lo≤x)&&decide (x≤hi)
theorem Ua(x lo hi:Int):Fg.call (.fn 43) [.int .i64 x,.int .i64 lo,.int .i64 hi] []=some (.ret (.bool (Iw x lo hi)),[]):=by
 (refine ce Try.func43 ?_;simp only[Try.f43];(have hb:=trivial;with_reducible repeat' (first|simp only[hb,Va.down,seval]|refine Aw ?_ ?_<;>intro hb|refine fd ?_|fail)))
 all_goals simp[Iw, *]
theorem Zt(x lo hi:Int):Fg.call (.fn 48) [.int .i64 x,.int .i64 lo,.int .i64 hi] []=some (.ret (.bool (Iw x lo hi)),[]):=by
 (refine ce Try.func48 ?_;simp only[Try.f48];(have hb:=trivial;with_reducible repeat' (first|simp only[hb,Va.down,seval]|refine Aw ?_ ?_<;>intro hb|refine fd ?_|fail)))
 all_goals simp[Iw, *]
def Jm(x:Int):Bool:=Iw x (-10000) 10000
theorem cE(x:Int):Fg.call (.fn 69) [.int .i64 x] []=some (.ret (.bool (Jm x)),[]):=by
 (refine ce Try.func69 ?_;simp only[Try.f69];(have hb:=trivial;with_reducible repeat' (first|simp only[hb,Va.down,seval,Ua]|refine Aw ?_ ?_<;>intro hb|refine fd ?_|fail)))
 all_goals rfl
theorem uR(x:Int):Fg.call (.fn 82) [.int .i64 x] []=some (.ret (.bool (!Jm x)),[]):=by
 (refine ce Try.func82 ?_;simp only[Try.f82];(have hb:=trivial;with_reducible repeat' (first|simp only[hb,Va.down,seval,cE]|refine Aw ?_ ?_<;>intro hb|refine fd ?_|fail)))
theorem pQ(x:Int):Fg.call (.fn 74) [.int .i64 x] []=some (.ret (.bool (!Iw x 0 255)),[]):=by
 (refine ce Try.func74 ?_;simp only[Try.f74];(have hb:=trivial;with_reducible repeat' (first|simp only[hb,Va.down,seval,Ua]|refine Aw ?_ ?_<;>intro hb|refine fd ?_|fail)))
def Qo(s:Bd)(v:Ag)(r:Int):Bool:= !s.byp&&(!Iw r s.lo s.hi||(if v.above=true then decide (v.level≤r)else decide (r≤v.level)))
theorem zR(s:Bd)(v:Ag)(r:Int):Fg.call (.fn 76) [.agg [.int .i64 s.lo,.int .i64 s.hi,.bool s.byp],.agg [Af 1 true v.nn (v.sens.map iv),.int .i64 v.need,.int .i64 v.level,.bool v.above],.int .i64 r] []=some (.ret (.bool (Qo s v r)),[]):=by
 (refine ce Try.func76 ?_;simp only[Try.f76];(have hb:=trivial;with_reducible repeat' (first|simp only[hb,Va.down,seval,aJT.down,Ua]|refine Aw ?_ ?_<;>intro hb|refine fd ?_|fail)))
 all_goals simp_all[Qo]
def bP{α:Type}(p:α→Bool):List α→Int→Int
 | [],_=> -1
 |x::l,i=>if p x=true then i else bP p l (i+1)
theorem Ti{α:Type}(p:α→Bool):∀(l:List α) (i:Int),0≤i→decide (0≤bP p l i)=l.any p
 | [],i,_=>rfl
 |x::l,i,h=>by
  unfold bP
  split
  ·rename_i hp;simp[h,hp]
  ·rename_i hp;rw[Ti p l (i+1) (by omega)];simp[hp]
theorem pM{l:List Int}{nn:Bool}{g:Nat}{cap:List AV}{p:Int→Bool}(hc:cap.all (Ap 8)=true)(hc7:cap.all (Ap 7)=true)(hp:∀x∈l,Fg.call (.fn g) (.int .i64 x::cap) []=some (.ret (.bool (p x)),[]))(hl:l.length≤maxLen):
 Fg.call (.fn 91) [Af 1 true nn (l.map iv),.func (.func g) [] cap] []=some (.ret (.int .i64 (bP p l 0)),[]):=by
 (refine ce Try.func91 ?_;simp only[Try.f91];(have hb:=trivial;with_reducible repeat' (first|simp only[hb,Va.down,seval,rO.down,af1]|refine Aw ?_ ?_<;>intro hb|refine fd ?_|fail)))
 refine Ff (Xa 19 l (fun i (s:Int) t h=>s=i∧h=[]∧t 0=Af 1 true nn (l.map iv)∧t 1=.func (.func g) [] cap∧t 7=.int .i64 l.length∧t 8=.int .i64 i)
  (fun rest s=>bP p rest s) (fun r e t h=>h=[]∧((e=.exit 0∧r= -1)∨(e=.ret∧t 4=.int .i64 r))) ?_ ?_ 0 _ _ ?_) (fun e t h hk=>?_)
 ·rintro s t h Q' kQ ⟨rfl,rfl,h0,h1,h7,h8⟩
  (have hb:=trivial;with_reducible repeat' (first|simp only[hb,Va.down,seval,rO.down,h0,h1,h7,h8,agD,decide_false]|refine Aw ?_ ?_<;>intro hb|refine fd ?_|fail))
  exact kQ _ _ _ ⟨rfl,.inl ⟨rfl,rfl⟩⟩
 ·rintro x rest i s t h J Q' kJ kQ hx hi ⟨rfl,rfl,h0,h1,h7,h8⟩
  have hpx:=hp x (ag9 hx)
  have hd:decide ((i:Int)<(l.length:Int))=true:=by simpa using hi
  (have hb:=trivial;with_reducible repeat' (first|simp only[hb,Va.down,seval,rO.down,h0,h1,h7,h8,hd,hx,iv,hc,hc7,hpx,Av hi hl]|refine Aw ?_ ?_<;>intro hb|refine fd ?_|fail))
  ·exact kQ _ _ _ ⟨rfl,.inr ⟨rfl,by simp[up,bP,hb]⟩⟩
  ·exact Bt (kJ _ _ (i+1) ⟨by simp,rfl,by simp[up,h0],by simp[up,h1],by simp[up,h7],by simp[up]⟩ (by simp[bP,hb]))
 ·exact⟨rfl,rfl,by simp[up,Ef],by simp[up,Ef],by simp[up],by simp[up]⟩
 ·obtain⟨rfl,⟨rfl,hi⟩|⟨rfl,hi⟩⟩:=hk
  ·(have hb:=trivial;with_reducible repeat' (first|simp only[hb,Va.down,seval,rO.down]|refine Aw ?_ ?_<;>intro hb|refine fd ?_|fail))
   rw[hi]
  ·(have hb:=trivial;with_reducible repeat' (first|simp only[hb,Va.down,seval,rO.down,hi]|refine Aw ?_ ?_<;>intro hb|refine fd ?_|fail))
theorem aD{l:List Int}{nn:Bool}{g:Nat}{cap:List AV}{p:Int→Bool}(hc:cap.all (Ap 8)=true)(hc7:cap.all (Ap 7)=true)(hp:∀x∈l,Fg.call (.fn g) (.int .i64 x::cap) []=some (.ret (.bool (p x)),[]))(hl:l.length≤maxLen):
 Fg.call (.fn 73) [Af 1 true nn (l.map iv),.func (.func g) [] cap] []=some (.ret (.bool (l.any p)),[]):=by
 (refine ce Try.func73 ?_;simp only[Try.f73];(have hb:=trivial;with_reducible repeat' (first|simp only[hb,Va.down,seval,pM hc hc7 hp hl,hc,hc7,Ti p l 0 (aiI 0)]|refine Aw ?_ ?_<;>intro hb|refine fd ?_|fail)))
def Jk(b:Int):List Int→Option Int→Bool
 | [],_=>true
 |n::l,p=>Iw n 0 (IntKind.i64.wrap (b-1))&&(match p with|none=>true|some q=> !decide (n≤q))&&Jk b l (some n)
theorem cG{l:List Int}{nn:Bool}(b:Int)(hl:l.length≤maxLen):Fg.call (.fn 53) [Af 1 true nn (l.map iv),.int .i64 b] []=some (.ret (.bool (Jk b l none)),[]):=by
 (refine ce Try.func53 ?_;simp only[Try.f53];(have hb:=trivial;with_reducible repeat' (first|simp only[hb,Va.down,seval,kO.down,af1]|refine Aw ?_ ?_<;>intro hb|refine fd ?_|fail)))
 refine Ff (Xa 33 l (fun i (s:Option Int) t h=>(i=0∧s=none∨0<i∧s=l[i-1]?)∧t 0=Af 1 true nn (l.map iv)∧t 1=.int .i64 b∧t 7=Af 1 true nn (l.map iv)∧t 8=.int .i64 l.length∧t 9=.int .i64 i)
  (fun rest s=>Jk b rest s) (fun r e t h=>if r=true then e=.exit 0 else e=.ret∧t 4=.bool false) ?_ ?_ none _ _ ?_) (fun e t h hk=>?_)
 ·rintro s t h Q' kQ ⟨hs,h0,h1,h7,h8,h9⟩
  (have hb:=trivial;with_reducible repeat' (first|simp only[hb,Va.down,seval,kO.down,h0,h1,h7,h8,h9,agD,decide_false]|refine Aw ?_ ?_<;>intro hb|refine fd ?_|fail))
  exact kQ _ _ _ (by simp[Jk])
 ·rintro x rest i s t h J Q' kJ kQ hx hi ⟨hs,h0,h1,h7,h8,h9⟩
  have hd:decide ((i:Int)<(l.length:Int))=true:=by simpa using hi
  have kF:∀{p:Option Int},(Iw x 0 (IntKind.i64.wrap (b-1))&&(match p with|none=>true|some q=> !decide (x≤q)))=false→Jk b (x::rest) p=false:=fun h=>by simp[Jk,h]
  have kT:∀{p:Option Int},(Iw x 0 (IntKind.i64.wrap (b-1))&&(match p with|none=>true|some q=> !decide (x≤q)))=true→Jk b rest (some x)=Jk b (x::rest) p:=fun h=>by simp[Jk,h]
  have hw:=Av hi hl
  rcases hs with⟨rfl,rfl⟩|⟨hpos,rfl⟩
  ·simp only[ak5,Int.zero_add]at hd h9 hw
   (have hb:=trivial;with_reducible repeat' (first|simp only[hb,Va.down,seval,kO.down,h0,h1,h7,h8,h9,hd,hx,iv,Ua,hw,Int.toNat_zero,aiI,agD,decide_false]|refine Aw ?_ ?_<;>intro hb|refine fd ?_|fail))
   all_goals first
    |exact kQ _ _ _ (by rw[if_neg (by rw[kF (by simp_all)];simp)];exact⟨rfl,rfl⟩)
    |exact Bt (kJ _ _ (some x) ⟨.inr ⟨by omega,by simp[hx]⟩,by simp[up,h0],by simp[up,h1],by simp[up,h7],by simp[up,h8],by simp[up]<;>omega⟩ (kT (by simp_all)))
  ·obtain⟨j,rfl⟩:∃j,i=j+1:=⟨i-1,by omega⟩
   obtain⟨q,hq⟩:∃q,l[j]?=some q:=⟨l[j],aoM (by omega)⟩
   have hj:IntKind.i64.wrap (((j+1:Nat):Int)-1)=(j:Int):=by unfold maxLen at hl;rw[Ar (by omega) (by omega)];omega
   have hg:decide (0<((j+1:Nat):Int))=true:=by rw[decide_eq_true_eq];omega
   simp only[aoV,hq]at kJ kQ
   (have hb:=trivial;with_reducible repeat' (first|simp only[hb,Va.down,seval,kO.down,h0,h1,h7,h8,h9,hd,hx,iv,Ua,hw,hj,hg,hq]|refine Aw ?_ ?_<;>intro hb|refine fd ?_|fail))
   all_goals first
    |exact kQ _ _ _ (by rw[if_neg (by rw[kF (by simp_all)];simp)];exact⟨rfl,rfl⟩)
    |exact Bt (kJ _ _ (some x) ⟨.inr ⟨by omega,by simp[hx]⟩,by simp[up,h0],by simp[up,h1],by simp[up,h7],by simp[up,h8],by simp[up]<;>omega⟩ (kT (by simp_all)))
 ·exact⟨.inl ⟨rfl,rfl⟩,by simp[up,Ef],by simp[up,Ef],by simp[up,Ef],by simp[up],by simp[up]⟩
 ·split at hk
  ·subst hk
   rename_i hr
   (have hb:=trivial;with_reducible repeat' (first|simp only[hb,Va.down,seval,kO.down]|refine Aw ?_ ?_<;>intro hb|refine fd ?_|fail))
   all_goals simp[hr]
  ·obtain⟨rfl,h2⟩:=hk
   rename_i hr
   (have hb:=trivial;with_reducible repeat' (first|simp only[hb,Va.down,seval,kO.down,h2]|refine Aw ?_ ?_<;>intro hb|refine fd ?_|fail))
   all_goals simp[hr]
def Ny(ns:Int)(v:Ag):Bool:=Jk ns v.sens none&&Iw v.need 1 v.sens.length&&Jm v.level
theorem afB(v:Ag)(ns:Int)(hl:v.sens.length≤maxLen):Fg.call (.fn 47) [.agg [Af 1 true v.nn (v.sens.map iv),.int .i64 v.need,.int .i64 v.level,.bool v.above],.int .i64 ns] []=some (.ret (.bool (Ny ns v)),[]):=by
 (refine ce Try.func47 ?_;simp only[Try.f47];(have hb:=trivial;with_reducible repeat' (first|simp only[hb,Va.down,seval,lO.down,af1]|refine Aw ?_ ?_<;>intro hb|refine fd ?_|fail)))
 refine Ff (Xa 51 v.sens (fun i (s:Option Int) t h=>(i=0∧s=none∨0<i∧s=v.sens[i-1]?)∧h[0]?=some (.live 4 false false [[Af 1 true v.nn (v.sens.map iv),.int .i64 v.need,.int .i64 v.level,.bool v.above]])∧t 1=.int .i64 ns∧t 2=.ptr 0 0 0∧t 5=.int .i64 i)
  (fun rest s=>Jk ns rest s) (fun r e t h=>if r=true then e=.exit 0∧h[0]?=some (.live 4 false false [[Af 1 true v.nn (v.sens.map iv),.int .i64 v.need,.int .i64 v.level,.bool v.above]])∧t 2=.ptr 0 0 0 else e=.ret∧t 4=.bool false) ?_ ?_ none _ _ ?_) (fun e t h hk=>?_)
 ·rintro s t h Q' kQ ⟨hs,hh,h1,h2,h5⟩
  (have hb:=trivial;with_reducible repeat' (first|simp only[hb,Va.down,seval,lO.down,hh,h1,h2,h5,af1,agD,decide_false]|refine Aw ?_ ?_<;>intro hb|refine fd ?_|fail))
  exact kQ _ _ _ (by simp[Jk,up,h2,hh])
 ·rintro x rest i s t h J Q' kJ kQ hx hi ⟨hs,hh,h1,h2,h5⟩
  have hd:decide ((i:Int)<(v.sens.length:Int))=true:=by simpa using hi
  have hA:=Bc hh
  have kF:∀{p:Option Int},(Iw x 0 (IntKind.i64.wrap (ns-1))&&(match p with|none=>true|some q=> !decide (x≤q)))=false→Jk ns (x::rest) p=false:=fun h=>by simp[Jk,h]
  have kT:∀{p:Option Int},(Iw x 0 (IntKind.i64.wrap (ns-1))&&(match p with|none=>true|some q=> !decide (x≤q)))=true→Jk ns rest (some x)=Jk ns (x::rest) p:=fun h=>by simp[Jk,h]
  have hw:=Av hi hl
  rcases hs with⟨rfl,rfl⟩|⟨hpos,rfl⟩
  ·simp only[ak5,Int.zero_add]at hd h5 hw
   (have hb:=trivial;with_reducible repeat' (first|simp only[hb,Va.down,seval,lO.down,hA,hh,h1,h2,h5,hd,hx,af1,iv,Zt,hw,Int.toNat_zero,aiI,agD,decide_false]|refine Aw ?_ ?_<;>intro hb|refine fd ?_|fail))
   all_goals first
    |exact kQ _ _ _ (by rw[if_neg (by rw[kF (by simp_all)];simp)];exact⟨rfl,rfl⟩)
    |exact Bt (kJ _ _ (some x) ⟨.inr ⟨by omega,by simp[hx]⟩,by simp[hh],by simp[up,h1],by simp[up,h2],by simp[up]<;>omega⟩ (kT (by simp_all)))
  ·obtain⟨j,rfl⟩:∃j,i=j+1:=⟨i-1,by omega⟩
   obtain⟨q,hq⟩:∃q,v.sens[j]?=some q:=⟨v.sens[j],aoM (by omega)⟩
   have hj:IntKind.i64.wrap (((j+1:Nat):Int)-1)=(j:Int):=by unfold maxLen at hl;rw[Ar (by omega) (by omega)];omega
   have hg:decide (0<((j+1:Nat):Int))=true:=by rw[decide_eq_true_eq];omega
   simp only[aoV,hq]at kJ kQ
   (have hb:=trivial;with_reducible repeat' (first|simp only[hb,Va.down,seval,lO.down,hA,hh,h1,h2,h5,hd,hx,af1,iv,Zt,hw,hj,hg,hq]|refine Aw ?_ ?_<;>intro hb|refine fd ?_|fail))
   all_goals first
    |exact kQ _ _ _ (by rw[if_neg (by rw[kF (by simp_all)];simp)];exact⟨rfl,rfl⟩)
    |exact Bt (kJ _ _ (some x) ⟨.inr ⟨by omega,by simp[hx]⟩,by simp[hh],by simp[up,h1],by simp[up,h2],by simp[up]<;>omega⟩ (kT (by simp_all)))
 ·exact⟨.inl ⟨rfl,rfl⟩,rfl,by simp[up,Ef],by simp[up],by simp[up]⟩
 ·split at hk
  ·obtain⟨rfl,hh,h2⟩:=hk
   have hA:=Bc hh
   rename_i hr
   (have hb:=trivial;with_reducible repeat' (first|simp only[hb,Va.down,seval,lO.down,hA,hh,h2,af1,Zt]|refine Aw ?_ ?_<;>intro hb|refine fd ?_|fail))
   all_goals simp_all[Ny,Jm]
  ·obtain⟨rfl,h2⟩:=hk
   rename_i hr
   (have hb:=trivial;with_reducible repeat' (first|simp only[hb,Va.down,seval,lO.down,h2]|refine Aw ?_ ?_<;>intro hb|refine fd ?_|fail))
   all_goals simp[Ny,hr]
theorem uZ(o w:Ao):Fg.call (.fn 90) [.agg [.int .i64 o.vote,.bool o.is],.ptr 0 0 0] [.live 2 true false [[.int .i64 w.vote,.bool w.is]]]=some (.ret (.bool (o.vote==w.vote)),[.live 2 true false [[.int .i64 w.vote,.bool w.is]]]):=by
 (refine ce Try.func90 ?_;simp only[Try.f90];(have hb:=trivial;with_reducible repeat' (first|simp only[hb,Vc.down,seval,aHZ.down]|refine Aw ?_ ?_<;>intro hb|refine fd ?_|fail)))
theorem lJ{l:List Ao}{nn:Bool}{g:Nat}{ww:Ao}{p:Ao→Bool}(hp:∀x∈l,Fg.call (.fn g) (.agg [.int .i64 x.vote,.bool x.is]::[.ptr 0 0 0]) [.live 2 true false [[.int .i64 ww.vote,.bool ww.is]]]=some (.ret (.bool (p x)),[.live 2 true false [[.int .i64 ww.vote,.bool ww.is]]]))(hl:l.length≤maxLen):
 Fg.call (.fn 98) [Af 2 true nn (l.map Ao.cells),.func (.func g) [] [.ptr 0 0 0]] [.live 2 true false [[.int .i64 ww.vote,.bool ww.is]]]=some (.ret (.int .i64 (bP p l 0)),[.live 2 true false [[.int .i64 ww.vote,.bool ww.is]]]):=by
 (refine ce Try.func98 ?_;simp only[Try.f98];(have hb:=trivial;with_reducible repeat' (first|simp only[hb,Vc.down,seval,Zp.down,af1]|refine Aw ?_ ?_<;>intro hb|refine fd ?_|fail)))
 refine Ff (Xa 19 l (fun i (s:Int) t h=>s=i∧h=[.live 2 true false [[.int .i64 ww.vote,.bool ww.is]]]∧t 0=Af 2 true nn (l.map Ao.cells)∧t 1=.func (.func g) [] [.ptr 0 0 0]∧t 7=.int .i64 l.length∧t 8=.int .i64 i)
  (fun rest s=>bP p rest s) (fun r e t h=>h=[.live 2 true false [[.int .i64 ww.vote,.bool ww.is]]]∧((e=.exit 0∧r= -1)∨(e=.ret∧t 4=.int .i64 r))) ?_ ?_ 0 _ _ ?_) (fun e t h hk=>?_)
 ·rintro s t h Q' kQ ⟨rfl,rfl,h0,h1,h7,h8⟩
  (have hb:=trivial;with_reducible repeat' (first|simp only[hb,Vc.down,seval,Zp.down,h0,h1,h7,h8,agD,decide_false]|refine Aw ?_ ?_<;>intro hb|refine fd ?_|fail))
  exact kQ _ _ _ ⟨rfl,.inl ⟨rfl,rfl⟩⟩
 ·rintro x rest i s t h J Q' kJ kQ hx hi ⟨rfl,rfl,h0,h1,h7,h8⟩
  have hpx:=hp x (ag9 hx)
  have hd:decide ((i:Int)<(l.length:Int))=true:=by simpa using hi
  (have hb:=trivial;with_reducible repeat' (first|simp only[hb,Vc.down,seval,Zp.down,h0,h1,h7,h8,hd,hx,Ao.cells,hpx,Av hi hl]|refine Aw ?_ ?_<;>intro hb|refine fd ?_|fail))
  ·exact kQ _ _ _ ⟨rfl,.inr ⟨rfl,by simp[up,bP,hb]⟩⟩
  ·exact Bt (kJ _ _ (i+1) ⟨by simp,rfl,by simp[up,h0],by simp[up,h1],by simp[up,h7],by simp[up]⟩ (by simp[bP,hb]))
 ·exact⟨rfl,rfl,by simp[up,Ef],by simp[up,Ef],by simp[up],by simp[up]⟩
 ·obtain⟨rfl,⟨rfl,hi⟩|⟨rfl,hi⟩⟩:=hk
  ·(have hb:=trivial;with_reducible repeat' (first|simp only[hb,Vc.down,seval,Zp.down]|refine Aw ?_ ?_<;>intro hb|refine fd ?_|fail))
   rw[hi]
  ·(have hb:=trivial;with_reducible repeat' (first|simp only[hb,Vc.down,seval,Zp.down,hi]|refine Aw ?_ ?_<;>intro hb|refine fd ?_|fail))
theorem fW{l:List Ao}{nn:Bool}{g:Nat}{ww:Ao}{p:Ao→Bool}(hp:∀x∈l,Fg.call (.fn g) (.agg [.int .i64 x.vote,.bool x.is]::[.ptr 0 0 0]) [.live 2 true false [[.int .i64 ww.vote,.bool ww.is]]]=some (.ret (.bool (p x)),[.live 2 true false [[.int .i64 ww.vote,.bool ww.is]]]))(hl:l.length≤maxLen):
 Fg.call (.fn 89) [Af 2 true nn (l.map Ao.cells),.func (.func g) [] [.ptr 0 0 0]] [.live 2 true false [[.int .i64 ww.vote,.bool ww.is]]]=some (.ret (.bool (l.any p)),[.live 2 true false [[.int .i64 ww.vote,.bool ww.is]]]):=by
 (refine ce Try.func89 ?_;simp only[Try.f89];(have hb:=trivial;with_reducible repeat' (first|simp only[hb,Vc.down,seval,lJ hp hl,Ti p l 0 (aiI 0)]|refine Aw ?_ ?_<;>intro hb|refine fd ?_|fail)))
def Ko(nv:Int):List Ao→List Ao→Bool
 |_,[]=>true
 |pre,w::l=>Iw w.vote 0 (IntKind.i64.wrap (nv-1))&& !(pre.any fun o=>o.vote==w.vote)&&Ko nv (pre++[w]) l
def Nx(m:Ax)(x:Am):Bool:=Ko m.votes.length [] x.wants&&Iw x.frm 0 (IntKind.i64.wrap (m.states-1))&&Iw x.to 0 (IntKind.i64.wrap (m.states-1))&&decide (x.wants.length≤6)&&Iw x.cmd (-1) (IntKind.i64.wrap (m.cmds-1))&&Iw x.after 0 10
theorem yN(m:Ax)(y:Am)(hl:y.wants.length≤maxLen):Fg.call (.fn 72) [.agg [Af 3 true m.nS (m.sens.map Bd.cells),Af 4 false m.nV (m.votes.map Ag.cells),Af 5 false m.nM (m.moves.map Am.cells),.int .i64 m.states,.int .i64 m.cmds,.int .i64 m.bgn,Af 1 true m.nO (m.opn.map iv)],.agg [.int .i64 y.frm,.int .i64 y.to,Af 2 true y.nn (y.wants.map Ao.cells),.int .i64 y.cmd,.int .i64 y.after]] []=some (.ret (.bool (Nx m y)),[]):=by
 have l6:decide ((y.wants.length:Int)≤6)=decide (y.wants.length≤6):=by rw[decide_eq_decide];omega
 (refine ce Try.func72 ?_;simp only[Try.f72];(have hb:=trivial;with_reducible repeat' (first|simp only[hb,Vc.down,seval,fZ.down,af1]|refine Aw ?_ ?_<;>intro hb|refine fd ?_|fail)))
 refine Ff (Xa 65 y.wants (fun i (zz:List Ao) t h=>t 2=.ptr 0 0 0∧t 3=.ptr 1 0 0∧t 8=Af 2 true y.nn (y.wants.map Ao.cells)∧t 9=.int .i64 y.wants.length∧t 10=.int .i64 i∧(h[0]?=some (.live 7 false false [[Af 3 true m.nS (m.sens.map Bd.cells),Af 4 false m.nV (m.votes.map Ag.cells),Af 5 false m.nM (m.moves.map Am.cells),.int .i64 m.states,.int .i64 m.cmds,.int .i64 m.bgn,Af 1 true m.nO (m.opn.map iv)]])∧h[1]?=some (.live 5 false false [[.int .i64 y.frm,.int .i64 y.to,Af 2 true y.nn (y.wants.map Ao.cells),.int .i64 y.cmd,.int .i64 y.after]])∧zz=y.wants.take i)) (fun rest zz=>Ko m.votes.length zz rest) (fun r e t h=>(if r=true then e=.exit 0∧t 2=.ptr 0 0 0∧t 3=.ptr 1 0 0∧h[0]?=some (.live 7 false false [[Af 3 true m.nS (m.sens.map Bd.cells),Af 4 false m.nV (m.votes.map Ag.cells),Af 5 false m.nM (m.moves.map Am.cells),.int .i64 m.states,.int .i64 m.cmds,.int .i64 m.bgn,Af 1 true m.nO (m.opn.map iv)]])∧h[1]?=some (.live 5 false false [[.int .i64 y.frm,.int .i64 y.to,Af 2 true y.nn (y.wants.map Ao.cells),.int .i64 y.cmd,.int .i64 y.after]])else e=.ret∧t 4=.bool false)) ?_ ?_ ([]) _ _ ?_) (fun e t h hk=>?_)
 ·rintro p t h Q' kQ ⟨h2,h3,h8,h9,h10,⟨hA,hB,hp⟩⟩
  (have hb:=trivial;with_reducible repeat' (first|simp only[hb,Vc.down,seval,fZ.down,h2,h3,h8,h9,h10,agD,decide_false]|refine Aw ?_ ?_<;>intro hb|refine fd ?_|fail))
  exact kQ _ _ _ (by rw[if_pos (by rfl)];exact⟨rfl,by simp[up,h2],by simp[up,h3],hA,hB⟩)
 ·rintro x rest i p t h J Q' kJ kQ hx hi ⟨h2,h3,h8,h9,h10,⟨hA,hB,hp⟩⟩
  have hd:decide ((i:Int)<(y.wants.length:Int))=true:=decide_eq_true (by omega)
  have hw:=Av hi hl
  have hA1:=Bc hA
  have hB1:=Bc hB
  have hcW:=fW (l:=y.wants.take i) (nn:=true) (ww:=x) (g:=90) (p:=fun o=>o.vote==x.vote) (fun o _=>uZ o x) (by simp;omega)
  have hsl:=zY (P:=Try.prog) (ty:=57) (n:=2) ⟨_,Try.underlying57,by kernel_rfl⟩ true y.nn (rows:=y.wants.map Ao.cells) (i:=i) (by simpa using hi)
  rw[dZ,List.map_take]at hcW
  subst hp
  cases c1:Iw x.vote 0 (IntKind.i64.wrap ((m.votes.length:Int)-1))with
  |false=>
   (have hb:=trivial;with_reducible repeat' (first|simp only[hb,Vc.down,seval,fZ.down,h2,h3,h8,h9,h10,hd,hx,hw,hA1,hB1,Ua,Ao.cells,af1,hcW,hsl,c1]|refine Aw ?_ ?_<;>intro hb|refine fd ?_|fail))
   exact kQ _ _ _ (by rw[if_neg (by simp[Ko,c1])];exact⟨rfl,by simp[up]⟩)
  |true=>
   cases c2:(y.wants.take i).any (fun o=>o.vote==x.vote)with
   |true=>
    rw[c2]at hcW
    (have hb:=trivial;with_reducible repeat' (first|simp only[hb,Vc.down,seval,fZ.down,h2,h3,h8,h9,h10,hd,hx,hw,hA1,hB1,Ua,Ao.cells,af1,hcW,hsl,c1]|refine Aw ?_ ?_<;>intro hb|refine fd ?_|fail))
    exact kQ _ _ _ (by rw[if_neg (by simp only[Ko,c1,c2,ahJ,akD,aiO];simp)];exact⟨rfl,by simp[up]⟩)
   |false=>
    rw[c2]at hcW
    (have hb:=trivial;with_reducible repeat' (first|simp only[hb,Vc.down,seval,fZ.down,h2,h3,h8,h9,h10,hd,hx,hw,hA1,hB1,Ua,Ao.cells,af1,hcW,hsl,c1]|refine Aw ?_ ?_<;>intro hb|refine fd ?_|fail))
    (refine Bt (kJ _ _ (y.wants.take i++[x]) ⟨?_,?_,?_,?_,?_,⟨hA1 _,hB1 _,by rw[apF,hx];rfl⟩⟩ ?_);(simp[up,h2]);(simp[up,h3]);(simp[up,h8]);(simp[up,h9]);(simp[up]);(simp only[Ko,c1,c2,ahP,aiV,ah6]))
 ·exact⟨by simp[up,Ef],by simp[up,Ef],by simp[up,Ef],by simp[up,Ef],by simp[up],⟨rfl,rfl,rfl⟩⟩
 ·split at hk
  ·obtain⟨rfl,h2,h3,hA,hB⟩:=hk
   rename_i hr
   have hA1:=Bc hA
   have hB1:=Bc hB
   (have hb:=trivial;with_reducible repeat' (first|simp only[hb,Vc.down,seval,fZ.down,h2,h3,hA,hB,hA1,hB1,Ua,af1,l6]|refine Aw ?_ ?_<;>intro hb|refine fd ?_|fail))
   all_goals (refine congrArg (fun b=>(Du.ret (AV.bool b),([]:Aa))) ?_;symm;((try simp only[atL,ahJ,ahP]at *);simp only[Nx, *,akD,aiO,aiV,ah6,Bool.and_self,Bool.not_not,ahJ,ahP,List.all_cons,List.all_nil]))
  ·obtain⟨rfl,h4⟩:=hk
   rename_i hr
   (have hb:=trivial;with_reducible repeat' (first|simp only[hb,Vc.down,seval,fZ.down,h4]|refine Aw ?_ ?_<;>intro hb|refine fd ?_|fail))
   all_goals simp_all[Nx]
def mA(w:Ao):List Ao→Bool
 | []=>true
 |o::l=> !(o.vote==w.vote)&&mA w l
theorem cD(w:Ao):∀l,mA w l= !(l.any fun o=>o.vote==w.vote)
 | []=>rfl
 |o::l=>by simp[mA,cD w l]
theorem xO(m:Ax)(y:Am)(hl:y.wants.length≤maxLen):Fg.call (.fn 49) [.agg [Af 3 true m.nS (m.sens.map Bd.cells),Af 4 false m.nV (m.votes.map Ag.cells),Af 5 false m.nM (m.moves.map Am.cells),.int .i64 m.states,.int .i64 m.cmds,.int .i64 m.bgn,Af 1 true m.nO (m.opn.map iv)],.agg [.int .i64 y.frm,.int .i64 y.to,Af 2 true y.nn (y.wants.map Ao.cells),.int .i64 y.cmd,.int .i64 y.after]] []=some (.ret (.bool (Nx m y)),[]):=by
 have l6:decide ((y.wants.length:Int)≤6)=decide (y.wants.length≤6):=by rw[decide_eq_decide];omega
 (refine ce Try.func49 ?_;simp only[Try.f49];(have hb:=trivial;with_reducible repeat' (first|simp only[hb,Vc.down,seval,Ze.down,af1]|refine Aw ?_ ?_<;>intro hb|refine fd ?_|fail)))
 refine Ff (Xa 77 y.wants (fun i (zz:List Ao) t h=>t 2=.ptr 0 0 0∧t 3=.ptr 1 0 0∧t 5=.int .i64 i∧(h=[.live 7 false false [[Af 3 true m.nS (m.sens.map Bd.cells),Af 4 false m.nV (m.votes.map Ag.cells),Af 5 false m.nM (m.moves.map Am.cells),.int .i64 m.states,.int .i64 m.cmds,.int .i64 m.bgn,Af 1 true m.nO (m.opn.map iv)]],.live 5 false false [[.int .i64 y.frm,.int .i64 y.to,Af 2 true y.nn (y.wants.map Ao.cells),.int .i64 y.cmd,.int .i64 y.after]]]∧zz=y.wants.take i)) (fun rest zz=>Ko m.votes.length zz rest) (fun r e t h=>(if r=true then e=.exit 0∧t 2=.ptr 0 0 0∧t 3=.ptr 1 0 0∧h=[.live 7 false false [[Af 3 true m.nS (m.sens.map Bd.cells),Af 4 false m.nV (m.votes.map Ag.cells),Af 5 false m.nM (m.moves.map Am.cells),.int .i64 m.states,.int .i64 m.cmds,.int .i64 m.bgn,Af 1 true m.nO (m.opn.map iv)]],.live 5 false false [[.int .i64 y.frm,.int .i64 y.to,Af 2 true y.nn (y.wants.map Ao.cells),.int .i64 y.cmd,.int .i64 y.after]]]else e=.ret∧t 4=.bool false)) ?_ ?_ ([]) _ _ ?_) (fun e t h hk=>?_)
 ·rintro p t h Q' kQ ⟨h2,h3,h5,⟨rfl,hp⟩⟩
  (have hb:=trivial;with_reducible repeat' (first|simp only[hb,Vc.down,seval,Ze.down,h2,h3,h5,agD,decide_false,af1]|refine Aw ?_ ?_<;>intro hb|refine fd ?_|fail))
  exact kQ _ _ _ (by rw[if_pos (by rfl)];exact⟨rfl,by simp[up,h2],by simp[up,h3],rfl⟩)
 ·rintro x rest i p t h J Q' kJ kQ hx hi ⟨h2,h3,h5,⟨rfl,hp⟩⟩
  have hd:decide ((i:Int)<(y.wants.length:Int))=true:=decide_eq_true (by omega)
  have hw:=Av hi hl
  subst hp
  cases c1:Iw x.vote 0 (IntKind.i64.wrap ((m.votes.length:Int)-1))with
  |false=>
   (have hb:=trivial;with_reducible repeat' (first|simp only[hb,Vc.down,seval,Ze.down,h2,h3,h5,hd,hx,hw,Zt,c1,Ao.cells,af1]|refine Aw ?_ ?_<;>intro hb|refine fd ?_|fail))
   exact kQ _ _ _ (by rw[if_neg (by simp[Ko,c1])];exact⟨rfl,by simp[up]⟩)
  |true=>
   obtain⟨w,rfl⟩:∃w,w=x:=⟨_,rfl⟩
   obtain⟨k,rfl⟩:∃k,k=i:=⟨_,rfl⟩
   have hlen:(y.wants.take k).length=k:=by simp;omega
   have hxk:=hx
   (have hb:=trivial;with_reducible repeat' (first|simp only[hb,Vc.down,seval,Ze.down,h2,h3,h5,hd,hx,hw,Zt,c1,Ao.cells,af1]|refine Aw ?_ ?_<;>intro hb|refine fd ?_|fail))
   refine Ff (Xa 77 (y.wants.take k) (fun i (zz:Unit) t h=>t 2=.ptr 0 0 0∧t 3=.ptr 1 0 0∧t 5=.int .i64 (k:Int)∧t 6=.int .i64 i∧h=[.live 7 false false [[Af 3 true m.nS (m.sens.map Bd.cells),Af 4 false m.nV (m.votes.map Ag.cells),Af 5 false m.nM (m.moves.map Am.cells),.int .i64 m.states,.int .i64 m.cmds,.int .i64 m.bgn,Af 1 true m.nO (m.opn.map iv)]],.live 5 false false [[.int .i64 y.frm,.int .i64 y.to,Af 2 true y.nn (y.wants.map Ao.cells),.int .i64 y.cmd,.int .i64 y.after]]]) (fun rest zz=>mA w rest) (fun r e t h=>(if r=true then e=.exit 2∧t 2=.ptr 0 0 0∧t 3=.ptr 1 0 0∧t 5=.int .i64 (k:Int)∧h=[.live 7 false false [[Af 3 true m.nS (m.sens.map Bd.cells),Af 4 false m.nV (m.votes.map Ag.cells),Af 5 false m.nM (m.moves.map Am.cells),.int .i64 m.states,.int .i64 m.cmds,.int .i64 m.bgn,Af 1 true m.nO (m.opn.map iv)]],.live 5 false false [[.int .i64 y.frm,.int .i64 y.to,Af 2 true y.nn (y.wants.map Ao.cells),.int .i64 y.cmd,.int .i64 y.after]]]else e=.ret∧t 4=.bool false)) ?_ ?_ () _ _ ?_) (fun e tC hC hk=>?_)
   ·rintro _ t h Q' kQ ⟨h2,h3,h5,h6,rfl⟩
    (have hb:=trivial;with_reducible repeat' (first|simp only[hb,Vc.down,seval,Ze.down,h2,h3,h5,h6,agD,decide_false,hlen]|refine Aw ?_ ?_<;>intro hb|refine fd ?_|fail))
    exact kQ _ _ _ (by rw[if_pos (by rfl)];exact⟨rfl,by simp[up,h2],by simp[up,h3],by simp[up,h5],rfl⟩)
   ·rintro x rest i _ t h J Q' kJ kQ hx hi ⟨h2,h3,h5,h6,rfl⟩
    have hd:decide ((i:Int)<((y.wants.take k).length:Int))=true:=decide_eq_true (by omega)
    have hw:=Av hi (by simp;omega)
    rw[hlen]at hd
    have hxi:y.wants[i]?=some x:=by rw[List.getElem?_take]at hx;split at hx;exact hx;cases hx
    cases c3:(x.vote==w.vote)with
    |true=>
     (have hb:=trivial;with_reducible repeat' (first|simp only[hb,Vc.down,seval,Ze.down,h2,h3,h5,h6,hd,hxi,hxk,hw,c3,Ao.cells]|refine Aw ?_ ?_<;>intro hb|refine fd ?_|fail))
     exact kQ _ _ _ (by rw[if_neg (by simp[mA,c3])];exact⟨rfl,by simp[up]⟩)
    |false=>
     (have hb:=trivial;with_reducible repeat' (first|simp only[hb,Vc.down,seval,Ze.down,h2,h3,h5,h6,hd,hxi,hxk,hw,c3,Ao.cells]|refine Aw ?_ ?_<;>intro hb|refine fd ?_|fail))
     (refine Bt (kJ _ _ () ⟨?_,?_,?_,?_,rfl⟩ ?_);(simp[up,h2]);(simp[up,h3]);(simp[up,h5]);(simp[up]);(simp[mA,c3]))
   ·exact⟨by simp[up,Ef,h2,h3,h5],by simp[up,Ef,h2,h3,h5],by simp[up,Ef,h2,h3,h5],by simp[up],rfl⟩
   ·split at hk
    ·rename_i hdup
     obtain⟨rfl,h2,h3,h5,rfl⟩:=hk
     (have hb:=trivial;with_reducible repeat' (first|simp only[hb,Vc.down,seval,Ze.down,h2,h3,h5,hw]|refine Aw ?_ ?_<;>intro hb|refine fd ?_|fail))
     rw[cD]at hdup
     (refine Bt (kJ _ _ (y.wants.take k++[w]) ⟨?_,?_,?_,⟨rfl,by rw[apF,hxk];rfl⟩⟩ ?_);(simp[up,h2]);(simp[up,h3]);(simp[up]);(simp only[Ko,c1,hdup,ah6]))
    ·rename_i hdup
     obtain⟨rfl,h4⟩:=hk
     (have hb:=trivial;with_reducible repeat' (first|simp only[hb,Vc.down,seval,Ze.down,h4]|refine Aw ?_ ?_<;>intro hb|refine fd ?_|fail))
     rw[cD]at hdup
     exact kQ _ _ _ (by rw[if_neg (by simp only[Ko,c1,ah6,agI.2 hdup,aiO];simp)];exact⟨rfl,by simp[up,h4]⟩)
 ·exact⟨by simp[up,Ef],by simp[up,Ef],by simp[up],⟨rfl,rfl⟩⟩
 ·split at hk
  ·obtain⟨rfl,h2,h3,rfl⟩:=hk
   rename_i hr
   (have hb:=trivial;with_reducible repeat' (first|simp only[hb,Vc.down,seval,Ze.down,h2,h3,Zt,af1,l6]|refine Aw ?_ ?_<;>intro hb|refine fd ?_|fail))
   all_goals (refine congrArg (fun b=>(Du.ret (AV.bool b),([]:Aa))) ?_;symm;((try simp only[atL,ahJ,ahP]at *);simp only[Nx, *,akD,aiO,aiV,ah6,Bool.and_self,Bool.not_not,ahJ,ahP,List.all_cons,List.all_nil]))
  ·obtain⟨rfl,h4⟩:=hk
   rename_i hr
   (have hb:=trivial;with_reducible repeat' (first|simp only[hb,Vc.down,seval,Ze.down,h4]|refine Aw ?_ ?_<;>intro hb|refine fd ?_|fail))
   all_goals simp_all[Nx]
def fK(s:Bd):Bool:=Jm s.lo&&Jm s.hi&& !decide (s.hi<s.lo)
def Lh(m:Ax):Bool:=decide (m.sens.length≤6)&&decide (m.votes.length≤6)&&decide (m.moves.length≤20)&&Iw m.states 1 8&&Iw m.cmds 0 4&&Iw m.bgn 0 (IntKind.i64.wrap (m.states-1))&&((m.opn.length:Int)==m.states)
def Dk(m:Ax):Bool:=Lh m&&m.sens.all fK&&m.votes.all (Ny m.sens.length)&&m.moves.all (Nx m)&&m.opn.all (fun n=>Iw n 0 255)
theorem rC(m:Ax)(x:Am)(hl:x.wants.length≤maxLen):Fg.call (.fn 71) [.agg [.int .i64 x.frm,.int .i64 x.to,Af 2 true x.nn (x.wants.map Ao.cells),.int .i64 x.cmd,.int .i64 x.after],.ptr 0 0 0] [.live 7 false false [[Af 3 true m.nS (m.sens.map Bd.cells),Af 4 false m.nV (m.votes.map Ag.cells),Af 5 false m.nM (m.moves.map Am.cells),.int .i64 m.states,.int .i64 m.cmds,.int .i64 m.bgn,Af 1 true m.nO (m.opn.map iv)]]]=some (.ret (.bool (!Nx m x)),[.live 7 false false [[Af 3 true m.nS (m.sens.map Bd.cells),Af 4 false m.nV (m.votes.map Ag.cells),Af 5 false m.nM (m.moves.map Am.cells),.int .i64 m.states,.int .i64 m.cmds,.int .i64 m.bgn,Af 1 true m.nO (m.opn.map iv)]]]):=by
 have hm:=yN m x hl
 (refine ce Try.func71 ?_;simp only[Try.f71];(have hb:=trivial;with_reducible repeat' (first|simp only[hb,Vc.down,seval,aG3.down,hm]|refine Aw ?_ ?_<;>intro hb|refine fd ?_|fail)))
theorem lI{l:List Am}{nn:Bool}{g:Nat}{mm:Ax}{p:Am→Bool}(hp:∀x∈l,Fg.call (.fn g) (.agg [.int .i64 x.frm,.int .i64 x.to,Af 2 true x.nn (x.wants.map Ao.cells),.int .i64 x.cmd,.int .i64 x.after]::[.ptr 0 0 0]) [.live 7 false false [[Af 3 true mm.nS (mm.sens.map Bd.cells),Af 4 false mm.nV (mm.votes.map Ag.cells),Af 5 false mm.nM (mm.moves.map Am.cells),.int .i64 mm.states,.int .i64 mm.cmds,.int .i64 mm.bgn,Af 1 true mm.nO (mm.opn.map iv)]]]=some (.ret (.bool (p x)),[.live 7 false false [[Af 3 true mm.nS (mm.sens.map Bd.cells),Af 4 false mm.nV (mm.votes.map Ag.cells),Af 5 false mm.nM (mm.moves.map Am.cells),.int .i64 mm.states,.int .i64 mm.cmds,.int .i64 mm.bgn,Af 1 true mm.nO (mm.opn.map iv)]]]))(hl:l.length≤maxLen):
 Fg.call (.fn 88) [Af 5 false nn (l.map Am.cells),.func (.func g) [] [.ptr 0 0 0]] [.live 7 false false [[Af 3 true mm.nS (mm.sens.map Bd.cells),Af 4 false mm.nV (mm.votes.map Ag.cells),Af 5 false mm.nM (mm.moves.map Am.cells),.int .i64 mm.states,.int .i64 mm.cmds,.int .i64 mm.bgn,Af 1 true mm.nO (mm.opn.map iv)]]]=some (.ret (.int .i64 (bP p l 0)),[.live 7 false false [[Af 3 true mm.nS (mm.sens.map Bd.cells),Af 4 false mm.nV (mm.votes.map Ag.cells),Af 5 false mm.nM (mm.moves.map Am.cells),.int .i64 mm.states,.int .i64 mm.cmds,.int .i64 mm.bgn,Af 1 true mm.nO (mm.opn.map iv)]]]):=by
 (refine ce Try.func88 ?_;simp only[Try.f88];(have hb:=trivial;with_reducible repeat' (first|simp only[hb,Vc.down,seval,qC.down,af1]|refine Aw ?_ ?_<;>intro hb|refine fd ?_|fail)))
 refine Ff (Xa 19 l (fun i (s:Int) t h=>s=i∧h=[.live 7 false false [[Af 3 true mm.nS (mm.sens.map Bd.cells),Af 4 false mm.nV (mm.votes.map Ag.cells),Af 5 false mm.nM (mm.moves.map Am.cells),.int .i64 mm.states,.int .i64 mm.cmds,.int .i64 mm.bgn,Af 1 true mm.nO (mm.opn.map iv)]]]∧t 0=Af 5 false nn (l.map Am.cells)∧t 1=.func (.func g) [] [.ptr 0 0 0]∧t 7=.int .i64 l.length∧t 8=.int .i64 i)
  (fun rest s=>bP p rest s) (fun r e t h=>h=[.live 7 false false [[Af 3 true mm.nS (mm.sens.map Bd.cells),Af 4 false mm.nV (mm.votes.map Ag.cells),Af 5 false mm.nM (mm.moves.map Am.cells),.int .i64 mm.states,.int .i64 mm.cmds,.int .i64 mm.bgn,Af 1 true mm.nO (mm.opn.map iv)]]]∧((e=.exit 0∧r= -1)∨(e=.ret∧t 4=.int .i64 r))) ?_ ?_ 0 _ _ ?_) (fun e t h hk=>?_)
 ·rintro s t h Q' kQ ⟨rfl,rfl,h0,h1,h7,h8⟩
  (have hb:=trivial;with_reducible repeat' (first|simp only[hb,Vc.down,seval,qC.down,h0,h1,h7,h8,agD,decide_false]|refine Aw ?_ ?_<;>intro hb|refine fd ?_|fail))
  exact kQ _ _ _ ⟨rfl,.inl ⟨rfl,rfl⟩⟩
 ·rintro x rest i s t h J Q' kJ kQ hx hi ⟨rfl,rfl,h0,h1,h7,h8⟩
  have hpx:=hp x (ag9 hx)
  have hd:decide ((i:Int)<(l.length:Int))=true:=by simpa using hi
  (have hb:=trivial;with_reducible repeat' (first|simp only[hb,Vc.down,seval,qC.down,h0,h1,h7,h8,hd,hx,Am.cells,hpx,Av hi hl]|refine Aw ?_ ?_<;>intro hb|refine fd ?_|fail))
  ·exact kQ _ _ _ ⟨rfl,.inr ⟨rfl,by simp[up,bP,hb]⟩⟩
  ·exact Bt (kJ _ _ (i+1) ⟨by simp,rfl,by simp[up,h0],by simp[up,h1],by simp[up,h7],by simp[up]⟩ (by simp[bP,hb]))
 ·exact⟨rfl,rfl,by simp[up,Ef],by simp[up,Ef],by simp[up],by simp[up]⟩
 ·obtain⟨rfl,⟨rfl,hi⟩|⟨rfl,hi⟩⟩:=hk
  ·(have hb:=trivial;with_reducible repeat' (first|simp only[hb,Vc.down,seval,qC.down]|refine Aw ?_ ?_<;>intro hb|refine fd ?_|fail))
   rw[hi]
  ·(have hb:=trivial;with_reducible repeat' (first|simp only[hb,Vc.down,seval,qC.down,hi]|refine Aw ?_ ?_<;>intro hb|refine fd ?_|fail))
theorem fY{l:List Am}{nn:Bool}{g:Nat}{mm:Ax}{p:Am→Bool}(hp:∀x∈l,Fg.call (.fn g) (.agg [.int .i64 x.frm,.int .i64 x.to,Af 2 true x.nn (x.wants.map Ao.cells),.int .i64 x.cmd,.int .i64 x.after]::[.ptr 0 0 0]) [.live 7 false false [[Af 3 true mm.nS (mm.sens.map Bd.cells),Af 4 false mm.nV (mm.votes.map Ag.cells),Af 5 false mm.nM (mm.moves.map Am.cells),.int .i64 mm.states,.int .i64 mm.cmds,.int .i64 mm.bgn,Af 1 true mm.nO (mm.opn.map iv)]]]=some (.ret (.bool (p x)),[.live 7 false false [[Af 3 true mm.nS (mm.sens.map Bd.cells),Af 4 false mm.nV (mm.votes.map Ag.cells),Af 5 false mm.nM (mm.moves.map Am.cells),.int .i64 mm.states,.int .i64 mm.cmds,.int .i64 mm.bgn,Af 1 true mm.nO (mm.opn.map iv)]]]))(hl:l.length≤maxLen):
 Fg.call (.fn 70) [Af 5 false nn (l.map Am.cells),.func (.func g) [] [.ptr 0 0 0]] [.live 7 false false [[Af 3 true mm.nS (mm.sens.map Bd.cells),Af 4 false mm.nV (mm.votes.map Ag.cells),Af 5 false mm.nM (mm.moves.map Am.cells),.int .i64 mm.states,.int .i64 mm.cmds,.int .i64 mm.bgn,Af 1 true mm.nO (mm.opn.map iv)]]]=some (.ret (.bool (l.any p)),[.live 7 false false [[Af 3 true mm.nS (mm.sens.map Bd.cells),Af 4 false mm.nV (mm.votes.map Ag.cells),Af 5 false mm.nM (mm.moves.map Am.cells),.int .i64 mm.states,.int .i64 mm.cmds,.int .i64 mm.bgn,Af 1 true mm.nO (mm.opn.map iv)]]]):=by
 (refine ce Try.func70 ?_;simp only[Try.f70];(have hb:=trivial;with_reducible repeat' (first|simp only[hb,Vc.down,seval,lI hp hl,Ti p l 0 (aiI 0)]|refine Aw ?_ ?_<;>intro hb|refine fd ?_|fail)))
theorem bU(m:Ax)(hs:m.small):Fg.call (.fn 42) [.agg [Af 3 true m.nS (m.sens.map Bd.cells),Af 4 false m.nV (m.votes.map Ag.cells),Af 5 false m.nM (m.moves.map Am.cells),.int .i64 m.states,.int .i64 m.cmds,.int .i64 m.bgn,Af 1 true m.nO (m.opn.map iv)]] []=some (.ret (.bool (Dk m)),[]):=by
 have l1:decide ((6:Int)<(m.sens.length:Int))= !decide (m.sens.length≤6):=by rw[←decide_not,decide_eq_decide];omega
 have l2:decide ((6:Int)<(m.votes.length:Int))= !decide (m.votes.length≤6):=by rw[←decide_not,decide_eq_decide];omega
 have l3:decide ((20:Int)<(m.moves.length:Int))= !decide (m.moves.length≤20):=by rw[←decide_not,decide_eq_decide];omega
 cases hp:Lh m with
 |false=>
  have hp':Dk m=false:=by simp[Dk,hp]
  rw[hp']
  (refine ce Try.func42 ?_;simp only[Try.f42];(have hb:=trivial;with_reducible repeat' (first|simp only[hb,Vc.down,seval,Zq.down,af1,Ua,l1,l2,l3]|refine Aw ?_ ?_<;>intro hb|refine fd ?_|fail)))
  all_goals first
   |rfl
   |(exfalso;simp_all[Lh];done)
 |true=>
  have hp':=hp
  simp only[Lh,auB]at hp'
  obtain⟨⟨⟨⟨⟨⟨p1,p2⟩,p3⟩,p4⟩,p5⟩,p6⟩,p7⟩:=hp'
  (refine ce Try.func42 ?_;simp only[Try.f42];(have hb:=trivial;with_reducible repeat' (first|simp only[hb,Vc.down,seval,Zq.down,af1,Ua,l1,l2,l3,p1,p2,p3,p4,p5,p6,p7]|refine Aw ?_ ?_<;>intro hb|refine fd ?_|fail)))
  refine Ff (Xa 118 m.sens (fun i (zz:Unit) t h=>t 1=.ptr 0 0 0∧t 53=Af 3 true m.nS (m.sens.map Bd.cells)∧t 54=.int .i64 m.sens.length∧t 55=.int .i64 i∧(h[0]?=some (.live 7 false false [[Af 3 true m.nS (m.sens.map Bd.cells),Af 4 false m.nV (m.votes.map Ag.cells),Af 5 false m.nM (m.moves.map Am.cells),.int .i64 m.states,.int .i64 m.cmds,.int .i64 m.bgn,Af 1 true m.nO (m.opn.map iv)]]))) (fun rest zz=>rest.all fK) (fun r e t h=>(if r=true then e=.exit 0∧t 1=.ptr 0 0 0∧h[0]?=some (.live 7 false false [[Af 3 true m.nS (m.sens.map Bd.cells),Af 4 false m.nV (m.votes.map Ag.cells),Af 5 false m.nM (m.moves.map Am.cells),.int .i64 m.states,.int .i64 m.cmds,.int .i64 m.bgn,Af 1 true m.nO (m.opn.map iv)]])else e=.ret∧t 2=.bool false)) ?_ ?_ () _ _ ?_) (fun e t h hk=>?_)
  ·rintro _ t h Q' kQ ⟨h1,h53,h54,h55,hA⟩
   (have hb:=trivial;with_reducible repeat' (first|simp only[hb,Vc.down,seval,Zq.down,h1,h53,h54,h55,agD,decide_false]|refine Aw ?_ ?_<;>intro hb|refine fd ?_|fail))
   exact kQ _ _ _ (by rw[if_pos (by rfl)];exact⟨rfl,by simp[up,h1],hA⟩)
  ·rintro x rest i _ t h J Q' kJ kQ hx hi ⟨h1,h53,h54,h55,hA⟩
   have hd:decide ((i:Int)<(m.sens.length:Int))=true:=decide_eq_true (by omega)
   have hw:=Av hi hs.sens
   have hA1:=Bc hA
   (have hb:=trivial;with_reducible repeat' (first|simp only[hb,Vc.down,seval,Zq.down,h1,h53,h54,h55,hd,hx,hw,cE,Bd.cells,af1]|refine Aw ?_ ?_<;>intro hb|refine fd ?_|fail))
   all_goals first
    |exact kQ _ _ _ (by rw[if_neg (by simp_all[fK])];exact⟨rfl,by simp[up]⟩)
    |(refine Bt (kJ _ _ () ⟨?_,?_,?_,?_,hA1 _⟩ ?_);(simp[up,h1]);(simp[up,h53]);(simp[up,h54]);(simp[up]);(simp_all[fK]))
  ·exact⟨by simp[up,Ef],by simp[up,Ef],by simp[up,Ef],by simp[up],rfl⟩
  ·split at hk
   ·obtain⟨rfl,h1,hA⟩:=hk
    rename_i hr1
    have hA1:=Bc hA
    (have hb:=trivial;with_reducible repeat' (first|simp only[hb,Vc.down,seval,Zq.down,h1,hA,hA1,af1]|refine Aw ?_ ?_<;>intro hb|refine fd ?_|fail))
    refine Ff (Xa 118 m.votes (fun i (zz:Unit) t h=>t 1=.ptr 0 0 0∧t 78=Af 4 false m.nV (m.votes.map Ag.cells)∧t 79=.int .i64 m.votes.length∧t 80=.int .i64 i∧(h[0]?=some (.live 7 false false [[Af 3 true m.nS (m.sens.map Bd.cells),Af 4 false m.nV (m.votes.map Ag.cells),Af 5 false m.nM (m.moves.map Am.cells),.int .i64 m.states,.int .i64 m.cmds,.int .i64 m.bgn,Af 1 true m.nO (m.opn.map iv)]]))) (fun rest zz=>rest.all (Ny m.sens.length)) (fun r e t h=>(if r=true then e=.exit 2∧t 1=.ptr 0 0 0∧h[0]?=some (.live 7 false false [[Af 3 true m.nS (m.sens.map Bd.cells),Af 4 false m.nV (m.votes.map Ag.cells),Af 5 false m.nM (m.moves.map Am.cells),.int .i64 m.states,.int .i64 m.cmds,.int .i64 m.bgn,Af 1 true m.nO (m.opn.map iv)]])else e=.ret∧t 2=.bool false)) ?_ ?_ () _ _ ?_) (fun e t h hk=>?_)
    ·rintro _ t h Q' kQ ⟨h1,h78,h79,h80,hA⟩
     (have hb:=trivial;with_reducible repeat' (first|simp only[hb,Vc.down,seval,Zq.down,h1,h78,h79,h80,agD,decide_false]|refine Aw ?_ ?_<;>intro hb|refine fd ?_|fail))
     exact kQ _ _ _ (by rw[if_pos (by rfl)];exact⟨rfl,by simp[up,h1],hA⟩)
    ·rintro x rest i _ t h J Q' kJ kQ hx hi ⟨h1,h78,h79,h80,hA⟩
     have hd:decide ((i:Int)<(m.votes.length:Int))=true:=decide_eq_true (by omega)
     have hw:=Av hi hs.votes
     have hA1:=Bc hA
     have hin:=cG (nn:=x.nn) m.sens.length (hs.vs x (ag9 hx))
     (have hb:=trivial;with_reducible repeat' (first|simp only[hb,Vc.down,seval,Zq.down,h1,h78,h79,h80,hd,hx,hw,hA1,cE,Ua,hin,Ag.cells,af1]|refine Aw ?_ ?_<;>intro hb|refine fd ?_|fail))
     all_goals first
      |exact kQ _ _ _ (by rw[if_neg (by simp_all[Ny])];exact⟨rfl,by simp[up]⟩)
      |(refine Bt (kJ _ _ () ⟨?_,?_,?_,?_,hA1 _⟩ ?_);(simp[up,h1]);(simp[up,h78]);(simp[up,h79]);(simp[up]);(simp_all[Ny]))
    ·exact⟨by simp[up,Ef,h1],by simp[up,Ef,h1],by simp[up,Ef,h1],by simp[up],hA⟩
    ·split at hk
     ·obtain⟨rfl,h1,hA⟩:=hk
      rename_i hr2
      have hA1:=Bc hA
      have hcM:=fY (mm:=m) (l:=m.moves) (nn:=m.nM) (g:=71) (p:=fun x=> !Nx m x) (fun x hx=>rC m x (hs.ws x hx)) hs.moves
      have hcI:=aD (l:=m.opn) (nn:=m.nO) (g:=74) (cap:=[]) (p:=fun x=> !Iw x 0 255) rfl rfl (fun x _=>pQ x) hs.opn
      (have hb:=trivial;with_reducible repeat' (first|simp only[hb,Vc.down,seval,Zq.down,h1,hA,hA1,af1,hcM,hcI]|refine Aw ?_ ?_<;>intro hb|refine fd ?_|fail))
      all_goals
       have q1:m.moves.all (Nx m)= !(m.moves.any fun x=> !Nx m x):=awG
       have q2:m.opn.all (fun n=>Iw n 0 255)= !(m.opn.any fun x=> !Iw x 0 255):=awG
       simp only[Dk,hp,hr1,hr2,q1,q2,hb,ahJ,ahP,ah6,aiO,aiV]
       try rfl
     ·obtain⟨rfl,h2⟩:=hk
      rename_i hr2
      (have hb:=trivial;with_reducible repeat' (first|simp only[hb,Vc.down,seval,Zq.down,h2]|refine Aw ?_ ?_<;>intro hb|refine fd ?_|fail))
      all_goals simp[Dk,hp,agI.2 hr2]
   ·obtain⟨rfl,h2⟩:=hk
    rename_i hr1
    (have hb:=trivial;with_reducible repeat' (first|simp only[hb,Vc.down,seval,Zq.down,h2]|refine Aw ?_ ?_<;>intro hb|refine fd ?_|fail))
    all_goals simp[Dk,hp,agI.2 hr1]
theorem jW(m:Ax)(hs:m.small):Fg.call (.fn 15) [.agg [Af 3 true m.nS (m.sens.map Bd.cells),Af 4 false m.nV (m.votes.map Ag.cells),Af 5 false m.nM (m.moves.map Am.cells),.int .i64 m.states,.int .i64 m.cmds,.int .i64 m.bgn,Af 1 true m.nO (m.opn.map iv)]] []=some (.ret (.bool (Dk m)),[]):=by
 have l1:decide ((6:Int)<(m.sens.length:Int))= !decide (m.sens.length≤6):=by rw[←decide_not,decide_eq_decide];omega
 have l2:decide ((6:Int)<(m.votes.length:Int))= !decide (m.votes.length≤6):=by rw[←decide_not,decide_eq_decide];omega
 have l3:decide ((20:Int)<(m.moves.length:Int))= !decide (m.moves.length≤20):=by rw[←decide_not,decide_eq_decide];omega
 have sen:∀x:Bd,fK x=(!decide (x.lo < -10000)&& !decide (x.hi<x.lo)&& !decide (10000<x.hi)):=fun x=>by
  rw[Bool.eq_iff_iff];simp[fK,Jm,Iw];omega
 (refine ce Try.func15 ?_;simp only[Try.f15];(have hb:=trivial;with_reducible repeat' (first|simp only[hb,Vc.down,seval,Oa.down,af1]|refine Aw ?_ ?_<;>intro hb|refine fd ?_|fail)))
 refine Ff (Xa 126 m.sens (fun i (zz:Unit) t h=>t 1=.ptr 0 0 0∧t 3=.int .i64 i∧(h[0]?=some (.live 7 false false [[Af 3 true m.nS (m.sens.map Bd.cells),Af 4 false m.nV (m.votes.map Ag.cells),Af 5 false m.nM (m.moves.map Am.cells),.int .i64 m.states,.int .i64 m.cmds,.int .i64 m.bgn,Af 1 true m.nO (m.opn.map iv)]]))) (fun rest zz=>rest.all fK) (fun r e t h=>(if r=true then e=.exit 0∧t 1=.ptr 0 0 0∧h[0]?=some (.live 7 false false [[Af 3 true m.nS (m.sens.map Bd.cells),Af 4 false m.nV (m.votes.map Ag.cells),Af 5 false m.nM (m.moves.map Am.cells),.int .i64 m.states,.int .i64 m.cmds,.int .i64 m.bgn,Af 1 true m.nO (m.opn.map iv)]])else e=.ret∧t 2=.bool false)) ?_ ?_ () _ _ ?_) (fun e t h hk=>?_)
 ·rintro _ t h Q' kQ ⟨h1,h3,hA⟩
  (have hb:=trivial;with_reducible repeat' (first|simp only[hb,Vc.down,seval,Oa.down,h1,h3,agD,decide_false,hA,af1]|refine Aw ?_ ?_<;>intro hb|refine fd ?_|fail))
  exact kQ _ _ _ (by rw[if_pos (by rfl)];exact⟨rfl,by simp[up,h1],hA⟩)
 ·rintro x rest i _ t h J Q' kJ kQ hx hi ⟨h1,h3,hA⟩
  have hd:decide ((i:Int)<(m.sens.length:Int))=true:=decide_eq_true (by omega)
  have hw:=Av hi hs.sens
  have hA1:=Bc hA
  (have hb:=trivial;with_reducible repeat' (first|simp only[hb,Vc.down,seval,Oa.down,h1,h3,hd,hx,hw,hA,hA1,Bd.cells,af1]|refine Aw ?_ ?_<;>intro hb|refine fd ?_|fail))
  all_goals first
   |exact kQ _ _ _ (by rw[if_neg (by simp_all)];exact⟨rfl,by simp[up]⟩)
   |(refine Bt (kJ _ _ () ⟨?_,?_,hA1 _⟩ ?_);(simp[up,h1]);(simp[up]);(simp_all))
 ·exact⟨by simp[up,Ef],by simp[up],rfl⟩
 split at hk
 rotate_left
 ·obtain⟨rfl,h2⟩:=hk
  rename_i hr1
  (have hb:=trivial;with_reducible repeat' (first|simp only[hb,Vc.down,seval,Oa.down,h2]|refine Aw ?_ ?_<;>intro hb|refine fd ?_|fail))
  all_goals simp[Dk,agI.2 hr1]
 obtain⟨rfl,h1,hA⟩:=hk
 rename_i hr1
 have hA1:=Bc hA
 (have hb:=trivial;with_reducible repeat' (first|simp only[hb,Vc.down,seval,Oa.down,h1,hA,hA1,af1]|refine Aw ?_ ?_<;>intro hb|refine fd ?_|fail))
 refine Ff (Xa 126 m.votes (fun i (zz:Unit) t h=>t 1=.ptr 0 0 0∧t 5=.int .i64 i∧(h[0]?=some (.live 7 false false [[Af 3 true m.nS (m.sens.map Bd.cells),Af 4 false m.nV (m.votes.map Ag.cells),Af 5 false m.nM (m.moves.map Am.cells),.int .i64 m.states,.int .i64 m.cmds,.int .i64 m.bgn,Af 1 true m.nO (m.opn.map iv)]]))) (fun rest zz=>rest.all (Ny m.sens.length)) (fun r e t h=>(if r=true then e=.exit 2∧t 1=.ptr 0 0 0∧h[0]?=some (.live 7 false false [[Af 3 true m.nS (m.sens.map Bd.cells),Af 4 false m.nV (m.votes.map Ag.cells),Af 5 false m.nM (m.moves.map Am.cells),.int .i64 m.states,.int .i64 m.cmds,.int .i64 m.bgn,Af 1 true m.nO (m.opn.map iv)]])else e=.ret∧t 2=.bool false)) ?_ ?_ () _ _ ?_) (fun e t h hk=>?_)
 ·rintro _ t h Q' kQ ⟨h1,h5,hA⟩
  (have hb:=trivial;with_reducible repeat' (first|simp only[hb,Vc.down,seval,Oa.down,h1,h5,agD,decide_false,hA,af1]|refine Aw ?_ ?_<;>intro hb|refine fd ?_|fail))
  exact kQ _ _ _ (by rw[if_pos (by rfl)];exact⟨rfl,by simp[up,h1],hA⟩)
 ·rintro x rest i _ t h J Q' kJ kQ hx hi ⟨h1,h5,hA⟩
  have hd:decide ((i:Int)<(m.votes.length:Int))=true:=decide_eq_true (by omega)
  have hw:=Av hi hs.votes
  have hA1:=Bc hA
  have hV:=afB x m.sens.length (hs.vs x (ag9 hx))
  (have hb:=trivial;with_reducible repeat' (first|simp only[hb,Vc.down,seval,Oa.down,h1,h5,hd,hx,hw,hA,hA1,hV,Ag.cells,af1]|refine Aw ?_ ?_<;>intro hb|refine fd ?_|fail))
  all_goals first
   |exact kQ _ _ _ (by rw[if_neg (by simp_all)];exact⟨rfl,by simp[up]⟩)
   |(refine Bt (kJ _ _ () ⟨?_,?_,hA⟩ ?_);(simp[up,h1]);(simp[up]);(simp_all))
 ·exact⟨by simp[up,Ef,h1],by simp[up],hA⟩
 split at hk
 rotate_left
 ·obtain⟨rfl,h2⟩:=hk
  rename_i hr2
  (have hb:=trivial;with_reducible repeat' (first|simp only[hb,Vc.down,seval,Oa.down,h2]|refine Aw ?_ ?_<;>intro hb|refine fd ?_|fail))
  all_goals simp[Dk,agI.2 hr2]
 obtain⟨rfl,h1,hA⟩:=hk
 rename_i hr2
 have hA1:=Bc hA
 cases hp:Lh m with
 |false=>
  have hp':Dk m=false:=by simp[Dk,hp]
  rw[hp']
  (have hb:=trivial;with_reducible repeat' (first|simp only[hb,Vc.down,seval,Oa.down,h1,hA,hA1,af1,Zt,l1,l2,l3]|refine Aw ?_ ?_<;>intro hb|refine fd ?_|fail))
  all_goals first
   |rfl
   |(exfalso;simp_all[Lh];done)
 |true=>
  have hp':=hp
  simp only[Lh,auB]at hp'
  obtain⟨⟨⟨⟨⟨⟨p1,p2⟩,p3⟩,p4⟩,p5⟩,p6⟩,p7⟩:=hp'
  (have hb:=trivial;with_reducible repeat' (first|simp only[hb,Vc.down,seval,Oa.down,h1,hA,hA1,af1,Zt,l1,l2,l3,p1,p2,p3,p4,p5,p6,p7]|refine Aw ?_ ?_<;>intro hb|refine fd ?_|fail))
  refine Ff (Xa 126 m.opn (fun i (zz:Unit) t h=>t 1=.ptr 0 0 0∧t 6=.int .i64 i∧(h[0]?=some (.live 7 false false [[Af 3 true m.nS (m.sens.map Bd.cells),Af 4 false m.nV (m.votes.map Ag.cells),Af 5 false m.nM (m.moves.map Am.cells),.int .i64 m.states,.int .i64 m.cmds,.int .i64 m.bgn,Af 1 true m.nO (m.opn.map iv)]]))) (fun rest zz=>rest.all (fun n=>Iw n 0 255)) (fun r e t h=>(if r=true then e=.exit 4∧t 1=.ptr 0 0 0∧h[0]?=some (.live 7 false false [[Af 3 true m.nS (m.sens.map Bd.cells),Af 4 false m.nV (m.votes.map Ag.cells),Af 5 false m.nM (m.moves.map Am.cells),.int .i64 m.states,.int .i64 m.cmds,.int .i64 m.bgn,Af 1 true m.nO (m.opn.map iv)]])else e=.ret∧t 2=.bool false)) ?_ ?_ () _ _ ?_) (fun e t h hk=>?_)
  ·rintro _ t h Q' kQ ⟨h1,h6,hA⟩
   (have hb:=trivial;with_reducible repeat' (first|simp only[hb,Vc.down,seval,Oa.down,h1,h6,agD,decide_false,hA,af1]|refine Aw ?_ ?_<;>intro hb|refine fd ?_|fail))
   exact kQ _ _ _ (by rw[if_pos (by rfl)];exact⟨rfl,by simp[up,h1],hA⟩)
  ·rintro x rest i _ t h J Q' kJ kQ hx hi ⟨h1,h6,hA⟩
   have hd:decide ((i:Int)<(m.opn.length:Int))=true:=decide_eq_true (by omega)
   have hw:=Av hi hs.opn
   have hA1:=Bc hA
   (have hb:=trivial;with_reducible repeat' (first|simp only[hb,Vc.down,seval,Oa.down,h1,h6,hd,hx,hw,hA,hA1,Zt,iv,af1]|refine Aw ?_ ?_<;>intro hb|refine fd ?_|fail))
   all_goals first
    |exact kQ _ _ _ (by rw[if_neg (by simp_all)];exact⟨rfl,by simp[up]⟩)
    |(refine Bt (kJ _ _ () ⟨?_,?_,hA⟩ ?_);(simp[up,h1]);(simp[up]);(simp_all))
  ·exact⟨by simp[up,Ef,h1],by simp[up],hA⟩
  split at hk
  rotate_left
  ·obtain⟨rfl,h2⟩:=hk
   rename_i hr3
   (have hb:=trivial;with_reducible repeat' (first|simp only[hb,Vc.down,seval,Oa.down,h2]|refine Aw ?_ ?_<;>intro hb|refine fd ?_|fail))
   all_goals simp[Dk,agI.2 hr3]
  obtain⟨rfl,h1,hA⟩:=hk
  rename_i hr3
  have hA1:=Bc hA
  (have hb:=trivial;with_reducible repeat' (first|simp only[hb,Vc.down,seval,Oa.down,h1,hA,hA1,af1]|refine Aw ?_ ?_<;>intro hb|refine fd ?_|fail))
  refine Ff (Xa 126 m.moves (fun i (zz:Unit) t h=>t 1=.ptr 0 0 0∧t 7=.int .i64 i∧(h[0]?=some (.live 7 false false [[Af 3 true m.nS (m.sens.map Bd.cells),Af 4 false m.nV (m.votes.map Ag.cells),Af 5 false m.nM (m.moves.map Am.cells),.int .i64 m.states,.int .i64 m.cmds,.int .i64 m.bgn,Af 1 true m.nO (m.opn.map iv)]]))) (fun rest zz=>rest.all (Nx m)) (fun r e t h=>(if r=true then e=.exit 6 else e=.ret∧t 2=.bool false)) ?_ ?_ () _ _ ?_) (fun e t h hk=>?_)
  ·rintro _ t h Q' kQ ⟨h1,h7,hA⟩
   (have hb:=trivial;with_reducible repeat' (first|simp only[hb,Vc.down,seval,Oa.down,h1,h7,agD,decide_false,hA,af1]|refine Aw ?_ ?_<;>intro hb|refine fd ?_|fail))
   exact kQ _ _ _ (by rw[if_pos (by rfl)])
  ·rintro x rest i _ t h J Q' kJ kQ hx hi ⟨h1,h7,hA⟩
   have hd:decide ((i:Int)<(m.moves.length:Int))=true:=decide_eq_true (by omega)
   have hw:=Av hi hs.moves
   have hA1:=Bc hA
   have hM:=xO m x (hs.ws x (ag9 hx))
   (have hb:=trivial;with_reducible repeat' (first|simp only[hb,Vc.down,seval,Oa.down,h1,h7,hd,hx,hw,hA,hA1,hM,Am.cells,af1]|refine Aw ?_ ?_<;>intro hb|refine fd ?_|fail))
   all_goals first
    |exact kQ _ _ _ (by rw[if_neg (by simp_all)];exact⟨rfl,by simp[up]⟩)
    |(refine Bt (kJ _ _ () ⟨?_,?_,hA⟩ ?_);(simp[up,h1]);(simp[up]);(simp_all))
  ·exact⟨by simp[up,Ef,h1],by simp[up],hA⟩
  split at hk
  ·subst hk
   rename_i hr4
   (have hb:=trivial;with_reducible repeat' (first|simp only[hb,Vc.down,seval,Oa.down]|refine Aw ?_ ?_<;>intro hb|refine fd ?_|fail))
   all_goals simp[Dk,hp,hr1,hr2,hr3,hr4]
  ·obtain⟨rfl,h2⟩:=hk
   rename_i hr4
   (have hb:=trivial;with_reducible repeat' (first|simp only[hb,Vc.down,seval,Oa.down,h2]|refine Aw ?_ ?_<;>intro hb|refine fd ?_|fail))
   all_goals simp[Dk,agI.2 hr4]
end Go.Proofs.Ytfkokgjfpojeoaa
