/- The functions of the layer, walked. -/
import Derived.Test.YtfkokgjfpojeoaaLibD
import Derived.Test.YtfkokgjfpojeoaaChecked
import Derived.Test.YtfkokgjfpojeoaaLibE
import Derived.Test.YtfkokgjfpojeoaaRows
import Derived.ProofKit
import Derived.LaidMore
import Derived.OpenShut
open And renaming intro→aaB
open List renaming length_map→aaC,mem_of_getElem?→acY,getElem?_eq_getElem→arZ,take_add_one→aAP,all_eq_not_any_not→aAY
open Int renaming lt_irrefl→aaD,le_refl→acA,natCast_zero→ap2
open Bool renaming not_true→aaE,not_false→aaG,true_and→aaY,false_and→acJ,and_true→afO,and_false→agS,eq_false_iff→amO,not_eq_eq_eq_not→aAT
open Nat renaming add_sub_cancel→aAO
set_option linter.unusedSimpArgs false
set_option linter.unusedVariables false
namespace Go.Proofs.Ytfkokgjfpojeoaa
open Go.Ev
set_option maxRecDepth 100000
theorem Ew(h:Aa)(b r o:Nat):ld Try.prog 27 h (some (.ptr b r o))=qW (Jz (h[b]?) r) o 7:=Wt ⟨by kernel_rfl,by kernel_rfl⟩ h b r o
theorem kR(b r o:Nat):uO Try.prog 27 (some (.ptr b r o))=some [.cells b o 7]:=bG (isA:=true) (n:=7) (by kernel_rfl) (by kernel_rfl) b r o
theorem Ih(b r o:Nat):fa Try.prog 29 (some (.ptr b r o)) 0=some (.ret (.ptr b r (o+0)),[]):=Bt (show Cc Try.prog 29 0 0 1 from⟨_,_,Try.underlying29,rfl,rfl,by kernel_rfl,by decide⟩) b r o
theorem Do(h:Aa)(b r o:Nat):ld Try.prog 25 h (some (.ptr b r o))=qR (Jz (h[b]?) r) o:=Yr ⟨by kernel_rfl,1,by kernel_rfl⟩ h b r o
theorem fA(h:Aa)(c:AV)(cs:List AV):ld Try.prog 25 h (some (.iptr (c::cs)))=some (.ret c,[]):=iI ⟨by kernel_rfl,1,by kernel_rfl⟩ h c cs
theorem jQ(b r o:Nat):uO Try.prog 25 (some (.ptr b r o))=some [.cells b o 1]:=bG (isA:=false) (n:=1) (by kernel_rfl) (by kernel_rfl) b r o
theorem Eg(fl nn:Bool)(rows:List (List AV)):ln Try.prog 25 (some (Ae 1 fl nn rows))=some (.ret (.int .i64 rows.length),[]):=Yj ⟨_,Try.underlying25,by kernel_rfl⟩ fl nn rows
theorem Yn(h:Aa)(b r o:Nat):ld Try.prog 29 h (some (.ptr b r o))=qW (Jz (h[b]?) r) o 2:=Wt ⟨by kernel_rfl,by kernel_rfl⟩ h b r o
theorem Gw(b r o:Nat):fa Try.prog 27 (some (.ptr b r o)) 3=some (.ret (.ptr b r (o+3)),[]):=Bt (show Cc Try.prog 27 3 3 1 from⟨_,_,Try.underlying27,rfl,rfl,by kernel_rfl,by decide⟩) b r o
theorem Bd(h:Aa)(b r o:Nat):ld Try.prog 3 h (some (.ptr b r o))=qR (Jz (h[b]?) r) o:=Yr ⟨by kernel_rfl,1,by kernel_rfl⟩ h b r o
theorem Ez(h:Aa)(c:AV)(cs:List AV):ld Try.prog 3 h (some (.iptr (c::cs)))=some (.ret c,[]):=iI ⟨by kernel_rfl,1,by kernel_rfl⟩ h c cs
theorem pL(b r o:Nat):uO Try.prog 3 (some (.ptr b r o))=some [.cells b o 1]:=bG (isA:=false) (n:=1) (by kernel_rfl) (by kernel_rfl) b r o
theorem Fg(b r o:Nat):fa Try.prog 27 (some (.ptr b r o)) 1=some (.ret (.ptr b r (o+1)),[]):=Bt (show Cc Try.prog 27 1 1 1 from⟨_,_,Try.underlying27,rfl,rfl,by kernel_rfl,by decide⟩) b r o
theorem Gs(h:Aa)(b r o:Nat):ld Try.prog 23 h (some (.ptr b r o))=qR (Jz (h[b]?) r) o:=Yr ⟨by kernel_rfl,1,by kernel_rfl⟩ h b r o
theorem Hv(fl nn:Bool)(rows:List (List AV)):ln Try.prog 23 (some (Ae 4 fl nn rows))=some (.ret (.int .i64 rows.length),[]):=Yj ⟨_,Try.underlying23,by kernel_rfl⟩ fl nn rows
theorem Lc(fl nn:Bool)(rows:List (List AV))(k:IntKind)(i:Int):ia Try.prog 23 (some (Ae 4 fl nn rows)) (some (.int k i))=if 0≤i then r1 ((rows[i.toNat]?).map .iptr)else none:=Uf ⟨_,Try.underlying23,by kernel_rfl⟩ fl nn rows k i
theorem Xa(h:Aa)(b r o:Nat):ld Try.prog 48 h (some (.ptr b r o))=qW (Jz (h[b]?) r) o 4:=Wt ⟨by kernel_rfl,by kernel_rfl⟩ h b r o
theorem Nl(h:Aa)(cs:List AV):ld Try.prog 48 h (some (.iptr cs))=if 4≤cs.length then some (.ret (.agg (cs.take 4)),[])else none:=gG ⟨by kernel_rfl,by kernel_rfl⟩ h cs
theorem cN:Hl Try.prog 48=some (.agg [.nils,.int .i64 0,.int .i64 0,.bool false]):=by kernel_rfl
theorem cF(h:Aa)(b r o:Nat)(v:AV):sG Try.prog 48 h (some (.ptr b r o)) (some v)=sv 4 (h[b]?) b r o (Ag v):=Xx (by kernel_rfl) h b r o v
theorem Jp(b r o:Nat):fa Try.prog 48 (some (.ptr b r o)) 0=some (.ret (.ptr b r (o+0)),[]):=Bt (show Cc Try.prog 48 0 0 1 from⟨_,_,Try.underlying48,rfl,rfl,by kernel_rfl,by decide⟩) b r o
theorem eF(cs:List AV):fa Try.prog 48 (some (.iptr cs)) 0=if 0+1≤cs.length then some (.ret (.iptr (cs.drop 0)),[])else none:=Tq (show Cc Try.prog 48 0 0 1 from⟨_,_,Try.underlying48,rfl,rfl,by kernel_rfl,by decide⟩) cs
theorem Hr(fl nn:Bool)(rows:List (List AV))(k:IntKind)(i:Int):ia Try.prog 25 (some (Ae 1 fl nn rows)) (some (.int k i))=if 0≤i then r1 ((rows[i.toNat]?).map .iptr)else none:=Uf ⟨_,Try.underlying25,by kernel_rfl⟩ fl nn rows k i
theorem Fj(b r o:Nat):fa Try.prog 27 (some (.ptr b r o)) 0=some (.ret (.ptr b r (o+0)),[]):=Bt (show Cc Try.prog 27 0 0 1 from⟨_,_,Try.underlying27,rfl,rfl,by kernel_rfl,by decide⟩) b r o
theorem Gl(h:Aa)(b r o:Nat):ld Try.prog 22 h (some (.ptr b r o))=qR (Jz (h[b]?) r) o:=Yr ⟨by kernel_rfl,1,by kernel_rfl⟩ h b r o
theorem Qa(fl nn:Bool)(rows:List (List AV))(k:IntKind)(i:Int):ia Try.prog 22 (some (Ae 3 fl nn rows)) (some (.int k i))=if 0≤i then r1 ((rows[i.toNat]?).map .iptr)else none:=Uf ⟨_,Try.underlying22,by kernel_rfl⟩ fl nn rows k i
theorem Nk(h:Aa)(cs:List AV):ld Try.prog 50 h (some (.iptr cs))=if 3≤cs.length then some (.ret (.agg (cs.take 3)),[])else none:=gG ⟨by kernel_rfl,by kernel_rfl⟩ h cs
theorem Wy:Hl Try.prog 50=some (.agg [.int .i64 0,.int .i64 0,.bool false]):=by kernel_rfl
theorem Xe(h:Aa)(b r o:Nat)(v:AV):sG Try.prog 50 h (some (.ptr b r o)) (some v)=sv 3 (h[b]?) b r o (Ag v):=Xx (by kernel_rfl) h b r o v
theorem Wb(b r o:Nat):fa Try.prog 50 (some (.ptr b r o)) 2=some (.ret (.ptr b r (o+2)),[]):=Bt (show Cc Try.prog 50 2 2 1 from⟨_,_,Try.underlying50,rfl,rfl,by kernel_rfl,by decide⟩) b r o
theorem Ue(h:Aa)(b r o:Nat):ld Try.prog 4 h (some (.ptr b r o))=qR (Jz (h[b]?) r) o:=Yr ⟨by kernel_rfl,1,by kernel_rfl⟩ h b r o
theorem kC(h:Aa)(c:AV)(cs:List AV):ld Try.prog 4 h (some (.iptr (c::cs)))=some (.ret c,[]):=iI ⟨by kernel_rfl,1,by kernel_rfl⟩ h c cs
theorem Jn(b r o:Nat):fa Try.prog 50 (some (.ptr b r o)) 0=some (.ret (.ptr b r (o+0)),[]):=Bt (show Cc Try.prog 50 0 0 1 from⟨_,_,Try.underlying50,rfl,rfl,by kernel_rfl,by decide⟩) b r o
theorem Ju(b r o:Nat):fa Try.prog 50 (some (.ptr b r o)) 1=some (.ret (.ptr b r (o+1)),[]):=Bt (show Cc Try.prog 50 1 1 1 from⟨_,_,Try.underlying50,rfl,rfl,by kernel_rfl,by decide⟩) b r o
theorem Vr(b r o:Nat):fa Try.prog 48 (some (.ptr b r o)) 3=some (.ret (.ptr b r (o+3)),[]):=Bt (show Cc Try.prog 48 3 3 1 from⟨_,_,Try.underlying48,rfl,rfl,by kernel_rfl,by decide⟩) b r o
theorem Jl(b r o:Nat):fa Try.prog 48 (some (.ptr b r o)) 2=some (.ret (.ptr b r (o+2)),[]):=Bt (show Cc Try.prog 48 2 2 1 from⟨_,_,Try.underlying48,rfl,rfl,by kernel_rfl,by decide⟩) b r o
theorem jH(fl nn:Bool)(rows:List (List AV))(k:IntKind)(i:Int):ia Try.prog 51 (some (Ae 1 fl nn rows)) (some (.int k i))=if 0≤i then r1 ((rows[i.toNat]?).map .iptr)else none:=Uf ⟨_,Try.underlying51,by kernel_rfl⟩ fl nn rows k i
theorem Jv(b r o:Nat):fa Try.prog 48 (some (.ptr b r o)) 1=some (.ret (.ptr b r (o+1)),[]):=Bt (show Cc Try.prog 48 1 1 1 from⟨_,_,Try.underlying48,rfl,rfl,by kernel_rfl,by decide⟩) b r o
theorem Kt(fl nn:Bool)(rows:List (List AV)):ln Try.prog 22 (some (Ae 3 fl nn rows))=some (.ret (.int .i64 rows.length),[]):=Yj ⟨_,Try.underlying22,by kernel_rfl⟩ fl nn rows
theorem Ic(b r o:Nat):fa Try.prog 27 (some (.ptr b r o)) 2=some (.ret (.ptr b r (o+2)),[]):=Bt (show Cc Try.prog 27 2 2 1 from⟨_,_,Try.underlying27,rfl,rfl,by kernel_rfl,by decide⟩) b r o
theorem Jd(h:Aa)(b r o:Nat):ld Try.prog 24 h (some (.ptr b r o))=qR (Jz (h[b]?) r) o:=Yr ⟨by kernel_rfl,1,by kernel_rfl⟩ h b r o
theorem Is(fl nn:Bool)(rows:List (List AV)):ln Try.prog 24 (some (Ae 5 fl nn rows))=some (.ret (.int .i64 rows.length),[]):=Yj ⟨_,Try.underlying24,by kernel_rfl⟩ fl nn rows
theorem mF:Hl Try.prog 56=some (.agg [.int .i64 0,.bool false]):=by kernel_rfl
theorem nC:Hl Try.prog 59=some (.agg [.int .i64 0,.int .i64 0,.nils,.int .i64 0,.int .i64 0]):=by kernel_rfl
theorem Vv(b r o:Nat):fa Try.prog 27 (some (.ptr b r o)) 5=some (.ret (.ptr b r (o+5)),[]):=Bt (show Cc Try.prog 27 5 5 1 from⟨_,_,Try.underlying27,rfl,rfl,by kernel_rfl,by decide⟩) b r o
theorem Lm(fl nn:Bool)(rows:List (List AV))(k:IntKind)(i:Int):ia Try.prog 24 (some (Ae 5 fl nn rows)) (some (.int k i))=if 0≤i then r1 ((rows[i.toNat]?).map .iptr)else none:=Uf ⟨_,Try.underlying24,by kernel_rfl⟩ fl nn rows k i
theorem Jo(b r o:Nat):fa Try.prog 59 (some (.ptr b r o)) 2=some (.ret (.ptr b r (o+2)),[]):=Bt (show Cc Try.prog 59 2 2 1 from⟨_,_,Try.underlying59,rfl,rfl,by kernel_rfl,by decide⟩) b r o
theorem bT(cs:List AV):fa Try.prog 59 (some (.iptr cs)) 2=if 2+1≤cs.length then some (.ret (.iptr (cs.drop 2)),[])else none:=Tq (show Cc Try.prog 59 2 2 1 from⟨_,_,Try.underlying59,rfl,rfl,by kernel_rfl,by decide⟩) cs
theorem Ns(h:Aa)(b r o:Nat):ld Try.prog 57 h (some (.ptr b r o))=qR (Jz (h[b]?) r) o:=Yr ⟨by kernel_rfl,1,by kernel_rfl⟩ h b r o
theorem eN(h:Aa)(c:AV)(cs:List AV):ld Try.prog 57 h (some (.iptr (c::cs)))=some (.ret c,[]):=iI ⟨by kernel_rfl,1,by kernel_rfl⟩ h c cs
theorem Kx(fl nn:Bool)(rows:List (List AV)):ln Try.prog 57 (some (Ae 2 fl nn rows))=some (.ret (.int .i64 rows.length),[]):=Yj ⟨_,Try.underlying57,by kernel_rfl⟩ fl nn rows
theorem Pl(b r o:Nat):fa Try.prog 27 (some (.ptr b r o)) 6=some (.ret (.ptr b r (o+6)),[]):=Bt (show Cc Try.prog 27 6 6 1 from⟨_,_,Try.underlying27,rfl,rfl,by kernel_rfl,by decide⟩) b r o
theorem Zn(ps:List (Nat × AV)):Pg Try.prog 86 ps=(Ie (fun i=>([(0,1),(1,1)]:List (Nat × Nat))[i]?) (Ag (.agg [.int .i64 0,.int .i64 0])) ps).map .agg:=by kernel_rfl
theorem Jr(b r o:Nat):fa Try.prog 29 (some (.ptr b r o)) 1=some (.ret (.ptr b r (o+1)),[]):=Bt (show Cc Try.prog 29 1 1 1 from⟨_,_,Try.underlying29,rfl,rfl,by kernel_rfl,by decide⟩) b r o
theorem jU(ps:List (Nat × AV)):Pg Try.prog 90 ps=(Ie (fun i=>([(0,1),(1,1)]:List (Nat × Nat))[i]?) (Ag (.agg [.int .i64 0,.int .i64 0])) ps).map .agg:=by kernel_rfl
theorem cP:Hl Try.prog 86=some (.agg [.int .i64 0,.int .i64 0]):=by kernel_rfl
theorem bX(h:Aa)(b r o:Nat)(v:AV):sG Try.prog 86 h (some (.ptr b r o)) (some v)=sv 2 (h[b]?) b r o (Ag v):=Xx (by kernel_rfl) h b r o v
theorem kZ(b r o:Nat):zX Try.prog 86 (some (.ptr b r o))=some [.cells b o 2]:=sE (by kernel_rfl) b r o
theorem Pe(b r o:Nat):fa Try.prog 86 (some (.ptr b r o)) 0=some (.ret (.ptr b r (o+0)),[]):=Bt (show Cc Try.prog 86 0 0 1 from⟨_,_,Try.underlying86,rfl,rfl,by kernel_rfl,by decide⟩) b r o
theorem Oj(b r o:Nat):fa Try.prog 86 (some (.ptr b r o)) 1=some (.ret (.ptr b r (o+1)),[]):=Bt (show Cc Try.prog 86 1 1 1 from⟨_,_,Try.underlying86,rfl,rfl,by kernel_rfl,by decide⟩) b r o
theorem Gz(b r o:Nat):fa Try.prog 27 (some (.ptr b r o)) 4=some (.ret (.ptr b r (o+4)),[]):=Bt (show Cc Try.prog 27 4 4 1 from⟨_,_,Try.underlying27,rfl,rfl,by kernel_rfl,by decide⟩) b r o
theorem Yt(h:Aa)(b r o:Nat):ld Try.prog 59 h (some (.ptr b r o))=qW (Jz (h[b]?) r) o 5:=Wt ⟨by kernel_rfl,by kernel_rfl⟩ h b r o
theorem Ni(h:Aa)(cs:List AV):ld Try.prog 59 h (some (.iptr cs))=if 5≤cs.length then some (.ret (.agg (cs.take 5)),[])else none:=gG ⟨by kernel_rfl,by kernel_rfl⟩ h cs
theorem Oy(b r o:Nat):fa Try.prog 59 (some (.ptr b r o)) 1=some (.ret (.ptr b r (o+1)),[]):=Bt (show Cc Try.prog 59 1 1 1 from⟨_,_,Try.underlying59,rfl,rfl,by kernel_rfl,by decide⟩) b r o
theorem dP(cs:List AV):fa Try.prog 59 (some (.iptr cs)) 1=if 1+1≤cs.length then some (.ret (.iptr (cs.drop 1)),[])else none:=Tq (show Cc Try.prog 59 1 1 1 from⟨_,_,Try.underlying59,rfl,rfl,by kernel_rfl,by decide⟩) cs
theorem eY(h:Aa)(b r o:Nat):ld Try.prog 86 h (some (.ptr b r o))=qW (Jz (h[b]?) r) o 2:=Wt ⟨by kernel_rfl,by kernel_rfl⟩ h b r o
theorem kY(base len:Nat)(ps:List (Nat × AV)):rD (Bm Try.prog base 51 len ps)=zS 1 (.bool false) base len ps:=aHF (e:=4) (by kernel_rfl) (by kernel_rfl) (by kernel_rfl) base len ps
theorem Zd{O:Dq}(t:List AV)(h:Aa)(s x:Operand):Dc O Try.prog t h (.call ⟨.builtin .append,#[s,x],#[51,51]⟩)=zW Try.prog 51 h (Ac t s) (Ac t x):=ab5 t h s x 51 51 _ Try.underlying51
theorem kU(h:Aa)(s:AV)(a b r l:Nat):zW Try.prog 51 h (some s) (some (.slr a b r l))=apK 1 h (some s) (srK 1 h (some (.slr a b r l))):=axC (e:=4) (b:=1) (z:=.bool false) (by kernel_rfl) (by kernel_rfl) (by kernel_rfl) (by kernel_rfl) (by decide+kernel) h s _ (fun q e=>by cases e)
theorem oN(h:Aa)(b r o:Nat)(v:AV):sG Try.prog 59 h (some (.ptr b r o)) (some v)=sv 5 (h[b]?) b r o (Ag v):=Xx (by kernel_rfl) h b r o v
theorem fB(h:Aa)(b r o:Nat):ld Try.prog 90 h (some (.ptr b r o))=qW (Jz (h[b]?) r) o 2:=Wt ⟨by kernel_rfl,by kernel_rfl⟩ h b r o
theorem fC(ps:List (Nat × AV)):Pg Try.prog 126 ps=(Ie (fun i=>([(0,5),(5,2),(7,2)]:List (Nat × Nat))[i]?) (Ag (.agg [.int .i64 0,.int .i64 0,.nils,.int .i64 0,.int .i64 0,.int .i64 0,.int .i64 0,.int .i64 0,.int .i64 0])) ps).map .agg:=by kernel_rfl
theorem Qc(fl nn:Bool)(rows:List (List AV))(k:IntKind)(i:Int):ia Try.prog 57 (some (Ae 2 fl nn rows)) (some (.int k i))=if 0≤i then r1 ((rows[i.toNat]?).map .iptr)else none:=Uf ⟨_,Try.underlying57,by kernel_rfl⟩ fl nn rows k i
theorem Of(b r o:Nat):fa Try.prog 56 (some (.ptr b r o)) 0=some (.ret (.ptr b r (o+0)),[]):=Bt (show Cc Try.prog 56 0 0 1 from⟨_,_,Try.underlying56,rfl,rfl,by kernel_rfl,by decide⟩) b r o
theorem Vn(cs:List AV):fa Try.prog 56 (some (.iptr cs)) 0=if 0+1≤cs.length then some (.ret (.iptr (cs.drop 0)),[])else none:=Tq (show Cc Try.prog 56 0 0 1 from⟨_,_,Try.underlying56,rfl,rfl,by kernel_rfl,by decide⟩) cs
theorem Jt(b r o:Nat):fa Try.prog 59 (some (.ptr b r o)) 0=some (.ret (.ptr b r (o+0)),[]):=Bt (show Cc Try.prog 59 0 0 1 from⟨_,_,Try.underlying59,rfl,rfl,by kernel_rfl,by decide⟩) b r o
theorem Jj(b r o:Nat):fa Try.prog 59 (some (.ptr b r o)) 3=some (.ret (.ptr b r (o+3)),[]):=Bt (show Cc Try.prog 59 3 3 1 from⟨_,_,Try.underlying59,rfl,rfl,by kernel_rfl,by decide⟩) b r o
theorem Jk(b r o:Nat):fa Try.prog 59 (some (.ptr b r o)) 4=some (.ret (.ptr b r (o+4)),[]):=Bt (show Cc Try.prog 59 4 4 1 from⟨_,_,Try.underlying59,rfl,rfl,by kernel_rfl,by decide⟩) b r o
theorem bQ(b r o:Nat):fa Try.prog 56 (some (.ptr b r o)) 1=some (.ret (.ptr b r (o+1)),[]):=Bt (show Cc Try.prog 56 1 1 1 from⟨_,_,Try.underlying56,rfl,rfl,by kernel_rfl,by decide⟩) b r o
theorem dM(cs:List AV):fa Try.prog 56 (some (.iptr cs)) 1=if 1+1≤cs.length then some (.ret (.iptr (cs.drop 1)),[])else none:=Tq (show Cc Try.prog 56 1 1 1 from⟨_,_,Try.underlying56,rfl,rfl,by kernel_rfl,by decide⟩) cs
theorem cY(b r o:Nat):fa Try.prog 90 (some (.ptr b r o)) 0=some (.ret (.ptr b r (o+0)),[]):=Bt (show Cc Try.prog 90 0 0 1 from⟨_,_,Try.underlying90,rfl,rfl,by kernel_rfl,by decide⟩) b r o
theorem Xg(h:Aa)(cs:List AV):ld Try.prog 56 h (some (.iptr cs))=if 2≤cs.length then some (.ret (.agg (cs.take 2)),[])else none:=gG ⟨by kernel_rfl,by kernel_rfl⟩ h cs
theorem nU(h:Aa)(b r o:Nat)(v:AV):sG Try.prog 56 h (some (.ptr b r o)) (some v)=sv 2 (h[b]?) b r o (Ag v):=Xx (by kernel_rfl) h b r o v
theorem Vz(h:Aa)(b r o:Nat):ld Try.prog 126 h (some (.ptr b r o))=qW (Jz (h[b]?) r) o 9:=Wt ⟨by kernel_rfl,by kernel_rfl⟩ h b r o
theorem Iq(b r o:Nat):fa Try.prog 126 (some (.ptr b r o)) 0=some (.ret (.ptr b r (o+0)),[]):=Bt (show Cc Try.prog 126 0 0 5 from⟨_,_,Try.underlying126,rfl,rfl,by kernel_rfl,by decide⟩) b r o
theorem Tz(b r o:Nat):fa Try.prog 126 (some (.ptr b r o)) 1=some (.ret (.ptr b r (o+5)),[]):=Bt (show Cc Try.prog 126 1 5 2 from⟨_,_,Try.underlying126,rfl,rfl,by kernel_rfl,by decide⟩) b r o
theorem Ti(b r o:Nat):fa Try.prog 126 (some (.ptr b r o)) 2=some (.ret (.ptr b r (o+7)),[]):=Bt (show Cc Try.prog 126 2 7 2 from⟨_,_,Try.underlying126,rfl,rfl,by kernel_rfl,by decide⟩) b r o
theorem dF(b r o:Nat):fa Try.prog 90 (some (.ptr b r o)) 1=some (.ret (.ptr b r (o+1)),[]):=Bt (show Cc Try.prog 90 1 1 1 from⟨_,_,Try.underlying90,rfl,rfl,by kernel_rfl,by decide⟩) b r o
def tA:=PLift.up (aaB @Ew (aaB @Ih (aaB @Do (aaB @Eg (aaB @Yn (aaB @Gw @Bd))))))
def Yf:=PLift.up (aaB @Fg (aaB @Gs (aaB @Hv (aaB @Lc (aaB @eF (aaB @Do (aaB @fA (aaB @Eg (aaB @Ic (aaB @Jd (aaB @Is (aaB @Lm (aaB @bT (aaB @eN (aaB @Kx (aaB @Fj (aaB @Gl (aaB @Kt @Pl))))))))))))))))))
def atF:=PLift.up (aaB @Ew (aaB @kR (aaB @Gw (aaB @Bd (aaB @pL (aaB @Yn (aaB @Zn (aaB @Ih (aaB @Do (aaB @jQ (aaB @Jr (aaB @jU (aaB @cP (aaB @bX (aaB @kZ (aaB @Pe @Oj))))))))))))))))
def Ob:=PLift.up (aaB @Fj (aaB @Gl (aaB @Kt (aaB @Qa (aaB @Nk (aaB @Wy (aaB @Xe (aaB @Jn (aaB @Bd (aaB @Ez (aaB @Ju (aaB @Fg (aaB @Gs (aaB @Hv (aaB @Lc (aaB @Nl (aaB @Gw (aaB @Gz (aaB @Vv (aaB @Pl (aaB @Do (aaB @Eg (aaB @Ic (aaB @Jd (aaB @Is (aaB @Hr (aaB @Ew (aaB @Lm @Ni))))))))))))))))))))))))))))
def aGS:=PLift.up (aaB @Ew (aaB @Ih (aaB @Do (aaB @Jr (aaB @Bd @Gz)))))
def Zk:=PLift.up (aaB @Ew (aaB @Ih (aaB @Do (aaB @Ic (aaB @Jd (aaB @Is (aaB @Lm (aaB @Ni (aaB @Jr (aaB @Bd (aaB @Ez @dP)))))))))))
def lT:=PLift.up (aaB @Eg (aaB @Hr (aaB @Ez (aaB @Fj (aaB @Gl @Kt)))))
def jO:=PLift.up (aaB @Fg (aaB @Gs (aaB @Hv (aaB @Ew (aaB @Lc (aaB @Nl (aaB @kY (aaB @Zd @kU))))))))
def Zh:=PLift.up (aaB @Fj (aaB @Gl (aaB @Kt (aaB @Fg (aaB @Gs (aaB @Hv (aaB @Ic (aaB @Jd (aaB @Is (aaB @Gw (aaB @Bd (aaB @Gz (aaB @Vv (aaB @Pl (aaB @Do (aaB @Eg (aaB @Qa (aaB @Nk (aaB @Wy (aaB @Xe (aaB @Jn (aaB @Ju (aaB @Lc (aaB @Nl (aaB @cN (aaB @cF (aaB @Jp (aaB @Jv @Jl))))))))))))))))))))))))))))
def aEF:=PLift.up (aaB @Ew (aaB @Ih (aaB @Do (aaB @Jr (aaB @Bd @Gz)))))
def lW:=PLift.up (aaB @eY (aaB @cP (aaB @Ic (aaB @Jd (aaB @Is (aaB @Lm (aaB @Yt (aaB @Ni (aaB @nC (aaB @oN (aaB @fB (aaB @fC (aaB @Oy (aaB @Bd (aaB @Zn (aaB @bX (aaB @Pe @Oj)))))))))))))))))
def fR:=PLift.up (aaB @Fg (aaB @Gs (aaB @Hv (aaB @Lc (aaB @Xa (aaB @Nl (aaB @cN (aaB @cF (aaB @Jp (aaB @Do (aaB @Eg (aaB @Hr (aaB @Bd (aaB @Ez (aaB @Fj (aaB @Gl (aaB @Qa (aaB @Nk @Jv))))))))))))))))))
def iW:=PLift.up (aaB @Jp (aaB @Do (aaB @Eg (aaB @Hr (aaB @Bd (aaB @Ez (aaB @Jv @Jl)))))))
def Xr:=PLift.up (aaB @Jo (aaB @Ns (aaB @Kx (aaB @Qc (aaB @Vn (aaB @Bd (aaB @Ez (aaB @Fg (aaB @Gs (aaB @Hv (aaB @Jt (aaB @Gw (aaB @Oy (aaB @Jj (aaB @Gz @Jk)))))))))))))))
def pK:=PLift.up (aaB @Jo (aaB @Ns (aaB @Kx (aaB @Qc (aaB @Vn (aaB @Bd (aaB @Ez (aaB @jH (aaB @kC (aaB @dM (aaB @Jt (aaB @Jk @Jj))))))))))))
def lD:=PLift.up (aaB @Eg (aaB @Hr @Ez))
def sA:=PLift.up (aaB @Jp (aaB @Do (aaB @Eg (aaB @Ew (aaB @Xa (aaB @Hr (aaB @Bd (aaB @Ez @Jv))))))))
def aFM:=PLift.up (aaB @Eg (aaB @Fj (aaB @Gl @Kt)))
def aGL:=PLift.up (aaB @Ew @Yt)
def eW:=PLift.up (aaB @Jo (aaB @Ns (aaB @Kx (aaB @Qc (aaB @Xg (aaB @mF (aaB @nU (aaB @Of (aaB @Bd (aaB @Fg (aaB @Gs (aaB @Hv (aaB @Jt (aaB @Gw (aaB @Oy (aaB @Jj (aaB @Gz @Jk)))))))))))))))))
def acL:=PLift.up (aaB @Vz @Vz)
def aGR:=PLift.up (aaB @Wb (aaB @Ue (aaB @Jn (aaB @Bd (aaB @Ju (aaB @Vr @Jl))))))
def aHI:=PLift.up (aaB @Fj (aaB @Gl (aaB @Qa (aaB @Nk (aaB @Wy (aaB @Xe (aaB @Wb (aaB @Ue (aaB @Jn (aaB @Bd (aaB @Ju (aaB @Vr @Jl))))))))))))
def mV:=PLift.up (aaB @Is (aaB @Lm @Ni))
def aF8:=PLift.up (aaB @Of @Bd)
def pA:=PLift.up (aaB @Eg (aaB @Hr @Ez))
def aFR:=PLift.up (aaB @Iq (aaB @Jt (aaB @Bd (aaB @Tz @Pe))))
def aE2:=PLift.up (aaB @Iq (aaB @Jk (aaB @Bd (aaB @Tz @Oj))))
def aGJ:=PLift.up (aaB @Iq (aaB @Jo @Ns))
def aGY:=PLift.up (aaB @Iq (aaB @Jj (aaB @Bd (aaB @Ti @dF))))
def Zg:=PLift.up (aaB @Kx (aaB @Qc @Xg))
def aE3:=PLift.up (aaB @Ti (aaB @cY (aaB @Bd (aaB @Of (aaB @bQ @Ue)))))
end Go.Proofs.Ytfkokgjfpojeoaa
namespace Go.Proofs.Ytfkokgjfpojeoaa
open Go Go.Ev Go.ChangeShapes Go.WideShapes Go.ChangeAt Go.RowKit
set_option maxRecDepth 100000
set_option maxHeartbeats 16000000
def mdL:List Nat:=[96,100,102,83]
def pr:Ey:=⟨fun _=>none,(mdL.contains ·)⟩
noncomputable def Eo:Dq:=om Try.prog pr
def Va:=PLift.up (aaB EE.down EE.down)
def Vc:=PLift.up (aaB EG.down EVu.down)
theorem aGO{C:R→Prop}[qU C]{n:Nat}{k:List Ai}{c:Code}{s:St}(h:Un Eo Try.prog n k c C (Bi Eo Try.prog 5000 c [] s)):C (uU Eo Try.prog n k (Eo.loop c s)):=aiO (pr:=pr) h
theorem own:ownKnob Try.prog.godebug=none:=by kernel_rfl
theorem aHJ:iT Try.prog:=fun f fn hf=>by
 have h:(Try.prog.funcs.toList.all fun fn=> !(fn.name== "runtime.NumGoroutine"))=true:=by kernel_rfl
 have:=List.all_eq_true.1 h fn (by rw[Array.mem_toList_iff];exact Array.mem_of_getElem? hf)
 simpa using this
theorem afR:Try.prog.follows .mixedOrders=true:=by kernel_rfl
theorem uG:laidOutB Try.prog=true:=by kernel_rfl
theorem pT:Eb Try.prog (fun _=>none) Eo:=ahJ aHJ (fun f p h=>by cases h) afR
theorem wL{W:World}{S:Nat→Prop}:Vm (fun _=>none) W S:=fun b o h=>by cases h
theorem aG8{f:Nat}{fn:Func}{c:Code}{args:List AV}{h:Aa}{Q:Dn→Aa→Prop}(hp:pr f=none)(hf:Try.prog.funcs[f]?=some fn)(hb:fn.body=some c)(hl:Nat.ble args.length fn.ntmps=true)
 (he:zV Try.prog h.length fn.results.toList Q (Bi Eo Try.prog 5000 c [] ⟨mk fn.ntmps (Dz args),h⟩)):zU Eo f args h Q:=zU.start (pr:=pr) hp hf hb hl he
theorem ce{f:Nat}{fn:Func}{c:Code}{args:List AV}{h:Aa}{o:Dn}{h':Aa}(hf:Try.prog.funcs[f]?=some fn)(he:zV Try.prog h.length fn.results.toList (fun o1 h1=>(o1,h1)=(o,h')) (Bi Eo Try.prog 5000 c [] ⟨mk fn.ntmps (Dz args),h⟩))(hp:pr f=none:=by exact rfl)(hb:fn.body=some c:=by exact rfl)(hl:Nat.ble args.length fn.ntmps=true:=by exact rfl):Eo.call (.fn f) args h=some (o,h'):=(aG8 hp hf hb hl he).eq
theorem Ve{α σ ρ:Type}{c:Code}(N:Nat)(l:List α)(E:Nat→σ→Tm→Aa→Prop)(F:List α→σ→ρ)(Q:ρ→Ex→Tm→Aa→Prop)
 (stop:∀s t h Q',(∀e t h,Q (F [] s) e t h→Q' e ⟨mk N t,h⟩)→E l.length s t h→iU N (fun _ _=>False) Q' (Bi Eo Try.prog 5000 c [] ⟨mk N t,h⟩))
 (go:∀x rest i s t h J Q',(∀t' h' s',E (i+1) s' t' h'→F rest s'=F (x::rest) s→J t' h')→(∀e t h,Q (F (x::rest) s) e t h→Q' e ⟨mk N t,h⟩)→l[i]?=some x→i<l.length→E i s t h→
   iU N J Q' (Bi Eo Try.prog 5000 c [] ⟨mk N t,h⟩)):
 ∀s t h,E 0 s t h→qV Eo c ⟨mk N t,h⟩ (Ot N (Q (F l s))):=kA (pr:=pr) rfl N l E F Q stop go
def iv(x:Int):List AV:=[.int .i64 x]
theorem Bl{h:Aa}{b:Nat}{c:CB}(h0:h[b]?=some c)(l:Aa):(h++l)[b]?=some c:=by
 rw[List.getElem?_append_left (List.getElem?_eq_some_iff.1 h0).1];exact h0
end Go.Proofs.Ytfkokgjfpojeoaa
namespace Go.Proofs.Ytfkokgjfpojeoaa
open Go.Ev Go
set_option maxRecDepth 100000
set_option maxHeartbeats 16000000
structure Bc where
 lo:Int
 hi:Int
 byp:Bool
def Bc.cells(s:Bc):List AV:=[.int .i64 s.lo,.int .i64 s.hi,.bool s.byp]
structure Am where
 nn:Bool
 sens:List Int
 need:Int
 level:Int
 above:Bool
def Am.cells(v:Am):List AV:=[Ae 1 true v.nn (v.sens.map iv),.int .i64 v.need,.int .i64 v.level,.bool v.above]
structure An where
 vote:Int
 is:Bool
def An.cells(w:An):List AV:=[.int .i64 w.vote,.bool w.is]
structure Ak where
 frm:Int
 to:Int
 nn:Bool
 wants:List An
 cmd:Int
 after:Int
def Ak.cells(x:Ak):List AV:=[.int .i64 x.frm,.int .i64 x.to,Ae 2 true x.nn (x.wants.map An.cells),.int .i64 x.cmd,.int .i64 x.after]
structure Az where
 nS:Bool
 sens:List Bc
 nV:Bool
 votes:List Am
 nM:Bool
 moves:List Ak
 states:Int
 cmds:Int
 bgn:Int
 nO:Bool
 opn:List Int
abbrev Az.cells(m:Az):List AV:=[Ae 3 true m.nS (m.sens.map Bc.cells),Ae 4 false m.nV (m.votes.map Am.cells),Ae 5 false m.nM (m.moves.map Ak.cells),.int .i64 m.states,.int .i64 m.cmds,.int .i64 m.bgn,Ae 1 true m.nO (m.opn.map iv)]
structure Lo where
 nn:Bool
 reads:List Int
 cmd:Int
def Lo.cells(s:Lo):List AV:=[Ae 1 true s.nn (s.reads.map iv),.int .i64 s.cmd]
structure Az.small(m:Az):Prop where
 sens:m.sens.length≤maxLen
 votes:m.votes.length≤maxLen
 moves:m.moves.length≤maxLen
 opn:m.opn.length≤maxLen
 vs:∀v∈m.votes,v.sens.length≤maxLen
 ws:∀x∈m.moves,x.wants.length≤maxLen
def Ls(x lo hi:Int):Bool:=decide (lo≤x)&&decide (x≤hi)
theorem Re(x lo hi:Int):Eo.call (.fn 43) [.int .i64 x,.int .i64 lo,.int .i64 hi] []=some (.ret (.bool (Ls x lo hi)),[]):=by
 (refine ce Try.func43 ?_;simp only[Try.f43];(have hb:=trivial;with_reducible repeat' (first|simp only[hb,Va.down,seval]|refine Aw ?_ ?_<;>intro hb|refine fd ?_|fail)))
 all_goals simp[Ls, *]
theorem Xi(x lo hi:Int):Eo.call (.fn 48) [.int .i64 x,.int .i64 lo,.int .i64 hi] []=some (.ret (.bool (Ls x lo hi)),[]):=by
 (refine ce Try.func48 ?_;simp only[Try.f48];(have hb:=trivial;with_reducible repeat' (first|simp only[hb,Va.down,seval]|refine Aw ?_ ?_<;>intro hb|refine fd ?_|fail)))
 all_goals simp[Ls, *]
def Up(x:Int):Bool:=Ls x (-10000) 10000
theorem aT(x:Int):Eo.call (.fn 69) [.int .i64 x] []=some (.ret (.bool (Up x)),[]):=by
 (refine ce Try.func69 ?_;simp only[Try.f69];(have hb:=trivial;with_reducible repeat' (first|simp only[hb,Va.down,seval,Re]|refine Aw ?_ ?_<;>intro hb|refine fd ?_|fail)))
 all_goals rfl
theorem rF(x:Int):Eo.call (.fn 82) [.int .i64 x] []=some (.ret (.bool (!Up x)),[]):=by
 (refine ce Try.func82 ?_;simp only[Try.f82];(have hb:=trivial;with_reducible repeat' (first|simp only[hb,Va.down,seval,aT]|refine Aw ?_ ?_<;>intro hb|refine fd ?_|fail)))
theorem mY(x:Int):Eo.call (.fn 74) [.int .i64 x] []=some (.ret (.bool (!Ls x 0 255)),[]):=by
 (refine ce Try.func74 ?_;simp only[Try.f74];(have hb:=trivial;with_reducible repeat' (first|simp only[hb,Va.down,seval,Re]|refine Aw ?_ ?_<;>intro hb|refine fd ?_|fail)))
def Vh(s:Bc)(v:Am)(r:Int):Bool:= !s.byp&&(!Ls r s.lo s.hi||(if v.above=true then decide (v.level≤r)else decide (r≤v.level)))
theorem wW(s:Bc)(v:Am)(r:Int):Eo.call (.fn 76) [.agg [.int .i64 s.lo,.int .i64 s.hi,.bool s.byp],.agg [Ae 1 true v.nn (v.sens.map iv),.int .i64 v.need,.int .i64 v.level,.bool v.above],.int .i64 r] []=some (.ret (.bool (Vh s v r)),[]):=by
 (refine ce Try.func76 ?_;simp only[Try.f76];(have hb:=trivial;with_reducible repeat' (first|simp only[hb,Va.down,seval,aGR.down,Re]|refine Aw ?_ ?_<;>intro hb|refine fd ?_|fail)))
 all_goals simp_all[Vh]
def aQ{α:Type}(p:α→Bool):List α→Int→Int
 | [],_=> -1
 |x::l,i=>if p x=true then i else aQ p l (i+1)
theorem Tj{α:Type}(p:α→Bool):∀(l:List α) (i:Int),0≤i→decide (0≤aQ p l i)=l.any p
 | [],i,_=>rfl
 |x::l,i,h=>by
  unfold aQ
  split
  ·rename_i hp;simp[h,hp]
  ·rename_i hp;rw[Tj p l (i+1) (by omega)];simp[hp]
theorem mP{l:List Int}{nn:Bool}{g:Nat}{cap:List AV}{p:Int→Bool}(hc:cap.all (Ap 8)=true)(hc7:cap.all (Ap 7)=true)(hp:∀x∈l,Eo.call (.fn g) (.int .i64 x::cap) []=some (.ret (.bool (p x)),[]))(hl:l.length≤maxLen):
 Eo.call (.fn 91) [Ae 1 true nn (l.map iv),.func (.func g) [] cap] []=some (.ret (.int .i64 (aQ p l 0)),[]):=by
 (refine ce Try.func91 ?_;simp only[Try.f91];(have hb:=trivial;with_reducible repeat' (first|simp only[hb,Va.down,seval,pA.down,aaC]|refine Aw ?_ ?_<;>intro hb|refine fd ?_|fail)))
 refine Ek (Ve 19 l (fun i (s:Int) t h=>s=i∧h=[]∧t 0=Ae 1 true nn (l.map iv)∧t 1=.func (.func g) [] cap∧t 7=.int .i64 l.length∧t 8=.int .i64 i)
  (fun rest s=>aQ p rest s) (fun r e t h=>h=[]∧((e=.exit 0∧r= -1)∨(e=.ret∧t 4=.int .i64 r))) ?_ ?_ 0 _ _ ?_) (fun e t h hk=>?_)
 ·rintro s t h Q' kQ ⟨rfl,rfl,h0,h1,h7,h8⟩
  (have hb:=trivial;with_reducible repeat' (first|simp only[hb,Va.down,seval,pA.down,h0,h1,h7,h8,aaD,decide_false]|refine Aw ?_ ?_<;>intro hb|refine fd ?_|fail))
  exact kQ _ _ _ ⟨rfl,.inl ⟨rfl,rfl⟩⟩
 ·rintro x rest i s t h J Q' kJ kQ hx hi ⟨rfl,rfl,h0,h1,h7,h8⟩
  have hpx:=hp x (acY hx)
  have hd:decide ((i:Int)<(l.length:Int))=true:=by simpa using hi
  (have hb:=trivial;with_reducible repeat' (first|simp only[hb,Va.down,seval,pA.down,h0,h1,h7,h8,hd,hx,iv,hc,hc7,hpx,Ar hi hl]|refine Aw ?_ ?_<;>intro hb|refine fd ?_|fail))
  ·exact kQ _ _ _ ⟨rfl,.inr ⟨rfl,by simp[up,aQ,hb]⟩⟩
  ·exact Bw (kJ _ _ (i+1) ⟨by simp,rfl,by simp[up,h0],by simp[up,h1],by simp[up,h7],by simp[up]⟩ (by simp[aQ,hb]))
 ·exact⟨rfl,rfl,by simp[up,Dz],by simp[up,Dz],by simp[up],by simp[up]⟩
 ·obtain⟨rfl,⟨rfl,hi⟩|⟨rfl,hi⟩⟩:=hk
  ·(have hb:=trivial;with_reducible repeat' (first|simp only[hb,Va.down,seval,pA.down]|refine Aw ?_ ?_<;>intro hb|refine fd ?_|fail))
   rw[hi]
  ·(have hb:=trivial;with_reducible repeat' (first|simp only[hb,Va.down,seval,pA.down,hi]|refine Aw ?_ ?_<;>intro hb|refine fd ?_|fail))
theorem aL{l:List Int}{nn:Bool}{g:Nat}{cap:List AV}{p:Int→Bool}(hc:cap.all (Ap 8)=true)(hc7:cap.all (Ap 7)=true)(hp:∀x∈l,Eo.call (.fn g) (.int .i64 x::cap) []=some (.ret (.bool (p x)),[]))(hl:l.length≤maxLen):
 Eo.call (.fn 73) [Ae 1 true nn (l.map iv),.func (.func g) [] cap] []=some (.ret (.bool (l.any p)),[]):=by
 (refine ce Try.func73 ?_;simp only[Try.f73];(have hb:=trivial;with_reducible repeat' (first|simp only[hb,Va.down,seval,mP hc hc7 hp hl,hc,hc7,Tj p l 0 (acA 0)]|refine Aw ?_ ?_<;>intro hb|refine fd ?_|fail)))
def Nj(b:Int):List Int→Option Int→Bool
 | [],_=>true
 |n::l,p=>Ls n 0 (IntKind.i64.wrap (b-1))&&(match p with|none=>true|some q=> !decide (n≤q))&&Nj b l (some n)
theorem bD{l:List Int}{nn:Bool}(b:Int)(hl:l.length≤maxLen):Eo.call (.fn 53) [Ae 1 true nn (l.map iv),.int .i64 b] []=some (.ret (.bool (Nj b l none)),[]):=by
 (refine ce Try.func53 ?_;simp only[Try.f53];(have hb:=trivial;with_reducible repeat' (first|simp only[hb,Va.down,seval,lD.down,aaC]|refine Aw ?_ ?_<;>intro hb|refine fd ?_|fail)))
 refine Ek (Ve 33 l (fun i (s:Option Int) t h=>(i=0∧s=none∨0<i∧s=l[i-1]?)∧t 0=Ae 1 true nn (l.map iv)∧t 1=.int .i64 b∧t 7=Ae 1 true nn (l.map iv)∧t 8=.int .i64 l.length∧t 9=.int .i64 i)
  (fun rest s=>Nj b rest s) (fun r e t h=>if r=true then e=.exit 0 else e=.ret∧t 4=.bool false) ?_ ?_ none _ _ ?_) (fun e t h hk=>?_)
 ·rintro s t h Q' kQ ⟨hs,h0,h1,h7,h8,h9⟩
  (have hb:=trivial;with_reducible repeat' (first|simp only[hb,Va.down,seval,lD.down,h0,h1,h7,h8,h9,aaD,decide_false]|refine Aw ?_ ?_<;>intro hb|refine fd ?_|fail))
  exact kQ _ _ _ (by simp[Nj])
 ·rintro x rest i s t h J Q' kJ kQ hx hi ⟨hs,h0,h1,h7,h8,h9⟩
  have hd:decide ((i:Int)<(l.length:Int))=true:=by simpa using hi
  have kF:∀{p:Option Int},(Ls x 0 (IntKind.i64.wrap (b-1))&&(match p with|none=>true|some q=> !decide (x≤q)))=false→Nj b (x::rest) p=false:=fun h=>by simp[Nj,h]
  have kT:∀{p:Option Int},(Ls x 0 (IntKind.i64.wrap (b-1))&&(match p with|none=>true|some q=> !decide (x≤q)))=true→Nj b rest (some x)=Nj b (x::rest) p:=fun h=>by simp[Nj,h]
  have hw:=Ar hi hl
  rcases hs with⟨rfl,rfl⟩|⟨hpos,rfl⟩
  ·simp only[ap2,Int.zero_add]at hd h9 hw
   (have hb:=trivial;with_reducible repeat' (first|simp only[hb,Va.down,seval,lD.down,h0,h1,h7,h8,h9,hd,hx,iv,Re,hw,Int.toNat_zero,acA,aaD,decide_false]|refine Aw ?_ ?_<;>intro hb|refine fd ?_|fail))
   all_goals first
    |exact kQ _ _ _ (by rw[if_neg (by rw[kF (by simp_all)];simp)];exact⟨rfl,rfl⟩)
    |exact Bw (kJ _ _ (some x) ⟨.inr ⟨by omega,by simp[hx]⟩,by simp[up,h0],by simp[up,h1],by simp[up,h7],by simp[up,h8],by simp[up]<;>omega⟩ (kT (by simp_all)))
  ·obtain⟨j,rfl⟩:∃j,i=j+1:=⟨i-1,by omega⟩
   obtain⟨q,hq⟩:∃q,l[j]?=some q:=⟨l[j],arZ (by omega)⟩
   have hj:IntKind.i64.wrap (((j+1:Nat):Int)-1)=(j:Int):=by unfold maxLen at hl;rw[Ly (by omega) (by omega)];omega
   have hg:decide (0<((j+1:Nat):Int))=true:=by rw[decide_eq_true_eq];omega
   simp only[aAO,hq]at kJ kQ
   (have hb:=trivial;with_reducible repeat' (first|simp only[hb,Va.down,seval,lD.down,h0,h1,h7,h8,h9,hd,hx,iv,Re,hw,hj,hg,hq]|refine Aw ?_ ?_<;>intro hb|refine fd ?_|fail))
   all_goals first
    |exact kQ _ _ _ (by rw[if_neg (by rw[kF (by simp_all)];simp)];exact⟨rfl,rfl⟩)
    |exact Bw (kJ _ _ (some x) ⟨.inr ⟨by omega,by simp[hx]⟩,by simp[up,h0],by simp[up,h1],by simp[up,h7],by simp[up,h8],by simp[up]<;>omega⟩ (kT (by simp_all)))
 ·exact⟨.inl ⟨rfl,rfl⟩,by simp[up,Dz],by simp[up,Dz],by simp[up,Dz],by simp[up],by simp[up]⟩
 ·split at hk
  ·subst hk
   rename_i hr
   (have hb:=trivial;with_reducible repeat' (first|simp only[hb,Va.down,seval,lD.down]|refine Aw ?_ ?_<;>intro hb|refine fd ?_|fail))
   all_goals simp[hr]
  ·obtain⟨rfl,h2⟩:=hk
   rename_i hr
   (have hb:=trivial;with_reducible repeat' (first|simp only[hb,Va.down,seval,lD.down,h2]|refine Aw ?_ ?_<;>intro hb|refine fd ?_|fail))
   all_goals simp[hr]
def Ry(ns:Int)(v:Am):Bool:=Nj ns v.sens none&&Ls v.need 1 v.sens.length&&Up v.level
theorem xQ(v:Am)(ns:Int)(hl:v.sens.length≤maxLen):Eo.call (.fn 47) [.agg [Ae 1 true v.nn (v.sens.map iv),.int .i64 v.need,.int .i64 v.level,.bool v.above],.int .i64 ns] []=some (.ret (.bool (Ry ns v)),[]):=by
 (refine ce Try.func47 ?_;simp only[Try.f47];(have hb:=trivial;with_reducible repeat' (first|simp only[hb,Va.down,seval,iW.down,aaC]|refine Aw ?_ ?_<;>intro hb|refine fd ?_|fail)))
 refine Ek (Ve 51 v.sens (fun i (s:Option Int) t h=>(i=0∧s=none∨0<i∧s=v.sens[i-1]?)∧h[0]?=some (.live 4 false false [[Ae 1 true v.nn (v.sens.map iv),.int .i64 v.need,.int .i64 v.level,.bool v.above]])∧t 1=.int .i64 ns∧t 2=.ptr 0 0 0∧t 5=.int .i64 i)
  (fun rest s=>Nj ns rest s) (fun r e t h=>if r=true then e=.exit 0∧h[0]?=some (.live 4 false false [[Ae 1 true v.nn (v.sens.map iv),.int .i64 v.need,.int .i64 v.level,.bool v.above]])∧t 2=.ptr 0 0 0 else e=.ret∧t 4=.bool false) ?_ ?_ none _ _ ?_) (fun e t h hk=>?_)
 ·rintro s t h Q' kQ ⟨hs,hh,h1,h2,h5⟩
  (have hb:=trivial;with_reducible repeat' (first|simp only[hb,Va.down,seval,iW.down,hh,h1,h2,h5,aaC,aaD,decide_false]|refine Aw ?_ ?_<;>intro hb|refine fd ?_|fail))
  exact kQ _ _ _ (by simp[Nj,up,h2,hh])
 ·rintro x rest i s t h J Q' kJ kQ hx hi ⟨hs,hh,h1,h2,h5⟩
  have hd:decide ((i:Int)<(v.sens.length:Int))=true:=by simpa using hi
  have hA:=Bl hh
  have kF:∀{p:Option Int},(Ls x 0 (IntKind.i64.wrap (ns-1))&&(match p with|none=>true|some q=> !decide (x≤q)))=false→Nj ns (x::rest) p=false:=fun h=>by simp[Nj,h]
  have kT:∀{p:Option Int},(Ls x 0 (IntKind.i64.wrap (ns-1))&&(match p with|none=>true|some q=> !decide (x≤q)))=true→Nj ns rest (some x)=Nj ns (x::rest) p:=fun h=>by simp[Nj,h]
  have hw:=Ar hi hl
  rcases hs with⟨rfl,rfl⟩|⟨hpos,rfl⟩
  ·simp only[ap2,Int.zero_add]at hd h5 hw
   (have hb:=trivial;with_reducible repeat' (first|simp only[hb,Va.down,seval,iW.down,hA,hh,h1,h2,h5,hd,hx,aaC,iv,Xi,hw,Int.toNat_zero,acA,aaD,decide_false]|refine Aw ?_ ?_<;>intro hb|refine fd ?_|fail))
   all_goals first
    |exact kQ _ _ _ (by rw[if_neg (by rw[kF (by simp_all)];simp)];exact⟨rfl,rfl⟩)
    |exact Bw (kJ _ _ (some x) ⟨.inr ⟨by omega,by simp[hx]⟩,by simp[hh],by simp[up,h1],by simp[up,h2],by simp[up]<;>omega⟩ (kT (by simp_all)))
  ·obtain⟨j,rfl⟩:∃j,i=j+1:=⟨i-1,by omega⟩
   obtain⟨q,hq⟩:∃q,v.sens[j]?=some q:=⟨v.sens[j],arZ (by omega)⟩
   have hj:IntKind.i64.wrap (((j+1:Nat):Int)-1)=(j:Int):=by unfold maxLen at hl;rw[Ly (by omega) (by omega)];omega
   have hg:decide (0<((j+1:Nat):Int))=true:=by rw[decide_eq_true_eq];omega
   simp only[aAO,hq]at kJ kQ
   (have hb:=trivial;with_reducible repeat' (first|simp only[hb,Va.down,seval,iW.down,hA,hh,h1,h2,h5,hd,hx,aaC,iv,Xi,hw,hj,hg,hq]|refine Aw ?_ ?_<;>intro hb|refine fd ?_|fail))
   all_goals first
    |exact kQ _ _ _ (by rw[if_neg (by rw[kF (by simp_all)];simp)];exact⟨rfl,rfl⟩)
    |exact Bw (kJ _ _ (some x) ⟨.inr ⟨by omega,by simp[hx]⟩,by simp[hh],by simp[up,h1],by simp[up,h2],by simp[up]<;>omega⟩ (kT (by simp_all)))
 ·exact⟨.inl ⟨rfl,rfl⟩,rfl,by simp[up,Dz],by simp[up],by simp[up]⟩
 ·split at hk
  ·obtain⟨rfl,hh,h2⟩:=hk
   have hA:=Bl hh
   rename_i hr
   (have hb:=trivial;with_reducible repeat' (first|simp only[hb,Va.down,seval,iW.down,hA,hh,h2,aaC,Xi]|refine Aw ?_ ?_<;>intro hb|refine fd ?_|fail))
   all_goals simp_all[Ry,Up]
  ·obtain⟨rfl,h2⟩:=hk
   rename_i hr
   (have hb:=trivial;with_reducible repeat' (first|simp only[hb,Va.down,seval,iW.down,h2]|refine Aw ?_ ?_<;>intro hb|refine fd ?_|fail))
   all_goals simp[Ry,hr]
theorem tX(o w:An):Eo.call (.fn 90) [.agg [.int .i64 o.vote,.bool o.is],.ptr 0 0 0] [.live 2 true false [[.int .i64 w.vote,.bool w.is]]]=some (.ret (.bool (o.vote==w.vote)),[.live 2 true false [[.int .i64 w.vote,.bool w.is]]]):=by
 (refine ce Try.func90 ?_;simp only[Try.f90];(have hb:=trivial;with_reducible repeat' (first|simp only[hb,Vc.down,seval,aF8.down]|refine Aw ?_ ?_<;>intro hb|refine fd ?_|fail)))
theorem kB{l:List An}{nn:Bool}{g:Nat}{ww:An}{p:An→Bool}(hp:∀x∈l,Eo.call (.fn g) (.agg [.int .i64 x.vote,.bool x.is]::[.ptr 0 0 0]) [.live 2 true false [[.int .i64 ww.vote,.bool ww.is]]]=some (.ret (.bool (p x)),[.live 2 true false [[.int .i64 ww.vote,.bool ww.is]]]))(hl:l.length≤maxLen):
 Eo.call (.fn 98) [Ae 2 true nn (l.map An.cells),.func (.func g) [] [.ptr 0 0 0]] [.live 2 true false [[.int .i64 ww.vote,.bool ww.is]]]=some (.ret (.int .i64 (aQ p l 0)),[.live 2 true false [[.int .i64 ww.vote,.bool ww.is]]]):=by
 (refine ce Try.func98 ?_;simp only[Try.f98];(have hb:=trivial;with_reducible repeat' (first|simp only[hb,Vc.down,seval,Zg.down,aaC]|refine Aw ?_ ?_<;>intro hb|refine fd ?_|fail)))
 refine Ek (Ve 19 l (fun i (s:Int) t h=>s=i∧h=[.live 2 true false [[.int .i64 ww.vote,.bool ww.is]]]∧t 0=Ae 2 true nn (l.map An.cells)∧t 1=.func (.func g) [] [.ptr 0 0 0]∧t 7=.int .i64 l.length∧t 8=.int .i64 i)
  (fun rest s=>aQ p rest s) (fun r e t h=>h=[.live 2 true false [[.int .i64 ww.vote,.bool ww.is]]]∧((e=.exit 0∧r= -1)∨(e=.ret∧t 4=.int .i64 r))) ?_ ?_ 0 _ _ ?_) (fun e t h hk=>?_)
 ·rintro s t h Q' kQ ⟨rfl,rfl,h0,h1,h7,h8⟩
  (have hb:=trivial;with_reducible repeat' (first|simp only[hb,Vc.down,seval,Zg.down,h0,h1,h7,h8,aaD,decide_false]|refine Aw ?_ ?_<;>intro hb|refine fd ?_|fail))
  exact kQ _ _ _ ⟨rfl,.inl ⟨rfl,rfl⟩⟩
 ·rintro x rest i s t h J Q' kJ kQ hx hi ⟨rfl,rfl,h0,h1,h7,h8⟩
  have hpx:=hp x (acY hx)
  have hd:decide ((i:Int)<(l.length:Int))=true:=by simpa using hi
  (have hb:=trivial;with_reducible repeat' (first|simp only[hb,Vc.down,seval,Zg.down,h0,h1,h7,h8,hd,hx,An.cells,hpx,Ar hi hl]|refine Aw ?_ ?_<;>intro hb|refine fd ?_|fail))
  ·exact kQ _ _ _ ⟨rfl,.inr ⟨rfl,by simp[up,aQ,hb]⟩⟩
  ·exact Bw (kJ _ _ (i+1) ⟨by simp,rfl,by simp[up,h0],by simp[up,h1],by simp[up,h7],by simp[up]⟩ (by simp[aQ,hb]))
 ·exact⟨rfl,rfl,by simp[up,Dz],by simp[up,Dz],by simp[up],by simp[up]⟩
 ·obtain⟨rfl,⟨rfl,hi⟩|⟨rfl,hi⟩⟩:=hk
  ·(have hb:=trivial;with_reducible repeat' (first|simp only[hb,Vc.down,seval,Zg.down]|refine Aw ?_ ?_<;>intro hb|refine fd ?_|fail))
   rw[hi]
  ·(have hb:=trivial;with_reducible repeat' (first|simp only[hb,Vc.down,seval,Zg.down,hi]|refine Aw ?_ ?_<;>intro hb|refine fd ?_|fail))
theorem fS{l:List An}{nn:Bool}{g:Nat}{ww:An}{p:An→Bool}(hp:∀x∈l,Eo.call (.fn g) (.agg [.int .i64 x.vote,.bool x.is]::[.ptr 0 0 0]) [.live 2 true false [[.int .i64 ww.vote,.bool ww.is]]]=some (.ret (.bool (p x)),[.live 2 true false [[.int .i64 ww.vote,.bool ww.is]]]))(hl:l.length≤maxLen):
 Eo.call (.fn 89) [Ae 2 true nn (l.map An.cells),.func (.func g) [] [.ptr 0 0 0]] [.live 2 true false [[.int .i64 ww.vote,.bool ww.is]]]=some (.ret (.bool (l.any p)),[.live 2 true false [[.int .i64 ww.vote,.bool ww.is]]]):=by
 (refine ce Try.func89 ?_;simp only[Try.f89];(have hb:=trivial;with_reducible repeat' (first|simp only[hb,Vc.down,seval,kB hp hl,Tj p l 0 (acA 0)]|refine Aw ?_ ?_<;>intro hb|refine fd ?_|fail)))
def Ij(nv:Int):List An→List An→Bool
 |_,[]=>true
 |pre,w::l=>Ls w.vote 0 (IntKind.i64.wrap (nv-1))&& !(pre.any fun o=>o.vote==w.vote)&&Ij nv (pre++[w]) l
def Ku(m:Az)(x:Ak):Bool:=Ij m.votes.length [] x.wants&&Ls x.frm 0 (IntKind.i64.wrap (m.states-1))&&Ls x.to 0 (IntKind.i64.wrap (m.states-1))&&decide (x.wants.length≤6)&&Ls x.cmd (-1) (IntKind.i64.wrap (m.cmds-1))&&Ls x.after 0 10
theorem wJ(m:Az)(y:Ak)(hl:y.wants.length≤maxLen):Eo.call (.fn 72) [.agg [Ae 3 true m.nS (m.sens.map Bc.cells),Ae 4 false m.nV (m.votes.map Am.cells),Ae 5 false m.nM (m.moves.map Ak.cells),.int .i64 m.states,.int .i64 m.cmds,.int .i64 m.bgn,Ae 1 true m.nO (m.opn.map iv)],.agg [.int .i64 y.frm,.int .i64 y.to,Ae 2 true y.nn (y.wants.map An.cells),.int .i64 y.cmd,.int .i64 y.after]] []=some (.ret (.bool (Ku m y)),[]):=by
 have l6:decide ((y.wants.length:Int)≤6)=decide (y.wants.length≤6):=by rw[decide_eq_decide];omega
 (refine ce Try.func72 ?_;simp only[Try.f72];(have hb:=trivial;with_reducible repeat' (first|simp only[hb,Vc.down,seval,eW.down,aaC]|refine Aw ?_ ?_<;>intro hb|refine fd ?_|fail)))
 refine Ek (Ve 65 y.wants (fun i (zz:List An) t h=>t 2=.ptr 0 0 0∧t 3=.ptr 1 0 0∧t 8=Ae 2 true y.nn (y.wants.map An.cells)∧t 9=.int .i64 y.wants.length∧t 10=.int .i64 i∧(h[0]?=some (.live 7 false false [[Ae 3 true m.nS (m.sens.map Bc.cells),Ae 4 false m.nV (m.votes.map Am.cells),Ae 5 false m.nM (m.moves.map Ak.cells),.int .i64 m.states,.int .i64 m.cmds,.int .i64 m.bgn,Ae 1 true m.nO (m.opn.map iv)]])∧h[1]?=some (.live 5 false false [[.int .i64 y.frm,.int .i64 y.to,Ae 2 true y.nn (y.wants.map An.cells),.int .i64 y.cmd,.int .i64 y.after]])∧zz=y.wants.take i)) (fun rest zz=>Ij m.votes.length zz rest) (fun r e t h=>(if r=true then e=.exit 0∧t 2=.ptr 0 0 0∧t 3=.ptr 1 0 0∧h[0]?=some (.live 7 false false [[Ae 3 true m.nS (m.sens.map Bc.cells),Ae 4 false m.nV (m.votes.map Am.cells),Ae 5 false m.nM (m.moves.map Ak.cells),.int .i64 m.states,.int .i64 m.cmds,.int .i64 m.bgn,Ae 1 true m.nO (m.opn.map iv)]])∧h[1]?=some (.live 5 false false [[.int .i64 y.frm,.int .i64 y.to,Ae 2 true y.nn (y.wants.map An.cells),.int .i64 y.cmd,.int .i64 y.after]])else e=.ret∧t 4=.bool false)) ?_ ?_ ([]) _ _ ?_) (fun e t h hk=>?_)
 ·rintro p t h Q' kQ ⟨h2,h3,h8,h9,h10,⟨hA,hB,hp⟩⟩
  (have hb:=trivial;with_reducible repeat' (first|simp only[hb,Vc.down,seval,eW.down,h2,h3,h8,h9,h10,aaD,decide_false]|refine Aw ?_ ?_<;>intro hb|refine fd ?_|fail))
  exact kQ _ _ _ (by rw[if_pos (by rfl)];exact⟨rfl,by simp[up,h2],by simp[up,h3],hA,hB⟩)
 ·rintro x rest i p t h J Q' kJ kQ hx hi ⟨h2,h3,h8,h9,h10,⟨hA,hB,hp⟩⟩
  have hd:decide ((i:Int)<(y.wants.length:Int))=true:=decide_eq_true (by omega)
  have hw:=Ar hi hl
  have hA1:=Bl hA
  have hB1:=Bl hB
  have hcW:=fS (l:=y.wants.take i) (nn:=true) (ww:=x) (g:=90) (p:=fun o=>o.vote==x.vote) (fun o _=>tX o x) (by simp;omega)
  have hsl:=xG (P:=Try.prog) (ty:=57) (n:=2) ⟨_,Try.underlying57,by kernel_rfl⟩ true y.nn (rows:=y.wants.map An.cells) (i:=i) (by simpa using hi)
  rw[dE,List.map_take]at hcW
  subst hp
  cases c1:Ls x.vote 0 (IntKind.i64.wrap ((m.votes.length:Int)-1))with
  |false=>
   (have hb:=trivial;with_reducible repeat' (first|simp only[hb,Vc.down,seval,eW.down,h2,h3,h8,h9,h10,hd,hx,hw,hA1,hB1,Re,An.cells,aaC,hcW,hsl,c1]|refine Aw ?_ ?_<;>intro hb|refine fd ?_|fail))
   exact kQ _ _ _ (by rw[if_neg (by simp[Ij,c1])];exact⟨rfl,by simp[up]⟩)
  |true=>
   cases c2:(y.wants.take i).any (fun o=>o.vote==x.vote)with
   |true=>
    rw[c2]at hcW
    (have hb:=trivial;with_reducible repeat' (first|simp only[hb,Vc.down,seval,eW.down,h2,h3,h8,h9,h10,hd,hx,hw,hA1,hB1,Re,An.cells,aaC,hcW,hsl,c1]|refine Aw ?_ ?_<;>intro hb|refine fd ?_|fail))
    exact kQ _ _ _ (by rw[if_neg (by simp only[Ij,c1,c2,aaE,agS,acJ];simp)];exact⟨rfl,by simp[up]⟩)
   |false=>
    rw[c2]at hcW
    (have hb:=trivial;with_reducible repeat' (first|simp only[hb,Vc.down,seval,eW.down,h2,h3,h8,h9,h10,hd,hx,hw,hA1,hB1,Re,An.cells,aaC,hcW,hsl,c1]|refine Aw ?_ ?_<;>intro hb|refine fd ?_|fail))
    (refine Bw (kJ _ _ (y.wants.take i++[x]) ⟨?_,?_,?_,?_,?_,⟨hA1 _,hB1 _,by rw[aAP,hx];rfl⟩⟩ ?_);(simp[up,h2]);(simp[up,h3]);(simp[up,h8]);(simp[up,h9]);(simp[up]);(simp only[Ij,c1,c2,aaG,afO,aaY]))
 ·exact⟨by simp[up,Dz],by simp[up,Dz],by simp[up,Dz],by simp[up,Dz],by simp[up],⟨rfl,rfl,rfl⟩⟩
 ·split at hk
  ·obtain⟨rfl,h2,h3,hA,hB⟩:=hk
   rename_i hr
   have hA1:=Bl hA
   have hB1:=Bl hB
   (have hb:=trivial;with_reducible repeat' (first|simp only[hb,Vc.down,seval,eW.down,h2,h3,hA,hB,hA1,hB1,Re,aaC,l6]|refine Aw ?_ ?_<;>intro hb|refine fd ?_|fail))
   all_goals (refine congrArg (fun b=>(Dn.ret (AV.bool b),([]:Aa))) ?_;symm;((try simp only[aAT,aaE,aaG]at *);simp only[Ku, *,agS,acJ,afO,aaY,Bool.and_self,Bool.not_not,aaE,aaG,List.all_cons,List.all_nil]))
  ·obtain⟨rfl,h4⟩:=hk
   rename_i hr
   (have hb:=trivial;with_reducible repeat' (first|simp only[hb,Vc.down,seval,eW.down,h4]|refine Aw ?_ ?_<;>intro hb|refine fd ?_|fail))
   all_goals simp_all[Ku]
def jM(w:An):List An→Bool
 | []=>true
 |o::l=> !(o.vote==w.vote)&&jM w l
theorem aW(w:An):∀l,jM w l= !(l.any fun o=>o.vote==w.vote)
 | []=>rfl
 |o::l=>by simp[jM,aW w l]
theorem xU(m:Az)(y:Ak)(hl:y.wants.length≤maxLen):Eo.call (.fn 49) [.agg [Ae 3 true m.nS (m.sens.map Bc.cells),Ae 4 false m.nV (m.votes.map Am.cells),Ae 5 false m.nM (m.moves.map Ak.cells),.int .i64 m.states,.int .i64 m.cmds,.int .i64 m.bgn,Ae 1 true m.nO (m.opn.map iv)],.agg [.int .i64 y.frm,.int .i64 y.to,Ae 2 true y.nn (y.wants.map An.cells),.int .i64 y.cmd,.int .i64 y.after]] []=some (.ret (.bool (Ku m y)),[]):=by
 have l6:decide ((y.wants.length:Int)≤6)=decide (y.wants.length≤6):=by rw[decide_eq_decide];omega
 (refine ce Try.func49 ?_;simp only[Try.f49];(have hb:=trivial;with_reducible repeat' (first|simp only[hb,Vc.down,seval,Xr.down,aaC]|refine Aw ?_ ?_<;>intro hb|refine fd ?_|fail)))
 refine Ek (Ve 77 y.wants (fun i (zz:List An) t h=>t 2=.ptr 0 0 0∧t 3=.ptr 1 0 0∧t 5=.int .i64 i∧(h=[.live 7 false false [[Ae 3 true m.nS (m.sens.map Bc.cells),Ae 4 false m.nV (m.votes.map Am.cells),Ae 5 false m.nM (m.moves.map Ak.cells),.int .i64 m.states,.int .i64 m.cmds,.int .i64 m.bgn,Ae 1 true m.nO (m.opn.map iv)]],.live 5 false false [[.int .i64 y.frm,.int .i64 y.to,Ae 2 true y.nn (y.wants.map An.cells),.int .i64 y.cmd,.int .i64 y.after]]]∧zz=y.wants.take i)) (fun rest zz=>Ij m.votes.length zz rest) (fun r e t h=>(if r=true then e=.exit 0∧t 2=.ptr 0 0 0∧t 3=.ptr 1 0 0∧h=[.live 7 false false [[Ae 3 true m.nS (m.sens.map Bc.cells),Ae 4 false m.nV (m.votes.map Am.cells),Ae 5 false m.nM (m.moves.map Ak.cells),.int .i64 m.states,.int .i64 m.cmds,.int .i64 m.bgn,Ae 1 true m.nO (m.opn.map iv)]],.live 5 false false [[.int .i64 y.frm,.int .i64 y.to,Ae 2 true y.nn (y.wants.map An.cells),.int .i64 y.cmd,.int .i64 y.after]]]else e=.ret∧t 4=.bool false)) ?_ ?_ ([]) _ _ ?_) (fun e t h hk=>?_)
 ·rintro p t h Q' kQ ⟨h2,h3,h5,⟨rfl,hp⟩⟩
  (have hb:=trivial;with_reducible repeat' (first|simp only[hb,Vc.down,seval,Xr.down,h2,h3,h5,aaD,decide_false,aaC]|refine Aw ?_ ?_<;>intro hb|refine fd ?_|fail))
  exact kQ _ _ _ (by rw[if_pos (by rfl)];exact⟨rfl,by simp[up,h2],by simp[up,h3],rfl⟩)
 ·rintro x rest i p t h J Q' kJ kQ hx hi ⟨h2,h3,h5,⟨rfl,hp⟩⟩
  have hd:decide ((i:Int)<(y.wants.length:Int))=true:=decide_eq_true (by omega)
  have hw:=Ar hi hl
  subst hp
  cases c1:Ls x.vote 0 (IntKind.i64.wrap ((m.votes.length:Int)-1))with
  |false=>
   (have hb:=trivial;with_reducible repeat' (first|simp only[hb,Vc.down,seval,Xr.down,h2,h3,h5,hd,hx,hw,Xi,c1,An.cells,aaC]|refine Aw ?_ ?_<;>intro hb|refine fd ?_|fail))
   exact kQ _ _ _ (by rw[if_neg (by simp[Ij,c1])];exact⟨rfl,by simp[up]⟩)
  |true=>
   obtain⟨w,rfl⟩:∃w,w=x:=⟨_,rfl⟩
   obtain⟨k,rfl⟩:∃k,k=i:=⟨_,rfl⟩
   have hlen:(y.wants.take k).length=k:=by simp;omega
   have hxk:=hx
   (have hb:=trivial;with_reducible repeat' (first|simp only[hb,Vc.down,seval,Xr.down,h2,h3,h5,hd,hx,hw,Xi,c1,An.cells,aaC]|refine Aw ?_ ?_<;>intro hb|refine fd ?_|fail))
   refine Ek (Ve 77 (y.wants.take k) (fun i (zz:Unit) t h=>t 2=.ptr 0 0 0∧t 3=.ptr 1 0 0∧t 5=.int .i64 (k:Int)∧t 6=.int .i64 i∧h=[.live 7 false false [[Ae 3 true m.nS (m.sens.map Bc.cells),Ae 4 false m.nV (m.votes.map Am.cells),Ae 5 false m.nM (m.moves.map Ak.cells),.int .i64 m.states,.int .i64 m.cmds,.int .i64 m.bgn,Ae 1 true m.nO (m.opn.map iv)]],.live 5 false false [[.int .i64 y.frm,.int .i64 y.to,Ae 2 true y.nn (y.wants.map An.cells),.int .i64 y.cmd,.int .i64 y.after]]]) (fun rest zz=>jM w rest) (fun r e t h=>(if r=true then e=.exit 2∧t 2=.ptr 0 0 0∧t 3=.ptr 1 0 0∧t 5=.int .i64 (k:Int)∧h=[.live 7 false false [[Ae 3 true m.nS (m.sens.map Bc.cells),Ae 4 false m.nV (m.votes.map Am.cells),Ae 5 false m.nM (m.moves.map Ak.cells),.int .i64 m.states,.int .i64 m.cmds,.int .i64 m.bgn,Ae 1 true m.nO (m.opn.map iv)]],.live 5 false false [[.int .i64 y.frm,.int .i64 y.to,Ae 2 true y.nn (y.wants.map An.cells),.int .i64 y.cmd,.int .i64 y.after]]]else e=.ret∧t 4=.bool false)) ?_ ?_ () _ _ ?_) (fun e tC hC hk=>?_)
   ·rintro _ t h Q' kQ ⟨h2,h3,h5,h6,rfl⟩
    (have hb:=trivial;with_reducible repeat' (first|simp only[hb,Vc.down,seval,Xr.down,h2,h3,h5,h6,aaD,decide_false,hlen]|refine Aw ?_ ?_<;>intro hb|refine fd ?_|fail))
    exact kQ _ _ _ (by rw[if_pos (by rfl)];exact⟨rfl,by simp[up,h2],by simp[up,h3],by simp[up,h5],rfl⟩)
   ·rintro x rest i _ t h J Q' kJ kQ hx hi ⟨h2,h3,h5,h6,rfl⟩
    have hd:decide ((i:Int)<((y.wants.take k).length:Int))=true:=decide_eq_true (by omega)
    have hw:=Ar hi (by simp;omega)
    rw[hlen]at hd
    have hxi:y.wants[i]?=some x:=by rw[List.getElem?_take]at hx;split at hx;exact hx;cases hx
    cases c3:(x.vote==w.vote)with
    |true=>
     (have hb:=trivial;with_reducible repeat' (first|simp only[hb,Vc.down,seval,Xr.down,h2,h3,h5,h6,hd,hxi,hxk,hw,c3,An.cells]|refine Aw ?_ ?_<;>intro hb|refine fd ?_|fail))
     exact kQ _ _ _ (by rw[if_neg (by simp[jM,c3])];exact⟨rfl,by simp[up]⟩)
    |false=>
     (have hb:=trivial;with_reducible repeat' (first|simp only[hb,Vc.down,seval,Xr.down,h2,h3,h5,h6,hd,hxi,hxk,hw,c3,An.cells]|refine Aw ?_ ?_<;>intro hb|refine fd ?_|fail))
     (refine Bw (kJ _ _ () ⟨?_,?_,?_,?_,rfl⟩ ?_);(simp[up,h2]);(simp[up,h3]);(simp[up,h5]);(simp[up]);(simp[jM,c3]))
   ·exact⟨by simp[up,Dz,h2,h3,h5],by simp[up,Dz,h2,h3,h5],by simp[up,Dz,h2,h3,h5],by simp[up],rfl⟩
   ·split at hk
    ·rename_i hdup
     obtain⟨rfl,h2,h3,h5,rfl⟩:=hk
     (have hb:=trivial;with_reducible repeat' (first|simp only[hb,Vc.down,seval,Xr.down,h2,h3,h5,hw]|refine Aw ?_ ?_<;>intro hb|refine fd ?_|fail))
     rw[aW]at hdup
     (refine Bw (kJ _ _ (y.wants.take k++[w]) ⟨?_,?_,?_,⟨rfl,by rw[aAP,hxk];rfl⟩⟩ ?_);(simp[up,h2]);(simp[up,h3]);(simp[up]);(simp only[Ij,c1,hdup,aaY]))
    ·rename_i hdup
     obtain⟨rfl,h4⟩:=hk
     (have hb:=trivial;with_reducible repeat' (first|simp only[hb,Vc.down,seval,Xr.down,h4]|refine Aw ?_ ?_<;>intro hb|refine fd ?_|fail))
     rw[aW]at hdup
     exact kQ _ _ _ (by rw[if_neg (by simp only[Ij,c1,aaY,amO.2 hdup,acJ];simp)];exact⟨rfl,by simp[up,h4]⟩)
 ·exact⟨by simp[up,Dz],by simp[up,Dz],by simp[up],⟨rfl,rfl⟩⟩
 ·split at hk
  ·obtain⟨rfl,h2,h3,rfl⟩:=hk
   rename_i hr
   (have hb:=trivial;with_reducible repeat' (first|simp only[hb,Vc.down,seval,Xr.down,h2,h3,Xi,aaC,l6]|refine Aw ?_ ?_<;>intro hb|refine fd ?_|fail))
   all_goals (refine congrArg (fun b=>(Dn.ret (AV.bool b),([]:Aa))) ?_;symm;((try simp only[aAT,aaE,aaG]at *);simp only[Ku, *,agS,acJ,afO,aaY,Bool.and_self,Bool.not_not,aaE,aaG,List.all_cons,List.all_nil]))
  ·obtain⟨rfl,h4⟩:=hk
   rename_i hr
   (have hb:=trivial;with_reducible repeat' (first|simp only[hb,Vc.down,seval,Xr.down,h4]|refine Aw ?_ ?_<;>intro hb|refine fd ?_|fail))
   all_goals simp_all[Ku]
def fK(s:Bc):Bool:=Up s.lo&&Up s.hi&& !decide (s.hi<s.lo)
def Ou(m:Az):Bool:=decide (m.sens.length≤6)&&decide (m.votes.length≤6)&&decide (m.moves.length≤20)&&Ls m.states 1 8&&Ls m.cmds 0 4&&Ls m.bgn 0 (IntKind.i64.wrap (m.states-1))&&((m.opn.length:Int)==m.states)
def Ei(m:Az):Bool:=Ou m&&m.sens.all fK&&m.votes.all (Ry m.sens.length)&&m.moves.all (Ku m)&&m.opn.all (fun n=>Ls n 0 255)
theorem nN(m:Az)(x:Ak)(hl:x.wants.length≤maxLen):Eo.call (.fn 71) [.agg [.int .i64 x.frm,.int .i64 x.to,Ae 2 true x.nn (x.wants.map An.cells),.int .i64 x.cmd,.int .i64 x.after],.ptr 0 0 0] [.live 7 false false [[Ae 3 true m.nS (m.sens.map Bc.cells),Ae 4 false m.nV (m.votes.map Am.cells),Ae 5 false m.nM (m.moves.map Ak.cells),.int .i64 m.states,.int .i64 m.cmds,.int .i64 m.bgn,Ae 1 true m.nO (m.opn.map iv)]]]=some (.ret (.bool (!Ku m x)),[.live 7 false false [[Ae 3 true m.nS (m.sens.map Bc.cells),Ae 4 false m.nV (m.votes.map Am.cells),Ae 5 false m.nM (m.moves.map Ak.cells),.int .i64 m.states,.int .i64 m.cmds,.int .i64 m.bgn,Ae 1 true m.nO (m.opn.map iv)]]]):=by
 have hm:=wJ m x hl
 (refine ce Try.func71 ?_;simp only[Try.f71];(have hb:=trivial;with_reducible repeat' (first|simp only[hb,Vc.down,seval,aGL.down,hm]|refine Aw ?_ ?_<;>intro hb|refine fd ?_|fail)))
theorem jB{l:List Ak}{nn:Bool}{g:Nat}{mm:Az}{p:Ak→Bool}(hp:∀x∈l,Eo.call (.fn g) (.agg [.int .i64 x.frm,.int .i64 x.to,Ae 2 true x.nn (x.wants.map An.cells),.int .i64 x.cmd,.int .i64 x.after]::[.ptr 0 0 0]) [.live 7 false false [[Ae 3 true mm.nS (mm.sens.map Bc.cells),Ae 4 false mm.nV (mm.votes.map Am.cells),Ae 5 false mm.nM (mm.moves.map Ak.cells),.int .i64 mm.states,.int .i64 mm.cmds,.int .i64 mm.bgn,Ae 1 true mm.nO (mm.opn.map iv)]]]=some (.ret (.bool (p x)),[.live 7 false false [[Ae 3 true mm.nS (mm.sens.map Bc.cells),Ae 4 false mm.nV (mm.votes.map Am.cells),Ae 5 false mm.nM (mm.moves.map Ak.cells),.int .i64 mm.states,.int .i64 mm.cmds,.int .i64 mm.bgn,Ae 1 true mm.nO (mm.opn.map iv)]]]))(hl:l.length≤maxLen):
 Eo.call (.fn 88) [Ae 5 false nn (l.map Ak.cells),.func (.func g) [] [.ptr 0 0 0]] [.live 7 false false [[Ae 3 true mm.nS (mm.sens.map Bc.cells),Ae 4 false mm.nV (mm.votes.map Am.cells),Ae 5 false mm.nM (mm.moves.map Ak.cells),.int .i64 mm.states,.int .i64 mm.cmds,.int .i64 mm.bgn,Ae 1 true mm.nO (mm.opn.map iv)]]]=some (.ret (.int .i64 (aQ p l 0)),[.live 7 false false [[Ae 3 true mm.nS (mm.sens.map Bc.cells),Ae 4 false mm.nV (mm.votes.map Am.cells),Ae 5 false mm.nM (mm.moves.map Ak.cells),.int .i64 mm.states,.int .i64 mm.cmds,.int .i64 mm.bgn,Ae 1 true mm.nO (mm.opn.map iv)]]]):=by
 (refine ce Try.func88 ?_;simp only[Try.f88];(have hb:=trivial;with_reducible repeat' (first|simp only[hb,Vc.down,seval,mV.down,aaC]|refine Aw ?_ ?_<;>intro hb|refine fd ?_|fail)))
 refine Ek (Ve 19 l (fun i (s:Int) t h=>s=i∧h=[.live 7 false false [[Ae 3 true mm.nS (mm.sens.map Bc.cells),Ae 4 false mm.nV (mm.votes.map Am.cells),Ae 5 false mm.nM (mm.moves.map Ak.cells),.int .i64 mm.states,.int .i64 mm.cmds,.int .i64 mm.bgn,Ae 1 true mm.nO (mm.opn.map iv)]]]∧t 0=Ae 5 false nn (l.map Ak.cells)∧t 1=.func (.func g) [] [.ptr 0 0 0]∧t 7=.int .i64 l.length∧t 8=.int .i64 i)
  (fun rest s=>aQ p rest s) (fun r e t h=>h=[.live 7 false false [[Ae 3 true mm.nS (mm.sens.map Bc.cells),Ae 4 false mm.nV (mm.votes.map Am.cells),Ae 5 false mm.nM (mm.moves.map Ak.cells),.int .i64 mm.states,.int .i64 mm.cmds,.int .i64 mm.bgn,Ae 1 true mm.nO (mm.opn.map iv)]]]∧((e=.exit 0∧r= -1)∨(e=.ret∧t 4=.int .i64 r))) ?_ ?_ 0 _ _ ?_) (fun e t h hk=>?_)
 ·rintro s t h Q' kQ ⟨rfl,rfl,h0,h1,h7,h8⟩
  (have hb:=trivial;with_reducible repeat' (first|simp only[hb,Vc.down,seval,mV.down,h0,h1,h7,h8,aaD,decide_false]|refine Aw ?_ ?_<;>intro hb|refine fd ?_|fail))
  exact kQ _ _ _ ⟨rfl,.inl ⟨rfl,rfl⟩⟩
 ·rintro x rest i s t h J Q' kJ kQ hx hi ⟨rfl,rfl,h0,h1,h7,h8⟩
  have hpx:=hp x (acY hx)
  have hd:decide ((i:Int)<(l.length:Int))=true:=by simpa using hi
  (have hb:=trivial;with_reducible repeat' (first|simp only[hb,Vc.down,seval,mV.down,h0,h1,h7,h8,hd,hx,Ak.cells,hpx,Ar hi hl]|refine Aw ?_ ?_<;>intro hb|refine fd ?_|fail))
  ·exact kQ _ _ _ ⟨rfl,.inr ⟨rfl,by simp[up,aQ,hb]⟩⟩
  ·exact Bw (kJ _ _ (i+1) ⟨by simp,rfl,by simp[up,h0],by simp[up,h1],by simp[up,h7],by simp[up]⟩ (by simp[aQ,hb]))
 ·exact⟨rfl,rfl,by simp[up,Dz],by simp[up,Dz],by simp[up],by simp[up]⟩
 ·obtain⟨rfl,⟨rfl,hi⟩|⟨rfl,hi⟩⟩:=hk
  ·(have hb:=trivial;with_reducible repeat' (first|simp only[hb,Vc.down,seval,mV.down]|refine Aw ?_ ?_<;>intro hb|refine fd ?_|fail))
   rw[hi]
  ·(have hb:=trivial;with_reducible repeat' (first|simp only[hb,Vc.down,seval,mV.down,hi]|refine Aw ?_ ?_<;>intro hb|refine fd ?_|fail))
theorem eV{l:List Ak}{nn:Bool}{g:Nat}{mm:Az}{p:Ak→Bool}(hp:∀x∈l,Eo.call (.fn g) (.agg [.int .i64 x.frm,.int .i64 x.to,Ae 2 true x.nn (x.wants.map An.cells),.int .i64 x.cmd,.int .i64 x.after]::[.ptr 0 0 0]) [.live 7 false false [[Ae 3 true mm.nS (mm.sens.map Bc.cells),Ae 4 false mm.nV (mm.votes.map Am.cells),Ae 5 false mm.nM (mm.moves.map Ak.cells),.int .i64 mm.states,.int .i64 mm.cmds,.int .i64 mm.bgn,Ae 1 true mm.nO (mm.opn.map iv)]]]=some (.ret (.bool (p x)),[.live 7 false false [[Ae 3 true mm.nS (mm.sens.map Bc.cells),Ae 4 false mm.nV (mm.votes.map Am.cells),Ae 5 false mm.nM (mm.moves.map Ak.cells),.int .i64 mm.states,.int .i64 mm.cmds,.int .i64 mm.bgn,Ae 1 true mm.nO (mm.opn.map iv)]]]))(hl:l.length≤maxLen):
 Eo.call (.fn 70) [Ae 5 false nn (l.map Ak.cells),.func (.func g) [] [.ptr 0 0 0]] [.live 7 false false [[Ae 3 true mm.nS (mm.sens.map Bc.cells),Ae 4 false mm.nV (mm.votes.map Am.cells),Ae 5 false mm.nM (mm.moves.map Ak.cells),.int .i64 mm.states,.int .i64 mm.cmds,.int .i64 mm.bgn,Ae 1 true mm.nO (mm.opn.map iv)]]]=some (.ret (.bool (l.any p)),[.live 7 false false [[Ae 3 true mm.nS (mm.sens.map Bc.cells),Ae 4 false mm.nV (mm.votes.map Am.cells),Ae 5 false mm.nM (mm.moves.map Ak.cells),.int .i64 mm.states,.int .i64 mm.cmds,.int .i64 mm.bgn,Ae 1 true mm.nO (mm.opn.map iv)]]]):=by
 (refine ce Try.func70 ?_;simp only[Try.f70];(have hb:=trivial;with_reducible repeat' (first|simp only[hb,Vc.down,seval,jB hp hl,Tj p l 0 (acA 0)]|refine Aw ?_ ?_<;>intro hb|refine fd ?_|fail)))
theorem gU(m:Az)(hs:m.small):Eo.call (.fn 42) [.agg [Ae 3 true m.nS (m.sens.map Bc.cells),Ae 4 false m.nV (m.votes.map Am.cells),Ae 5 false m.nM (m.moves.map Ak.cells),.int .i64 m.states,.int .i64 m.cmds,.int .i64 m.bgn,Ae 1 true m.nO (m.opn.map iv)]] []=some (.ret (.bool (Ei m)),[]):=by
 have l1:decide ((6:Int)<(m.sens.length:Int))= !decide (m.sens.length≤6):=by rw[←decide_not,decide_eq_decide];omega
 have l2:decide ((6:Int)<(m.votes.length:Int))= !decide (m.votes.length≤6):=by rw[←decide_not,decide_eq_decide];omega
 have l3:decide ((20:Int)<(m.moves.length:Int))= !decide (m.moves.length≤20):=by rw[←decide_not,decide_eq_decide];omega
 cases hp:Ou m with
 |false=>
  have hp':Ei m=false:=by simp[Ei,hp]
  rw[hp']
  (refine ce Try.func42 ?_;simp only[Try.f42];(have hb:=trivial;with_reducible repeat' (first|simp only[hb,Vc.down,seval,Zh.down,aaC,Re,l1,l2,l3]|refine Aw ?_ ?_<;>intro hb|refine fd ?_|fail)))
  all_goals first
   |rfl
   |(exfalso;simp_all[Ou];done)
 |true=>
  have hp':=hp
  simp only[Ou,Bool.and_eq_true]at hp'
  obtain⟨⟨⟨⟨⟨⟨p1,p2⟩,p3⟩,p4⟩,p5⟩,p6⟩,p7⟩:=hp'
  (refine ce Try.func42 ?_;simp only[Try.f42];(have hb:=trivial;with_reducible repeat' (first|simp only[hb,Vc.down,seval,Zh.down,aaC,Re,l1,l2,l3,p1,p2,p3,p4,p5,p6,p7]|refine Aw ?_ ?_<;>intro hb|refine fd ?_|fail)))
  refine Ek (Ve 118 m.sens (fun i (zz:Unit) t h=>t 1=.ptr 0 0 0∧t 53=Ae 3 true m.nS (m.sens.map Bc.cells)∧t 54=.int .i64 m.sens.length∧t 55=.int .i64 i∧(h[0]?=some (.live 7 false false [[Ae 3 true m.nS (m.sens.map Bc.cells),Ae 4 false m.nV (m.votes.map Am.cells),Ae 5 false m.nM (m.moves.map Ak.cells),.int .i64 m.states,.int .i64 m.cmds,.int .i64 m.bgn,Ae 1 true m.nO (m.opn.map iv)]]))) (fun rest zz=>rest.all fK) (fun r e t h=>(if r=true then e=.exit 0∧t 1=.ptr 0 0 0∧h[0]?=some (.live 7 false false [[Ae 3 true m.nS (m.sens.map Bc.cells),Ae 4 false m.nV (m.votes.map Am.cells),Ae 5 false m.nM (m.moves.map Ak.cells),.int .i64 m.states,.int .i64 m.cmds,.int .i64 m.bgn,Ae 1 true m.nO (m.opn.map iv)]])else e=.ret∧t 2=.bool false)) ?_ ?_ () _ _ ?_) (fun e t h hk=>?_)
  ·rintro _ t h Q' kQ ⟨h1,h53,h54,h55,hA⟩
   (have hb:=trivial;with_reducible repeat' (first|simp only[hb,Vc.down,seval,Zh.down,h1,h53,h54,h55,aaD,decide_false]|refine Aw ?_ ?_<;>intro hb|refine fd ?_|fail))
   exact kQ _ _ _ (by rw[if_pos (by rfl)];exact⟨rfl,by simp[up,h1],hA⟩)
  ·rintro x rest i _ t h J Q' kJ kQ hx hi ⟨h1,h53,h54,h55,hA⟩
   have hd:decide ((i:Int)<(m.sens.length:Int))=true:=decide_eq_true (by omega)
   have hw:=Ar hi hs.sens
   have hA1:=Bl hA
   (have hb:=trivial;with_reducible repeat' (first|simp only[hb,Vc.down,seval,Zh.down,h1,h53,h54,h55,hd,hx,hw,aT,Bc.cells,aaC]|refine Aw ?_ ?_<;>intro hb|refine fd ?_|fail))
   all_goals first
    |exact kQ _ _ _ (by rw[if_neg (by simp_all[fK])];exact⟨rfl,by simp[up]⟩)
    |(refine Bw (kJ _ _ () ⟨?_,?_,?_,?_,hA1 _⟩ ?_);(simp[up,h1]);(simp[up,h53]);(simp[up,h54]);(simp[up]);(simp_all[fK]))
  ·exact⟨by simp[up,Dz],by simp[up,Dz],by simp[up,Dz],by simp[up],rfl⟩
  ·split at hk
   ·obtain⟨rfl,h1,hA⟩:=hk
    rename_i hr1
    have hA1:=Bl hA
    (have hb:=trivial;with_reducible repeat' (first|simp only[hb,Vc.down,seval,Zh.down,h1,hA,hA1,aaC]|refine Aw ?_ ?_<;>intro hb|refine fd ?_|fail))
    refine Ek (Ve 118 m.votes (fun i (zz:Unit) t h=>t 1=.ptr 0 0 0∧t 78=Ae 4 false m.nV (m.votes.map Am.cells)∧t 79=.int .i64 m.votes.length∧t 80=.int .i64 i∧(h[0]?=some (.live 7 false false [[Ae 3 true m.nS (m.sens.map Bc.cells),Ae 4 false m.nV (m.votes.map Am.cells),Ae 5 false m.nM (m.moves.map Ak.cells),.int .i64 m.states,.int .i64 m.cmds,.int .i64 m.bgn,Ae 1 true m.nO (m.opn.map iv)]]))) (fun rest zz=>rest.all (Ry m.sens.length)) (fun r e t h=>(if r=true then e=.exit 2∧t 1=.ptr 0 0 0∧h[0]?=some (.live 7 false false [[Ae 3 true m.nS (m.sens.map Bc.cells),Ae 4 false m.nV (m.votes.map Am.cells),Ae 5 false m.nM (m.moves.map Ak.cells),.int .i64 m.states,.int .i64 m.cmds,.int .i64 m.bgn,Ae 1 true m.nO (m.opn.map iv)]])else e=.ret∧t 2=.bool false)) ?_ ?_ () _ _ ?_) (fun e t h hk=>?_)
    ·rintro _ t h Q' kQ ⟨h1,h78,h79,h80,hA⟩
     (have hb:=trivial;with_reducible repeat' (first|simp only[hb,Vc.down,seval,Zh.down,h1,h78,h79,h80,aaD,decide_false]|refine Aw ?_ ?_<;>intro hb|refine fd ?_|fail))
     exact kQ _ _ _ (by rw[if_pos (by rfl)];exact⟨rfl,by simp[up,h1],hA⟩)
    ·rintro x rest i _ t h J Q' kJ kQ hx hi ⟨h1,h78,h79,h80,hA⟩
     have hd:decide ((i:Int)<(m.votes.length:Int))=true:=decide_eq_true (by omega)
     have hw:=Ar hi hs.votes
     have hA1:=Bl hA
     have hin:=bD (nn:=x.nn) m.sens.length (hs.vs x (acY hx))
     (have hb:=trivial;with_reducible repeat' (first|simp only[hb,Vc.down,seval,Zh.down,h1,h78,h79,h80,hd,hx,hw,hA1,aT,Re,hin,Am.cells,aaC]|refine Aw ?_ ?_<;>intro hb|refine fd ?_|fail))
     all_goals first
      |exact kQ _ _ _ (by rw[if_neg (by simp_all[Ry])];exact⟨rfl,by simp[up]⟩)
      |(refine Bw (kJ _ _ () ⟨?_,?_,?_,?_,hA1 _⟩ ?_);(simp[up,h1]);(simp[up,h78]);(simp[up,h79]);(simp[up]);(simp_all[Ry]))
    ·exact⟨by simp[up,Dz,h1],by simp[up,Dz,h1],by simp[up,Dz,h1],by simp[up],hA⟩
    ·split at hk
     ·obtain⟨rfl,h1,hA⟩:=hk
      rename_i hr2
      have hA1:=Bl hA
      have hcM:=eV (mm:=m) (l:=m.moves) (nn:=m.nM) (g:=71) (p:=fun x=> !Ku m x) (fun x hx=>nN m x (hs.ws x hx)) hs.moves
      have hcI:=aL (l:=m.opn) (nn:=m.nO) (g:=74) (cap:=[]) (p:=fun x=> !Ls x 0 255) rfl rfl (fun x _=>mY x) hs.opn
      (have hb:=trivial;with_reducible repeat' (first|simp only[hb,Vc.down,seval,Zh.down,h1,hA,hA1,aaC,hcM,hcI]|refine Aw ?_ ?_<;>intro hb|refine fd ?_|fail))
      all_goals
       have q1:m.moves.all (Ku m)= !(m.moves.any fun x=> !Ku m x):=aAY
       have q2:m.opn.all (fun n=>Ls n 0 255)= !(m.opn.any fun x=> !Ls x 0 255):=aAY
       simp only[Ei,hp,hr1,hr2,q1,q2,hb,aaE,aaG,aaY,acJ,afO]
       try rfl
     ·obtain⟨rfl,h2⟩:=hk
      rename_i hr2
      (have hb:=trivial;with_reducible repeat' (first|simp only[hb,Vc.down,seval,Zh.down,h2]|refine Aw ?_ ?_<;>intro hb|refine fd ?_|fail))
      all_goals simp[Ei,hp,amO.2 hr2]
   ·obtain⟨rfl,h2⟩:=hk
    rename_i hr1
    (have hb:=trivial;with_reducible repeat' (first|simp only[hb,Vc.down,seval,Zh.down,h2]|refine Aw ?_ ?_<;>intro hb|refine fd ?_|fail))
    all_goals simp[Ei,hp,amO.2 hr1]
end Go.Proofs.Ytfkokgjfpojeoaa
