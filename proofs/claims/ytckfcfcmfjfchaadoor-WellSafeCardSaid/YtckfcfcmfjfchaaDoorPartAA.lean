/- The functions of the layer, walked. -/
import Derived.Test.YtckfcfcmfjfchaaDoorLibE
import Derived.Test.YtckfcfcmfjfchaaDoorChecked
import Derived.Test.YtckfcfcmfjfchaaDoorLibD
import Derived.Test.YtckfcfcmfjfchaaDoorRows
import Derived.Test.YtckfcfcmfjfchaaDoorTie
import Derived.Test.YtckfcfcmfjfchaaDoorCards
import Derived.Test.YtckfcfcmfjfchaaDoorShelf
import Derived.ProofKit
import Derived.LaidMore
import Derived.OpenShut
import Derived.Stop.Joined
open And renaming intro→aaN
open List renaming length_map→abY,getElem?_append_left→abZ,getElem?_set_ne→ab0,getElem?_set_self→ab2,replicate→ab3,take→adC,getElem?_eq_some_iff→ag6,take_of_length_le→ag7,getElem?_append_right→ag9,all_eq_true→ahC,mem_cons_self→ahE,mem_of_getElem?→ahJ,drop→ah0,flatMap_cons→ah8,cons_append→ai6,nil_append→aj1,length_set→akA,getElem?_eq_getElem→akQ,take_succ_cons→alY,drop_succ_cons→al1,set_cons_succ→al4,length_take→al6,length_nil→am4
open Nat renaming ble→ag8
open Int renaming lt_irrefl→ahA
open Option renaming bind_some→alS
open Bool renaming and_eq_true→amJ
set_option linter.unusedSimpArgs false
set_option linter.unusedVariables false
namespace Go.Proofs.YtckfcfcmfjfchaaDoor
open Go.Ev
set_option maxRecDepth 100000
theorem Wn(h:Pv)(b r o:Nat):ld Tryd.prog 24 h (some (.ptr b r o))=ldR (bL (h[b]?) r) o 3:=uT ⟨by kernel_rfl,by kernel_rfl⟩ h b r o
theorem jR(b r o:Nat):ftL Tryd.prog 24 (some (.ptr b r o))=some [.cells b o 3]:=eR (isA:=true) (n:=3) (by kernel_rfl) (by kernel_rfl) b r o
theorem pD(st b r len:Nat):ln Tryd.prog 28 (some (.slr st b r len))=some (.ret (.int .i64 len),[]):=aeT (n:=1) ⟨_,Tryd.underlying28,by kernel_rfl⟩ st b r len
theorem zR:ln Tryd.prog 28 (some .nils)=some (.ret (.int .i64 0),[]):=yZ (n:=1) ⟨_,Tryd.underlying28,by kernel_rfl⟩
theorem abQ(fl nn:Bool)(rows:List (List AV)):ln Tryd.prog 28 (some (Ux 1 fl nn rows))=some (.ret (.int .i64 rows.length),[]):=xE ⟨_,Tryd.underlying28,by kernel_rfl⟩ fl nn rows
theorem cE(h:Pv)(b r o:Nat):ld Tryd.prog 28 h (some (.ptr b r o))=ldC (bL (h[b]?) r) o:=kC ⟨by kernel_rfl,1,by kernel_rfl⟩ h b r o
theorem Tj(b r o:Nat):fa Tryd.prog 24 (some (.ptr b r o)) 2=some (.ret (.ptr b r (o+2)),[]):=Vr (show Wm Tryd.prog 24 2 2 1 from⟨_,_,Tryd.underlying24,rfl,rfl,by kernel_rfl,by decide⟩) b r o
theorem Um(h:Pv)(b r o:Nat):ld Tryd.prog 22 h (some (.ptr b r o))=ldC (bL (h[b]?) r) o:=kC ⟨by kernel_rfl,1,by kernel_rfl⟩ h b r o
theorem aaU(st:Nat)(fl:Bool)(rows:List (List AV)):ln Tryd.prog 22 (some (.imm st fl rows))=some (.ret (.int .i64 rows.length),[]):=wL (n:=9) ⟨_,Tryd.underlying22,by kernel_rfl⟩ st fl rows
theorem aa2(st b r len:Nat):ln Tryd.prog 22 (some (.slr st b r len))=some (.ret (.int .i64 len),[]):=aeT (n:=9) ⟨_,Tryd.underlying22,by kernel_rfl⟩ st b r len
theorem Vz(fl nn:Bool)(rows:List (List AV)):ln Tryd.prog 22 (some (Ux 9 fl nn rows))=some (.ret (.int .i64 rows.length),[]):=xE ⟨_,Tryd.underlying22,by kernel_rfl⟩ fl nn rows
theorem aiL:Wc Tryd.prog 3=some (.int .i64 0):=by kernel_rfl
theorem zZ(base:Nat)(l c:Option AV):msO Tryd.prog 28 base l c=msK 1 (.int .i64 0) base l c:=aP3 (e:=3) (n:=1) (b:=8) (by kernel_rfl) (by kernel_rfl) (by kernel_rfl) (by kernel_rfl) (by decide+kernel) base l c
theorem jA(b r len:Nat)(k:IntKind)(i:Int):ia Tryd.prog 28 (some (.slr 1 b r len)) (some (.int k i))=if 0≤i∧i<len then some (.ret (.ptr b (r+i.toNat) 0),[])else none:=ab9 ⟨_,Tryd.underlying28,by kernel_rfl⟩ b r len k i
theorem aaE(fl nn:Bool)(rows:List (List AV))(k:IntKind)(i:Int):ia Tryd.prog 28 (some (Ux 1 fl nn rows)) (some (.int k i))=if 0≤i then r1 ((rows[i.toNat]?).map .iptr)else none:=wV ⟨_,Tryd.underlying28,by kernel_rfl⟩ fl nn rows k i
theorem Td(h:Pv)(b r o:Nat):ld Tryd.prog 3 h (some (.ptr b r o))=ldC (bL (h[b]?) r) o:=kC ⟨by kernel_rfl,1,by kernel_rfl⟩ h b r o
theorem aa8(h:Pv)(c:AV)(cs:List AV):ld Tryd.prog 3 h (some (.iptr (c::cs)))=some (.ret c,[]):=al7 ⟨by kernel_rfl,1,by kernel_rfl⟩ h c cs
theorem afA(b r o:Nat):ftL Tryd.prog 3 (some (.ptr b r o))=some [.cells b o 1]:=eR (isA:=false) (n:=1) (by kernel_rfl) (by kernel_rfl) b r o
theorem Ww(h:Pv)(b r o:Nat):ld Tryd.prog 4 h (some (.ptr b r o))=ldC (bL (h[b]?) r) o:=kC ⟨by kernel_rfl,1,by kernel_rfl⟩ h b r o
theorem zA(h:Pv)(c:AV)(cs:List AV):ld Tryd.prog 4 h (some (.iptr (c::cs)))=some (.ret c,[]):=al7 ⟨by kernel_rfl,1,by kernel_rfl⟩ h c cs
theorem yT(h:Pv)(b r o:Nat)(v:AV):wQ Tryd.prog 3 h (some (.ptr b r o)) (some v)=sv 1 (h[b]?) b r o (Qc v):=aJ (by kernel_rfl) h b r o v
theorem aX(b r o:Nat):fa Tryd.prog 24 (some (.ptr b r o)) 1=some (.ret (.ptr b r (o+1)),[]):=Vr (show Wm Tryd.prog 24 1 1 1 from⟨_,_,Tryd.underlying24,rfl,rfl,by kernel_rfl,by decide⟩) b r o
theorem aa4(fl nn:Bool)(rows:List (List AV)):ln Tryd.prog 51 (some (Ux 3 fl nn rows))=some (.ret (.int .i64 rows.length),[]):=xE ⟨_,Tryd.underlying51,by kernel_rfl⟩ fl nn rows
theorem aaX(fl nn:Bool)(rows:List (List AV))(k:IntKind)(i:Int):ia Tryd.prog 51 (some (Ux 3 fl nn rows)) (some (.int k i))=if 0≤i then r1 ((rows[i.toNat]?).map .iptr)else none:=wV ⟨_,Tryd.underlying51,by kernel_rfl⟩ fl nn rows k i
theorem uV(cs:List AV):fa Tryd.prog 56 (some (.iptr cs)) 0=if 0+2≤cs.length then some (.ret (.iptr (cs.drop 0)),[])else none:=yI (show Wm Tryd.prog 56 0 0 2 from⟨_,_,Tryd.underlying56,rfl,rfl,by kernel_rfl,by decide⟩) cs
theorem fO(h:Pv)(b r o:Nat):ld Tryd.prog 54 h (some (.ptr b r o))=ldR (bL (h[b]?) r) o 2:=uT ⟨by kernel_rfl,by kernel_rfl⟩ h b r o
theorem wO(h:Pv)(cs:List AV):ld Tryd.prog 54 h (some (.iptr cs))=if 2≤cs.length then some (.ret (.agg (cs.take 2)),[])else none:=alV ⟨by kernel_rfl,by kernel_rfl⟩ h cs
theorem abI(b r o:Nat):ftL Tryd.prog 54 (some (.ptr b r o))=some [.cells b o 2]:=eR (isA:=true) (n:=2) (by kernel_rfl) (by kernel_rfl) b r o
theorem aeV:Wc Tryd.prog 54=some (.agg [.int .i64 0,.int .i64 0]):=by kernel_rfl
theorem ab4(h:Pv)(b r o:Nat)(v:AV):wQ Tryd.prog 54 h (some (.ptr b r o)) (some v)=sv 2 (h[b]?) b r o (Qc v):=aJ (by kernel_rfl) h b r o v
theorem uH(cs:List AV):fa Tryd.prog 56 (some (.iptr cs)) 1=if 2+1≤cs.length then some (.ret (.iptr (cs.drop 2)),[])else none:=yI (show Wm Tryd.prog 56 1 2 1 from⟨_,_,Tryd.underlying56,rfl,rfl,by kernel_rfl,by decide⟩) cs
theorem lR:Wc Tryd.prog 24=some (.agg [.int .i64 0,.int .i64 0,.nils]):=by kernel_rfl
theorem mZ(h:Pv)(b r o:Nat)(v:AV):wQ Tryd.prog 24 h (some (.ptr b r o)) (some v)=sv 3 (h[b]?) b r o (Qc v):=aJ (by kernel_rfl) h b r o v
theorem pF(b r o:Nat):ftS Tryd.prog 24 (some (.ptr b r o))=some [.cells b o 3]:=xU (by kernel_rfl) b r o
theorem Xs(b r o:Nat):fa Tryd.prog 54 (some (.ptr b r o)) 1=some (.ret (.ptr b r (o+1)),[]):=Vr (show Wm Tryd.prog 54 1 1 1 from⟨_,_,Tryd.underlying54,rfl,rfl,by kernel_rfl,by decide⟩) b r o
theorem zB(fl:Bool)(rows:List (List AV))(k:IntKind)(i:Int):ia Tryd.prog 22 (some (.imm 9 fl rows)) (some (.int k i))=if 0≤i then r1 ((rows[i.toNat]?).map .iptr)else none:=vN ⟨_,Tryd.underlying22,by kernel_rfl⟩ fl rows k i
theorem jU(b r len:Nat)(k:IntKind)(i:Int):ia Tryd.prog 22 (some (.slr 9 b r len)) (some (.int k i))=if 0≤i∧i<len then some (.ret (.ptr b (r+i.toNat) 0),[])else none:=ab9 ⟨_,Tryd.underlying22,by kernel_rfl⟩ b r len k i
theorem Zu(fl nn:Bool)(rows:List (List AV))(k:IntKind)(i:Int):ia Tryd.prog 22 (some (Ux 9 fl nn rows)) (some (.int k i))=if 0≤i then r1 ((rows[i.toNat]?).map .iptr)else none:=wV ⟨_,Tryd.underlying22,by kernel_rfl⟩ fl nn rows k i
theorem Zz(h:Pv)(b r o:Nat):ld Tryd.prog 62 h (some (.ptr b r o))=ldR (bL (h[b]?) r) o 9:=uT ⟨by kernel_rfl,by kernel_rfl⟩ h b r o
theorem Xm(h:Pv)(cs:List AV):ld Tryd.prog 62 h (some (.iptr cs))=if 9≤cs.length then some (.ret (.agg (cs.take 9)),[])else none:=alV ⟨by kernel_rfl,by kernel_rfl⟩ h cs
theorem zU(b r o:Nat):ftL Tryd.prog 62 (some (.ptr b r o))=some [.cells b o 9]:=eR (isA:=true) (n:=9) (by kernel_rfl) (by kernel_rfl) b r o
theorem dP:Wc Tryd.prog 62=some (.agg [.int .i64 0,.int .i64 0,.bool false,.bool false,.int .i64 0,.int .i64 0,.bool false,.int .i64 0,.int .i64 0]):=by kernel_rfl
theorem bT(h:Pv)(b r o:Nat)(v:AV):wQ Tryd.prog 62 h (some (.ptr b r o)) (some v)=sv 9 (h[b]?) b r o (Qc v):=aJ (by kernel_rfl) h b r o v
theorem Xt(b r o:Nat):fa Tryd.prog 54 (some (.ptr b r o)) 0=some (.ret (.ptr b r (o+0)),[]):=Vr (show Wm Tryd.prog 54 0 0 1 from⟨_,_,Tryd.underlying54,rfl,rfl,by kernel_rfl,by decide⟩) b r o
theorem Yt(h:Pv)(b r o:Nat):ld Tryd.prog 52 h (some (.ptr b r o))=ldC (bL (h[b]?) r) o:=kC ⟨by kernel_rfl,1,by kernel_rfl⟩ h b r o
theorem oY(b r o:Nat):ftL Tryd.prog 52 (some (.ptr b r o))=some [.cells b o 1]:=eR (isA:=false) (n:=1) (by kernel_rfl) (by kernel_rfl) b r o
theorem Xx(b r o:Nat):fa Tryd.prog 62 (some (.ptr b r o)) 3=some (.ret (.ptr b r (o+3)),[]):=Vr (show Wm Tryd.prog 62 3 3 1 from⟨_,_,Tryd.underlying62,rfl,rfl,by kernel_rfl,by decide⟩) b r o
theorem qJ(h:Pv)(b r o:Nat)(v:AV):wQ Tryd.prog 4 h (some (.ptr b r o)) (some v)=sv 1 (h[b]?) b r o (Qc v):=aJ (by kernel_rfl) h b r o v
theorem aQ(b r o:Nat):fa Tryd.prog 62 (some (.ptr b r o)) 6=some (.ret (.ptr b r (o+6)),[]):=Vr (show Wm Tryd.prog 62 6 6 1 from⟨_,_,Tryd.underlying62,rfl,rfl,by kernel_rfl,by decide⟩) b r o
theorem zE(ps:List (Nat × AV)):dO Tryd.prog 24 ps=(Yl (fun i=>([(0,1),(1,1),(2,1)]:List (Nat × Nat))[i]?) (Qc (.agg [.int .i64 0,.int .i64 0,.nils])) ps).map .agg:=by kernel_rfl
theorem jT(base len:Nat)(ps:List (Nat × AV)):rD (Ry Tryd.prog base 28 len ps)=bsK 1 (.int .i64 0) base len ps:=aQ5 (e:=3) (by kernel_rfl) (by kernel_rfl) (by kernel_rfl) base len ps
theorem dN:Wc Tryd.prog 75=some (.agg [.int .i64 0,.bool false,.int .i64 0,.bool false,.int .i64 0,.bool false,.int .i64 0,.bool false,.int .i64 0,.bool false,.int .i64 0,.bool false,.int .i64 0,.bool false,.int .i64 0,.bool false,.int .i64 0,.bool false,.int .i64 0,.bool false,.int .i64 0,.bool false,.int .i64 0,.bool false]):=by kernel_rfl
theorem dI(h:Pv)(b r o:Nat)(v:AV):wQ Tryd.prog 75 h (some (.ptr b r o)) (some v)=sv 24 (h[b]?) b r o (Qc v):=aJ (by kernel_rfl) h b r o v
theorem Yq(h:Pv)(b r o:Nat):ld Tryd.prog 75 h (some (.ptr b r o))=ldR (bL (h[b]?) r) o 24:=uT ⟨by kernel_rfl,by kernel_rfl⟩ h b r o
theorem Xu(b r o:Nat):fa Tryd.prog 79 (some (.ptr b r o)) 0=some (.ret (.ptr b r (o+0)),[]):=Vr (show Wm Tryd.prog 79 0 0 3 from⟨_,_,Tryd.underlying79,rfl,rfl,by kernel_rfl,by decide⟩) b r o
theorem dU(b r o:Nat):fa Tryd.prog 62 (some (.ptr b r o)) 0=some (.ret (.ptr b r (o+0)),[]):=Vr (show Wm Tryd.prog 62 0 0 1 from⟨_,_,Tryd.underlying62,rfl,rfl,by kernel_rfl,by decide⟩) b r o
theorem dV(b r o:Nat):fa Tryd.prog 62 (some (.ptr b r o)) 1=some (.ret (.ptr b r (o+1)),[]):=Vr (show Wm Tryd.prog 62 1 1 1 from⟨_,_,Tryd.underlying62,rfl,rfl,by kernel_rfl,by decide⟩) b r o
theorem We(h:Pv)(b r o:Nat):ld Tryd.prog 73 h (some (.ptr b r o))=ldR (bL (h[b]?) r) o 2:=uT ⟨by kernel_rfl,by kernel_rfl⟩ h b r o
theorem zS(b r o:Nat):ftL Tryd.prog 73 (some (.ptr b r o))=some [.cells b o 2]:=eR (isA:=true) (n:=2) (by kernel_rfl) (by kernel_rfl) b r o
theorem bC{O:Ui}(t:List AV)(h:Pv)(s x:Operand):Tz O Tryd.prog t h (.call ⟨.builtin .append,#[s,x],#[28,28]⟩)=apO Tryd.prog 28 h (Qa t s) (Qa t x):=alW t h s x 28 28 _ Tryd.underlying28
theorem jI(h:Pv)(s:AV)(a b r l:Nat):apO Tryd.prog 28 h (some s) (some (.slr a b r l))=apK 1 h (some s) (srK 1 h (some (.slr a b r l))):=aeM (e:=3) (b:=8) (z:=.int .i64 0) (by kernel_rfl) (by kernel_rfl) (by kernel_rfl) (by kernel_rfl) (by decide+kernel) h s _ (fun q e=>by cases e)
theorem abV(h:Pv)(s:AV)  :apO Tryd.prog 28 h (some s) (some .nils)=apK 1 h (some s) (srK 1 h (some .nils)):=aeM (e:=3) (b:=8) (z:=.int .i64 0) (by kernel_rfl) (by kernel_rfl) (by kernel_rfl) (by kernel_rfl) (by decide+kernel) h s _ (fun q e=>by cases e)
theorem agH:Wc Tryd.prog 28=some (.nils):=by kernel_rfl
theorem aR(b r o:Nat):fa Tryd.prog 24 (some (.ptr b r o)) 0=some (.ret (.ptr b r (o+0)),[]):=Vr (show Wm Tryd.prog 24 0 0 1 from⟨_,_,Tryd.underlying24,rfl,rfl,by kernel_rfl,by decide⟩) b r o
theorem aZ(b r o:Nat):fa Tryd.prog 62 (some (.ptr b r o)) 2=some (.ret (.ptr b r (o+2)),[]):=Vr (show Wm Tryd.prog 62 2 2 1 from⟨_,_,Tryd.underlying62,rfl,rfl,by kernel_rfl,by decide⟩) b r o
theorem Yw(b r o:Nat):fa Tryd.prog 62 (some (.ptr b r o)) 4=some (.ret (.ptr b r (o+4)),[]):=Vr (show Wm Tryd.prog 62 4 4 1 from⟨_,_,Tryd.underlying62,rfl,rfl,by kernel_rfl,by decide⟩) b r o
theorem bB(b r o:Nat):fa Tryd.prog 62 (some (.ptr b r o)) 5=some (.ret (.ptr b r (o+5)),[]):=Vr (show Wm Tryd.prog 62 5 5 1 from⟨_,_,Tryd.underlying62,rfl,rfl,by kernel_rfl,by decide⟩) b r o
theorem dJ(b r o:Nat):fa Tryd.prog 62 (some (.ptr b r o)) 7=some (.ret (.ptr b r (o+7)),[]):=Vr (show Wm Tryd.prog 62 7 7 1 from⟨_,_,Tryd.underlying62,rfl,rfl,by kernel_rfl,by decide⟩) b r o
theorem dY(b r o:Nat):fa Tryd.prog 62 (some (.ptr b r o)) 8=some (.ret (.ptr b r (o+8)),[]):=Vr (show Wm Tryd.prog 62 8 8 1 from⟨_,_,Tryd.underlying62,rfl,rfl,by kernel_rfl,by decide⟩) b r o
theorem Wp(b r o:Nat):fa Tryd.prog 73 (some (.ptr b r o)) 0=some (.ret (.ptr b r (o+0)),[]):=Vr (show Wm Tryd.prog 73 0 0 1 from⟨_,_,Tryd.underlying73,rfl,rfl,by kernel_rfl,by decide⟩) b r o
theorem nJ(h:Pv)(b r o:Nat)(v:AV):wQ Tryd.prog 71 h (some (.ptr b r o)) (some v)=sv 1 (h[b]?) b r o (Qc v):=aJ (by kernel_rfl) h b r o v
theorem uK(b r o:Nat):fa Tryd.prog 79 (some (.ptr b r o)) 1=some (.ret (.ptr b r (o+3)),[]):=Vr (show Wm Tryd.prog 79 1 3 1 from⟨_,_,Tryd.underlying79,rfl,rfl,by kernel_rfl,by decide⟩) b r o
theorem sX(h:Pv)(b r o:Nat)(v:AV):wQ Tryd.prog 22 h (some (.ptr b r o)) (some v)=sv 1 (h[b]?) b r o (Qc v):=aJ (by kernel_rfl) h b r o v
theorem fA{O:Ui}(t:List AV)(h:Pv)(s x:Operand):Tz O Tryd.prog t h (.call ⟨.builtin .append,#[s,x],#[22,22]⟩)=apO Tryd.prog 22 h (Qa t s) (Qa t x):=alW t h s x 22 22 _ Tryd.underlying22
theorem oV(h:Pv)(s:AV)(st:Nat)(fl:Bool)(rows:List (List AV)):apO Tryd.prog 22 h (some s) (some (.imm st fl rows))=apK 9 h (some s) (srK 9 h (some (.imm st fl rows))):=aeM (e:=62) (b:=64) (z:=.agg [.int .i64 0,.int .i64 0,.bool false,.bool false,.int .i64 0,.int .i64 0,.bool false,.int .i64 0,.int .i64 0]) (by kernel_rfl) (by kernel_rfl) (by kernel_rfl) (by kernel_rfl) (by decide+kernel) h s _ (fun q e=>by cases e)
theorem aa5(base len:Nat)(ps:List (Nat × AV)):rD (Ry Tryd.prog base 22 len ps)=bsK 9 (.agg [.int .i64 0,.int .i64 0,.bool false,.bool false,.int .i64 0,.int .i64 0,.bool false,.int .i64 0,.int .i64 0]) base len ps:=aQ5 (e:=62) (by kernel_rfl) (by kernel_rfl) (by kernel_rfl) base len ps
theorem abC(ps:List (Nat × AV)):dO Tryd.prog 79 ps=(Yl (fun i=>([(0,3),(3,1)]:List (Nat × Nat))[i]?) (Qc (.agg [.int .i64 0,.int .i64 0,.nils,.int .i64 0])) ps).map .agg:=by kernel_rfl
theorem Zc(b r o:Nat):fa Tryd.prog 73 (some (.ptr b r o)) 1=some (.ret (.ptr b r (o+1)),[]):=Vr (show Wm Tryd.prog 73 1 1 1 from⟨_,_,Tryd.underlying73,rfl,rfl,by kernel_rfl,by decide⟩) b r o
theorem iO(h:Pv)(b r o:Nat)(v:AV):wQ Tryd.prog 28 h (some (.ptr b r o)) (some v)=sv 1 (h[b]?) b r o (Qc v):=aJ (by kernel_rfl) h b r o v
theorem zI(ps:List (Nat × AV)):dO Tryd.prog 98 ps=(Yl (fun i=>([(0,1)]:List (Nat × Nat))[i]?) (Qc (.agg [.nils])) ps).map .agg:=by kernel_rfl
theorem afS:Wc Tryd.prog 96=some (.nilp):=by kernel_rfl
theorem agW(h:Pv)(b r o:Nat)(v:AV):wQ Tryd.prog 96 h (some (.ptr b r o)) (some v)=sv 1 (h[b]?) b r o (Qc v):=aJ (by kernel_rfl) h b r o v
theorem wZ(h:Pv)(b r o:Nat):ld Tryd.prog 96 h (some (.ptr b r o))=ldC (bL (h[b]?) r) o:=kC ⟨by kernel_rfl,1,by kernel_rfl⟩ h b r o
theorem cN(h:Pv)(b r o:Nat):ld Tryd.prog 71 h (some (.ptr b r o))=ldC (bL (h[b]?) r) o:=kC ⟨by kernel_rfl,1,by kernel_rfl⟩ h b r o
theorem vS(h:Pv)(b r o:Nat):ld Tryd.prog 68 h (some (.ptr b r o))=ldC (bL (h[b]?) r) o:=kC ⟨by kernel_rfl,1,by kernel_rfl⟩ h b r o
theorem zJ(n:Nat)(fl:Bool)(rows:List (List AV)):Yk Tryd.prog .eql 22 (.imm n fl rows) .nils=some (.bool false):=rY Tryd.underlying22 n fl rows
theorem dZ(b r o:Nat):fa Tryd.prog 98 (some (.ptr b r o)) 0=some (.ret (.ptr b r (o+0)),[]):=Vr (show Wm Tryd.prog 98 0 0 1 from⟨_,_,Tryd.underlying98,rfl,rfl,by kernel_rfl,by decide⟩) b r o
theorem dL(h:Pv)(b r o:Nat)(v:AV):wQ Tryd.prog 73 h (some (.ptr b r o)) (some v)=sv 2 (h[b]?) b r o (Qc v):=aJ (by kernel_rfl) h b r o v
theorem aaS(b r o:Nat):ftS Tryd.prog 73 (some (.ptr b r o))=some [.cells b o 2]:=xU (by kernel_rfl) b r o
theorem iD:Wc Tryd.prog 73=some (.agg [.int .i64 0,.bool false]):=by kernel_rfl
theorem eQ(ps:List (Nat × AV)):dO Tryd.prog 73 ps=(Yl (fun i=>([(0,1),(1,1)]:List (Nat × Nat))[i]?) (Qc (.agg [.int .i64 0,.bool false])) ps).map .agg:=by kernel_rfl
def Xf:=PLift.up (aaN @Wn (aaN @jR (aaN @aa4 (aaN @aaX (aaN @uV (aaN @fO (aaN @wO (aaN @abI (aaN @aeV (aaN @ab4 (aaN @uH (aaN @zA (aaN @lR (aaN @mZ (aaN @pF (aaN @Tj (aaN @Um (aaN @Xs (aaN @Td (aaN @zB (aaN @jU (aaN @Zz (aaN @Xm (aaN @dP (aaN @bT (aaN @Xt (aaN @Yt (aaN @Xx (aaN @qJ (aaN @aQ (aaN @aX (aaN @aaU @aa2))))))))))))))))))))))))))))))))
def TY9:=PLift.up (aaN @Tj (aaN @Um @Vz))
def tA:=PLift.up (aaN @aR (aaN @Td (aaN @aX (aaN @Tj (aaN @Um (aaN @Vz (aaN @Zu (aaN @Xm (aaN @dP (aaN @bT (aaN @dU (aaN @dV (aaN @Xx (aaN @Ww (aaN @aZ (aaN @Yw (aaN @bB (aaN @dJ @dY))))))))))))))))))
def aS8:=PLift.up (aaN @Wn @Wn)
def aTN:=PLift.up (aaN @Tj (aaN @Um @Vz))
def abL:=PLift.up (aaN @abQ (aaN @aaE @aa8))
def qB:=PLift.up (aaN @Wn (aaN @dN (aaN @dI (aaN @Xu (aaN @Tj (aaN @Um (aaN @Vz (aaN @Yq (aaN @Wp (aaN @nJ (aaN @We (aaN @jT (aaN @bC @jI)))))))))))))
def aoY:=PLift.up (aaN @Wn (aaN @Xs (aaN @Td (aaN @Xt @Yt))))
def xA:=PLift.up (aaN @Wn (aaN @jR (aaN @lR (aaN @Xt (aaN @Yt (aaN @oY (aaN @Xs (aaN @Td (aaN @Tj (aaN @Um (aaN @Vz (aaN @zE (aaN @mZ (aaN @pF (aaN @dN (aaN @dI (aaN @jU (aaN @Zu (aaN @Zz (aaN @Xm (aaN @zU (aaN @We (aaN @Yq (aaN @fO (aaN @sX (aaN @Xx (aaN @qJ (aaN @aQ (aaN @Yw @yT)))))))))))))))))))))))))))))
def ahO:=PLift.up (aaN @Tj (aaN @Um (aaN @Xs (aaN @Td (aaN @Zu (aaN @Zz (aaN @Xm (aaN @dP (aaN @bT (aaN @Xt (aaN @Yt (aaN @aZ (aaN @Ww @Xx)))))))))))))
def aS6:=PLift.up (aaN @Wn (aaN @lR (aaN @mZ (aaN @Tj (aaN @Um (aaN @fA (aaN @oV (aaN @sX (aaN @Zz (aaN @jU @bT))))))))))
def aR7:=PLift.up (aaN @Wn (aaN @jR @abC))
def akN:=PLift.up (aaN @Yq (aaN @dN (aaN @Xu (aaN @Tj (aaN @Um (aaN @Vz (aaN @Zu (aaN @Xm (aaN @dP (aaN @bT (aaN @Xx (aaN @Ww (aaN @Zc (aaN @qJ (aaN @aQ (aaN @Wp (aaN @nJ (aaN @uK (aaN @Td (aaN @Yw (aaN @bB @dI)))))))))))))))))))))
def cV:=PLift.up (aaN @Xu (aaN @aR (aaN @Td (aaN @aiL (aaN @zZ (aaN @agH (aaN @iO (aaN @cE (aaN @pD (aaN @jA (aaN @yT (aaN @zI (aaN @afS (aaN @agW (aaN @wZ @We)))))))))))))))
def aS3:=PLift.up (aaN @Wp (aaN @cN (aaN @Zc @Ww)))
def aQN:=PLift.up (aaN @Yq (aaN @jA (aaN @Td (aaN @Xu (aaN @Tj (aaN @Um @Vz))))))
def aS7:=PLift.up (aaN @aQ (aaN @Ww (aaN @Yw (aaN @Td @bB))))
def aTP:=PLift.up (aaN @aR (aaN @Td (aaN @aX (aaN @Tj (aaN @Um @Vz)))))
def akO:=PLift.up (aaN @aZ (aaN @Ww (aaN @Zc (aaN @Wp @cN))))
def aoU:=PLift.up (aaN @Xu (aaN @aX (aaN @Td (aaN @Yq (aaN @Xt (aaN @Yt (aaN @dN (aaN @dI (aaN @Xs (aaN @Wp (aaN @nJ @fO)))))))))))
def aSX:=PLift.up (aaN @zJ (aaN @aa5 (aaN @fA @oV)))
def aS5:=PLift.up (aaN @dJ (aaN @Td @dY))
def ajB:=PLift.up (aaN @dZ (aaN @cE (aaN @jT (aaN @bC (aaN @jI @iO)))))
def aiK:=PLift.up (aaN @dZ (aaN @cE (aaN @pD (aaN @zR (aaN @jA (aaN @Td @iO))))))
def aaA:=PLift.up (aaN @jT (aaN @dZ (aaN @cE (aaN @bC (aaN @jI (aaN @abV @iO))))))
def aSZ:=PLift.up (aaN @Zz (aaN @aR @Td))
def aTV:=PLift.up (aaN @dU (aaN @Td (aaN @dV (aaN @aZ (aaN @Ww (aaN @Xx (aaN @Yw (aaN @bB (aaN @dJ @dY)))))))))
def aiG:=PLift.up (aaN @Yq (aaN @dN (aaN @Xs (aaN @Td (aaN @afA (aaN @Xt (aaN @Yt (aaN @oY (aaN @We (aaN @zS (aaN @dL (aaN @aaS @dI))))))))))))
def abT:=PLift.up (aaN @vS (aaN @Xu (aaN @Tj (aaN @Um (aaN @Vz (aaN @Zu (aaN @Xm (aaN @dP (aaN @bT (aaN @Td (aaN @dU @dV)))))))))))
def ad2:=PLift.up (aaN @Vz (aaN @Zu @Xm))
def aT1:=PLift.up (aaN @We (aaN @iD (aaN @Wp (aaN @cN (aaN @eQ @dL)))))
def aTE:=PLift.up (aaN @We (aaN @iD (aaN @Wp (aaN @cN (aaN @eQ @dL)))))
def aTB:=PLift.up (aaN @We (aaN @iD (aaN @Zc (aaN @Ww (aaN @eQ @dL)))))
def aTH:=PLift.up (aaN @We (aaN @iD (aaN @Zc (aaN @Ww (aaN @eQ @dL)))))
end Go.Proofs.YtckfcfcmfjfchaaDoor
namespace Go.Proofs.YtckfcfcmfjfchaaDoor
open Go Go.Ev Go.ChangeShapes Go.WideShapes Go.ChangeAt Go.RowKit
set_option maxRecDepth 100000
set_option maxHeartbeats 16000000
def mdL:List Nat:=[46,62,72,56,60,57]
def pr:Yv:=afL 54 68 (mdL.contains ·)
noncomputable def Vf:Ui:=om Tryd.prog pr
theorem aRV(f:Nat):Vf.md f=([46,62,72,56,60,57]:List Nat).contains f:=Eq.trans rfl rfl
def Va:=PLift.up (aaN EE.down EVu.down)
def Vc:=PLift.up (aaN EG.down (aaN EVu.down @aRV))
theorem own:ownKnob Tryd.prog.godebug=none:=by kernel_rfl
theorem amO:aaO Tryd.prog:=fun f fn hf=>by
 have h:(Tryd.prog.funcs.toList.all fun fn=> !(fn.name== "runtime.NumGoroutine"))=true:=by kernel_rfl
 have:=ahC.1 h fn (by rw[Array.mem_toList_iff];exact Array.mem_of_getElem? hf)
 simpa using this
theorem mixed:Tryd.prog.follows .mixedOrders=true:=by kernel_rfl
theorem akJ:laidOutB Tryd.prog=true:=by kernel_rfl
def laid:List (String × DataW Unit):=[("math/bits.deBruijn32tab",Rows.laid_math_bits_deBruijn32tab),("math/bits.deBruijn64tab",Rows.laid_math_bits_deBruijn64tab),("internal/strconv.uint64pow10",Rows.laid_internal_strconv_uint64pow10)]
theorem aQP:Tryd.prog.globalNamed "internal/strconv.uint64pow10" =some 0:=by kernel_rfl
theorem tab{W:World}(h:laidMetH Tryd.prog laid W):Lib.TabIs Tryd.prog W "internal/strconv.uint64pow10" .u64 Lib.pow10Tab:=by
 rw[MakeChecks.laidMetH_plain _ _ _ (by kernel_rfl)]at h
 obtain⟨ps,h,_⟩:=h
 exact iK (t:=160) (e:=126) (n:=20) aQP (by kernel_rfl) (by kernel_rfl) (by kernel_rfl) (by kernel_rfl) (by kernel_rfl) h (by
  have e:(Lib.tabData .u64 Lib.pow10Tab:DataW Unit)=Rows.laid_internal_strconv_uint64pow10:=rfl
  rw[e];simp[laid])
theorem afE{W:World}(h:laidMetH Tryd.prog laid W):Uy Tryd.prog (agO W 0) Vf:=
 aR6 amO (af0 (akU (qH amO Tryd.func54 rfl) (agI aQP (tab h)) (fun n w h0 h1 ht=>Tryd.strconv_Itoa n h0 h1 w ht)) (ajY (qH amO Tryd.func68 rfl) Tryd.strings_Join_none Tryd.strings_Join)) mixed
theorem af5(os:Os)(args:Array Value):laidMetH Tryd.prog laid ((World.doorLaid Tryd.prog 400 os).forCall (fun _ _=>0) ⟨#[],args,[]⟩).memory:=
 laidMetH_of_parts3 (fuel:=8) (laidMet_of_run' 8 (by kernel_rfl) (by kernel_rfl)) (by kernel_rfl) (by kernel_rfl)
theorem aSD{f:Nat}{fn:Func}{c:Code}{args:List AV}{h:Pv}{Q:Tn→Pv→Prop}(hp:pr f=none)(hf:Tryd.prog.funcs[f]?=some fn)(hb:fn.body=some c)(hl:ag8 args.length fn.ntmps=true)
 (he:FnE Tryd.prog h.length fn.results.toList Q (Rr Vf Tryd.prog 5000 c [] ⟨mk fn.ntmps (eU args),h⟩)):ClQ Vf f args h Q:=ClQ.start (pr:=pr) hp hf hb hl he
theorem afG{f:Nat}{fn:Func}{c:Code}{args:List AV}{h:Pv}{Q:Tn→Pv→Prop}(hp:pr f=none)(hf:Tryd.prog.funcs[f]?=some fn)(hb:fn.body=some c)(hl:ag8 args.length fn.ntmps=true)
 (he:FnS Tryd.prog fn.results.toList Q (Rr Vf Tryd.prog 5000 c [] ⟨mk fn.ntmps (eU args),h⟩)):ShQ Vf f args h Q:=ShQ.start (pr:=pr) hp hf hb hl he
theorem ce{f:Nat}{fn:Func}{c:Code}{args:List AV}{h:Pv}{o:Tn}{h':Pv}(hf:Tryd.prog.funcs[f]?=some fn)(he:FnE Tryd.prog h.length fn.results.toList (fun o1 h1=>(o1,h1)=(o,h')) (Rr Vf Tryd.prog 5000 c [] ⟨mk fn.ntmps (eU args),h⟩))(hp:pr f=none:=by exact rfl)(hb:fn.body=some c:=by exact rfl)(hl:ag8 args.length fn.ntmps=true:=by exact rfl):Vf.call (.fn f) args h=some (o,h'):=(aSD hp hf hb hl he).eq
theorem csh{f:Nat}{fn:Func}{c:Code}{args:List AV}{h:Pv}{o:Tn}{h':Pv}(hf:Tryd.prog.funcs[f]?=some fn)(he:FnS Tryd.prog fn.results.toList (fun o1 h1=>(o1,h1)=(o,h')) (Rr Vf Tryd.prog 5000 c [] ⟨mk fn.ntmps (eU args),h⟩))(hp:pr f=none:=by exact rfl)(hb:fn.body=some c:=by exact rfl)(hl:ag8 args.length fn.ntmps=true:=by exact rfl):Vf.call (.sh f) args h=some (o,h'):=(afG hp hf hb hl he).eq
theorem yQ{α σ ρ:Type}{c:Code}(N:Nat)(l:List α)(E:Nat→σ→Tm→Pv→Prop)(F:List α→σ→ρ)(Q:ρ→Ex→Tm→Pv→Prop)
 (stop:∀s t h Q',(∀e t h,Q (F [] s) e t h→Q' e ⟨mk N t,h⟩)→E l.length s t h→rA N (fun _ _=>False) Q' (Rr Vf Tryd.prog 5000 c [] ⟨mk N t,h⟩))
 (go:∀x rest i s t h J Q',(∀t' h' s',E (i+1) s' t' h'→F rest s'=F (x::rest) s→J t' h')→(∀e t h,Q (F (x::rest) s) e t h→Q' e ⟨mk N t,h⟩)→l[i]?=some x→i<l.length→E i s t h→
   rA N J Q' (Rr Vf Tryd.prog 5000 c [] ⟨mk N t,h⟩)):
 ∀s t h,E 0 s t h→LpQ Vf c ⟨mk N t,h⟩ (Ot N (Q (F l s))):=abE (pr:=pr) rfl N l E F Q stop go
theorem cnt{σ ρ:Type}{c:Code}(N:Nat)(E:Nat→σ→Tm→Pv→Prop)(F:Nat→σ→ρ)(Q:ρ→Ex→Tm→Pv→Prop)
 (stop:∀s t h Q',(∀e t h,Q (F 0 s) e t h→Q' e ⟨mk N t,h⟩)→E 0 s t h→rA N (fun _ _=>False) Q' (Rr Vf Tryd.prog 5000 c [] ⟨mk N t,h⟩))
 (go:∀n s t h J Q',(∀t' h' s',E n s' t' h'→F n s'=F (n+1) s→J t' h')→(∀e t h,Q (F (n+1) s) e t h→Q' e ⟨mk N t,h⟩)→E (n+1) s t h→rA N J Q' (Rr Vf Tryd.prog 5000 c [] ⟨mk N t,h⟩)):
 ∀n s t h,E n s t h→LpQ Vf c ⟨mk N t,h⟩ (Ot N (Q (F n s))):=acK (pr:=pr) rfl N E F Q stop go
def iv(x:Int):List AV:=[.int .i64 x]
theorem Qe{h:Pv}{b:Nat}{c:CB}(h0:h[b]?=some c)(l:Pv):(h++l)[b]?=some c:=by
 rw[abZ (ag6.1 h0).1];exact h0
end Go.Proofs.YtckfcfcmfjfchaaDoor
namespace Go.Proofs.YtckfcfcmfjfchaaDoor
open Go.Ev Go
set_option maxRecDepth 100000
set_option maxHeartbeats 16000000
structure Px where
 one:Int
 other:Int
 valve:Bool
 opn:Bool
 tested:Int
 valid:Int
 bad:Bool
 test:Int
 change:Int
def Px.cells(p:Px):List AV:=[.int .i64 p.one,.int .i64 p.other,.bool p.valve,.bool p.opn,.int .i64 p.tested,.int .i64 p.valid,.bool p.bad,.int .i64 p.test,.int .i64 p.change]
structure Rf where
 rooms:Int
 need:Int
 nn:Bool
 parts:List Px
abbrev Rf.cells(w:Rf):List AV:=[.int .i64 w.rooms,.int .i64 w.need,Ux 9 true w.nn (w.parts.map Px.cells)]
theorem qM{α:Type}{f:α→List AV}{p:List AV→Prop}{q:α→Prop}(hf:∀r,p r→∃x,r=f x∧q x):∀{rows:List (List AV)},(∀r∈rows,p r)→∃l:List α,rows=l.map f∧∀x∈l,q x
 | [],_=>⟨[],rfl,fun x hx=>by simp at hx⟩
 |r::rows,h=>by
  obtain⟨x,rfl,hx⟩:=hf r (h r (ahE ..))
  obtain⟨l,rfl,hl⟩:=qM hf (fun r hr=>h r (List.mem_cons_of_mem _ hr))
  exact⟨x::l,rfl,fun y hy=>by
   rcases List.mem_cons.1 hy with rfl|hy
   ·exact hx
   ·exact hl y hy⟩
def i64(n:Int):Prop:= -9223372036854775808≤n∧n≤9223372036854775807
theorem bG{n:Nat}{r:List AV}(h:Ty Tryd.prog (n+1) 3 r):∃x,r=[.int .i64 x]∧i64 x:=by
 simp only[Ty,Tryd.underlying3]at h
 obtain⟨x,rfl,h1,h2⟩:=h
 exact⟨x,rfl,h1,h2⟩
theorem lL{n:Nat}{r:List AV}(h:Ty Tryd.prog (n+1) 4 r):∃x,r=[.bool x]:=by
 simp only[Ty,Tryd.underlying4]at h
 exact h
def Px.fits(p:Px):Prop:=i64 p.one∧i64 p.other∧i64 p.tested∧i64 p.valid∧i64 p.test∧i64 p.change
theorem alQ{n:Nat}{r:List AV}(h:Ty Tryd.prog (n+2) 62 r):∃x:Px,r=x.cells∧x.fits:=by
 unfold Ty at h
 simp only[Tryd.underlying62,vY]at h
 obtain⟨a0,b0,rfl,h0,a1,b1,rfl,h1,a2,b2,rfl,h2,a3,b3,rfl,h3,a4,b4,rfl,h4,a5,b5,rfl,h5,a6,b6,rfl,h6,a7,b7,rfl,h7,a8,b8,rfl,h8,rfl⟩:=h
 obtain⟨x0,rfl,k0⟩:=bG h0
 obtain⟨x1,rfl,k1⟩:=bG h1
 obtain⟨x2,rfl⟩:=lL h2
 obtain⟨x3,rfl⟩:=lL h3
 obtain⟨x4,rfl,k4⟩:=bG h4
 obtain⟨x5,rfl,k5⟩:=bG h5
 obtain⟨x6,rfl⟩:=lL h6
 obtain⟨x7,rfl,k7⟩:=bG h7
 obtain⟨x8,rfl,k8⟩:=bG h8
 exact⟨⟨x0,x1,x2,x3,x4,x5,x6,x7,x8⟩,rfl,k0,k1,k4,k5,k7,k8⟩
structure Rf.small(w:Rf):Prop where
 parts:w.parts.length≤maxLen
 fits:∀p∈w.parts,p.fits
 rooms:i64 w.rooms
 need:i64 w.need
theorem aiB{n:Nat}{r:List AV}(h:Ty Tryd.prog (n+4) 24 r):∃w:Rf,r=w.cells∧w.small:=by
 unfold Ty at h
 simp only[Tryd.underlying24,vY]at h
 obtain⟨a0,b0,rfl,h0,a1,b1,rfl,h1,a2,b2,rfl,h2,rfl⟩:=h
 obtain⟨x0,rfl,k0⟩:=bG h0
 obtain⟨x1,rfl,k1⟩:=bG h1
 unfold Ty at h2
 simp only[Tryd.underlying22]at h2
 obtain⟨n2,rows2,rfl,hl2,hrows2⟩:=h2
 obtain⟨l2,rfl,hm⟩:=qM (fun r hr=>alQ hr) hrows2
 have e2:Tryd.prog.cellsOf 62=9:=by kernel_rfl
 have f2:sF Tryd.prog (n+2) 62=true:=by
  simp only[sF,Tryd.underlying62,Tryd.underlying3,Tryd.underlying4];rfl
 rw[e2,f2]
 exact⟨⟨x0,x1,n2,l2⟩,rfl,by simpa using hl2,hm,k0,k1⟩
theorem akR{av:AV}(h:vC Tryd.prog 7 24 av):∃w:Rf,av=.agg w.cells∧w.small:=by
 unfold vC at h
 simp only[Tryd.underlying24]at h
 obtain⟨cs,rfl,h⟩:=h
 obtain⟨s,rfl,hs⟩:=aiB h
 exact⟨s,rfl,hs⟩
theorem aFN{av:AV}(h:vC Tryd.prog 7 3 av):∃x,av=.int .i64 x∧i64 x:=by
 unfold vC at h
 simp only[Tryd.underlying3]at h
 obtain⟨x,hx,hi⟩:=bG h
 simp only[List.cons.injEq,and_true]at hx
 exact⟨x,hx,hi⟩
end Go.Proofs.YtckfcfcmfjfchaaDoor
namespace Go.Proofs.YtckfcfcmfjfchaaDoor
open Go.Ev Go Go.Ev.Net
set_option maxRecDepth 100000
set_option maxHeartbeats 16000000
def Yj(x lo hi:Int):Bool:=decide (lo≤x)&&decide (x≤hi)
theorem qL(x lo hi:Int):Vf.call (.fn 39) [.int .i64 x,.int .i64 lo,.int .i64 hi] []=some (.ret (.bool (Yj x lo hi)),[]):=by
 (refine ce Tryd.func39 ?_;simp only[Tryd.f39];(have hb:=trivial;with_reducible repeat' (first|simp only[hb,Va.down,seval]|refine Rj ?_ ?_<;>intro hb|refine fd ?_|fail)))
 all_goals simp[Yj, *]
theorem nK(x lo hi:Int):Vf.call (.fn 48) [.int .i64 x,.int .i64 lo,.int .i64 hi] []=some (.ret (.bool (Yj x lo hi)),[]):=by
 (refine ce Tryd.func48 ?_;simp only[Tryd.f48];(have hb:=trivial;with_reducible repeat' (first|simp only[hb,Va.down,seval]|refine Rj ?_ ?_<;>intro hb|refine fd ?_|fail)))
 all_goals simp[Yj, *]
def aN(d:Int):Bool:=Yj d 0 5000
theorem adM(d:Int):Vf.call (.fn 13) [.int .i64 d] []=some (.ret (.bool (aN d)),[]):=by
 (refine ce Tryd.func13 ?_;simp only[Tryd.f13];(have hb:=trivial;with_reducible repeat' (first|simp only[hb,Va.down,seval,qL]|refine Rj ?_ ?_<;>intro hb|refine fd ?_|fail)))
 rfl
def Ri(p:Px)(d:Int):Int:=if p.bad=true then 2 else if IntKind.i64.wrap (p.tested+p.valid)<d then 1 else 0
def vX(p:Px)(d:Int):Bool:=Ri p d==0&& !p.opn
theorem tL(p:Px)(d:Int):Vf.call (.fn 45) [.agg [.int .i64 p.one,.int .i64 p.other,.bool p.valve,.bool p.opn,.int .i64 p.tested,.int .i64 p.valid,.bool p.bad,.int .i64 p.test,.int .i64 p.change],.int .i64 d] []=some (.ret (.int .i64 (Ri p d)),[]):=by
 (refine ce Tryd.func45 ?_;simp only[Tryd.f45];(have hb:=trivial;with_reducible repeat' (first|simp only[hb,Va.down,seval,aS7.down]|refine Rj ?_ ?_<;>intro hb|refine fd ?_|fail)))
 all_goals simp_all[Ri]
def Yx(n:Nat):List AV:=[.int .i64 (n:Int)]
def wN(w:Rf)(d:Int):List Bool:=w.parts.map fun p=>vX p d
theorem aS{h:Pv}{b:Nat}(hb:b<h.length)(l:Pv)(c:CB):(h++l).set b c=h.set b c++l:=List.set_append_left _ _ hb
theorem Pz{h:Pv}{b:Nat}{c:CB}(e:h[b]?=some c):b<h.length:=(ag6.1 e).1
theorem bS{h:Pv}{b:Nat}(c:CB)(l:Pv):(h.set b c++l)[h.length]?=l[0]?:=by
 rw[ag9 (by simp)];simp
theorem Qs{h:Pv}{b:Nat}(c:CB)(l:Pv)(k:Nat):(h.set b c++l)[h.length+k]?=l[k]?:=by
 rw[ag9 (by simp)];simp
theorem xR{h:Pv}{b b':Nat}{x:CB}(c:CB)(hne:b≠b')(hb:h[b']?=some x)(l:Pv):(h.set b c++l)[b']?=some x:=by
 have hlt:b'<h.length:=(ag6.1 hb).1
 rw[abZ (by simpa using hlt),ab0 hne];exact hb
def rK(w:Rf)(ts:List Bool):List Net.Edge:=List.zipWith (fun p t=>(p.one.toNat,p.other.toNat,if t=true then 1 else 0)) w.parts ts
structure WOk(w:Rf)(N:Nat):Prop where
 rooms:w.rooms=(N:Int)
 n2:2≤N
 n8:N≤8
 len:w.parts.length≤1000
 ne:w.parts≠[]
 part:∀p∈w.parts,(0≤p.one∧p.one<(N:Int))∧(0≤p.other∧p.other<(N:Int))∧p.one≠p.other
theorem alK{w:Rf}{ts:List Bool}{i:Nat}{e:Net.Edge}(h:(rK w ts)[i]?=some e):∃p t,w.parts[i]?=some p∧ts[i]?=some t∧e=(p.one.toNat,p.other.toNat,if t=true then 1 else 0):=by
 unfold rK at h
 rw[List.getElem?_zipWith]at h
 cases h1:w.parts[i]? with
 |none=>simp[h1]at h
 |some p=>
  cases h2:ts[i]? with
  |none=>simp[h1,h2]at h
  |some t=>simp[h1,h2]at h;exact⟨p,t,rfl,rfl,h.symm⟩
theorem nL{w:Rf}{N:Nat}(hw:WOk w N)(ts:List Bool):nX (rK w ts) N:=fun a b c h=>by
 obtain⟨i,hi⟩:=List.getElem?_of_mem h
 obtain⟨p,t,h1,_,he⟩:=alK hi
 cases he
 have:=hw.part p (ahJ h1)
 refine⟨by omega,by omega,by omega,?_⟩
 split<;>omega
theorem qR{d:List Nat}{a:Nat}(h:a<d.length):(d.map Yx)[a]?=some [.int .i64 (d.getD a 0:Nat)]:=by
 rw[List.getElem?_map,akQ h,List.getD_eq_getElem?_getD,akQ h];rfl
def jD(w:Rf)(N:Nat)(d:Int):Nat:=oI (rK w (wN w d)) N w.parts.length
theorem aPQ(b:Bool):Vf.call (.fn 59) [.bool b] []=some (.ret (.int .i64 (if b=true then 1 else 0)),[]):=by
 cases b<;>(refine ce Tryd.func59 ?_;simp only[Tryd.f59];(have hb:=trivial;with_reducible repeat' (first|simp only[hb,Va.down,seval]|refine Rj ?_ ?_<;>intro hb|refine fd ?_|fail)))
theorem xM(c:Int)(o:Bool):Vf.call (.fn 37) [.agg [.int .i64 c,.bool o]] []=some (.ret (.bool (c==0&& !o)),[]):=by
 cases hc:(c==0)<;>(refine ce Tryd.func37 ?_;simp only[Tryd.f37];(have hb:=trivial;with_reducible repeat' (first|simp only[hb,Va.down,seval,aS3.down,hc]|refine Rj ?_ ?_<;>intro hb|refine fd ?_|fail)))
theorem Us(b r o:Nat)(i:Int):ia Tryd.prog 75 (some (.ptr b r o)) (some (.int .i64 i))=if 0≤i∧i<12 then some (.ret (.ptr b r (o+i.toNat*2)),[])else none:=by
 have h:Vw Tryd.prog 75 (.ptr b r o) (.int .i64 i)=if 0≤i∧i<12 then some (.ptr b r (o+i.toNat*2))else none:=by
  unfold Vw
  simp only[Tryd.underlying75]
  have hz:aK Tryd.prog 73=some 2:=by kernel_rfl
  rw[hz]
  simp
 simp only[ia,alS,h]
 split<;>rfl
def Qb(w:Rf)(d:Int):List (Int × Bool):=w.parts.map (fun p=>(Ri p d,p.opn))++ab3 (12-w.parts.length) (0,false)
def Ve(l:List (Int × Bool)):List AV:=l.flatMap fun x=>[.int .i64 x.1,.bool x.2]
theorem Wt(l:List (Int × Bool)):(Ve l).length=2*l.length:=by
 induction l with
 |nil=>rfl
 |cons x l ih=>simp[Ve]at ih ⊢;omega
theorem rQ:∀(L:List (Int × Bool)) (i:Nat) (a:Int) (b b':Bool),L[i]?=some (a,b)→adC (i*2+1) (Ve L)++([.bool b']++ah0 (i*2+2) (Ve L))=Ve (L.set i (a,b'))
 | [],i,a,b,b',h=>by simp at h
 |x::L,0,a,b,b',h=>by simp at h;subst h;simp[Ve]
 |x::L,i+1,a,b,b',h=>by
  have ih:=rQ L i a b b' (by simpa using h)
  rw[show(i+1)*2+1=(i*2+1)+1+1 by omega,show(i+1)*2+2=(i*2+2)+1+1 by omega]
  simp only[Ve,ah8,ai6,aj1,alY,al1,al4]at ih ⊢
  rw[←ih]
theorem gA:∀(L:List (Int × Bool)) (i:Nat) (a a':Int) (b:Bool),L[i]?=some (a,b)→adC (i*2) (Ve L)++([.int .i64 a']++ah0 (i*2+1) (Ve L))=Ve (L.set i (a',b))
 | [],i,a,a',b,h=>by simp at h
 |x::L,0,a,a',b,h=>by simp at h;subst h;simp[Ve]
 |x::L,i+1,a,a',b,h=>by
  have ih:=gA L i a a' b (by simpa using h)
  rw[show(i+1)*2=(i*2)+1+1 by omega,show(i*2)+1+1+1=(i*2+1)+1+1 by omega]
  simp only[Ve,ah8,ai6,aj1,alY,al1,al4]at ih ⊢
  rw[←ih]
def pcI(w:Rf)(d:Int)(i:Nat):List (Int × Bool):=(w.parts.take i).map (fun p=>(Ri p d,p.opn))++ab3 (12-i) (0,false)
theorem anC{w:Rf}{d:Int}{i:Nat}(hi:i<w.parts.length)(h12:w.parts.length≤12):(pcI w d i)[i]?=some (0,false):=by
 have hl:((w.parts.take i).map fun p=>(Ri p d,p.opn)).length=i:=by rw[abY,al6];omega
 unfold pcI
 rw[ag9 (by omega),hl,Nat.sub_self,List.getElem?_replicate,if_pos (by omega)]
theorem ae5{w:Rf}{d:Int}{i:Nat}{p:Px}(hx:w.parts[i]?=some p)(h12:w.parts.length≤12):(pcI w d i).set i (Ri p d,p.opn)=pcI w d (i+1):=by
 have hi:i<w.parts.length:=(ag6.1 hx).1
 have hl:((w.parts.take i).map fun p=>(Ri p d,p.opn)).length=i:=by rw[abY,al6];omega
 unfold pcI
 rw[List.set_append_right _ _ (by omega),hl,Nat.sub_self,List.take_add_one,hx]
 have e:12-i=(12-(i+1))+1:=by omega
 rw[e,List.replicate_succ]
 simp
theorem nF(w:Rf)(d:Int)(wf:Bool)(h12:w.parts.length≤12):Vf.call (.fn 35) [.ptr 0 0 0] [.live 4 false wf [[.int .i64 w.rooms,.int .i64 w.need,Ux 9 true w.nn (w.parts.map Px.cells),.int .i64 d]]]=some (.ret (.agg (Ve (Qb w d))),[.live 4 false wf [[.int .i64 w.rooms,.int .i64 w.need,Ux 9 true w.nn (w.parts.map Px.cells),.int .i64 d]]]):=by
 refine ce Tryd.func35 ?_
 simp only[Tryd.f35]
 (have hb:=trivial;with_reducible repeat' (first|simp only[hb,Va.down,seval,akN.down,abY]|refine Rj ?_ ?_<;>intro hb|refine fd ?_|fail))
 refine iP (yQ 44 w.parts (fun i (_:Unit) t h=>t 0=.ptr 0 0 0∧t 2=.ptr 1 0 0∧t 3=.ptr 2 0 0∧t 10=Ux 9 true w.nn (w.parts.map Px.cells)∧t 11=.int .i64 (w.parts.length:Nat)∧t 12=.int .i64 (i:Int)∧h[0]?=some (.live 4 false wf [[.int .i64 w.rooms,.int .i64 w.need,Ux 9 true w.nn (w.parts.map Px.cells),.int .i64 d]])∧h[1]?=some (.live 24 true false [Ve (ab3 12 (0,false))])∧∃f,h[2]?=some (.live 24 true f [Ve (pcI w d i)])) (fun _ _=>())
  (fun _ e t h=>e=.exit 0∧t 2=.ptr 1 0 0∧t 3=.ptr 2 0 0∧h[0]?=some (.live 4 false wf [[.int .i64 w.rooms,.int .i64 w.need,Ux 9 true w.nn (w.parts.map Px.cells),.int .i64 d]])∧h[1]?=some (.live 24 true false [Ve (ab3 12 (0,false))])∧∃f,h[2]?=some (.live 24 true f [Ve (pcI w d w.parts.length)])) ?_ ?_ () _ _ ?_) (fun e t h hk=>?_)
 ·rintro _ t h Q' kQ ⟨h0,h2,h3,h10,h11,h12',hA,hB,f,hC⟩
  (have hb:=trivial;with_reducible repeat' (first|simp only[hb,Va.down,seval,akN.down,h11,h12',ahA,decide_false]|refine Rj ?_ ?_<;>intro hb|refine fd ?_|fail))
  exact kQ _ _ _ ⟨rfl,by simp[up,h2],by simp[up,h3],hA,hB,f,hC⟩
 ·rintro p rest i _ t h J Q' kJ kQ hx hi ⟨h0,h2,h3,h10,h11,h12',hA,hB,f,hC⟩
  have hdd:decide ((i:Int)<(w.parts.length:Int))=true:=decide_eq_true (by omega)
  have hww:=Ya hi (by unfold maxLen;omega)
  have hA1:=Qe hA
  have hC1:=Qe hC
  have hl2:=Pz hC
  have i1:((i:Int)<12)=True:=eq_true (by omega)
  have hpl:(Ve (pcI w d i)).length=24:=by rw[Wt];simp[pcI];omega
  have hS:=aS hl2
  have i2:(i*2≤22)=True:=eq_true (by omega)
  have i3:(i*2≤23)=True:=eq_true (by omega)
  have hat:=anC (d:=d) hi h12
  have hnx:=ae5 (d:=d) hx h12
  generalize hL:pcI w d i=L at *
  have s1:=rQ L i 0 false p.opn hat
  have tk1:adC (23-i*2) [AV.bool p.opn]=[AV.bool p.opn]:=ag7 (by simp;omega)
  have hat2:(L.set i (0,p.opn))[i]?=some (0,p.opn):=ab2 (by have:=(ag6.1 hat).1;exact this)
  have s2:=fun v=>gA (L.set i (0,p.opn)) i 0 v p.opn hat2
  have tk2:∀v,adC (24-i*2) [AV.int .i64 v]=[AV.int .i64 v]:=fun v=>ag7 (by simp;omega)
  simp only[ai6,aj1]at s1 s2
  have hpl2:(Ve (L.set i (0,p.opn))).length=24:=by rw[Wt]at hpl ⊢;simpa using hpl
  have hg2:∀c l,(h.set 2 c++l)[2]?=some c:=fun c l=>by rw[abZ (by simpa using hl2),ab2 hl2]
  have hg0:∀c l,(h.set 2 c++l)[0]?=h[0]?:=fun c l=>by rw[abZ (by simp;omega),ab0 (by omega)]
  have hg1:∀c l,(h.set 2 c++l)[1]?=h[1]?:=fun c l=>by rw[abZ (by simp;omega),ab0 (by omega)]
  have hgs:∀c l c',(h.set 2 c++l).set 2 c'=h.set 2 c'++l:=fun c l c'=>by rw[aS (by simpa using hl2),List.set_set]
  have ss2:∀v:Int,(L.set i (0,p.opn)).set i (v,p.opn)=L.set i (v,p.opn):=fun v=>List.set_set ..
  have nx:∀(v:Int) (t':Tm) (l':Pv),Ri p d=v→t' 0=.ptr 0 0 0∧t' 2=.ptr 1 0 0∧t' 3=.ptr 2 0 0∧t' 10=Ux 9 true w.nn (w.parts.map Px.cells)∧t' 11=.int .i64 (w.parts.length:Nat)∧t' 12=.int .i64 ((i+1:Nat):Int)→J t' (h.set 2 (.live 24 true true [Ve (L.set i (v,p.opn))])++l'):=fun v t' l' hv ht=>by
   rw[←hv,hnx]
   exact kJ _ _ () ⟨ht.1,ht.2.1,ht.2.2.1,ht.2.2.2.1,ht.2.2.2.2.1,ht.2.2.2.2.2,by rw[hg0];exact hA,by rw[hg1];exact hB,true,hg2 _ _⟩ rfl
  (have hb:=trivial;with_reducible repeat' (first|simp only[hb,Va.down,seval,akN.down,h0,h2,h3,h10,h11,h12',hdd,hww,hx,hA,hA1,hC,hC1,hS,Us,i1,i2,i3,hpl,hpl2,s1,s2,tk1,tk2,ss2,hg2,hg0,hg1,hgs,bS,Qs,akA,Px.cells]|refine Rj ?_ ?_<;>intro hb|refine fd ?_|fail))
  ·refine Qk (nx 2 _ _ (by simp[Ri, *]) ⟨by simp[up,h0],by simp[up,h2],by simp[up,h3],by simp[up,h10],by simp[up,h11],by simp[up]⟩)
  ·refine Qk (nx 1 _ _ (by simp[Ri];simp_all) ⟨by simp[up,h0],by simp[up,h2],by simp[up,h3],by simp[up,h10],by simp[up,h11],by simp[up]⟩)
  ·refine Qk (nx 0 _ _ (by simp[Ri];simp_all) ⟨by simp[up,h0],by simp[up,h2],by simp[up,h3],by simp[up,h10],by simp[up,h11],by simp[up]⟩)
 ·exact⟨by simp[up,eU],by simp[up],by simp[up],by simp[up],by simp[up],by simp[up],rfl,rfl,false,rfl⟩
 obtain⟨rfl,h2,h3,hA,hB,f,hC⟩:=hk
 have hL:pcI w d w.parts.length=Qb w d:=by unfold pcI Qb;rw[ag7 (Nat.le_refl _)]
 rw[hL]at hC
 have hpl:(Ve (Qb w d)).length=24:=by rw[Wt];simp[Qb];omega
 have hpz:(Ve (ab3 12 (0,false))).length=24:=by rw[Wt];simp
 have htk:adC 24 (Ve (Qb w d))=Ve (Qb w d):=ag7 (by omega)
 have hl1:=Pz hB
 generalize Ve (ab3 12 (0,false))=zs at *
 have hdz:ah0 24 zs=[]:=List.drop_eq_nil_iff.2 (by omega)
 have hcell:(Ve (Qb w d)).all AV.isCell=true:=by
  have:∀l:List (Int × Bool),(Ve l).all AV.isCell=true:=fun l=>by
   induction l with
   |nil=>rfl
   |cons x l ih=>simp only[Ve,ah8,List.all_append]at ih ⊢;rw[ih];rfl
  exact this _
 have hform:∀x∈Ve (Qb w d),(∃n,x=.int .i64 n)∨∃b,x=.bool b:=fun x hx=>by
  simp only[Ve,List.mem_flatMap,List.mem_cons,List.not_mem_nil,or_false]at hx
  obtain⟨y,_,rfl|rfl⟩:=hx
  ·exact .inl ⟨_,rfl⟩
  ·exact .inr ⟨_,rfl⟩
 have hflat:(Ve (Qb w d)).all AV.flat=true:=ahC.2 fun x hx=>by rcases hform x hx with⟨n,rfl⟩|⟨b,rfl⟩<;>rfl
 have hrf:Sv.refL (Sv 7) [0] (Ve (Qb w d))=some (Ve (Qb w d),[0]):=Vy fun x hx=>by rcases hform x hx with⟨n,rfl⟩|⟨b,rfl⟩<;>rfl
 have hg1:∀c,(h.set 1 c)[1]?=some c:=fun c=>ab2 hl1
 have hg0:∀c,(h.set 1 c)[0]?=h[0]?:=fun c=>ab0 (by omega)
 generalize Ve (Qb w d)=ps at *
 (have hb:=trivial;with_reducible repeat' (first|simp only[hb,Va.down,seval,akN.down,h2,h3,hA,hB,hC,hpl,hpz,htk,hdz,hcell,hflat,hrf,hg1,hg0]|refine Rj ?_ ?_<;>intro hb|refine fd ?_|fail))
def Vx(N:Int)(p:Px):Bool:=Yj p.one 0 (IntKind.i64.wrap (N-1))&&Yj p.other 0 (IntKind.i64.wrap (N-1))&& !(p.one==p.other)&& !(p.opn&& !p.valve)&&aN p.tested&&aN p.valid&&Yj p.test 1 1000&&Yj p.change 1 1000
def sD(w:Rf):Bool:=Yj w.rooms 2 8&&Yj w.need 0 12&&Yj (w.parts.length:Int) 1 12
def Xa(w:Rf):Bool:=sD w&&w.parts.all (Vx w.rooms)
theorem aeP(w:Rf)(hs:w.small):Vf.call (.fn 12) [.agg [.int .i64 w.rooms,.int .i64 w.need,Ux 9 true w.nn (w.parts.map Px.cells)]] []=some (.ret (.bool (Xa w)),[]):=by
 have k1:=qL w.rooms 2 8
 have k2:=qL w.need 0 12
 have k3:=qL (w.parts.length:Int) 1 12
 have hh:sD w=(Yj w.rooms 2 8&&Yj w.need 0 12&&Yj (w.parts.length:Int) 1 12):=rfl
 unfold Xa
 generalize Yj w.rooms 2 8=c1 at *
 generalize Yj w.need 0 12=c2 at *
 generalize Yj (w.parts.length:Int) 1 12=c3 at *
 cases c1
 ·rw[hh]
  (refine ce Tryd.func12 ?_;simp only[Tryd.f12];(have hb:=trivial;with_reducible repeat' (first|simp only[hb,Va.down,seval,tA.down,k1,k2,k3,abY]|refine Rj ?_ ?_<;>intro hb|refine fd ?_|fail)))
 cases c2
 ·rw[hh]
  (refine ce Tryd.func12 ?_;simp only[Tryd.f12];(have hb:=trivial;with_reducible repeat' (first|simp only[hb,Va.down,seval,tA.down,k1,k2,k3,abY]|refine Rj ?_ ?_<;>intro hb|refine fd ?_|fail)))
 cases c3
 ·rw[hh]
  (refine ce Tryd.func12 ?_;simp only[Tryd.f12];(have hb:=trivial;with_reducible repeat' (first|simp only[hb,Va.down,seval,tA.down,k1,k2,k3,abY]|refine Rj ?_ ?_<;>intro hb|refine fd ?_|fail)))
 rw[hh]
 simp only[Bool.and_self,Bool.true_and]
 (refine ce Tryd.func12 ?_;simp only[Tryd.f12];(have hb:=trivial;with_reducible repeat' (first|simp only[hb,Va.down,seval,tA.down,k1,k2,k3,abY]|refine Rj ?_ ?_<;>intro hb|refine fd ?_|fail)))
 refine iP (yQ 90 w.parts (fun i (zz:Unit) t h=>t 1=.ptr 0 0 0∧t 3=.int .i64 i∧(h[0]?=some (.live 3 false false [[.int .i64 w.rooms,.int .i64 w.need,Ux 9 true w.nn (w.parts.map Px.cells)]]))) (fun rest zz=>rest.all (Vx w.rooms)) (fun r e t h=>(e=.exit 0∧r=true)∨(e=.ret∧t 2=.bool false∧r=false)) ?_ ?_ () _ _ ?_) (fun e t h hk=>?_)
 ·rintro _ t h Q' kQ ⟨h1,h3,hA⟩
  (have hb:=trivial;with_reducible repeat' (first|simp only[hb,Va.down,seval,tA.down,h1,h3,ahA,decide_false,hA,abY]|refine Rj ?_ ?_<;>intro hb|refine fd ?_|fail))
  exact kQ _ _ _ (.inl ⟨rfl,rfl⟩)
 ·rintro x rest i _ t h J Q' kJ kQ hx hi ⟨h1,h3,hA⟩
  have hd:decide ((i:Int)<(w.parts.length:Int))=true:=decide_eq_true (by omega)
  have hw:=Ya hi hs.parts
  have q1:=qL x.one 0 (IntKind.i64.wrap (w.rooms-1))
  have q2:=qL x.other 0 (IntKind.i64.wrap (w.rooms-1))
  have q4:=adM x.tested
  have q5:=adM x.valid
  have q6:=qL x.test 1 1000
  have q7:=qL x.change 1 1000
  have hp:Vx w.rooms x=(Yj x.one 0 (IntKind.i64.wrap (w.rooms-1))&&Yj x.other 0 (IntKind.i64.wrap (w.rooms-1))&& !(x.one==x.other)&& !(x.opn&& !x.valve)&&aN x.tested&&aN x.valid&&Yj x.test 1 1000&&Yj x.change 1 1000):=rfl
  have hA1:=Qe hA
  generalize Yj x.one 0 (IntKind.i64.wrap (w.rooms-1))=d1 at *
  generalize Yj x.other 0 (IntKind.i64.wrap (w.rooms-1))=d2 at *
  cases hq3:(x.one==x.other)
  all_goals rw[hq3]at hp
  all_goals generalize aN x.tested=d4 at *
  all_goals generalize aN x.valid=d5 at *
  all_goals generalize Yj x.test 1 1000=d6 at *
  all_goals generalize Yj x.change 1 1000=d7 at *
  all_goals (have hb:=trivial;with_reducible repeat' (first|simp only[hb,Va.down,seval,tA.down,h1,h3,hd,hx,hw,hA,hA1,q1,q2,hq3,q4,q5,q6,q7,Px.cells,abY]|refine Rj ?_ ?_<;>intro hb|refine fd ?_|fail))
  all_goals first|(refine kQ _ _ _ (.inr ⟨rfl,by simp[up],?_⟩);simp_all;done)|(refine Qk (kJ _ _ () ⟨?_,?_,hA1 _⟩ ?_);(simp[up,h1]);(simp[up]);(simp_all))
 ·exact⟨by simp[up,eU],by simp[up],rfl⟩
 rcases hk with⟨rfl,hr⟩|⟨rfl,h2,hr⟩
 ·rw[hr]
  (have hb:=trivial;with_reducible repeat' (first|simp only[hb,Va.down,seval,tA.down]|refine Rj ?_ ?_<;>intro hb|refine fd ?_|fail))
 ·rw[hr]
  (have hb:=trivial;with_reducible repeat' (first|simp only[hb,Va.down,seval,tA.down,h2]|refine Rj ?_ ?_<;>intro hb|refine fd ?_|fail))
theorem lI{w:Rf}(h:Xa w=true):∃N,WOk w N∧w.parts.length≤12:=by
 simp only[Xa,sD,Yj,amJ,decide_eq_true_eq,ahC]at h
 obtain⟨⟨⟨⟨h1,h2⟩,h3,h4⟩,h5,h6⟩,h7⟩:=h
 refine⟨w.rooms.toNat,⟨by omega,by omega,by omega,by omega,fun e=>by rw[e]at h5;simp at h5,fun p hp=>?_⟩,by omega⟩
 have:=h7 p hp
 simp only[Vx,Yj,amJ,decide_eq_true_eq,Bool.not_eq_true',beq_eq_false_iff_ne]at this
 obtain⟨⟨⟨⟨⟨⟨⟨a1,a2⟩,a3⟩,_⟩,_⟩,_⟩,_⟩,_⟩:=this
 rw[cO (by omega) (by omega)]at a1 a2
 refine⟨by omega,by omega,a3⟩
def idx{α:Type}(p:α→Bool):List α→Int→Int
 | [],_=> -1
 |x::l,i=>if p x=true then i else idx p l (i+1)
theorem yM{α:Type}(p:α→Bool):∀(l:List α) (i:Int),0≤i→decide (0≤idx p l i)=l.any p
 | [],i,_=>rfl
 |x::l,i,h=>by
  unfold idx
  split
  ·rename_i hp;simp[h,hp]
  ·rename_i hp;rw[yM p l (i+1) (by omega)];simp[hp]
theorem aGM(p:Px)(N:Int):Vf.call (.fn 66) [.agg [.int .i64 p.one,.int .i64 p.other,.bool p.valve,.bool p.opn,.int .i64 p.tested,.int .i64 p.valid,.bool p.bad,.int .i64 p.test,.int .i64 p.change],.int .i64 N] []=some (.ret (.bool (Vx N p)),[]):=by
 have q1:=nK p.one 0 (IntKind.i64.wrap (N-1))
 have q2:=nK p.other 0 (IntKind.i64.wrap (N-1))
 have q4:=nK p.tested 0 5000
 have q5:=nK p.valid 0 5000
 have q6:=nK p.test 1 1000
 have q7:=nK p.change 1 1000
 have hp:Vx N p=(Yj p.one 0 (IntKind.i64.wrap (N-1))&&Yj p.other 0 (IntKind.i64.wrap (N-1))&& !(p.one==p.other)&& !(p.opn&& !p.valve)&&Yj p.tested 0 5000&&Yj p.valid 0 5000&&Yj p.test 1 1000&&Yj p.change 1 1000):=rfl
 generalize Yj p.one 0 (IntKind.i64.wrap (N-1))=d1 at *
 generalize Yj p.other 0 (IntKind.i64.wrap (N-1))=d2 at *
 generalize Yj p.tested 0 5000=d4 at *
 generalize Yj p.valid 0 5000=d5 at *
 generalize Yj p.test 1 1000=d6 at *
 generalize Yj p.change 1 1000=d7 at *
 cases hq3:(p.one==p.other)
 all_goals rw[hq3]at hp
 all_goals rw[hp]
 all_goals (refine ce Tryd.func66 ?_;simp only[Tryd.f66];(have hb:=trivial;with_reducible repeat' (first|simp only[hb,Va.down,seval,aTV.down,q1,q2,hq3,q4,q5,q6,q7]|refine Rj ?_ ?_<;>intro hb|refine fd ?_|fail)))
 all_goals simp_all
theorem ahH(w:Rf)(x:Px):Vf.call (.fn 65) [.agg [.int .i64 x.one,.int .i64 x.other,.bool x.valve,.bool x.opn,.int .i64 x.tested,.int .i64 x.valid,.bool x.bad,.int .i64 x.test,.int .i64 x.change],.ptr 0 0 0] [.live 3 false false [[.int .i64 w.rooms,.int .i64 w.need,Ux 9 true w.nn (w.parts.map Px.cells)]]]=some (.ret (.bool (!Vx w.rooms x)),[.live 3 false false [[.int .i64 w.rooms,.int .i64 w.need,Ux 9 true w.nn (w.parts.map Px.cells)]]]):=by
 have h:=aGM x w.rooms
 (refine ce Tryd.func65 ?_;simp only[Tryd.f65];(have hb:=trivial;with_reducible repeat' (first|simp only[hb,Va.down,seval,aSZ.down,h]|refine Rj ?_ ?_<;>intro hb|refine fd ?_|fail)))
theorem abX{l:List Px}{nn:Bool}{g:Nat}{mm:Rf}{p:Px→Bool}(hp:∀x∈l,Vf.call (.fn g) (.agg [.int .i64 x.one,.int .i64 x.other,.bool x.valve,.bool x.opn,.int .i64 x.tested,.int .i64 x.valid,.bool x.bad,.int .i64 x.test,.int .i64 x.change]::[.ptr 0 0 0]) [.live 3 false false [[.int .i64 mm.rooms,.int .i64 mm.need,Ux 9 true mm.nn (mm.parts.map Px.cells)]]]=some (.ret (.bool (p x)),[.live 3 false false [[.int .i64 mm.rooms,.int .i64 mm.need,Ux 9 true mm.nn (mm.parts.map Px.cells)]]]))(hl:l.length≤maxLen):
 Vf.call (.fn 83) [Ux 9 true nn (l.map Px.cells),.func (.func g) [] [.ptr 0 0 0]] [.live 3 false false [[.int .i64 mm.rooms,.int .i64 mm.need,Ux 9 true mm.nn (mm.parts.map Px.cells)]]]=some (.ret (.int .i64 (idx p l 0)),[.live 3 false false [[.int .i64 mm.rooms,.int .i64 mm.need,Ux 9 true mm.nn (mm.parts.map Px.cells)]]]):=by
 (refine ce Tryd.func83 ?_;simp only[Tryd.f83];(have hb:=trivial;with_reducible repeat' (first|simp only[hb,Va.down,seval,ad2.down,abY]|refine Rj ?_ ?_<;>intro hb|refine fd ?_|fail)))
 refine iP (yQ 19 l (fun i (s:Int) t h=>s=i∧h=[.live 3 false false [[.int .i64 mm.rooms,.int .i64 mm.need,Ux 9 true mm.nn (mm.parts.map Px.cells)]]]∧t 0=Ux 9 true nn (l.map Px.cells)∧t 1=.func (.func g) [] [.ptr 0 0 0]∧t 7=.int .i64 l.length∧t 8=.int .i64 i)
  (fun rest s=>idx p rest s) (fun r e t h=>h=[.live 3 false false [[.int .i64 mm.rooms,.int .i64 mm.need,Ux 9 true mm.nn (mm.parts.map Px.cells)]]]∧((e=.exit 0∧r= -1)∨(e=.ret∧t 4=.int .i64 r))) ?_ ?_ 0 _ _ ?_) (fun e t h hk=>?_)
 ·rintro s t h Q' kQ ⟨rfl,rfl,h0,h1,h7,h8⟩
  (have hb:=trivial;with_reducible repeat' (first|simp only[hb,Va.down,seval,ad2.down,h0,h1,h7,h8,ahA,decide_false]|refine Rj ?_ ?_<;>intro hb|refine fd ?_|fail))
  exact kQ _ _ _ ⟨rfl,.inl ⟨rfl,rfl⟩⟩
 ·rintro x rest i s t h J Q' kJ kQ hx hi ⟨rfl,rfl,h0,h1,h7,h8⟩
  have hpx:=hp x (ahJ hx)
  have hd:decide ((i:Int)<(l.length:Int))=true:=by simpa using hi
  (have hb:=trivial;with_reducible repeat' (first|simp only[hb,Va.down,seval,ad2.down,h0,h1,h7,h8,hd,hx,Px.cells,hpx,Ya hi hl]|refine Rj ?_ ?_<;>intro hb|refine fd ?_|fail))
  ·exact kQ _ _ _ ⟨rfl,.inr ⟨rfl,by simp[up,idx,hb]⟩⟩
  ·exact Qk (kJ _ _ (i+1) ⟨by simp,rfl,by simp[up,h0],by simp[up,h1],by simp[up,h7],by simp[up]⟩ (by simp[idx,hb]))
 ·exact⟨rfl,rfl,by simp[up,eU],by simp[up,eU],by simp[up],by simp[up]⟩
 ·obtain⟨rfl,⟨rfl,hi⟩|⟨rfl,hi⟩⟩:=hk
  ·(have hb:=trivial;with_reducible repeat' (first|simp only[hb,Va.down,seval,ad2.down]|refine Rj ?_ ?_<;>intro hb|refine fd ?_|fail))
   rw[hi]
  ·(have hb:=trivial;with_reducible repeat' (first|simp only[hb,Va.down,seval,ad2.down,hi]|refine Rj ?_ ?_<;>intro hb|refine fd ?_|fail))
theorem vV{l:List Px}{nn:Bool}{g:Nat}{mm:Rf}{p:Px→Bool}(hp:∀x∈l,Vf.call (.fn g) (.agg [.int .i64 x.one,.int .i64 x.other,.bool x.valve,.bool x.opn,.int .i64 x.tested,.int .i64 x.valid,.bool x.bad,.int .i64 x.test,.int .i64 x.change]::[.ptr 0 0 0]) [.live 3 false false [[.int .i64 mm.rooms,.int .i64 mm.need,Ux 9 true mm.nn (mm.parts.map Px.cells)]]]=some (.ret (.bool (p x)),[.live 3 false false [[.int .i64 mm.rooms,.int .i64 mm.need,Ux 9 true mm.nn (mm.parts.map Px.cells)]]]))(hl:l.length≤maxLen):
 Vf.call (.fn 64) [Ux 9 true nn (l.map Px.cells),.func (.func g) [] [.ptr 0 0 0]] [.live 3 false false [[.int .i64 mm.rooms,.int .i64 mm.need,Ux 9 true mm.nn (mm.parts.map Px.cells)]]]=some (.ret (.bool (l.any p)),[.live 3 false false [[.int .i64 mm.rooms,.int .i64 mm.need,Ux 9 true mm.nn (mm.parts.map Px.cells)]]]):=by
 (refine ce Tryd.func64 ?_;simp only[Tryd.f64];(have hb:=trivial;with_reducible repeat' (first|simp only[hb,Va.down,seval,abX hp hl,yM p l 0 (Int.le_refl 0)]|refine Rj ?_ ?_<;>intro hb|refine fd ?_|fail)))
theorem amP(w:Rf)(hs:w.small):Vf.call (.fn 47) [.agg [.int .i64 w.rooms,.int .i64 w.need,Ux 9 true w.nn (w.parts.map Px.cells)]] []=some (.ret (.bool (Xa w)),[]):=by
 have k1:=nK w.rooms 2 8
 have k2:=nK w.need 0 12
 have k3:=nK (w.parts.length:Int) 1 12
 have hcM:=vV (mm:=w) (l:=w.parts) (nn:=w.nn) (g:=65) (p:=fun x=> !Vx w.rooms x) (fun x _=>ahH w x) hs.parts
 have q1:w.parts.all (Vx w.rooms)= !(w.parts.any fun x=> !Vx w.rooms x):=List.all_eq_not_any_not
 have hh:sD w=(Yj w.rooms 2 8&&Yj w.need 0 12&&Yj (w.parts.length:Int) 1 12):=rfl
 unfold Xa
 rw[hh,q1]
 generalize Yj w.rooms 2 8=c1 at *
 generalize Yj w.need 0 12=c2 at *
 generalize Yj (w.parts.length:Int) 1 12=c3 at *
 generalize(w.parts.any fun x=> !Vx w.rooms x)=c4 at *
 cases c1<;>cases c2<;>cases c3
 all_goals (refine ce Tryd.func47 ?_;simp only[Tryd.f47];(have hb:=trivial;with_reducible repeat' (first|simp only[hb,Va.down,seval,aTP.down,k1,k2,k3,hcM,abY]|refine Rj ?_ ?_<;>intro hb|refine fd ?_|fail)))
 all_goals simp
theorem rC(w:Rf)(hs:w.small)(d:Int):Vf.call (.fn 34) [.agg [.int .i64 w.rooms,.int .i64 w.need,Ux 9 true w.nn (w.parts.map Px.cells)],.int .i64 d] []=some (.ret (.tup [.ptr 0 0 0,.bool (Xa w&&aN d)]),[.live 4 false false [[.int .i64 w.rooms,.int .i64 w.need,Ux 9 true w.nn (w.parts.map Px.cells),.int .i64 d]]]):=by
 have h:=amP w hs
 have hd:=nK d 0 5000
 rw[show Yj d 0 5000=aN d from rfl]at hd
 generalize Xa w=c at *
 generalize aN d=e at *
 cases c
 ·(refine ce Tryd.func34 ?_;simp only[Tryd.f34];(have hb:=trivial;with_reducible repeat' (first|simp only[hb,Va.down,seval,aR7.down,h,hd]|refine Rj ?_ ?_<;>intro hb|refine fd ?_|fail)))
 ·(refine ce Tryd.func34 ?_;simp only[Tryd.f34];(have hb:=trivial;with_reducible repeat' (first|simp only[hb,Va.down,seval,aR7.down,h,hd]|refine Rj ?_ ?_<;>intro hb|refine fd ?_|fail)))
def QS(v:AV)(q:List Nat)(H:Pv)(p:Nat):Prop:=
 (v=.nils∧q=[])∨∃b w rows r,v=.slr 1 b r q.length∧H[b]?=some (.live 1 true w rows)∧b≠p∧rows.drop r=q.map Yx∧r+q.length=rows.length
def aL:AV→List Nat
 | .slr _ b _ _=>[b]
 |_=>[]
theorem eK{x:Option (List AV)}{vs:List AV}{h:Pv}{Q:Tn→Pv→Prop}(hx:x=some vs)(k:Q (.ret (aD vs)) h):RtS x h Q:=by subst hx;exact k
theorem aeW{H:Pv}{p:Nat}{fl w:Bool}{v:AV}{q:List Nat}(x:Nat)(hp:H[p]?=some (.live 1 fl w [[v]]))(hQ:QS v q H p)(hq:q.length≤100000000):
 ShQ Vf 56 [.ptr p 0 0,.int .i64 (x:Int)] H fun o G=>o=.ret (.tup [])∧∃v' fl',G[p]?=some (.live 1 fl' true [[v']])∧QS v' (q++[x]) G p∧jK (p::aL v) H G∧(∀b∈aL v,G[b]?=some .dead)∧(Re H=true→Re G=true)∧∀b∈aL v',H.length≤b:=by
 have hpl:=Pz hp
 refine afG rfl Tryd.func56 rfl rfl ?_
 simp only[Tryd.f56]
 refine To (fun KK iN hK=>?_)
 have hA:=Qe hp
 have hS:=aS hpl
 rcases hQ with⟨rfl,rfl⟩|⟨b,w',rows,r,rfl,hrb,hbp,hd,hl⟩
 ·(have hb:=trivial;with_reducible repeat' (first|simp only[hb,Va.down,seval,ajB.down,hp,hA,hS]|refine Rj ?_ ?_<;>intro hb|refine fd ?_|fail))
  refine hK _ ?_
  rw[Zv]
  refine eK (vs:=[]) (by simp only[Va.down,seval,ajB.down]) ⟨rfl,.slr 1 (H.length+1) 0 1,false,?_,.inr ⟨H.length+1,false,[Yx x],0,rfl,?_,by omega,rfl,rfl⟩,⟨by simp,fun b hb1 hn=>?_⟩,fun b hb1=>by simp[aL]at hb1,fun hqq=>Ul (Uk hqq p rfl) rfl,fun b hb1=>by simp[aL]at hb1;omega⟩
  ·rw[abZ (by simpa using hpl),ab2 hpl]
  ·rw[Qs];rfl
  ·rw[abZ (by simpa using hb1),ab0 (fun e=>hn (by rw[e];exact ahE ..))]
 ·have hbl:=Pz hrb
  have hB:=Qe hrb
  have hSb:=aS hbl
  have h39:(q.length+1≤549755813888)=True:=eq_true (by omega)
  have hg:∀l,(H.set b .dead++l)[p]?=some (.live 1 fl w [[.slr 1 b r q.length]]):=fun l=>by
   rw[abZ (by simpa using hpl),ab0 hbp];exact hp
  have hg2:∀l c,(H.set b .dead++l).set p c=(H.set b .dead).set p c++l:=fun l c=>aS (by simpa using hpl) l c
  (have hb:=trivial;with_reducible repeat' (first|simp only[hb,Va.down,seval,ajB.down,hp,hA,hS,hrb,hB,hSb,hd,hl,h39,hg,hg2,bS,Qs,akA,abY]|refine Rj ?_ ?_<;>intro hb|refine fd ?_|fail))
  have hsl:((H.set b .dead).set p (CB.live 1 false true [[AV.slr 1 (H.length+1) 0 (q.length+1)]])).length=H.length:=by simp
  refine hK _ ?_
  rw[Zv]
  refine eK (vs:=[]) (by simp only[Va.down,seval,ajB.down]) ⟨rfl,.slr 1 (H.length+1) 0 (q.length+1),false,?_,.inr ⟨H.length+1,false,(q++[x]).map Yx,0,by simp,?_,by omega,rfl,by simp⟩,⟨by simp,fun c hc hn=>?_⟩,fun c hc=>?_,fun hqq=>Ul (Uk (Uk hqq b rfl) p rfl) rfl,fun c hc=>by simp[aL]at hc;omega⟩
  ·rw[abZ (by omega),ab2 (by simpa using hpl)]
  ·rw[ag9 (by omega),hsl,Nat.add_sub_cancel_left];simp[Yx]
  ·have n1:c≠p:=fun e=>hn (by rw[e];exact ahE ..)
   have n2:c≠b:=fun e=>hn (by rw[e];simp[aL])
   rw[abZ (by omega),ab0 (fun e=>n1 e.symm),ab0 (fun e=>n2 e.symm)]
  ·simp[aL]at hc;subst hc
   rw[abZ (by omega),ab0 (fun e=>hbp e.symm),ab2 hbl]
theorem aKR(b r k:Nat):slx Tryd.prog 28 (some (.slr 1 b r (k+1))) (some (some (.int .i64 1))) (some none)=some (.ret (.slr 1 b (r+1) k),[]):=by
 have hz:aK Tryd.prog 3=some 1:=by kernel_rfl
 simp only[slx,alS,nD,Tryd.underlying28,hz,Xd]
 simp[Xd,r1]
 omega
theorem ai3{H:Pv}{p:Nat}{fl w:Bool}{v:AV}(hp:H[p]?=some (.live 1 fl w [[v]]))(hQ:QS v [] H p):
 Vf.call (.sh 57) [.ptr p 0 0] H=some (.ret (.tup [.int .i64 0,.bool false]),H):=by
 rcases hQ with⟨rfl,_⟩|⟨b,w',rows,r,rfl,hrb,hbp,hd,hl⟩
 ·(refine csh Tryd.func57 ?_;simp only[Tryd.f57];(have hb:=trivial;with_reducible repeat' (first|simp only[hb,Va.down,seval,aiK.down,hp]|refine Rj ?_ ?_<;>intro hb|refine fd ?_|fail)))
 ·simp only[am4]at hp
  (refine csh Tryd.func57 ?_;simp only[Tryd.f57];(have hb:=trivial;with_reducible repeat' (first|simp only[hb,Va.down,seval,aiK.down,hp]|refine Rj ?_ ?_<;>intro hb|refine fd ?_|fail)))
theorem ai4{H:Pv}{p:Nat}{fl w:Bool}{v:AV}{x:Nat}{q:List Nat}(hp:H[p]?=some (.live 1 fl w [[v]]))(hQ:QS v (x::q) H p)(hq:q.length≤100000000):
 ShQ Vf 57 [.ptr p 0 0] H fun o G=>o=.ret (.tup [.int .i64 (x:Int),.bool true])∧∃v' fl',G[p]?=some (.live 1 fl' true [[v']])∧QS v' q G p∧jK [p] H G∧aL v'=aL v∧(Re H=true→Re G=true):=by
 have hpl:=Pz hp
 rcases hQ with⟨_,h⟩|⟨b,w',rows,r,rfl,hrb,hbp,hd,hl⟩
 ·cases h
 have hr0:rows[r]?=some [.int .i64 (x:Nat)]:=by
  have:=congrArg (·[0]?) hd
  simpa [Yx]using this
 have hd2:rows.drop (r+1)=q.map Yx:=by
  have:=congrArg (·.drop 1) hd
  simpa [List.drop_drop]using this
 simp only[List.length_cons]at hl hp
 have h1:decide (((q.length+1:Nat):Int)=0)=false:=decide_eq_false (by omega)
 have h2:((((q.length+1:Nat):Int))==0)=false:=by simp;omega
 have h3:((0:Int)<((q.length+1:Nat):Int))=True:=eq_true (by omega)
 have h4:((1:Int)≤((q.length+1:Nat):Int))=True:=eq_true (by omega)
 refine afG rfl Tryd.func57 rfl rfl ?_
 simp only[Tryd.f57]
 refine To (fun KK iN hK=>?_)
 (have hb:=trivial;with_reducible repeat' (first|simp only[hb,Va.down,seval,aiK.down,hp,hrb,hr0,h1,h2,h3,h4,aKR]|refine Rj ?_ ?_<;>intro hb|refine fd ?_|fail))
 refine hK _ ?_
 rw[wJ]
 refine eK (vs:=[.int .i64 (x:Int),.bool true]) (by simp only[Va.down,seval,aiK.down]) ⟨rfl,.slr 1 b (r+1) q.length,false,ab2 hpl,.inr ⟨b,w',rows,r+1,rfl,?_,hbp,hd2,by omega⟩,⟨by simp,fun b' _ hn=>ab0 (fun e=>hn (by simp[e]))⟩,rfl,fun hqq=>Uk hqq p rfl⟩
 rw[ab0 (fun e=>hbp e.symm)];exact hrb
theorem ahU{H:Pv}{p:Nat}{fl w:Bool}{v:AV}{q:List Nat}(x:Nat)(hp:H[p]?=some (.live 1 fl w [[v]]))(hQ:QS v q H p)(hq:q.length≤100000000):
 ShQ Vf 60 [.ptr p 0 0,.int .i64 (x:Int)] H fun o G=>o=.ret (.tup [])∧∃v' fl',G[p]?=some (.live 1 fl' true [[v']])∧QS v' (x::q) G p∧jK [p] H G∧(Re H=true→Re G=true)∧∀b∈aL v',H.length≤b:=by
 have hpl:=Pz hp
 have hA:=Qe hp
 have hS:=aS hpl
 have keep:∀c l,jK [p] H (H.set p c++l):=fun c l=>⟨by simp,fun b hb1 hn=>by rw[abZ (by simpa using hb1),ab0 (fun e=>hn (by simp[e]))]⟩
 have hg:∀c l,(H.set p c++l)[p]?=some c:=fun c l=>by rw[abZ (by simpa using hpl),ab2 hpl]
 refine afG rfl Tryd.func60 rfl rfl ?_
 simp only[Tryd.f60]
 refine To (fun KK iN hK=>?_)
 rcases hQ with⟨rfl,rfl⟩|⟨b,w',rows,r,rfl,hrb,hbp,hd,hl⟩
 ·(have hb:=trivial;with_reducible repeat' (first|simp only[hb,Va.down,seval,aaA.down,hp,hA,hS]|refine Rj ?_ ?_<;>intro hb|refine fd ?_|fail))
  refine hK _ ?_
  rw[Zv]
  refine eK (vs:=[]) (by simp only[Va.down,seval,aaA.down]) ⟨rfl,_,_,hg _ _,.inr ⟨H.length,false,[Yx x],0,rfl,?_,by omega,rfl,rfl⟩,keep _ _,fun hqq=>Ul (Uk hqq p rfl) rfl,fun b hb1=>by simp[aL]at hb1;omega⟩
  rw[bS];rfl
 ·have hB:=Qe hrb
  cases q with
  |nil=>
   simp only[am4]at hl hp hA
   have hrl:(r≤rows.length)=True:=eq_true (by omega)
   (have hb:=trivial;with_reducible repeat' (first|simp only[hb,Va.down,seval,aaA.down,hp,hA,hS,hrb,hB,hrl]|refine Rj ?_ ?_<;>intro hb|refine fd ?_|fail))
   refine hK _ ?_
   rw[Zv]
   refine eK (vs:=[]) (by simp only[Va.down,seval,aaA.down]) ⟨rfl,_,_,hg _ _,.inr ⟨H.length,false,[Yx x],0,rfl,?_,by omega,rfl,rfl⟩,keep _ _,fun hqq=>Ul (Uk hqq p rfl) rfl,fun b hb1=>by simp[aL]at hb1;omega⟩
   rw[bS];rfl
  |cons y q=>
   have hq2:(1+(q.length+1)≤549755813888)=True:=eq_true (by simp at hq;omega)
   have hrl:(r+(q.length+1)≤rows.length)=True:=eq_true (by simp at hl;omega)
   have htk:adC q.length (List.map Yx q)=List.map Yx q:=ag7 (by simp)
   (have hb:=trivial;with_reducible repeat' (first|simp only[hb,Va.down,seval,aaA.down,hp,hA,hS,hrb,hB,hd,hq2,hrl,htk,bS,Qs,akA,abY]|refine Rj ?_ ?_<;>intro hb|refine fd ?_|fail))
   refine hK _ ?_
   rw[Zv]
   refine eK (vs:=[]) (by simp only[Va.down,seval,aaA.down]) ⟨rfl,_,_,hg _ _,.inr ⟨H.length+1,false,(x::y::q).map Yx,0,by simp;omega,?_,by omega,rfl,by simp⟩,keep _ _,fun hqq=>Ul (Uk hqq p rfl) rfl,fun b hb1=>by simp[aL]at hb1;omega⟩
   rw[Qs];rfl
theorem aT0(w:Rf)(d r:Int)(wf:Bool):Vf.call (.fn 58) [.ptr 0 0 0,.int .i64 r] [.live 4 false wf [[.int .i64 w.rooms,.int .i64 w.need,Ux 9 true w.nn (w.parts.map Px.cells),.int .i64 d]]]=some (.ret (.func (.func 71) [] [.ptr 1 0 0,.ptr 2 0 0]),[.live 4 false wf [[.int .i64 w.rooms,.int .i64 w.need,Ux 9 true w.nn (w.parts.map Px.cells),.int .i64 d]],.live 1 false false [[.ptr 0 0 0]],.live 1 true false [[.int .i64 r]]]):=by
 (refine ce Tryd.func58 ?_;simp only[Tryd.f58];(have hb:=trivial;with_reducible repeat' (first|simp only[hb,Vc.down,seval]|refine Rj ?_ ?_<;>intro hb|refine fd ?_|fail)))
theorem aTY{w:Rf}{N:Nat}(hw:WOk w N){d r:Int}{y:AV}{lb rb kb:Nat}(aM:Nat→Pv→Prop)
 (hL:∀i h,aM i h→∃w1,h[lb]?=some (.live 1 false w1 [[.ptr kb 0 0]])) (hK:∀i h,aM i h→∃w2,h[kb]?=some (.live 4 false w2 [[.int .i64 w.rooms,.int .i64 w.need,Ux 9 true w.nn (w.parts.map Px.cells),.int .i64 d]])) (hR:∀i h,aM i h→∃w3,h[rb]?=some (.live 1 true w3 [[.int .i64 r]]))
 (hA:∀i h fl wf (rows:List (List AV)),aM i h→aM i (h++[.live 9 fl wf rows]))
 (hS:∀(i:Nat) (p:Px) (u:Int) h,w.parts[i]?=some p→((p.one=r∧u=p.other)∨(p.one≠r∧p.other=r∧u=p.one))→aM i h→∃es,cl Vf h (some y) (some [.int .i64 i,.int .i64 u])=some (.ret (.bool true),es)∧aM (i+1) (Rx h es))
 (hN:∀(i:Nat) (p:Px) h,w.parts[i]?=some p→p.one≠r→p.other≠r→aM i h→aM (i+1) h)
 {h0:Pv} (h0I:aM 0 h0):ShQ Vf 71 [y,.ptr lb 0 0,.ptr rb 0 0] h0 fun o h'=>o=.ret (.tup [])∧aM w.parts.length h':=by
 obtain⟨w1,hl⟩:=hL _ _ h0I
 obtain⟨w2,hk0⟩:=hK _ _ h0I
 have hlen:=hw.len
 refine afG rfl Tryd.func71 rfl rfl ?_
 simp only[Tryd.f71]
 (have hb:=trivial;with_reducible repeat' (first|simp only[hb,Vc.down,seval,abT.down,hl,hk0,abY]|refine Rj ?_ ?_<;>intro hb|refine fd ?_|fail))
 refine iP (yQ 41 w.parts (fun i (_:Unit) t h=>t 0=y∧t 1=.ptr lb 0 0∧t 2=.ptr rb 0 0∧t 11=Ux 9 true w.nn (w.parts.map Px.cells)∧t 12=.int .i64 (w.parts.length:Nat)∧t 13=.int .i64 (i:Int)∧aM i h) (fun _ _=>()) (fun _ e t h=>e=.exit 0∧aM w.parts.length h) ?_ ?_ () _ _ ?_) (fun e t h hk=>?_)
 ·rintro _ t h Q' kQ ⟨g0,g1,g2,g11,g12,g13,hI⟩
  (have hb:=trivial;with_reducible repeat' (first|simp only[hb,Vc.down,seval,abT.down,g12,g13,ahA,decide_false]|refine Rj ?_ ?_<;>intro hb|refine fd ?_|fail))
  exact kQ _ _ _ ⟨rfl,hI⟩
 ·rintro p rest i _ t h J Q' kJ kQ hx hi ⟨g0,g1,g2,g11,g12,g13,hI⟩
  have hdd:decide ((i:Int)<(w.parts.length:Int))=true:=decide_eq_true (by omega)
  have hww:=Ya hi (by unfold maxLen;omega)
  have hpo:=hw.part p (ahJ hx)
  obtain⟨w3,hr⟩:=hR _ _ hI
  have hr1:=Qe hr
  have hv1:=hA _ _ true true [p.cells] hI
  have c1:decide ((0:Int)≤p.other)=true:=decide_eq_true hpo.2.1.1
  have c2:decide ((0:Int)≤p.one)=true:=decide_eq_true hpo.1.1
  have c3:decide ((0:Int)≤ -1)=false:=rfl
  by_cases e1:p.one=r
  ·have q1:(r==p.one)=true:=by simp[e1]
   obtain⟨es,hes,hv2⟩:=hS i p p.other _ hx (.inl ⟨e1,rfl⟩) hv1
   simp only[Px.cells]at hes hv2
   (have hb:=trivial;with_reducible repeat' (first|simp only[hb,Vc.down,seval,abT.down,g0,g1,g2,g11,g12,g13,hdd,hww,hx,hr,hr1,q1,c1,hes,Px.cells]|refine Rj ?_ ?_<;>intro hb|refine fd ?_|fail))
   exact Qk (kJ _ _ () ⟨by simp[up,g0],by simp[up,g1],by simp[up,g2],by simp[up,g11],by simp[up,g12],by simp[up],hv2⟩ rfl)
  ·have q1:(r==p.one)=false:=by simp;exact fun e=>e1 e.symm
   by_cases e2:p.other=r
   ·have q2:(r==p.other)=true:=by simp[e2]
    obtain⟨es,hes,hv2⟩:=hS i p p.one _ hx (.inr ⟨e1,e2,rfl⟩) hv1
    simp only[Px.cells]at hes hv2
    (have hb:=trivial;with_reducible repeat' (first|simp only[hb,Vc.down,seval,abT.down,g0,g1,g2,g11,g12,g13,hdd,hww,hx,hr,hr1,q1,q2,c2,hes,Px.cells]|refine Rj ?_ ?_<;>intro hb|refine fd ?_|fail))
    exact Qk (kJ _ _ () ⟨by simp[up,g0],by simp[up,g1],by simp[up,g2],by simp[up,g11],by simp[up,g12],by simp[up],hv2⟩ rfl)
   ·have q2:(r==p.other)=false:=by simp;exact fun e=>e2 e.symm
    have hv2:=hN i p _ hx e1 e2 hv1
    simp only[Px.cells]at hv2
    (have hb:=trivial;with_reducible repeat' (first|simp only[hb,Vc.down,seval,abT.down,g0,g1,g2,g11,g12,g13,hdd,hww,hx,hr,hr1,q1,q2,c3,Px.cells]|refine Rj ?_ ?_<;>intro hb|refine fd ?_|fail))
    exact Qk (kJ _ _ () ⟨by simp[up,g0],by simp[up,g1],by simp[up,g2],by simp[up,g11],by simp[up,g12],by simp[up],hv2⟩ rfl)
 ·exact⟨by simp[up,eU],by simp[up,eU],by simp[up,eU],by simp[up],by simp[up],by simp[up],h0I⟩
 obtain⟨rfl,hI⟩:=hk
 (have hb:=trivial;with_reducible repeat' (first|simp only[hb,Vc.down,seval,abT.down]|refine Rj ?_ ?_<;>intro hb|refine fd ?_|fail))
 exact hI
end Go.Proofs.YtckfcfcmfjfchaaDoor
