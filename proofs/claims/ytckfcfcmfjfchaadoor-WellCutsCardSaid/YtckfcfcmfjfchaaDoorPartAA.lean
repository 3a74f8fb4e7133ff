/- The functions of the layer, walked. -/
import Derived.Test.YtckfcfcmfjfchaaDoorLibE
import Derived.Test.YtckfcfcmfjfchaaDoorChecked
import Derived.Test.YtckfcfcmfjfchaaDoorLibD
import Derived.Test.YtckfcfcmfjfchaaDoorRows
import Derived.Test.YtckfcfcmfjfchaaDoorTie
import Derived.Test.YtckfcfcmfjfchaaDoorCards
import Derived.Test.YtckfcfcmfjfchaaDoorShelf
import Derived.ProofKit
import Derived.LaidMore
import Derived.OpenShut
import Derived.Stop.Joined
open And renaming intro→aaI
open List renaming length_map→abN,getElem?_append_left→abO,getElem?_set_ne→abP,getElem?_set_self→abQ,getElem?_eq_some_iff→abR,replicate→abS,take→abT,take_of_length_le→abV,getElem?_append_right→ab7,length_set→aeJ,all_eq_true→afE,mem_cons_self→afG,mem_of_getElem?→af8,drop→af9,flatMap_cons→agB,cons_append→agF,nil_append→agG,length_eq_zero_iff→agQ,getElem?_eq_getElem→agS,take_succ_cons→ah1,drop_succ_cons→aiN,set_cons_succ→ajA,length_take→ajK,length_nil→akA
open Int renaming lt_irrefl→abU
open Nat renaming ble→abY
open Option renaming bind_some→agX
open Bool renaming and_eq_true→aj9
set_option linter.unusedSimpArgs false
set_option linter.unusedVariables false
namespace Go.Proofs.YtckfcfcmfjfchaaDoor
open Go.Ev
set_option maxRecDepth 100000
theorem Jd(h:Aa)(b r o:Nat):ld Tryd.prog 24 h (some (.ptr b r o))=ldR (Kr (h[b]?) r) o 3:=pU ⟨by kernel_rfl,by kernel_rfl⟩ h b r o
theorem uM(b r o:Nat):ftL Tryd.prog 24 (some (.ptr b r o))=some [.cells b o 3]:=acZ (isA:=true) (n:=3) (by kernel_rfl) (by kernel_rfl) b r o
theorem eV(st b r len:Nat):ln Tryd.prog 27 (some (.slr st b r len))=some (.ret (.int .i64 len),[]):=aaF (n:=1) ⟨_,Tryd.underlying27,by kernel_rfl⟩ st b r len
theorem tX:ln Tryd.prog 27 (some .nils)=some (.ret (.int .i64 0),[]):=fB (n:=1) ⟨_,Tryd.underlying27,by kernel_rfl⟩
theorem Oc(st b r len:Nat):ln Tryd.prog 28 (some (.slr st b r len))=some (.ret (.int .i64 len),[]):=aaF (n:=1) ⟨_,Tryd.underlying28,by kernel_rfl⟩ st b r len
theorem eG:ln Tryd.prog 28 (some .nils)=some (.ret (.int .i64 0),[]):=fB (n:=1) ⟨_,Tryd.underlying28,by kernel_rfl⟩
theorem Xr(fl nn:Bool)(rows:List (List AV)):ln Tryd.prog 28 (some (Dh 1 fl nn rows))=some (.ret (.int .i64 rows.length),[]):=aaK ⟨_,Tryd.underlying28,by kernel_rfl⟩ fl nn rows
theorem rY(b r len:Nat)(k:IntKind)(i:Int):ia Tryd.prog 27 (some (.slr 1 b r len)) (some (.int k i))=if 0≤i∧i<len then some (.ret (.ptr b (r+i.toNat) 0),[])else none:=nY ⟨_,Tryd.underlying27,by kernel_rfl⟩ b r len k i
theorem Ht(h:Aa)(b r o:Nat):ld Tryd.prog 28 h (some (.ptr b r o))=uT (Kr (h[b]?) r) o:=Wu ⟨by kernel_rfl,1,by kernel_rfl⟩ h b r o
theorem Dx(b r o:Nat):fa Tryd.prog 24 (some (.ptr b r o)) 2=some (.ret (.ptr b r (o+2)),[]):=Gs (show Ih Tryd.prog 24 2 2 1 from⟨_,_,Tryd.underlying24,rfl,rfl,by kernel_rfl,by decide⟩) b r o
theorem Eh(h:Aa)(b r o:Nat):ld Tryd.prog 22 h (some (.ptr b r o))=uT (Kr (h[b]?) r) o:=Wu ⟨by kernel_rfl,1,by kernel_rfl⟩ h b r o
theorem Fb(fl nn:Bool)(rows:List (List AV)):ln Tryd.prog 22 (some (Dh 9 fl nn rows))=some (.ret (.int .i64 rows.length),[]):=aaK ⟨_,Tryd.underlying22,by kernel_rfl⟩ fl nn rows
theorem ae9:Hi Tryd.prog 3=some (.int .i64 0):=by kernel_rfl
theorem eD(base:Nat)(l c:Option AV):msO Tryd.prog 28 base l c=msK 1 (.int .i64 0) base l c:=agO (e:=3) (n:=1) (b:=8) (by kernel_rfl) (by kernel_rfl) (by kernel_rfl) (by kernel_rfl) (by decide+kernel) base l c
theorem Ix(b r len:Nat)(k:IntKind)(i:Int):ia Tryd.prog 28 (some (.slr 1 b r len)) (some (.int k i))=if 0≤i∧i<len then some (.ret (.ptr b (r+i.toNat) 0),[])else none:=nY ⟨_,Tryd.underlying28,by kernel_rfl⟩ b r len k i
theorem eU(fl nn:Bool)(rows:List (List AV))(k:IntKind)(i:Int):ia Tryd.prog 28 (some (Dh 1 fl nn rows)) (some (.int k i))=if 0≤i then r1 ((rows[i.toNat]?).map .iptr)else none:=zI ⟨_,Tryd.underlying28,by kernel_rfl⟩ fl nn rows k i
theorem Di(h:Aa)(b r o:Nat):ld Tryd.prog 3 h (some (.ptr b r o))=uT (Kr (h[b]?) r) o:=Wu ⟨by kernel_rfl,1,by kernel_rfl⟩ h b r o
theorem eX(h:Aa)(c:AV)(cs:List AV):ld Tryd.prog 3 h (some (.iptr (c::cs)))=some (.ret c,[]):=agM ⟨by kernel_rfl,1,by kernel_rfl⟩ h c cs
theorem eE(b r len:Nat)(k:IntKind)(i:Int):ia Tryd.prog 41 (some (.slr 1 b r len)) (some (.int k i))=if 0≤i∧i<len then some (.ret (.ptr b (r+i.toNat) 0),[])else none:=nY ⟨_,Tryd.underlying41,by kernel_rfl⟩ b r len k i
theorem Jg(h:Aa)(b r o:Nat):ld Tryd.prog 4 h (some (.ptr b r o))=uT (Kr (h[b]?) r) o:=Wu ⟨by kernel_rfl,1,by kernel_rfl⟩ h b r o
theorem uJ(h:Aa)(c:AV)(cs:List AV):ld Tryd.prog 4 h (some (.iptr (c::cs)))=some (.ret c,[]):=agM ⟨by kernel_rfl,1,by kernel_rfl⟩ h c cs
theorem qL(h:Aa)(b r o:Nat)(v:AV):rP Tryd.prog 3 h (some (.ptr b r o)) (some v)=sv 1 (h[b]?) b r o (Af v):=Qc (by kernel_rfl) h b r o v
theorem Yl(b r o:Nat):fa Tryd.prog 24 (some (.ptr b r o)) 1=some (.ret (.ptr b r (o+1)),[]):=Gs (show Ih Tryd.prog 24 1 1 1 from⟨_,_,Tryd.underlying24,rfl,rfl,by kernel_rfl,by decide⟩) b r o
theorem Jf(fl nn:Bool)(rows:List (List AV))(k:IntKind)(i:Int):ia Tryd.prog 22 (some (Dh 9 fl nn rows)) (some (.int k i))=if 0≤i then r1 ((rows[i.toNat]?).map .iptr)else none:=zI ⟨_,Tryd.underlying22,by kernel_rfl⟩ fl nn rows k i
theorem oL(h:Aa)(b r o:Nat):ld Tryd.prog 62 h (some (.ptr b r o))=ldR (Kr (h[b]?) r) o 9:=pU ⟨by kernel_rfl,by kernel_rfl⟩ h b r o
theorem Hw(h:Aa)(cs:List AV):ld Tryd.prog 62 h (some (.iptr cs))=if 9≤cs.length then some (.ret (.agg (cs.take 9)),[])else none:=an3 ⟨by kernel_rfl,by kernel_rfl⟩ h cs
theorem Vx:Hi Tryd.prog 62=some (.agg [.int .i64 0,.int .i64 0,.bool false,.bool false,.int .i64 0,.int .i64 0,.bool false,.int .i64 0,.int .i64 0]):=by kernel_rfl
theorem Vz(h:Aa)(b r o:Nat)(v:AV):rP Tryd.prog 62 h (some (.ptr b r o)) (some v)=sv 9 (h[b]?) b r o (Af v):=Qc (by kernel_rfl) h b r o v
theorem Rr(b r o:Nat):fa Tryd.prog 62 (some (.ptr b r o)) 3=some (.ret (.ptr b r (o+3)),[]):=Gs (show Ih Tryd.prog 62 3 3 1 from⟨_,_,Tryd.underlying62,rfl,rfl,by kernel_rfl,by decide⟩) b r o
theorem jK(cs:List AV):fa Tryd.prog 62 (some (.iptr cs)) 3=if 3+1≤cs.length then some (.ret (.iptr (cs.drop 3)),[])else none:=ae2 (show Ih Tryd.prog 62 3 3 1 from⟨_,_,Tryd.underlying62,rfl,rfl,by kernel_rfl,by decide⟩) cs
theorem qF(h:Aa)(b r o:Nat)(v:AV):rP Tryd.prog 4 h (some (.ptr b r o)) (some v)=sv 1 (h[b]?) b r o (Af v):=Qc (by kernel_rfl) h b r o v
theorem Yt(b r o:Nat):fa Tryd.prog 62 (some (.ptr b r o)) 6=some (.ret (.ptr b r (o+6)),[]):=Gs (show Ih Tryd.prog 62 6 6 1 from⟨_,_,Tryd.underlying62,rfl,rfl,by kernel_rfl,by decide⟩) b r o
theorem Og(base len:Nat)(ps:List (Nat × AV)):rD (Bo Tryd.prog base 28 len ps)=bsK 1 (.int .i64 0) base len ps:=ag3 (e:=3) (by kernel_rfl) (by kernel_rfl) (by kernel_rfl) base len ps
theorem kS:Hi Tryd.prog 75=some (.agg [.int .i64 0,.bool false,.int .i64 0,.bool false,.int .i64 0,.bool false,.int .i64 0,.bool false,.int .i64 0,.bool false,.int .i64 0,.bool false,.int .i64 0,.bool false,.int .i64 0,.bool false,.int .i64 0,.bool false,.int .i64 0,.bool false,.int .i64 0,.bool false,.int .i64 0,.bool false]):=by kernel_rfl
theorem jN(h:Aa)(b r o:Nat)(v:AV):rP Tryd.prog 75 h (some (.ptr b r o)) (some v)=sv 24 (h[b]?) b r o (Af v):=Qc (by kernel_rfl) h b r o v
theorem Pl(h:Aa)(b r o:Nat):ld Tryd.prog 75 h (some (.ptr b r o))=ldR (Kr (h[b]?) r) o 24:=pU ⟨by kernel_rfl,by kernel_rfl⟩ h b r o
theorem Ii(b r o:Nat):fa Tryd.prog 79 (some (.ptr b r o)) 0=some (.ret (.ptr b r (o+0)),[]):=Gs (show Ih Tryd.prog 79 0 0 3 from⟨_,_,Tryd.underlying79,rfl,rfl,by kernel_rfl,by decide⟩) b r o
theorem Ju(b r o:Nat):fa Tryd.prog 62 (some (.ptr b r o)) 0=some (.ret (.ptr b r (o+0)),[]):=Gs (show Ih Tryd.prog 62 0 0 1 from⟨_,_,Tryd.underlying62,rfl,rfl,by kernel_rfl,by decide⟩) b r o
theorem Jx(b r o:Nat):fa Tryd.prog 62 (some (.ptr b r o)) 1=some (.ret (.ptr b r (o+1)),[]):=Gs (show Ih Tryd.prog 62 1 1 1 from⟨_,_,Tryd.underlying62,rfl,rfl,by kernel_rfl,by decide⟩) b r o
theorem Vd(h:Aa)(b r o:Nat):ld Tryd.prog 73 h (some (.ptr b r o))=ldR (Kr (h[b]?) r) o 2:=pU ⟨by kernel_rfl,by kernel_rfl⟩ h b r o
theorem Hm{O:Do}(t:List AV)(h:Aa)(s x:Operand):Dm O Tryd.prog t h (.call ⟨.builtin .append,#[s,x],#[28,28]⟩)=apO Tryd.prog 28 h (Ad t s) (Ad t x):=yH t h s x 28 28 _ Tryd.underlying28
theorem Ov(h:Aa)(s:AV)(a b r l:Nat):apO Tryd.prog 28 h (some s) (some (.slr a b r l))=apK 1 h (some s) (srK 1 h (some (.slr a b r l))):=qO (e:=3) (b:=8) (z:=.int .i64 0) (by kernel_rfl) (by kernel_rfl) (by kernel_rfl) (by kernel_rfl) (by decide+kernel) h s _ (fun q e=>by cases e)
theorem rZ(h:Aa)(s:AV)  :apO Tryd.prog 28 h (some s) (some .nils)=apK 1 h (some s) (srK 1 h (some .nils)):=qO (e:=3) (b:=8) (z:=.int .i64 0) (by kernel_rfl) (by kernel_rfl) (by kernel_rfl) (by kernel_rfl) (by decide+kernel) h s _ (fun q e=>by cases e)
theorem kW:Hi Tryd.prog 28=some (.nils):=by kernel_rfl
theorem uE(base len:Nat)(ps:List (Nat × AV)):rD (Bo Tryd.prog base 27 len ps)=bsK 1 (.nils) base len ps:=ag3 (e:=28) (by kernel_rfl) (by kernel_rfl) (by kernel_rfl) base len ps
theorem cS{O:Do}(t:List AV)(h:Aa)(s x:Operand):Dm O Tryd.prog t h (.call ⟨.builtin .append,#[s,x],#[27,27]⟩)=apO Tryd.prog 27 h (Ad t s) (Ad t x):=yH t h s x 27 27 _ Tryd.underlying27
theorem tG(h:Aa)(s:AV)(a b r l:Nat):apO Tryd.prog 27 h (some s) (some (.slr a b r l))=apK 1 h (some s) (srK 1 h (some (.slr a b r l))):=qO (e:=28) (b:=24) (z:=.nils) (by kernel_rfl) (by kernel_rfl) (by kernel_rfl) (by kernel_rfl) (by decide+kernel) h s _ (fun q e=>by cases e)
theorem Js(b r o:Nat):fa Tryd.prog 24 (some (.ptr b r o)) 0=some (.ret (.ptr b r (o+0)),[]):=Gs (show Ih Tryd.prog 24 0 0 1 from⟨_,_,Tryd.underlying24,rfl,rfl,by kernel_rfl,by decide⟩) b r o
theorem Yv(b r o:Nat):fa Tryd.prog 62 (some (.ptr b r o)) 2=some (.ret (.ptr b r (o+2)),[]):=Gs (show Ih Tryd.prog 62 2 2 1 from⟨_,_,Tryd.underlying62,rfl,rfl,by kernel_rfl,by decide⟩) b r o
theorem Nl(b r o:Nat):fa Tryd.prog 62 (some (.ptr b r o)) 4=some (.ret (.ptr b r (o+4)),[]):=Gs (show Ih Tryd.prog 62 4 4 1 from⟨_,_,Tryd.underlying62,rfl,rfl,by kernel_rfl,by decide⟩) b r o
theorem Np(b r o:Nat):fa Tryd.prog 62 (some (.ptr b r o)) 5=some (.ret (.ptr b r (o+5)),[]):=Gs (show Ih Tryd.prog 62 5 5 1 from⟨_,_,Tryd.underlying62,rfl,rfl,by kernel_rfl,by decide⟩) b r o
theorem Yi(b r o:Nat):fa Tryd.prog 62 (some (.ptr b r o)) 7=some (.ret (.ptr b r (o+7)),[]):=Gs (show Ih Tryd.prog 62 7 7 1 from⟨_,_,Tryd.underlying62,rfl,rfl,by kernel_rfl,by decide⟩) b r o
theorem Yh(b r o:Nat):fa Tryd.prog 62 (some (.ptr b r o)) 8=some (.ret (.ptr b r (o+8)),[]):=Gs (show Ih Tryd.prog 62 8 8 1 from⟨_,_,Tryd.underlying62,rfl,rfl,by kernel_rfl,by decide⟩) b r o
theorem adD:Hi Tryd.prog 4=some (.bool false):=by kernel_rfl
theorem uA(base len:Nat)(ps:List (Nat × AV)):rD (Bo Tryd.prog base 41 len ps)=bsK 1 (.bool false) base len ps:=ag3 (e:=4) (by kernel_rfl) (by kernel_rfl) (by kernel_rfl) base len ps
theorem cX{O:Do}(t:List AV)(h:Aa)(s x:Operand):Dm O Tryd.prog t h (.call ⟨.builtin .append,#[s,x],#[41,41]⟩)=apO Tryd.prog 41 h (Ad t s) (Ad t x):=yH t h s x 41 41 _ Tryd.underlying41
theorem sH(h:Aa)(s:AV)(a b r l:Nat):apO Tryd.prog 41 h (some s) (some (.slr a b r l))=apK 1 h (some s) (srK 1 h (some (.slr a b r l))):=qO (e:=4) (b:=1) (z:=.bool false) (by kernel_rfl) (by kernel_rfl) (by kernel_rfl) (by kernel_rfl) (by decide+kernel) h s _ (fun q e=>by cases e)
theorem Ye(b r o:Nat):fa Tryd.prog 73 (some (.ptr b r o)) 0=some (.ret (.ptr b r (o+0)),[]):=Gs (show Ih Tryd.prog 73 0 0 1 from⟨_,_,Tryd.underlying73,rfl,rfl,by kernel_rfl,by decide⟩) b r o
theorem xR(h:Aa)(b r o:Nat)(v:AV):rP Tryd.prog 71 h (some (.ptr b r o)) (some v)=sv 1 (h[b]?) b r o (Af v):=Qc (by kernel_rfl) h b r o v
theorem lO(b r o:Nat):fa Tryd.prog 79 (some (.ptr b r o)) 1=some (.ret (.ptr b r (o+3)),[]):=Gs (show Ih Tryd.prog 79 1 3 1 from⟨_,_,Tryd.underlying79,rfl,rfl,by kernel_rfl,by decide⟩) b r o
theorem rO(ps:List (Nat × AV)):Xq Tryd.prog 79 ps=(Ku (fun i=>([(0,3),(3,1)]:List (Nat × Nat))[i]?) (Af (.agg [.int .i64 0,.int .i64 0,.nils,.int .i64 0])) ps).map .agg:=by kernel_rfl
theorem Zd(b r o:Nat):fa Tryd.prog 73 (some (.ptr b r o)) 1=some (.ret (.ptr b r (o+1)),[]):=Gs (show Ih Tryd.prog 73 1 1 1 from⟨_,_,Tryd.underlying73,rfl,rfl,by kernel_rfl,by decide⟩) b r o
theorem Ou(h:Aa)(b r o:Nat)(v:AV):rP Tryd.prog 28 h (some (.ptr b r o)) (some v)=sv 1 (h[b]?) b r o (Af v):=Qc (by kernel_rfl) h b r o v
theorem uN(ps:List (Nat × AV)):Xq Tryd.prog 98 ps=(Ku (fun i=>([(0,1)]:List (Nat × Nat))[i]?) (Af (.agg [.nils])) ps).map .agg:=by kernel_rfl
theorem wP:Hi Tryd.prog 96=some (.nilp):=by kernel_rfl
theorem zG(h:Aa)(b r o:Nat)(v:AV):rP Tryd.prog 96 h (some (.ptr b r o)) (some v)=sv 1 (h[b]?) b r o (Af v):=Qc (by kernel_rfl) h b r o v
theorem mG(h:Aa)(b r o:Nat):ld Tryd.prog 96 h (some (.ptr b r o))=uT (Kr (h[b]?) r) o:=Wu ⟨by kernel_rfl,1,by kernel_rfl⟩ h b r o
theorem mH(h:Aa)(b r o:Nat):ld Tryd.prog 71 h (some (.ptr b r o))=uT (Kr (h[b]?) r) o:=Wu ⟨by kernel_rfl,1,by kernel_rfl⟩ h b r o
theorem Up(h:Aa)(b r o:Nat):ld Tryd.prog 68 h (some (.ptr b r o))=uT (Kr (h[b]?) r) o:=Wu ⟨by kernel_rfl,1,by kernel_rfl⟩ h b r o
theorem tC(base:Nat)(l c:Option AV):msO Tryd.prog 41 base l c=msK 1 (.bool false) base l c:=agO (e:=4) (n:=1) (b:=1) (by kernel_rfl) (by kernel_rfl) (by kernel_rfl) (by kernel_rfl) (by decide+kernel) base l c
theorem aaD:Hi Tryd.prog 41=some (.nils):=by kernel_rfl
theorem uW(h:Aa)(b r o:Nat)(v:AV):rP Tryd.prog 41 h (some (.ptr b r o)) (some v)=sv 1 (h[b]?) b r o (Af v):=Qc (by kernel_rfl) h b r o v
theorem tD:Hi Tryd.prog 105=some (.nilf):=by kernel_rfl
theorem uC(h:Aa)(b r o:Nat)(v:AV):rP Tryd.prog 105 h (some (.ptr b r o)) (some v)=sv 1 (h[b]?) b r o (Af v):=Qc (by kernel_rfl) h b r o v
theorem Zg(h:Aa)(b r o:Nat):ld Tryd.prog 105 h (some (.ptr b r o))=uT (Kr (h[b]?) r) o:=Wu ⟨by kernel_rfl,1,by kernel_rfl⟩ h b r o
theorem Qy(b r o:Nat):fa Tryd.prog 98 (some (.ptr b r o)) 0=some (.ret (.ptr b r (o+0)),[]):=Gs (show Ih Tryd.prog 98 0 0 1 from⟨_,_,Tryd.underlying98,rfl,rfl,by kernel_rfl,by decide⟩) b r o
theorem oJ(h:Aa)(b r o:Nat):ld Tryd.prog 41 h (some (.ptr b r o))=uT (Kr (h[b]?) r) o:=Wu ⟨by kernel_rfl,1,by kernel_rfl⟩ h b r o
def TY3:=PLift.up (aaI @eV @tX)
def cO:=PLift.up (aaI @Jd (aaI @Oc (aaI @eG (aaI @Xr (aaI @Dx (aaI @Eh (aaI @Fb (aaI @eV (aaI @eD (aaI @rY (aaI @Ht (aaI @Ix (aaI @Di (aaI @eE (aaI @Jg @qL)))))))))))))))
def TY9:=PLift.up (aaI @Dx (aaI @Eh @Fb))
def Xb:=PLift.up (aaI @Jd (aaI @kS (aaI @jN (aaI @Pl (aaI @Ix (aaI @Di (aaI @Ii (aaI @Dx (aaI @Eh (aaI @Fb (aaI @Jf (aaI @Hw (aaI @Vx (aaI @Vz (aaI @Ju (aaI @Jx (aaI @Vd (aaI @Og (aaI @Hm (aaI @Ov (aaI @uE (aaI @cS @tG))))))))))))))))))))))
def kG:=PLift.up (aaI @Js (aaI @Di (aaI @Yl (aaI @Dx (aaI @Eh (aaI @Fb (aaI @Jf (aaI @Hw (aaI @Vx (aaI @Vz (aaI @Ju (aaI @Jx (aaI @Rr (aaI @Jg (aaI @Yv (aaI @Nl (aaI @Np (aaI @Yi @Yh))))))))))))))))))
def aK0:=PLift.up (aaI @Jd @Jd)
def iW:=PLift.up (aaI @Og (aaI @Oc (aaI @Xr (aaI @Jd (aaI @Ix (aaI @eU (aaI @Di (aaI @eX (aaI @Dx (aaI @Eh (aaI @Jf (aaI @Hw (aaI @Hm @Ov)))))))))))))
def vR:=PLift.up (aaI @Dx (aaI @Eh (aaI @Fb (aaI @Jf (aaI @Hw (aaI @jK (aaI @uJ (aaI @uA (aaI @cX @sH)))))))))
def aJY:=PLift.up (aaI @Dx (aaI @Eh @Fb))
def tN:=PLift.up (aaI @Xr (aaI @eU @eX))
def alU:=PLift.up (aaI @Jd (aaI @uM @rO))
def ad4:=PLift.up (aaI @Pl (aaI @kS (aaI @Ii (aaI @Dx (aaI @Eh (aaI @Fb (aaI @Jf (aaI @Hw (aaI @Vx (aaI @Vz (aaI @Rr (aaI @Jg (aaI @Zd (aaI @qF (aaI @Yt (aaI @Ye (aaI @xR (aaI @lO (aaI @Di (aaI @Nl (aaI @Np @jN)))))))))))))))))))))
def Qj:=PLift.up (aaI @Ii (aaI @Js (aaI @Di (aaI @ae9 (aaI @eD (aaI @kW (aaI @Ou (aaI @Ht (aaI @Oc (aaI @Ix (aaI @qL (aaI @uN (aaI @wP (aaI @zG (aaI @mG @Vd)))))))))))))))
def aCX:=PLift.up (aaI @Ye (aaI @mH (aaI @Zd @Jg)))
def aLB:=PLift.up (aaI @Up (aaI @Pl (aaI @kW (aaI @Ou (aaI @Ii (aaI @Js (aaI @Di (aaI @tC (aaI @aaD (aaI @uW (aaI @tD (aaI @uC (aaI @Zg @Ht)))))))))))))
def an0:=PLift.up (aaI @Pl (aaI @Ix (aaI @Di (aaI @Ii (aaI @Dx (aaI @Eh @Fb))))))
def ahX:=PLift.up (aaI @Ju (aaI @Di @Jx))
def aMI:=PLift.up (aaI @Yt (aaI @Jg (aaI @Nl (aaI @Di @Np))))
def aAF:=PLift.up (aaI @Js (aaI @Di (aaI @Yl (aaI @Dx (aaI @Eh @Fb)))))
def aeQ:=PLift.up (aaI @Qy (aaI @Ht (aaI @Og (aaI @Hm (aaI @Ov @Ou)))))
def acR:=PLift.up (aaI @Qy (aaI @Ht (aaI @Oc (aaI @eG (aaI @Ix (aaI @Di @Ou))))))
def tY:=PLift.up (aaI @Og (aaI @Qy (aaI @Ht (aaI @Hm (aaI @Ov (aaI @rZ @Ou))))))
def Wq:=PLift.up (aaI @Jg (aaI @adD (aaI @qF (aaI @oJ (aaI @eE (aaI @Up (aaI @Di (aaI @Vd (aaI @Ht (aaI @Ix (aaI @Og (aaI @Hm (aaI @Ov (aaI @Ou (aaI @Zg @Oc)))))))))))))))
def aDB:=PLift.up (aaI @oL (aaI @Js @Di))
def aFO:=PLift.up (aaI @Ju (aaI @Di (aaI @Jx (aaI @Yv (aaI @Jg (aaI @Rr (aaI @Nl (aaI @Np (aaI @Yi @Yh)))))))))
def Uy:=PLift.up (aaI @Up (aaI @Ii (aaI @Dx (aaI @Eh (aaI @Fb (aaI @Jf (aaI @Hw (aaI @Vx (aaI @Vz (aaI @Di (aaI @Ju @Jx)))))))))))
def zU:=PLift.up (aaI @Fb (aaI @Jf @Hw))
end Go.Proofs.YtckfcfcmfjfchaaDoor
namespace Go.Proofs.YtckfcfcmfjfchaaDoor
open Go Go.Ev Go.ChangeShapes Go.WideShapes Go.ChangeAt Go.RowKit
set_option maxRecDepth 100000
set_option maxHeartbeats 16000000
def mdL:List Nat:=[46,56,60,57,61]
def pr:Jq:=fC 54 68 46 (mdL.contains ·)
noncomputable def Fq:Do:=om Tryd.prog pr
theorem alV(f:Nat):Fq.md f=([46,56,60,57,61]:List Nat).contains f:=Eq.trans rfl rfl
def Va:=PLift.up (aaI EE.down EVu.down)
def Vc:=PLift.up (aaI EG.down (aaI EVu.down @alV))
theorem own:ownKnob Tryd.prog.godebug=none:=by kernel_rfl
theorem ae0:rS Tryd.prog:=fun f fn hf=>by
 have h:(Tryd.prog.funcs.toList.all fun fn=> !(fn.name== "runtime.NumGoroutine"))=true:=by kernel_rfl
 have:=afE.1 h fn (by rw[Array.mem_toList_iff];exact Array.mem_of_getElem? hf)
 simpa using this
theorem mixed:Tryd.prog.follows .mixedOrders=true:=by kernel_rfl
theorem ac8:laidOutB Tryd.prog=true:=by kernel_rfl
def laid:List (String × DataW Unit):=[("math/bits.deBruijn32tab",Rows.laid_math_bits_deBruijn32tab),("math/bits.deBruijn64tab",Rows.laid_math_bits_deBruijn64tab),("internal/strconv.uint64pow10",Rows.laid_internal_strconv_uint64pow10)]
theorem amX:Tryd.prog.globalNamed "internal/strconv.uint64pow10" =some 0:=by kernel_rfl
theorem tab{W:World}(h:laidMetH Tryd.prog laid W):Lib.TabIs Tryd.prog W "internal/strconv.uint64pow10" .u64 Lib.pow10Tab:=by
 rw[MakeChecks.laidMetH_plain _ _ _ (by kernel_rfl)]at h
 obtain⟨ps,h,_⟩:=h
 exact Wa (t:=160) (e:=126) (n:=20) amX (by kernel_rfl) (by kernel_rfl) (by kernel_rfl) (by kernel_rfl) (by kernel_rfl) h (by
  have e:(Lib.tabData .u64 Lib.pow10Tab:DataW Unit)=Rows.laid_internal_strconv_uint64pow10:=rfl
  rw[e];simp[laid])
theorem aa8{W:World}(h:laidMetH Tryd.prog laid W):Eo Tryd.prog (xW W 0) Fq:=
 aoD ae0 (sO (aeL (bD ae0 Tryd.func54 rfl) (vL amX (tab h)) (fun n w h0 h1 ht=>Tryd.strconv_Itoa n h0 h1 w ht)) (adG (bD ae0 Tryd.func68 rfl) Tryd.strings_Join_none Tryd.strings_Join) (adY (bD ae0 Tryd.func46 rfl) Tryd.slices_Sort_int)) mixed
theorem aaR(os:Os)(args:Array Value):laidMetH Tryd.prog laid ((World.doorLaid Tryd.prog 400 os).forCall (fun _ _=>0) ⟨#[],args,[]⟩).memory:=
 laidMetH_of_parts3 (fuel:=8) (laidMet_of_run' 8 (by kernel_rfl) (by kernel_rfl)) (by kernel_rfl) (by kernel_rfl)
theorem adR{f:Nat}{fn:Func}{c:Code}{args:List AV}{h:Aa}{Q:Cj→Aa→Prop}(hp:pr f=none)(hf:Tryd.prog.funcs[f]?=some fn)(hb:fn.body=some c)(hl:abY args.length fn.ntmps=true)
 (he:FnE Tryd.prog h.length fn.results.toList Q (Bm Fq Tryd.prog 5000 c [] ⟨mk fn.ntmps (Qo args),h⟩)):ClQ Fq f args h Q:=ClQ.start (pr:=pr) hp hf hb hl he
theorem mT{f:Nat}{fn:Func}{c:Code}{args:List AV}{h:Aa}{Q:Cj→Aa→Prop}(hp:pr f=none)(hf:Tryd.prog.funcs[f]?=some fn)(hb:fn.body=some c)(hl:abY args.length fn.ntmps=true)
 (he:FnS Tryd.prog fn.results.toList Q (Bm Fq Tryd.prog 5000 c [] ⟨mk fn.ntmps (Qo args),h⟩))  (hs:pr.sh f=none:=by exact rfl):mU Fq f args h Q:=mU.start (pr:=pr) hp hf hb hl he hs
theorem ce{f:Nat}{fn:Func}{c:Code}{args:List AV}{h:Aa}{o:Cj}{h':Aa}(hf:Tryd.prog.funcs[f]?=some fn)(he:FnE Tryd.prog h.length fn.results.toList (fun o1 h1=>(o1,h1)=(o,h')) (Bm Fq Tryd.prog 5000 c [] ⟨mk fn.ntmps (Qo args),h⟩))(hp:pr f=none:=by exact rfl)(hb:fn.body=some c:=by exact rfl)(hl:abY args.length fn.ntmps=true:=by exact rfl):Fq.call (.fn f) args h=some (o,h'):=(adR hp hf hb hl he).eq
theorem csh{f:Nat}{fn:Func}{c:Code}{args:List AV}{h:Aa}{o:Cj}{h':Aa}(hf:Tryd.prog.funcs[f]?=some fn)(he:FnS Tryd.prog fn.results.toList (fun o1 h1=>(o1,h1)=(o,h')) (Bm Fq Tryd.prog 5000 c [] ⟨mk fn.ntmps (Qo args),h⟩))(hp:pr f=none:=by exact rfl)(hb:fn.body=some c:=by exact rfl)(hl:abY args.length fn.ntmps=true:=by exact rfl)(hs:pr.sh f=none:=by exact rfl):Fq.call (.sh f) args h=some (o,h'):=(mT hp hf hb hl he hs).eq
theorem eI{α σ ρ:Type}{c:Code}(N:Nat)(l:List α)(E:Nat→σ→Tm→Aa→Prop)(F:List α→σ→ρ)(Q:ρ→Ex→Tm→Aa→Prop)
 (stop:∀s t h Q',(∀e t h,Q (F [] s) e t h→Q' e ⟨mk N t,h⟩)→E l.length s t h→gB N (fun _ _=>False) Q' (Bm Fq Tryd.prog 5000 c [] ⟨mk N t,h⟩))
 (go:∀x rest i s t h J Q',(∀t' h' s',E (i+1) s' t' h'→F rest s'=F (x::rest) s→J t' h')→(∀e t h,Q (F (x::rest) s) e t h→Q' e ⟨mk N t,h⟩)→l[i]?=some x→i<l.length→E i s t h→
   gB N J Q' (Bm Fq Tryd.prog 5000 c [] ⟨mk N t,h⟩)):
 ∀s t h,E 0 s t h→uS Fq c ⟨mk N t,h⟩ (Ot N (Q (F l s))):=sZ (pr:=pr) rfl N l E F Q stop go
theorem cnt{σ ρ:Type}{c:Code}(N:Nat)(E:Nat→σ→Tm→Aa→Prop)(F:Nat→σ→ρ)(Q:ρ→Ex→Tm→Aa→Prop)
 (stop:∀s t h Q',(∀e t h,Q (F 0 s) e t h→Q' e ⟨mk N t,h⟩)→E 0 s t h→gB N (fun _ _=>False) Q' (Bm Fq Tryd.prog 5000 c [] ⟨mk N t,h⟩))
 (go:∀n s t h J Q',(∀t' h' s',E n s' t' h'→F n s'=F (n+1) s→J t' h')→(∀e t h,Q (F (n+1) s) e t h→Q' e ⟨mk N t,h⟩)→E (n+1) s t h→gB N J Q' (Bm Fq Tryd.prog 5000 c [] ⟨mk N t,h⟩)):
 ∀n s t h,E n s t h→uS Fq c ⟨mk N t,h⟩ (Ot N (Q (F n s))):=aaC (pr:=pr) rfl N E F Q stop go
def iv(x:Int):List AV:=[.int .i64 x]
theorem Ak{h:Aa}{b:Nat}{c:CB}(h0:h[b]?=some c)(l:Aa):(h++l)[b]?=some c:=by
 rw[abO (abR.1 h0).1];exact h0
end Go.Proofs.YtckfcfcmfjfchaaDoor
namespace Go.Proofs.YtckfcfcmfjfchaaDoor
open Go.Ev Go
set_option maxRecDepth 100000
set_option maxHeartbeats 16000000
structure Ag where
 one:Int
 other:Int
 valve:Bool
 opn:Bool
 tested:Int
 valid:Int
 bad:Bool
 test:Int
 change:Int
def Ag.cells(p:Ag):List AV:=[.int .i64 p.one,.int .i64 p.other,.bool p.valve,.bool p.opn,.int .i64 p.tested,.int .i64 p.valid,.bool p.bad,.int .i64 p.test,.int .i64 p.change]
structure Au where
 rooms:Int
 need:Int
 nn:Bool
 parts:List Ag
abbrev Au.cells(w:Au):List AV:=[.int .i64 w.rooms,.int .i64 w.need,Dh 9 true w.nn (w.parts.map Ag.cells)]
theorem fF{α:Type}{f:α→List AV}{p:List AV→Prop}{q:α→Prop}(hf:∀r,p r→∃x,r=f x∧q x):∀{rows:List (List AV)},(∀r∈rows,p r)→∃l:List α,rows=l.map f∧∀x∈l,q x
 | [],_=>⟨[],rfl,fun x hx=>by simp at hx⟩
 |r::rows,h=>by
  obtain⟨x,rfl,hx⟩:=hf r (h r (afG ..))
  obtain⟨l,rfl,hl⟩:=fF hf (fun r hr=>h r (List.mem_cons_of_mem _ hr))
  exact⟨x::l,rfl,fun y hy=>by
   rcases List.mem_cons.1 hy with rfl|hy
   ·exact hx
   ·exact hl y hy⟩
def i64(n:Int):Prop:= -9223372036854775808≤n∧n≤9223372036854775807
theorem Nv{n:Nat}{r:List AV}(h:Ty Tryd.prog (n+1) 3 r):∃x,r=[.int .i64 x]∧i64 x:=by
 simp only[Ty,Tryd.underlying3]at h
 obtain⟨x,rfl,h1,h2⟩:=h
 exact⟨x,rfl,h1,h2⟩
theorem gK{n:Nat}{r:List AV}(h:Ty Tryd.prog (n+1) 4 r):∃x,r=[.bool x]:=by
 simp only[Ty,Tryd.underlying4]at h
 exact h
def Ag.fits(p:Ag):Prop:=i64 p.one∧i64 p.other∧i64 p.tested∧i64 p.valid∧i64 p.test∧i64 p.change
theorem afO{n:Nat}{r:List AV}(h:Ty Tryd.prog (n+2) 62 r):∃x:Ag,r=x.cells∧x.fits:=by
 unfold Ty at h
 simp only[Tryd.underlying62,yU]at h
 obtain⟨a0,b0,rfl,h0,a1,b1,rfl,h1,a2,b2,rfl,h2,a3,b3,rfl,h3,a4,b4,rfl,h4,a5,b5,rfl,h5,a6,b6,rfl,h6,a7,b7,rfl,h7,a8,b8,rfl,h8,rfl⟩:=h
 obtain⟨x0,rfl,k0⟩:=Nv h0
 obtain⟨x1,rfl,k1⟩:=Nv h1
 obtain⟨x2,rfl⟩:=gK h2
 obtain⟨x3,rfl⟩:=gK h3
 obtain⟨x4,rfl,k4⟩:=Nv h4
 obtain⟨x5,rfl,k5⟩:=Nv h5
 obtain⟨x6,rfl⟩:=gK h6
 obtain⟨x7,rfl,k7⟩:=Nv h7
 obtain⟨x8,rfl,k8⟩:=Nv h8
 exact⟨⟨x0,x1,x2,x3,x4,x5,x6,x7,x8⟩,rfl,k0,k1,k4,k5,k7,k8⟩
structure Au.small(w:Au):Prop where
 parts:w.parts.length≤maxLen
 fits:∀p∈w.parts,p.fits
 rooms:i64 w.rooms
 need:i64 w.need
theorem adK{n:Nat}{r:List AV}(h:Ty Tryd.prog (n+4) 24 r):∃w:Au,r=w.cells∧w.small:=by
 unfold Ty at h
 simp only[Tryd.underlying24,yU]at h
 obtain⟨a0,b0,rfl,h0,a1,b1,rfl,h1,a2,b2,rfl,h2,rfl⟩:=h
 obtain⟨x0,rfl,k0⟩:=Nv h0
 obtain⟨x1,rfl,k1⟩:=Nv h1
 unfold Ty at h2
 simp only[Tryd.underlying22]at h2
 obtain⟨n2,rows2,rfl,hl2,hrows2⟩:=h2
 obtain⟨l2,rfl,hm⟩:=fF (fun r hr=>afO hr) hrows2
 have e2:Tryd.prog.cellsOf 62=9:=by kernel_rfl
 have f2:iH Tryd.prog (n+2) 62=true:=by
  simp only[iH,Tryd.underlying62,Tryd.underlying3,Tryd.underlying4];rfl
 rw[e2,f2]
 exact⟨⟨x0,x1,n2,l2⟩,rfl,by simpa using hl2,hm,k0,k1⟩
theorem acS{av:AV}(h:mF Tryd.prog 7 24 av):∃w:Au,av=.agg w.cells∧w.small:=by
 unfold mF at h
 simp only[Tryd.underlying24]at h
 obtain⟨cs,rfl,h⟩:=h
 obtain⟨s,rfl,hs⟩:=adK h
 exact⟨s,rfl,hs⟩
theorem ahY{av:AV}(h:mF Tryd.prog 7 3 av):∃x,av=.int .i64 x∧i64 x:=by
 unfold mF at h
 simp only[Tryd.underlying3]at h
 obtain⟨x,hx,hi⟩:=Nv h
 simp only[List.cons.injEq,and_true]at hx
 exact⟨x,hx,hi⟩
end Go.Proofs.YtckfcfcmfjfchaaDoor
namespace Go.Proofs.YtckfcfcmfjfchaaDoor
open Go.Ev Go Go.Ev.Net
set_option maxRecDepth 100000
set_option maxHeartbeats 16000000
def Jz(x lo hi:Int):Bool:=decide (lo≤x)&&decide (x≤hi)
theorem fZ(x lo hi:Int):Fq.call (.fn 39) [.int .i64 x,.int .i64 lo,.int .i64 hi] []=some (.ret (.bool (Jz x lo hi)),[]):=by
 (refine ce Tryd.func39 ?_;simp only[Tryd.f39];(have hb:=trivial;with_reducible repeat' (first|simp only[hb,Va.down,seval]|refine Br ?_ ?_<;>intro hb|refine fd ?_|fail)))
 all_goals simp[Jz, *]
theorem dD(x lo hi:Int):Fq.call (.fn 48) [.int .i64 x,.int .i64 lo,.int .i64 hi] []=some (.ret (.bool (Jz x lo hi)),[]):=by
 (refine ce Tryd.func48 ?_;simp only[Tryd.f48];(have hb:=trivial;with_reducible repeat' (first|simp only[hb,Va.down,seval]|refine Br ?_ ?_<;>intro hb|refine fd ?_|fail)))
 all_goals simp[Jz, *]
def Vr(d:Int):Bool:=Jz d 0 5000
theorem yG(d:Int):Fq.call (.fn 13) [.int .i64 d] []=some (.ret (.bool (Vr d)),[]):=by
 (refine ce Tryd.func13 ?_;simp only[Tryd.f13];(have hb:=trivial;with_reducible repeat' (first|simp only[hb,Va.down,seval,fZ]|refine Br ?_ ?_<;>intro hb|refine fd ?_|fail)))
 rfl
def Iw(p:Ag)(d:Int):Int:=if p.bad=true then 2 else if IntKind.i64.wrap (p.tested+p.valid)<d then 1 else 0
def Nu(p:Ag)(d:Int):Bool:=Iw p d==0&& !p.opn
theorem lH(p:Ag)(d:Int):Fq.call (.fn 45) [.agg [.int .i64 p.one,.int .i64 p.other,.bool p.valve,.bool p.opn,.int .i64 p.tested,.int .i64 p.valid,.bool p.bad,.int .i64 p.test,.int .i64 p.change],.int .i64 d] []=some (.ret (.int .i64 (Iw p d)),[]):=by
 (refine ce Tryd.func45 ?_;simp only[Tryd.f45];(have hb:=trivial;with_reducible repeat' (first|simp only[hb,Va.down,seval,aMI.down]|refine Br ?_ ?_<;>intro hb|refine fd ?_|fail)))
 all_goals simp_all[Iw]
def Tc(b:Bool):List AV:=[.bool b]
def Ez(n:Nat):List AV:=[.int .i64 (n:Int)]
def Az(w:Au)(d:Int):List Bool:=w.parts.map fun p=>Nu p d
theorem Hg{h:Aa}{b:Nat}(hb:b<h.length)(l:Aa)(c:CB):(h++l).set b c=h.set b c++l:=List.set_append_left _ _ hb
theorem Ac{h:Aa}{b:Nat}{c:CB}(e:h[b]?=some c):b<h.length:=(abR.1 e).1
theorem Hn{h:Aa}{b:Nat}(c:CB)(l:Aa):(h.set b c++l)[h.length]?=l[0]?:=by
 rw[ab7 (by simp)];simp
theorem Fe{h:Aa}{b:Nat}(c:CB)(l:Aa)(k:Nat):(h.set b c++l)[h.length+k]?=l[k]?:=by
 rw[ab7 (by simp)];simp
theorem pD{h:Aa}{b b':Nat}{x:CB}(c:CB)(hne:b≠b')(hb:h[b']?=some x)(l:Aa):(h.set b c++l)[b']?=some x:=by
 have hlt:b'<h.length:=(abR.1 hb).1
 rw[abO (by simpa using hlt),abP hne];exact hb
def agL(v:AV)(i:Nat)(rows:List (List AV))(h:Aa):Prop:=(i=0∧v=.nils)∨(0<i∧∃b,0<b∧v=.slr 1 b 0 i∧h[b]?=some (.live 1 true false rows))
theorem ad3(w:Au)(d:Int)(hs:w.parts.length≤1000)(hne:w.parts≠[]):Fq.call (.fn 19) [.agg [.int .i64 w.rooms,.int .i64 w.need,Dh 9 true w.nn (w.parts.map Ag.cells)],.int .i64 d] []=some (.ret (.slr 1 0 0 w.parts.length),[.live 1 true false ((Az w d).map Tc)]):=by
 (refine ce Tryd.func19 ?_;simp only[Tryd.f19];(have hb:=trivial;with_reducible repeat' (first|simp only[hb,Va.down,seval,vR.down,abN]|refine Br ?_ ?_<;>intro hb|refine fd ?_|fail)))
 refine Ls (eI 35 w.parts (fun i (zz:List Bool) t h=>t 1=.int .i64 d∧t 2=.ptr 0 0 0∧t 6=.int .i64 i∧(h[0]?=some (.live 3 false false [[.int .i64 w.rooms,.int .i64 w.need,Dh 9 true w.nn (w.parts.map Ag.cells)]])∧zz.length=i∧agL (t 5) i (zz.map Tc) h)) (fun rest zz=>zz++rest.map (fun p=>Nu p d)) (fun r e t h=>e=.exit 0∧agL (t 5) w.parts.length (r.map Tc) h) ?_ ?_ ([]) _ _ ?_) (fun e t h hk=>?_)
 ·rintro a t h Q' kQ ⟨h1,h2,h6,⟨hA,hp,hc⟩⟩
  (have hb:=trivial;with_reducible repeat' (first|simp only[hb,Va.down,seval,vR.down,h1,h2,h6,abU,decide_false,hA,abN]|refine Br ?_ ?_<;>intro hb|refine fd ?_|fail))
  exact kQ _ _ _ ⟨rfl,by simpa [up]using hc⟩
 ·rintro x rest i a t h J Q' kJ kQ hx hi ⟨h1,h2,h6,⟨hA,hp,hc⟩⟩
  have hd:decide ((i:Int)<(w.parts.length:Int))=true:=decide_eq_true (by omega)
  have hw:=Em hi (by unfold maxLen;omega)
  have hV:=lH x d
  have htb:Nu x d=(Iw x d==0&& !x.opn):=rfl
  have hA1:=Ak hA
  have h0l:0<h.length:=(abR.1 hA).1
  generalize Iw x d=cx at *
  rcases hc with⟨rfl,ho⟩|⟨h0,b,hb0,ho,hb⟩
  ·simp only[Int.natCast_zero]at hd
   obtain rfl:a=[]:=agQ.1 hp
   cases hq:(cx==0)
   all_goals (have hb:=trivial;with_reducible repeat' (first|simp only[hb,Va.down,seval,vR.down,h1,h2,h6,ho,hd,hw,hx,hA,hA1,hV,hq,Ag.cells,abN]|refine Br ?_ ?_<;>intro hb|refine fd ?_|fail))
   all_goals (refine Db (kJ _ _ [Nu x d] ⟨?_,?_,?_,⟨hA1 _,rfl,.inr ⟨by omega,h.length+1,by omega,by simp[up],by rw[qQ];simp[Tc,htb,hq]⟩⟩⟩ ?_);(simp[up,h1]);(simp[up,h2]);(simp[up]);(simp))
  ·have hbl:b<h.length:=(abR.1 hb).1
   have hB:=Ak hb
   have hS:=Hg hbl
   have hi39:(i+1≤549755813888)=True:=eq_true (by omega)
   cases hq:(cx==0)
   all_goals (have hb:=trivial;with_reducible repeat' (first|simp only[hb,Va.down,seval,vR.down,h1,h2,h6,ho,hd,hw,hx,hA,hA1,hV,hq,Ag.cells,abN,hB,hS,Hn,Fe,aeJ,hp,hi39]|refine Br ?_ ?_<;>intro hb|refine fd ?_|fail))
   all_goals (refine Db (kJ _ _ (a++[Nu x d]) ⟨?_,?_,?_,⟨pD _ (by omega) hA _,by simp[hp],.inr ⟨by omega,h.length+1,by omega,by simp[up],by rw[Fe];simp[Tc,htb,hq]⟩⟩⟩ ?_);(simp[up,h1]);(simp[up,h2]);(simp[up]);(simp))
 ·exact⟨by simp[up,Qo],by simp[up,Qo],by simp[up],⟨rfl,rfl,.inl ⟨rfl,by simp[up]⟩⟩⟩
 obtain⟨rfl,⟨hn,ho⟩|⟨hn,b,hb0,ho,hb⟩⟩:=hk
 ·exact(hne (agQ.1 hn)).elim
 ·(with_reducible repeat' (first|simp only[hb,Va.down,seval,vR.down,ho,hb]|refine Br ?_ ?_<;>intro hb|refine fd ?_|fail))
  rfl
def Gj(w:Au)(ts:List Bool):List Net.Edge:=List.zipWith (fun p t=>(p.one.toNat,p.other.toNat,if t=true then 1 else 0)) w.parts ts
structure tO(w:Au)(N:Nat):Prop where
 rooms:w.rooms=(N:Int)
 n2:2≤N
 n8:N≤8
 len:w.parts.length≤1000
 ne:w.parts≠[]
 part:∀p∈w.parts,(0≤p.one∧p.one<(N:Int))∧(0≤p.other∧p.other<(N:Int))∧p.one≠p.other
theorem pV{w:Au}{ts:List Bool}{i:Nat}{e:Net.Edge}(h:(Gj w ts)[i]?=some e):∃p t,w.parts[i]?=some p∧ts[i]?=some t∧e=(p.one.toNat,p.other.toNat,if t=true then 1 else 0):=by
 unfold Gj at h
 rw[List.getElem?_zipWith]at h
 cases h1:w.parts[i]? with
 |none=>simp[h1]at h
 |some p=>
  cases h2:ts[i]? with
  |none=>simp[h1,h2]at h
  |some t=>simp[h1,h2]at h;exact⟨p,t,rfl,rfl,h.symm⟩
theorem Um{w:Au}{N:Nat}(hw:tO w N)(ts:List Bool):Zp (Gj w ts) N:=fun a b c h=>by
 obtain⟨i,hi⟩:=List.getElem?_of_mem h
 obtain⟨p,t,h1,_,he⟩:=pV hi
 cases he
 have:=hw.part p (af8 h1)
 refine⟨by omega,by omega,by omega,?_⟩
 split<;>omega
theorem iG{w:Au}{ts:List Bool}(h:ts.length=w.parts.length):(Gj w ts).length=w.parts.length:=by simp[Gj,h]
theorem Zt{d:List Nat}{a:Nat}(h:a<d.length):(d.map Ez)[a]?=some [.int .i64 (d.getD a 0:Nat)]:=by
 rw[List.getElem?_map,agS h,List.getD_eq_getElem?_getD,agS h];rfl
theorem Mc(w:Au)(d:Int):(Az w d).length=w.parts.length:=by simp[Az]
def kV(w:Au)(N:Nat)(d:Int):Nat:=uZ (Gj w (Az w d)) N w.parts.length
theorem agJ(b:Bool):Fq.call (.fn 59) [.bool b] []=some (.ret (.int .i64 (if b=true then 1 else 0)),[]):=by
 cases b<;>(refine ce Tryd.func59 ?_;simp only[Tryd.f59];(have hb:=trivial;with_reducible repeat' (first|simp only[hb,Va.down,seval]|refine Br ?_ ?_<;>intro hb|refine fd ?_|fail)))
theorem hU(c:Int)(o:Bool):Fq.call (.fn 37) [.agg [.int .i64 c,.bool o]] []=some (.ret (.bool (c==0&& !o)),[]):=by
 cases hc:(c==0)<;>(refine ce Tryd.func37 ?_;simp only[Tryd.f37];(have hb:=trivial;with_reducible repeat' (first|simp only[hb,Va.down,seval,aCX.down,hc]|refine Br ?_ ?_<;>intro hb|refine fd ?_|fail)))
theorem Im(b r o:Nat)(i:Int):ia Tryd.prog 75 (some (.ptr b r o)) (some (.int .i64 i))=if 0≤i∧i<12 then some (.ret (.ptr b r (o+i.toNat*2)),[])else none:=by
 have h:Ft Tryd.prog 75 (.ptr b r o) (.int .i64 i)=if 0≤i∧i<12 then some (.ptr b r (o+i.toNat*2))else none:=by
  unfold Ft
  simp only[Tryd.underlying75]
  have hz:Md Tryd.prog 73=some 2:=by kernel_rfl
  rw[hz]
  simp
 simp only[ia,agX,h]
 split<;>rfl
def Be(w:Au)(d:Int):List (Int × Bool):=w.parts.map (fun p=>(Iw p d,p.opn))++abS (12-w.parts.length) (0,false)
def Gz(l:List (Int × Bool)):List AV:=l.flatMap fun x=>[.int .i64 x.1,.bool x.2]
theorem Ld(l:List (Int × Bool)):(Gz l).length=2*l.length:=by
 induction l with
 |nil=>rfl
 |cons x l ih=>simp[Gz]at ih ⊢;omega
theorem jC:∀(L:List (Int × Bool)) (i:Nat) (a:Int) (b b':Bool),L[i]?=some (a,b)→abT (i*2+1) (Gz L)++([.bool b']++af9 (i*2+2) (Gz L))=Gz (L.set i (a,b'))
 | [],i,a,b,b',h=>by simp at h
 |x::L,0,a,b,b',h=>by simp at h;subst h;simp[Gz]
 |x::L,i+1,a,b,b',h=>by
  have ih:=jC L i a b b' (by simpa using h)
  rw[show(i+1)*2+1=(i*2+1)+1+1 by omega,show(i+1)*2+2=(i*2+2)+1+1 by omega]
  simp only[Gz,agB,agF,agG,ah1,aiN,ajA]at ih ⊢
  rw[←ih]
theorem jY:∀(L:List (Int × Bool)) (i:Nat) (a a':Int) (b:Bool),L[i]?=some (a,b)→abT (i*2) (Gz L)++([.int .i64 a']++af9 (i*2+1) (Gz L))=Gz (L.set i (a',b))
 | [],i,a,a',b,h=>by simp at h
 |x::L,0,a,a',b,h=>by simp at h;subst h;simp[Gz]
 |x::L,i+1,a,a',b,h=>by
  have ih:=jY L i a a' b (by simpa using h)
  rw[show(i+1)*2=(i*2)+1+1 by omega,show(i*2)+1+1+1=(i*2+1)+1+1 by omega]
  simp only[Gz,agB,agF,agG,ah1,aiN,ajA]at ih ⊢
  rw[←ih]
def uR(w:Au)(d:Int)(i:Nat):List (Int × Bool):=(w.parts.take i).map (fun p=>(Iw p d,p.opn))++abS (12-i) (0,false)
theorem ahA{w:Au}{d:Int}{i:Nat}(hi:i<w.parts.length)(h12:w.parts.length≤12):(uR w d i)[i]?=some (0,false):=by
 have hl:((w.parts.take i).map fun p=>(Iw p d,p.opn)).length=i:=by rw[abN,ajK];omega
 unfold uR
 rw[ab7 (by omega),hl,Nat.sub_self,List.getElem?_replicate,if_pos (by omega)]
theorem aaG{w:Au}{d:Int}{i:Nat}{p:Ag}(hx:w.parts[i]?=some p)(h12:w.parts.length≤12):(uR w d i).set i (Iw p d,p.opn)=uR w d (i+1):=by
 have hi:i<w.parts.length:=(abR.1 hx).1
 have hl:((w.parts.take i).map fun p=>(Iw p d,p.opn)).length=i:=by rw[abN,ajK];omega
 unfold uR
 rw[List.set_append_right _ _ (by omega),hl,Nat.sub_self,List.take_add_one,hx]
 have e:12-i=(12-(i+1))+1:=by omega
 rw[e,List.replicate_succ]
 simp
theorem iK(w:Au)(d:Int)(wf:Bool)(h12:w.parts.length≤12):Fq.call (.fn 35) [.ptr 0 0 0] [.live 4 false wf [[.int .i64 w.rooms,.int .i64 w.need,Dh 9 true w.nn (w.parts.map Ag.cells),.int .i64 d]]]=some (.ret (.agg (Gz (Be w d))),[.live 4 false wf [[.int .i64 w.rooms,.int .i64 w.need,Dh 9 true w.nn (w.parts.map Ag.cells),.int .i64 d]]]):=by
 refine ce Tryd.func35 ?_
 simp only[Tryd.f35]
 (have hb:=trivial;with_reducible repeat' (first|simp only[hb,Va.down,seval,ad4.down,abN]|refine Br ?_ ?_<;>intro hb|refine fd ?_|fail))
 refine Ls (eI 44 w.parts (fun i (_:Unit) t h=>t 0=.ptr 0 0 0∧t 2=.ptr 1 0 0∧t 3=.ptr 2 0 0∧t 10=Dh 9 true w.nn (w.parts.map Ag.cells)∧t 11=.int .i64 (w.parts.length:Nat)∧t 12=.int .i64 (i:Int)∧h[0]?=some (.live 4 false wf [[.int .i64 w.rooms,.int .i64 w.need,Dh 9 true w.nn (w.parts.map Ag.cells),.int .i64 d]])∧h[1]?=some (.live 24 true false [Gz (abS 12 (0,false))])∧∃f,h[2]?=some (.live 24 true f [Gz (uR w d i)])) (fun _ _=>())
  (fun _ e t h=>e=.exit 0∧t 2=.ptr 1 0 0∧t 3=.ptr 2 0 0∧h[0]?=some (.live 4 false wf [[.int .i64 w.rooms,.int .i64 w.need,Dh 9 true w.nn (w.parts.map Ag.cells),.int .i64 d]])∧h[1]?=some (.live 24 true false [Gz (abS 12 (0,false))])∧∃f,h[2]?=some (.live 24 true f [Gz (uR w d w.parts.length)])) ?_ ?_ () _ _ ?_) (fun e t h hk=>?_)
 ·rintro _ t h Q' kQ ⟨h0,h2,h3,h10,h11,h12',hA,hB,f,hC⟩
  (have hb:=trivial;with_reducible repeat' (first|simp only[hb,Va.down,seval,ad4.down,h11,h12',abU,decide_false]|refine Br ?_ ?_<;>intro hb|refine fd ?_|fail))
  exact kQ _ _ _ ⟨rfl,by simp[up,h2],by simp[up,h3],hA,hB,f,hC⟩
 ·rintro p rest i _ t h J Q' kJ kQ hx hi ⟨h0,h2,h3,h10,h11,h12',hA,hB,f,hC⟩
  have hdd:decide ((i:Int)<(w.parts.length:Int))=true:=decide_eq_true (by omega)
  have hww:=Em hi (by unfold maxLen;omega)
  have hA1:=Ak hA
  have hC1:=Ak hC
  have hl2:=Ac hC
  have i1:((i:Int)<12)=True:=eq_true (by omega)
  have hpl:(Gz (uR w d i)).length=24:=by rw[Ld];simp[uR];omega
  have hS:=Hg hl2
  have i2:(i*2≤22)=True:=eq_true (by omega)
  have i3:(i*2≤23)=True:=eq_true (by omega)
  have hat:=ahA (d:=d) hi h12
  have hnx:=aaG (d:=d) hx h12
  generalize hL:uR w d i=L at *
  have s1:=jC L i 0 false p.opn hat
  have tk1:abT (23-i*2) [AV.bool p.opn]=[AV.bool p.opn]:=abV (by simp;omega)
  have hat2:(L.set i (0,p.opn))[i]?=some (0,p.opn):=abQ (by have:=(abR.1 hat).1;exact this)
  have s2:=fun v=>jY (L.set i (0,p.opn)) i 0 v p.opn hat2
  have tk2:∀v,abT (24-i*2) [AV.int .i64 v]=[AV.int .i64 v]:=fun v=>abV (by simp;omega)
  simp only[agF,agG]at s1 s2
  have hpl2:(Gz (L.set i (0,p.opn))).length=24:=by rw[Ld]at hpl ⊢;simpa using hpl
  have hg2:∀c l,(h.set 2 c++l)[2]?=some c:=fun c l=>by rw[abO (by simpa using hl2),abQ hl2]
  have hg0:∀c l,(h.set 2 c++l)[0]?=h[0]?:=fun c l=>by rw[abO (by simp;omega),abP (by omega)]
  have hg1:∀c l,(h.set 2 c++l)[1]?=h[1]?:=fun c l=>by rw[abO (by simp;omega),abP (by omega)]
  have hgs:∀c l c',(h.set 2 c++l).set 2 c'=h.set 2 c'++l:=fun c l c'=>by rw[Hg (by simpa using hl2),List.set_set]
  have ss2:∀v:Int,(L.set i (0,p.opn)).set i (v,p.opn)=L.set i (v,p.opn):=fun v=>List.set_set ..
  have nx:∀(v:Int) (t':Tm) (l':Aa),Iw p d=v→t' 0=.ptr 0 0 0∧t' 2=.ptr 1 0 0∧t' 3=.ptr 2 0 0∧t' 10=Dh 9 true w.nn (w.parts.map Ag.cells)∧t' 11=.int .i64 (w.parts.length:Nat)∧t' 12=.int .i64 ((i+1:Nat):Int)→J t' (h.set 2 (.live 24 true true [Gz (L.set i (v,p.opn))])++l'):=fun v t' l' hv ht=>by
   rw[←hv,hnx]
   exact kJ _ _ () ⟨ht.1,ht.2.1,ht.2.2.1,ht.2.2.2.1,ht.2.2.2.2.1,ht.2.2.2.2.2,by rw[hg0];exact hA,by rw[hg1];exact hB,true,hg2 _ _⟩ rfl
  (have hb:=trivial;with_reducible repeat' (first|simp only[hb,Va.down,seval,ad4.down,h0,h2,h3,h10,h11,h12',hdd,hww,hx,hA,hA1,hC,hC1,hS,Im,i1,i2,i3,hpl,hpl2,s1,s2,tk1,tk2,ss2,hg2,hg0,hg1,hgs,Hn,Fe,aeJ,Ag.cells]|refine Br ?_ ?_<;>intro hb|refine fd ?_|fail))
  ·refine Db (nx 2 _ _ (by simp[Iw, *]) ⟨by simp[up,h0],by simp[up,h2],by simp[up,h3],by simp[up,h10],by simp[up,h11],by simp[up]⟩)
  ·refine Db (nx 1 _ _ (by simp[Iw];simp_all) ⟨by simp[up,h0],by simp[up,h2],by simp[up,h3],by simp[up,h10],by simp[up,h11],by simp[up]⟩)
  ·refine Db (nx 0 _ _ (by simp[Iw];simp_all) ⟨by simp[up,h0],by simp[up,h2],by simp[up,h3],by simp[up,h10],by simp[up,h11],by simp[up]⟩)
 ·exact⟨by simp[up,Qo],by simp[up],by simp[up],by simp[up],by simp[up],by simp[up],rfl,rfl,false,rfl⟩
 obtain⟨rfl,h2,h3,hA,hB,f,hC⟩:=hk
 have hL:uR w d w.parts.length=Be w d:=by unfold uR Be;rw[abV (Nat.le_refl _)]
 rw[hL]at hC
 have hpl:(Gz (Be w d)).length=24:=by rw[Ld];simp[Be];omega
 have hpz:(Gz (abS 12 (0,false))).length=24:=by rw[Ld];simp
 have htk:abT 24 (Gz (Be w d))=Gz (Be w d):=abV (by omega)
 have hl1:=Ac hB
 generalize Gz (abS 12 (0,false))=zs at *
 have hdz:af9 24 zs=[]:=List.drop_eq_nil_iff.2 (by omega)
 have hcell:(Gz (Be w d)).all AV.isCell=true:=by
  have:∀l:List (Int × Bool),(Gz l).all AV.isCell=true:=fun l=>by
   induction l with
   |nil=>rfl
   |cons x l ih=>simp only[Gz,agB,List.all_append]at ih ⊢;rw[ih];rfl
  exact this _
 have hform:∀x∈Gz (Be w d),(∃n,x=.int .i64 n)∨∃b,x=.bool b:=fun x hx=>by
  simp only[Gz,List.mem_flatMap,List.mem_cons,List.not_mem_nil,or_false]at hx
  obtain⟨y,_,rfl|rfl⟩:=hx
  ·exact .inl ⟨_,rfl⟩
  ·exact .inr ⟨_,rfl⟩
 have hflat:(Gz (Be w d)).all AV.flat=true:=afE.2 fun x hx=>by rcases hform x hx with⟨n,rfl⟩|⟨b,rfl⟩<;>rfl
 have hrf:Bt.refL (Bt 7) [0] (Gz (Be w d))=some (Gz (Be w d),[0]):=Gk fun x hx=>by rcases hform x hx with⟨n,rfl⟩|⟨b,rfl⟩<;>rfl
 have hg1:∀c,(h.set 1 c)[1]?=some c:=fun c=>abQ hl1
 have hg0:∀c,(h.set 1 c)[0]?=h[0]?:=fun c=>abP (by omega)
 generalize Gz (Be w d)=ps at *
 (have hb:=trivial;with_reducible repeat' (first|simp only[hb,Va.down,seval,ad4.down,h2,h3,hA,hB,hC,hpl,hpz,htk,hdz,hcell,hflat,hrf,hg1,hg0]|refine Br ?_ ?_<;>intro hb|refine fd ?_|fail))
def Rn(N:Int)(p:Ag):Bool:=Jz p.one 0 (IntKind.i64.wrap (N-1))&&Jz p.other 0 (IntKind.i64.wrap (N-1))&& !(p.one==p.other)&& !(p.opn&& !p.valve)&&Vr p.tested&&Vr p.valid&&Jz p.test 1 1000&&Jz p.change 1 1000
def qI(w:Au):Bool:=Jz w.rooms 2 8&&Jz w.need 0 12&&Jz (w.parts.length:Int) 1 12
def Oo(w:Au):Bool:=qI w&&w.parts.all (Rn w.rooms)
theorem ah2(w:Au)(hs:w.small):Fq.call (.fn 12) [.agg [.int .i64 w.rooms,.int .i64 w.need,Dh 9 true w.nn (w.parts.map Ag.cells)]] []=some (.ret (.bool (Oo w)),[]):=by
 have k1:=fZ w.rooms 2 8
 have k2:=fZ w.need 0 12
 have k3:=fZ (w.parts.length:Int) 1 12
 have hh:qI w=(Jz w.rooms 2 8&&Jz w.need 0 12&&Jz (w.parts.length:Int) 1 12):=rfl
 unfold Oo
 generalize Jz w.rooms 2 8=c1 at *
 generalize Jz w.need 0 12=c2 at *
 generalize Jz (w.parts.length:Int) 1 12=c3 at *
 cases c1
 ·rw[hh]
  (refine ce Tryd.func12 ?_;simp only[Tryd.f12];(have hb:=trivial;with_reducible repeat' (first|simp only[hb,Va.down,seval,kG.down,k1,k2,k3,abN]|refine Br ?_ ?_<;>intro hb|refine fd ?_|fail)))
 cases c2
 ·rw[hh]
  (refine ce Tryd.func12 ?_;simp only[Tryd.f12];(have hb:=trivial;with_reducible repeat' (first|simp only[hb,Va.down,seval,kG.down,k1,k2,k3,abN]|refine Br ?_ ?_<;>intro hb|refine fd ?_|fail)))
 cases c3
 ·rw[hh]
  (refine ce Tryd.func12 ?_;simp only[Tryd.f12];(have hb:=trivial;with_reducible repeat' (first|simp only[hb,Va.down,seval,kG.down,k1,k2,k3,abN]|refine Br ?_ ?_<;>intro hb|refine fd ?_|fail)))
 rw[hh]
 simp only[Bool.and_self,Bool.true_and]
 (refine ce Tryd.func12 ?_;simp only[Tryd.f12];(have hb:=trivial;with_reducible repeat' (first|simp only[hb,Va.down,seval,kG.down,k1,k2,k3,abN]|refine Br ?_ ?_<;>intro hb|refine fd ?_|fail)))
 refine Ls (eI 90 w.parts (fun i (zz:Unit) t h=>t 1=.ptr 0 0 0∧t 3=.int .i64 i∧(h[0]?=some (.live 3 false false [[.int .i64 w.rooms,.int .i64 w.need,Dh 9 true w.nn (w.parts.map Ag.cells)]]))) (fun rest zz=>rest.all (Rn w.rooms)) (fun r e t h=>(e=.exit 0∧r=true)∨(e=.ret∧t 2=.bool false∧r=false)) ?_ ?_ () _ _ ?_) (fun e t h hk=>?_)
 ·rintro _ t h Q' kQ ⟨h1,h3,hA⟩
  (have hb:=trivial;with_reducible repeat' (first|simp only[hb,Va.down,seval,kG.down,h1,h3,abU,decide_false,hA,abN]|refine Br ?_ ?_<;>intro hb|refine fd ?_|fail))
  exact kQ _ _ _ (.inl ⟨rfl,rfl⟩)
 ·rintro x rest i _ t h J Q' kJ kQ hx hi ⟨h1,h3,hA⟩
  have hd:decide ((i:Int)<(w.parts.length:Int))=true:=decide_eq_true (by omega)
  have hw:=Em hi hs.parts
  have q1:=fZ x.one 0 (IntKind.i64.wrap (w.rooms-1))
  have q2:=fZ x.other 0 (IntKind.i64.wrap (w.rooms-1))
  have q4:=yG x.tested
  have q5:=yG x.valid
  have q6:=fZ x.test 1 1000
  have q7:=fZ x.change 1 1000
  have hp:Rn w.rooms x=(Jz x.one 0 (IntKind.i64.wrap (w.rooms-1))&&Jz x.other 0 (IntKind.i64.wrap (w.rooms-1))&& !(x.one==x.other)&& !(x.opn&& !x.valve)&&Vr x.tested&&Vr x.valid&&Jz x.test 1 1000&&Jz x.change 1 1000):=rfl
  have hA1:=Ak hA
  generalize Jz x.one 0 (IntKind.i64.wrap (w.rooms-1))=d1 at *
  generalize Jz x.other 0 (IntKind.i64.wrap (w.rooms-1))=d2 at *
  cases hq3:(x.one==x.other)
  all_goals rw[hq3]at hp
  all_goals generalize Vr x.tested=d4 at *
  all_goals generalize Vr x.valid=d5 at *
  all_goals generalize Jz x.test 1 1000=d6 at *
  all_goals generalize Jz x.change 1 1000=d7 at *
  all_goals (have hb:=trivial;with_reducible repeat' (first|simp only[hb,Va.down,seval,kG.down,h1,h3,hd,hx,hw,hA,hA1,q1,q2,hq3,q4,q5,q6,q7,Ag.cells,abN]|refine Br ?_ ?_<;>intro hb|refine fd ?_|fail))
  all_goals first|(refine kQ _ _ _ (.inr ⟨rfl,by simp[up],?_⟩);simp_all;done)|(refine Db (kJ _ _ () ⟨?_,?_,hA1 _⟩ ?_);(simp[up,h1]);(simp[up]);(simp_all))
 ·exact⟨by simp[up,Qo],by simp[up],rfl⟩
 rcases hk with⟨rfl,hr⟩|⟨rfl,h2,hr⟩
 ·rw[hr]
  (have hb:=trivial;with_reducible repeat' (first|simp only[hb,Va.down,seval,kG.down]|refine Br ?_ ?_<;>intro hb|refine fd ?_|fail))
 ·rw[hr]
  (have hb:=trivial;with_reducible repeat' (first|simp only[hb,Va.down,seval,kG.down,h2]|refine Br ?_ ?_<;>intro hb|refine fd ?_|fail))
theorem pK{w:Au}(h:Oo w=true):∃N,tO w N∧w.parts.length≤12:=by
 simp only[Oo,qI,Jz,aj9,decide_eq_true_eq,afE]at h
 obtain⟨⟨⟨⟨h1,h2⟩,h3,h4⟩,h5,h6⟩,h7⟩:=h
 refine⟨w.rooms.toNat,⟨by omega,by omega,by omega,by omega,fun e=>by rw[e]at h5;simp at h5,fun p hp=>?_⟩,by omega⟩
 have:=h7 p hp
 simp only[Rn,Jz,aj9,decide_eq_true_eq,Bool.not_eq_true',beq_eq_false_iff_ne]at this
 obtain⟨⟨⟨⟨⟨⟨⟨a1,a2⟩,a3⟩,_⟩,_⟩,_⟩,_⟩,_⟩:=this
 rw[Fz (by omega) (by omega)]at a1 a2
 refine⟨by omega,by omega,a3⟩
def idx{α:Type}(p:α→Bool):List α→Int→Int
 | [],_=> -1
 |x::l,i=>if p x=true then i else idx p l (i+1)
theorem pE{α:Type}(p:α→Bool):∀(l:List α) (i:Int),0≤i→decide (0≤idx p l i)=l.any p
 | [],i,_=>rfl
 |x::l,i,h=>by
  unfold idx
  split
  ·rename_i hp;simp[h,hp]
  ·rename_i hp;rw[pE p l (i+1) (by omega)];simp[hp]
theorem ahM(p:Ag)(N:Int):Fq.call (.fn 66) [.agg [.int .i64 p.one,.int .i64 p.other,.bool p.valve,.bool p.opn,.int .i64 p.tested,.int .i64 p.valid,.bool p.bad,.int .i64 p.test,.int .i64 p.change],.int .i64 N] []=some (.ret (.bool (Rn N p)),[]):=by
 have q1:=dD p.one 0 (IntKind.i64.wrap (N-1))
 have q2:=dD p.other 0 (IntKind.i64.wrap (N-1))
 have q4:=dD p.tested 0 5000
 have q5:=dD p.valid 0 5000
 have q6:=dD p.test 1 1000
 have q7:=dD p.change 1 1000
 have hp:Rn N p=(Jz p.one 0 (IntKind.i64.wrap (N-1))&&Jz p.other 0 (IntKind.i64.wrap (N-1))&& !(p.one==p.other)&& !(p.opn&& !p.valve)&&Jz p.tested 0 5000&&Jz p.valid 0 5000&&Jz p.test 1 1000&&Jz p.change 1 1000):=rfl
 generalize Jz p.one 0 (IntKind.i64.wrap (N-1))=d1 at *
 generalize Jz p.other 0 (IntKind.i64.wrap (N-1))=d2 at *
 generalize Jz p.tested 0 5000=d4 at *
 generalize Jz p.valid 0 5000=d5 at *
 generalize Jz p.test 1 1000=d6 at *
 generalize Jz p.change 1 1000=d7 at *
 cases hq3:(p.one==p.other)
 all_goals rw[hq3]at hp
 all_goals rw[hp]
 all_goals (refine ce Tryd.func66 ?_;simp only[Tryd.f66];(have hb:=trivial;with_reducible repeat' (first|simp only[hb,Va.down,seval,aFO.down,q1,q2,hq3,q4,q5,q6,q7]|refine Br ?_ ?_<;>intro hb|refine fd ?_|fail)))
 all_goals simp_all
theorem ab4(w:Au)(x:Ag):Fq.call (.fn 65) [.agg [.int .i64 x.one,.int .i64 x.other,.bool x.valve,.bool x.opn,.int .i64 x.tested,.int .i64 x.valid,.bool x.bad,.int .i64 x.test,.int .i64 x.change],.ptr 0 0 0] [.live 3 false false [[.int .i64 w.rooms,.int .i64 w.need,Dh 9 true w.nn (w.parts.map Ag.cells)]]]=some (.ret (.bool (!Rn w.rooms x)),[.live 3 false false [[.int .i64 w.rooms,.int .i64 w.need,Dh 9 true w.nn (w.parts.map Ag.cells)]]]):=by
 have h:=ahM x w.rooms
 (refine ce Tryd.func65 ?_;simp only[Tryd.f65];(have hb:=trivial;with_reducible repeat' (first|simp only[hb,Va.down,seval,aDB.down,h]|refine Br ?_ ?_<;>intro hb|refine fd ?_|fail)))
theorem rR{l:List Ag}{nn:Bool}{g:Nat}{mm:Au}{p:Ag→Bool}(hp:∀x∈l,Fq.call (.fn g) (.agg [.int .i64 x.one,.int .i64 x.other,.bool x.valve,.bool x.opn,.int .i64 x.tested,.int .i64 x.valid,.bool x.bad,.int .i64 x.test,.int .i64 x.change]::[.ptr 0 0 0]) [.live 3 false false [[.int .i64 mm.rooms,.int .i64 mm.need,Dh 9 true mm.nn (mm.parts.map Ag.cells)]]]=some (.ret (.bool (p x)),[.live 3 false false [[.int .i64 mm.rooms,.int .i64 mm.need,Dh 9 true mm.nn (mm.parts.map Ag.cells)]]]))(hl:l.length≤maxLen):
 Fq.call (.fn 83) [Dh 9 true nn (l.map Ag.cells),.func (.func g) [] [.ptr 0 0 0]] [.live 3 false false [[.int .i64 mm.rooms,.int .i64 mm.need,Dh 9 true mm.nn (mm.parts.map Ag.cells)]]]=some (.ret (.int .i64 (idx p l 0)),[.live 3 false false [[.int .i64 mm.rooms,.int .i64 mm.need,Dh 9 true mm.nn (mm.parts.map Ag.cells)]]]):=by
 (refine ce Tryd.func83 ?_;simp only[Tryd.f83];(have hb:=trivial;with_reducible repeat' (first|simp only[hb,Va.down,seval,zU.down,abN]|refine Br ?_ ?_<;>intro hb|refine fd ?_|fail)))
 refine Ls (eI 19 l (fun i (s:Int) t h=>s=i∧h=[.live 3 false false [[.int .i64 mm.rooms,.int .i64 mm.need,Dh 9 true mm.nn (mm.parts.map Ag.cells)]]]∧t 0=Dh 9 true nn (l.map Ag.cells)∧t 1=.func (.func g) [] [.ptr 0 0 0]∧t 7=.int .i64 l.length∧t 8=.int .i64 i)
  (fun rest s=>idx p rest s) (fun r e t h=>h=[.live 3 false false [[.int .i64 mm.rooms,.int .i64 mm.need,Dh 9 true mm.nn (mm.parts.map Ag.cells)]]]∧((e=.exit 0∧r= -1)∨(e=.ret∧t 4=.int .i64 r))) ?_ ?_ 0 _ _ ?_) (fun e t h hk=>?_)
 ·rintro s t h Q' kQ ⟨rfl,rfl,h0,h1,h7,h8⟩
  (have hb:=trivial;with_reducible repeat' (first|simp only[hb,Va.down,seval,zU.down,h0,h1,h7,h8,abU,decide_false]|refine Br ?_ ?_<;>intro hb|refine fd ?_|fail))
  exact kQ _ _ _ ⟨rfl,.inl ⟨rfl,rfl⟩⟩
 ·rintro x rest i s t h J Q' kJ kQ hx hi ⟨rfl,rfl,h0,h1,h7,h8⟩
  have hpx:=hp x (af8 hx)
  have hd:decide ((i:Int)<(l.length:Int))=true:=by simpa using hi
  (have hb:=trivial;with_reducible repeat' (first|simp only[hb,Va.down,seval,zU.down,h0,h1,h7,h8,hd,hx,Ag.cells,hpx,Em hi hl]|refine Br ?_ ?_<;>intro hb|refine fd ?_|fail))
  ·exact kQ _ _ _ ⟨rfl,.inr ⟨rfl,by simp[up,idx,hb]⟩⟩
  ·exact Db (kJ _ _ (i+1) ⟨by simp,rfl,by simp[up,h0],by simp[up,h1],by simp[up,h7],by simp[up]⟩ (by simp[idx,hb]))
 ·exact⟨rfl,rfl,by simp[up,Qo],by simp[up,Qo],by simp[up],by simp[up]⟩
 ·obtain⟨rfl,⟨rfl,hi⟩|⟨rfl,hi⟩⟩:=hk
  ·(have hb:=trivial;with_reducible repeat' (first|simp only[hb,Va.down,seval,zU.down]|refine Br ?_ ?_<;>intro hb|refine fd ?_|fail))
   rw[hi]
  ·(have hb:=trivial;with_reducible repeat' (first|simp only[hb,Va.down,seval,zU.down,hi]|refine Br ?_ ?_<;>intro hb|refine fd ?_|fail))
theorem oQ{l:List Ag}{nn:Bool}{g:Nat}{mm:Au}{p:Ag→Bool}(hp:∀x∈l,Fq.call (.fn g) (.agg [.int .i64 x.one,.int .i64 x.other,.bool x.valve,.bool x.opn,.int .i64 x.tested,.int .i64 x.valid,.bool x.bad,.int .i64 x.test,.int .i64 x.change]::[.ptr 0 0 0]) [.live 3 false false [[.int .i64 mm.rooms,.int .i64 mm.need,Dh 9 true mm.nn (mm.parts.map Ag.cells)]]]=some (.ret (.bool (p x)),[.live 3 false false [[.int .i64 mm.rooms,.int .i64 mm.need,Dh 9 true mm.nn (mm.parts.map Ag.cells)]]]))(hl:l.length≤maxLen):
 Fq.call (.fn 64) [Dh 9 true nn (l.map Ag.cells),.func (.func g) [] [.ptr 0 0 0]] [.live 3 false false [[.int .i64 mm.rooms,.int .i64 mm.need,Dh 9 true mm.nn (mm.parts.map Ag.cells)]]]=some (.ret (.bool (l.any p)),[.live 3 false false [[.int .i64 mm.rooms,.int .i64 mm.need,Dh 9 true mm.nn (mm.parts.map Ag.cells)]]]):=by
 (refine ce Tryd.func64 ?_;simp only[Tryd.f64];(have hb:=trivial;with_reducible repeat' (first|simp only[hb,Va.down,seval,rR hp hl,pE p l 0 (Int.le_refl 0)]|refine Br ?_ ?_<;>intro hb|refine fd ?_|fail)))
theorem aiY(w:Au)(hs:w.small):Fq.call (.fn 47) [.agg [.int .i64 w.rooms,.int .i64 w.need,Dh 9 true w.nn (w.parts.map Ag.cells)]] []=some (.ret (.bool (Oo w)),[]):=by
 have k1:=dD w.rooms 2 8
 have k2:=dD w.need 0 12
 have k3:=dD (w.parts.length:Int) 1 12
 have hcM:=oQ (mm:=w) (l:=w.parts) (nn:=w.nn) (g:=65) (p:=fun x=> !Rn w.rooms x) (fun x _=>ab4 w x) hs.parts
 have q1:w.parts.all (Rn w.rooms)= !(w.parts.any fun x=> !Rn w.rooms x):=List.all_eq_not_any_not
 have hh:qI w=(Jz w.rooms 2 8&&Jz w.need 0 12&&Jz (w.parts.length:Int) 1 12):=rfl
 unfold Oo
 rw[hh,q1]
 generalize Jz w.rooms 2 8=c1 at *
 generalize Jz w.need 0 12=c2 at *
 generalize Jz (w.parts.length:Int) 1 12=c3 at *
 generalize(w.parts.any fun x=> !Rn w.rooms x)=c4 at *
 cases c1<;>cases c2<;>cases c3
 all_goals (refine ce Tryd.func47 ?_;simp only[Tryd.f47];(have hb:=trivial;with_reducible repeat' (first|simp only[hb,Va.down,seval,aAF.down,k1,k2,k3,hcM,abN]|refine Br ?_ ?_<;>intro hb|refine fd ?_|fail)))
 all_goals simp
theorem pT(w:Au)(hs:w.small)(d:Int):Fq.call (.fn 34) [.agg [.int .i64 w.rooms,.int .i64 w.need,Dh 9 true w.nn (w.parts.map Ag.cells)],.int .i64 d] []=some (.ret (.tup [.ptr 0 0 0,.bool (Oo w&&Vr d)]),[.live 4 false false [[.int .i64 w.rooms,.int .i64 w.need,Dh 9 true w.nn (w.parts.map Ag.cells),.int .i64 d]]]):=by
 have h:=aiY w hs
 have hd:=dD d 0 5000
 rw[show Jz d 0 5000=Vr d from rfl]at hd
 generalize Oo w=c at *
 generalize Vr d=e at *
 cases c
 ·(refine ce Tryd.func34 ?_;simp only[Tryd.f34];(have hb:=trivial;with_reducible repeat' (first|simp only[hb,Va.down,seval,alU.down,h,hd]|refine Br ?_ ?_<;>intro hb|refine fd ?_|fail)))
 ·(refine ce Tryd.func34 ?_;simp only[Tryd.f34];(have hb:=trivial;with_reducible repeat' (first|simp only[hb,Va.down,seval,alU.down,h,hd]|refine Br ?_ ?_<;>intro hb|refine fd ?_|fail)))
def QS(v:AV)(q:List Nat)(H:Aa)(p:Nat):Prop:=
 (v=.nils∧q=[])∨∃b w rows r,v=.slr 1 b r q.length∧H[b]?=some (.live 1 true w rows)∧b≠p∧rows.drop r=q.map Ez∧r+q.length=rows.length
def Dq:AV→List Nat
 | .slr _ b _ _=>[b]
 |_=>[]
theorem Si{x:Option (List AV)}{vs:List AV}{h:Aa}{Q:Cj→Aa→Prop}(hx:x=some vs)(k:Q (.ret (La vs)) h):RtS x h Q:=by subst hx;exact k
theorem abI{H:Aa}{p:Nat}{fl w:Bool}{v:AV}{q:List Nat}(x:Nat)(hp:H[p]?=some (.live 1 fl w [[v]]))(hQ:QS v q H p)(hq:q.length≤100000000):
 mU Fq 56 [.ptr p 0 0,.int .i64 (x:Int)] H fun o G=>o=.ret (.tup [])∧∃v' fl',G[p]?=some (.live 1 fl' true [[v']])∧QS v' (q++[x]) G p∧Qk (p::Dq v) H G∧(∀b∈Dq v,G[b]?=some .dead)∧(An H=true→An G=true)∧∀b∈Dq v',H.length≤b:=by
 have hpl:=Ac hp
 refine mT rfl Tryd.func56 rfl rfl ?_
 simp only[Tryd.f56]
 refine Dn (fun KK iN hK=>?_)
 have hA:=Ak hp
 have hS:=Hg hpl
 rcases hQ with⟨rfl,rfl⟩|⟨b,w',rows,r,rfl,hrb,hbp,hd,hl⟩
 ·(have hb:=trivial;with_reducible repeat' (first|simp only[hb,Va.down,seval,aeQ.down,hp,hA,hS]|refine Br ?_ ?_<;>intro hb|refine fd ?_|fail))
  refine hK _ ?_
  rw[Lh]
  refine Si (vs:=[]) (by simp only[Va.down,seval,aeQ.down]) ⟨rfl,.slr 1 (H.length+1) 0 1,false,?_,.inr ⟨H.length+1,false,[Ez x],0,rfl,?_,by omega,rfl,rfl⟩,⟨by simp,fun b hb1 hn=>?_⟩,fun b hb1=>by simp[Dq]at hb1,fun hqq=>Bg (Ar hqq p rfl) rfl,fun b hb1=>by simp[Dq]at hb1;omega⟩
  ·rw[abO (by simpa using hpl),abQ hpl]
  ·rw[Fe];rfl
  ·rw[abO (by simpa using hb1),abP (fun e=>hn (by rw[e];exact afG ..))]
 ·have hbl:=Ac hrb
  have hB:=Ak hrb
  have hSb:=Hg hbl
  have h39:(q.length+1≤549755813888)=True:=eq_true (by omega)
  have hg:∀l,(H.set b .dead++l)[p]?=some (.live 1 fl w [[.slr 1 b r q.length]]):=fun l=>by
   rw[abO (by simpa using hpl),abP hbp];exact hp
  have hg2:∀l c,(H.set b .dead++l).set p c=(H.set b .dead).set p c++l:=fun l c=>Hg (by simpa using hpl) l c
  (have hb:=trivial;with_reducible repeat' (first|simp only[hb,Va.down,seval,aeQ.down,hp,hA,hS,hrb,hB,hSb,hd,hl,h39,hg,hg2,Hn,Fe,aeJ,abN]|refine Br ?_ ?_<;>intro hb|refine fd ?_|fail))
  have hsl:((H.set b .dead).set p (CB.live 1 false true [[AV.slr 1 (H.length+1) 0 (q.length+1)]])).length=H.length:=by simp
  refine hK _ ?_
  rw[Lh]
  refine Si (vs:=[]) (by simp only[Va.down,seval,aeQ.down]) ⟨rfl,.slr 1 (H.length+1) 0 (q.length+1),false,?_,.inr ⟨H.length+1,false,(q++[x]).map Ez,0,by simp,?_,by omega,rfl,by simp⟩,⟨by simp,fun c hc hn=>?_⟩,fun c hc=>?_,fun hqq=>Bg (Ar (Ar hqq b rfl) p rfl) rfl,fun c hc=>by simp[Dq]at hc;omega⟩
  ·rw[abO (by omega),abQ (by simpa using hpl)]
  ·rw[ab7 (by omega),hsl,Nat.add_sub_cancel_left];simp[Ez]
  ·have n1:c≠p:=fun e=>hn (by rw[e];exact afG ..)
   have n2:c≠b:=fun e=>hn (by rw[e];simp[Dq])
   rw[abO (by omega),abP (fun e=>n1 e.symm),abP (fun e=>n2 e.symm)]
  ·simp[Dq]at hc;subst hc
   rw[abO (by omega),abP (fun e=>hbp e.symm),abQ hbl]
theorem ahF(b r k:Nat):slx Tryd.prog 28 (some (.slr 1 b r (k+1))) (some (some (.int .i64 1))) (some none)=some (.ret (.slr 1 b (r+1) k),[]):=by
 have hz:Md Tryd.prog 3=some 1:=by kernel_rfl
 simp only[slx,agX,Xu,Tryd.underlying28,hz,Gl]
 simp[Gl,r1]
 omega
theorem afR{H:Aa}{p:Nat}{fl w:Bool}{v:AV}(hp:H[p]?=some (.live 1 fl w [[v]]))(hQ:QS v [] H p):
 Fq.call (.sh 57) [.ptr p 0 0] H=some (.ret (.tup [.int .i64 0,.bool false]),H):=by
 rcases hQ with⟨rfl,_⟩|⟨b,w',rows,r,rfl,hrb,hbp,hd,hl⟩
 ·(refine csh Tryd.func57 ?_;simp only[Tryd.f57];(have hb:=trivial;with_reducible repeat' (first|simp only[hb,Va.down,seval,acR.down,hp]|refine Br ?_ ?_<;>intro hb|refine fd ?_|fail)))
 ·simp only[akA]at hp
  (refine csh Tryd.func57 ?_;simp only[Tryd.f57];(have hb:=trivial;with_reducible repeat' (first|simp only[hb,Va.down,seval,acR.down,hp]|refine Br ?_ ?_<;>intro hb|refine fd ?_|fail)))
theorem adX{H:Aa}{p:Nat}{fl w:Bool}{v:AV}{x:Nat}{q:List Nat}(hp:H[p]?=some (.live 1 fl w [[v]]))(hQ:QS v (x::q) H p)(hq:q.length≤100000000):
 mU Fq 57 [.ptr p 0 0] H fun o G=>o=.ret (.tup [.int .i64 (x:Int),.bool true])∧∃v' fl',G[p]?=some (.live 1 fl' true [[v']])∧QS v' q G p∧Qk [p] H G∧Dq v'=Dq v∧(An H=true→An G=true):=by
 have hpl:=Ac hp
 rcases hQ with⟨_,h⟩|⟨b,w',rows,r,rfl,hrb,hbp,hd,hl⟩
 ·cases h
 have hr0:rows[r]?=some [.int .i64 (x:Nat)]:=by
  have:=congrArg (·[0]?) hd
  simpa [Ez]using this
 have hd2:rows.drop (r+1)=q.map Ez:=by
  have:=congrArg (·.drop 1) hd
  simpa [List.drop_drop]using this
 simp only[List.length_cons]at hl hp
 have h1:decide (((q.length+1:Nat):Int)=0)=false:=decide_eq_false (by omega)
 have h2:((((q.length+1:Nat):Int))==0)=false:=by simp;omega
 have h3:((0:Int)<((q.length+1:Nat):Int))=True:=eq_true (by omega)
 have h4:((1:Int)≤((q.length+1:Nat):Int))=True:=eq_true (by omega)
 refine mT rfl Tryd.func57 rfl rfl ?_
 simp only[Tryd.f57]
 refine Dn (fun KK iN hK=>?_)
 (have hb:=trivial;with_reducible repeat' (first|simp only[hb,Va.down,seval,acR.down,hp,hrb,hr0,h1,h2,h3,h4,ahF]|refine Br ?_ ?_<;>intro hb|refine fd ?_|fail))
 refine hK _ ?_
 rw[nS]
 refine Si (vs:=[.int .i64 (x:Int),.bool true]) (by simp only[Va.down,seval,acR.down]) ⟨rfl,.slr 1 b (r+1) q.length,false,abQ hpl,.inr ⟨b,w',rows,r+1,rfl,?_,hbp,hd2,by omega⟩,⟨by simp,fun b' _ hn=>abP (fun e=>hn (by simp[e]))⟩,rfl,fun hqq=>Ar hqq p rfl⟩
 rw[abP (fun e=>hbp e.symm)];exact hrb
theorem adB{H:Aa}{p:Nat}{fl w:Bool}{v:AV}{q:List Nat}(x:Nat)(hp:H[p]?=some (.live 1 fl w [[v]]))(hQ:QS v q H p)(hq:q.length≤100000000):
 mU Fq 60 [.ptr p 0 0,.int .i64 (x:Int)] H fun o G=>o=.ret (.tup [])∧∃v' fl',G[p]?=some (.live 1 fl' true [[v']])∧QS v' (x::q) G p∧Qk [p] H G∧(An H=true→An G=true)∧∀b∈Dq v',H.length≤b:=by
 have hpl:=Ac hp
 have hA:=Ak hp
 have hS:=Hg hpl
 have keep:∀c l,Qk [p] H (H.set p c++l):=fun c l=>⟨by simp,fun b hb1 hn=>by rw[abO (by simpa using hb1),abP (fun e=>hn (by simp[e]))]⟩
 have hg:∀c l,(H.set p c++l)[p]?=some c:=fun c l=>by rw[abO (by simpa using hpl),abQ hpl]
 refine mT rfl Tryd.func60 rfl rfl ?_
 simp only[Tryd.f60]
 refine Dn (fun KK iN hK=>?_)
 rcases hQ with⟨rfl,rfl⟩|⟨b,w',rows,r,rfl,hrb,hbp,hd,hl⟩
 ·(have hb:=trivial;with_reducible repeat' (first|simp only[hb,Va.down,seval,tY.down,hp,hA,hS]|refine Br ?_ ?_<;>intro hb|refine fd ?_|fail))
  refine hK _ ?_
  rw[Lh]
  refine Si (vs:=[]) (by simp only[Va.down,seval,tY.down]) ⟨rfl,_,_,hg _ _,.inr ⟨H.length,false,[Ez x],0,rfl,?_,by omega,rfl,rfl⟩,keep _ _,fun hqq=>Bg (Ar hqq p rfl) rfl,fun b hb1=>by simp[Dq]at hb1;omega⟩
  rw[Hn];rfl
 ·have hB:=Ak hrb
  cases q with
  |nil=>
   simp only[akA]at hl hp hA
   have hrl:(r≤rows.length)=True:=eq_true (by omega)
   (have hb:=trivial;with_reducible repeat' (first|simp only[hb,Va.down,seval,tY.down,hp,hA,hS,hrb,hB,hrl]|refine Br ?_ ?_<;>intro hb|refine fd ?_|fail))
   refine hK _ ?_
   rw[Lh]
   refine Si (vs:=[]) (by simp only[Va.down,seval,tY.down]) ⟨rfl,_,_,hg _ _,.inr ⟨H.length,false,[Ez x],0,rfl,?_,by omega,rfl,rfl⟩,keep _ _,fun hqq=>Bg (Ar hqq p rfl) rfl,fun b hb1=>by simp[Dq]at hb1;omega⟩
   rw[Hn];rfl
  |cons y q=>
   have hq2:(1+(q.length+1)≤549755813888)=True:=eq_true (by simp at hq;omega)
   have hrl:(r+(q.length+1)≤rows.length)=True:=eq_true (by simp at hl;omega)
   have htk:abT q.length (List.map Ez q)=List.map Ez q:=abV (by simp)
   (have hb:=trivial;with_reducible repeat' (first|simp only[hb,Va.down,seval,tY.down,hp,hA,hS,hrb,hB,hd,hq2,hrl,htk,Hn,Fe,aeJ,abN]|refine Br ?_ ?_<;>intro hb|refine fd ?_|fail))
   refine hK _ ?_
   rw[Lh]
   refine Si (vs:=[]) (by simp only[Va.down,seval,tY.down]) ⟨rfl,_,_,hg _ _,.inr ⟨H.length+1,false,(x::y::q).map Ez,0,by simp;omega,?_,by omega,rfl,by simp⟩,keep _ _,fun hqq=>Bg (Ar hqq p rfl) rfl,fun b hb1=>by simp[Dq]at hb1;omega⟩
   rw[Fe];rfl
theorem amJ(w:Au)(d r:Int)(wf:Bool):Fq.call (.fn 58) [.ptr 0 0 0,.int .i64 r] [.live 4 false wf [[.int .i64 w.rooms,.int .i64 w.need,Dh 9 true w.nn (w.parts.map Ag.cells),.int .i64 d]]]=some (.ret (.func (.func 71) [] [.ptr 1 0 0,.ptr 2 0 0]),[.live 4 false wf [[.int .i64 w.rooms,.int .i64 w.need,Dh 9 true w.nn (w.parts.map Ag.cells),.int .i64 d]],.live 1 false false [[.ptr 0 0 0]],.live 1 true false [[.int .i64 r]]]):=by
 (refine ce Tryd.func58 ?_;simp only[Tryd.f58];(have hb:=trivial;with_reducible repeat' (first|simp only[hb,Vc.down,seval]|refine Br ?_ ?_<;>intro hb|refine fd ?_|fail)))
theorem aRB{w:Au}{N:Nat}(hw:tO w N){d r:Int}{y:AV}{lb rb kb:Nat}(Is:Nat→Aa→Prop)
 (hL:∀i h,Is i h→∃w1,h[lb]?=some (.live 1 false w1 [[.ptr kb 0 0]])) (hK:∀i h,Is i h→∃w2,h[kb]?=some (.live 4 false w2 [[.int .i64 w.rooms,.int .i64 w.need,Dh 9 true w.nn (w.parts.map Ag.cells),.int .i64 d]])) (hR:∀i h,Is i h→∃w3,h[rb]?=some (.live 1 true w3 [[.int .i64 r]]))
 (hA:∀i h fl wf (rows:List (List AV)),Is i h→Is i (h++[.live 9 fl wf rows]))
 (hS:∀(i:Nat) (p:Ag) (u:Int) h,w.parts[i]?=some p→((p.one=r∧u=p.other)∨(p.one≠r∧p.other=r∧u=p.one))→Is i h→∃es,cl Fq h (some y) (some [.int .i64 i,.int .i64 u])=some (.ret (.bool true),es)∧Is (i+1) (Ax h es))
 (hN:∀(i:Nat) (p:Ag) h,w.parts[i]?=some p→p.one≠r→p.other≠r→Is i h→Is (i+1) h)
 {h0:Aa} (h0I:Is 0 h0):mU Fq 71 [y,.ptr lb 0 0,.ptr rb 0 0] h0 fun o h'=>o=.ret (.tup [])∧Is w.parts.length h':=by
 obtain⟨w1,hl⟩:=hL _ _ h0I
 obtain⟨w2,hk0⟩:=hK _ _ h0I
 have hlen:=hw.len
 refine mT rfl Tryd.func71 rfl rfl ?_
 simp only[Tryd.f71]
 (have hb:=trivial;with_reducible repeat' (first|simp only[hb,Vc.down,seval,Uy.down,hl,hk0,abN]|refine Br ?_ ?_<;>intro hb|refine fd ?_|fail))
 refine Ls (eI 41 w.parts (fun i (_:Unit) t h=>t 0=y∧t 1=.ptr lb 0 0∧t 2=.ptr rb 0 0∧t 11=Dh 9 true w.nn (w.parts.map Ag.cells)∧t 12=.int .i64 (w.parts.length:Nat)∧t 13=.int .i64 (i:Int)∧Is i h) (fun _ _=>()) (fun _ e t h=>e=.exit 0∧Is w.parts.length h) ?_ ?_ () _ _ ?_) (fun e t h hk=>?_)
 ·rintro _ t h Q' kQ ⟨g0,g1,g2,g11,g12,g13,hI⟩
  (have hb:=trivial;with_reducible repeat' (first|simp only[hb,Vc.down,seval,Uy.down,g12,g13,abU,decide_false]|refine Br ?_ ?_<;>intro hb|refine fd ?_|fail))
  exact kQ _ _ _ ⟨rfl,hI⟩
 ·rintro p rest i _ t h J Q' kJ kQ hx hi ⟨g0,g1,g2,g11,g12,g13,hI⟩
  have hdd:decide ((i:Int)<(w.parts.length:Int))=true:=decide_eq_true (by omega)
  have hww:=Em hi (by unfold maxLen;omega)
  have hpo:=hw.part p (af8 hx)
  obtain⟨w3,hr⟩:=hR _ _ hI
  have hr1:=Ak hr
  have hv1:=hA _ _ true true [p.cells] hI
  have c1:decide ((0:Int)≤p.other)=true:=decide_eq_true hpo.2.1.1
  have c2:decide ((0:Int)≤p.one)=true:=decide_eq_true hpo.1.1
  have c3:decide ((0:Int)≤ -1)=false:=rfl
  by_cases e1:p.one=r
  ·have q1:(r==p.one)=true:=by simp[e1]
   obtain⟨es,hes,hv2⟩:=hS i p p.other _ hx (.inl ⟨e1,rfl⟩) hv1
   simp only[Ag.cells]at hes hv2
   (have hb:=trivial;with_reducible repeat' (first|simp only[hb,Vc.down,seval,Uy.down,g0,g1,g2,g11,g12,g13,hdd,hww,hx,hr,hr1,q1,c1,hes,Ag.cells]|refine Br ?_ ?_<;>intro hb|refine fd ?_|fail))
   exact Db (kJ _ _ () ⟨by simp[up,g0],by simp[up,g1],by simp[up,g2],by simp[up,g11],by simp[up,g12],by simp[up],hv2⟩ rfl)
  ·have q1:(r==p.one)=false:=by simp;exact fun e=>e1 e.symm
   by_cases e2:p.other=r
   ·have q2:(r==p.other)=true:=by simp[e2]
    obtain⟨es,hes,hv2⟩:=hS i p p.one _ hx (.inr ⟨e1,e2,rfl⟩) hv1
    simp only[Ag.cells]at hes hv2
    (have hb:=trivial;with_reducible repeat' (first|simp only[hb,Vc.down,seval,Uy.down,g0,g1,g2,g11,g12,g13,hdd,hww,hx,hr,hr1,q1,q2,c2,hes,Ag.cells]|refine Br ?_ ?_<;>intro hb|refine fd ?_|fail))
    exact Db (kJ _ _ () ⟨by simp[up,g0],by simp[up,g1],by simp[up,g2],by simp[up,g11],by simp[up,g12],by simp[up],hv2⟩ rfl)
   ·have q2:(r==p.other)=false:=by simp;exact fun e=>e2 e.symm
    have hv2:=hN i p _ hx e1 e2 hv1
    simp only[Ag.cells]at hv2
    (have hb:=trivial;with_reducible repeat' (first|simp only[hb,Vc.down,seval,Uy.down,g0,g1,g2,g11,g12,g13,hdd,hww,hx,hr,hr1,q1,q2,c3,Ag.cells]|refine Br ?_ ?_<;>intro hb|refine fd ?_|fail))
    exact Db (kJ _ _ () ⟨by simp[up,g0],by simp[up,g1],by simp[up,g2],by simp[up,g11],by simp[up,g12],by simp[up],hv2⟩ rfl)
 ·exact⟨by simp[up,Qo],by simp[up,Qo],by simp[up,Qo],by simp[up],by simp[up],by simp[up],h0I⟩
 obtain⟨rfl,hI⟩:=hk
 (have hb:=trivial;with_reducible repeat' (first|simp only[hb,Vc.down,seval,Uy.down]|refine Br ?_ ?_<;>intro hb|refine fd ?_|fail))
 exact hI
end Go.Proofs.YtckfcfcmfjfchaaDoor
