/- The functions of the layer, walked. -/
import Derived.Test.YtfkokgjfpojeoaaDoorLibD
import Derived.Test.YtfkokgjfpojeoaaDoorChecked
import Derived.Test.YtfkokgjfpojeoaaDoorRows
import Derived.Test.YtfkokgjfpojeoaaDoorTie
import Derived.Test.YtfkokgjfpojeoaaDoorCards
import Derived.Test.YtfkokgjfpojeoaaDoorShelf
import Derived.ProofKit
import Derived.LaidMore
import Derived.OpenShut
import Derived.Stop.Joined
open And renaming intro→aaJ
open List renaming length_map→abJ,mem_of_getElem?→afM,getElem?_eq_some_iff→apR,getElem?_eq_getElem→apZ,all_eq_not_any_not→aqO,getElem?_set_self→arJ
open Int renaming lt_irrefl→afC,le_refl→anN
open Bool renaming not_true→akQ,not_false→amC,false_and→ao3,and_true→apA,true_and→apC,and_false→aqF,not_eq_eq_eq_not→aqU,eq_false_iff→arC
open Eq renaming trans→an1
set_option linter.unusedSimpArgs false
set_option linter.unusedVariables false
namespace Go.Proofs.YtfkokgjfpojeoaaDoor
open Go.Ev
set_option maxRecDepth 100000
theorem oP:Gu Tryd.prog 34=some (.agg [.nils,.nils,.nils,.int .i64 0,.int .i64 0,.int .i64 0,.nils,.int .i64 0,.int .i64 0,.nils,.bool false]):=by kernel_rfl
theorem fW(base len:Nat)(ps:List (Nat × AV)):rD (Be Tryd.prog base 36 len ps)=yV 1 (.nilp) base len ps:=atF (e:=35) (by kernel_rfl) (by kernel_rfl) (by kernel_rfl) base len ps
theorem gY(st b r len:Nat):ln Tryd.prog 36 (some (.slr st b r len))=some (.ret (.int .i64 len),[]):=yG (n:=1) ⟨_,Tryd.underlying36,by kernel_rfl⟩ st b r len
theorem gJ(b r len:Nat)(k:IntKind)(i:Int):ia Tryd.prog 36 (some (.slr 1 b r len)) (some (.int k i))=if 0≤i∧i<len then some (.ret (.ptr b (r+i.toNat) 0),[])else none:=wL ⟨_,Tryd.underlying36,by kernel_rfl⟩ b r len k i
theorem dQ(h:Aa)(b r o:Nat):ld Tryd.prog 35 h (some (.ptr b r o))=lM (Ik (h[b]?) r) o:=Sl ⟨by kernel_rfl,1,by kernel_rfl⟩ h b r o
theorem dV(h:Aa)(b r o:Nat):ld Tryd.prog 24 h (some (.ptr b r o))=pI (Ik (h[b]?) r) o 2:=Wl ⟨by kernel_rfl,by kernel_rfl⟩ h b r o
theorem dW(h:Aa)(b r o:Nat):ld Tryd.prog 29 h (some (.ptr b r o))=pI (Ik (h[b]?) r) o 7:=Wl ⟨by kernel_rfl,by kernel_rfl⟩ h b r o
theorem dO(h:Aa)(b r o:Nat):ld Tryd.prog 31 h (some (.ptr b r o))=pI (Ik (h[b]?) r) o 2:=Wl ⟨by kernel_rfl,by kernel_rfl⟩ h b r o
theorem Wm(h:Aa)(b r o:Nat):ld Tryd.prog 22 h (some (.ptr b r o))=lM (Ik (h[b]?) r) o:=Sl ⟨by kernel_rfl,1,by kernel_rfl⟩ h b r o
theorem Ej(h:Aa)(b r o:Nat):ld Tryd.prog 3 h (some (.ptr b r o))=lM (Ik (h[b]?) r) o:=Sl ⟨by kernel_rfl,1,by kernel_rfl⟩ h b r o
theorem Qj(h:Aa)(c:AV)(cs:List AV):ld Tryd.prog 3 h (some (.iptr (c::cs)))=some (.ret c,[]):=al7 ⟨by kernel_rfl,1,by kernel_rfl⟩ h c cs
theorem mL(h:Aa)(b r o:Nat)(v:AV):pZ Tryd.prog 31 h (some (.ptr b r o)) (some v)=sv 2 (h[b]?) b r o (Af v):=Vo (by kernel_rfl) h b r o v
theorem Ss(b r o:Nat):fa Tryd.prog 31 (some (.ptr b r o)) 0=some (.ret (.ptr b r (o+0)),[]):=Bn (show Df Tryd.prog 31 0 0 1 from⟨_,_,Tryd.underlying31,rfl,rfl,by kernel_rfl,by decide⟩) b r o
theorem Rl(b r o:Nat):fa Tryd.prog 31 (some (.ptr b r o)) 1=some (.ret (.ptr b r (o+1)),[]):=Bn (show Df Tryd.prog 31 1 1 1 from⟨_,_,Tryd.underlying31,rfl,rfl,by kernel_rfl,by decide⟩) b r o
theorem cA(b r o:Nat):fa Tryd.prog 29 (some (.ptr b r o)) 6=some (.ret (.ptr b r (o+6)),[]):=Bn (show Df Tryd.prog 29 6 6 1 from⟨_,_,Tryd.underlying29,rfl,rfl,by kernel_rfl,by decide⟩) b r o
theorem Qu(fl nn:Bool)(rows:List (List AV))(k:IntKind)(i:Int):ia Tryd.prog 22 (some (An 1 fl nn rows)) (some (.int k i))=if 0≤i then r1 ((rows[i.toNat]?).map .iptr)else none:=Vw ⟨_,Tryd.underlying22,by kernel_rfl⟩ fl nn rows k i
theorem aJ(b r o:Nat):fa Tryd.prog 34 (some (.ptr b r o)) 3=some (.ret (.ptr b r (o+10)),[]):=Bn (show Df Tryd.prog 34 3 10 1 from⟨_,_,Tryd.underlying34,rfl,rfl,by kernel_rfl,by decide⟩) b r o
theorem Qq(h:Aa)(b r o:Nat):ld Tryd.prog 4 h (some (.ptr b r o))=lM (Ik (h[b]?) r) o:=Sl ⟨by kernel_rfl,1,by kernel_rfl⟩ h b r o
theorem Ua(b r o:Nat):fa Tryd.prog 29 (some (.ptr b r o)) 4=some (.ret (.ptr b r (o+4)),[]):=Bn (show Df Tryd.prog 29 4 4 1 from⟨_,_,Tryd.underlying29,rfl,rfl,by kernel_rfl,by decide⟩) b r o
theorem lO:Gu Tryd.prog 31=some (.agg [.int .i64 0,.int .i64 0]):=by kernel_rfl
theorem Tt(b r o:Nat):fa Tryd.prog 29 (some (.ptr b r o)) 2=some (.ret (.ptr b r (o+2)),[]):=Bn (show Df Tryd.prog 29 2 2 1 from⟨_,_,Tryd.underlying29,rfl,rfl,by kernel_rfl,by decide⟩) b r o
theorem Vl(h:Aa)(b r o:Nat):ld Tryd.prog 27 h (some (.ptr b r o))=lM (Ik (h[b]?) r) o:=Sl ⟨by kernel_rfl,1,by kernel_rfl⟩ h b r o
theorem Qi(fl nn:Bool)(rows:List (List AV)):ln Tryd.prog 27 (some (An 5 fl nn rows))=some (.ret (.int .i64 rows.length),[]):=Xm ⟨_,Tryd.underlying27,by kernel_rfl⟩ fl nn rows
theorem Yg(fl nn:Bool)(rows:List (List AV))(k:IntKind)(i:Int):ia Tryd.prog 27 (some (An 5 fl nn rows)) (some (.int k i))=if 0≤i then r1 ((rows[i.toNat]?).map .iptr)else none:=Vw ⟨_,Tryd.underlying27,by kernel_rfl⟩ fl nn rows k i
theorem Wv(h:Aa)(b r o:Nat):ld Tryd.prog 67 h (some (.ptr b r o))=pI (Ik (h[b]?) r) o 5:=Wl ⟨by kernel_rfl,by kernel_rfl⟩ h b r o
theorem Vk(h:Aa)(cs:List AV):ld Tryd.prog 67 h (some (.iptr cs))=if 5≤cs.length then some (.ret (.agg (cs.take 5)),[])else none:=fM ⟨by kernel_rfl,by kernel_rfl⟩ h cs
theorem nW:Gu Tryd.prog 67=some (.agg [.int .i64 0,.int .i64 0,.nils,.int .i64 0,.int .i64 0]):=by kernel_rfl
theorem kA(h:Aa)(b r o:Nat)(v:AV):pZ Tryd.prog 67 h (some (.ptr b r o)) (some v)=sv 5 (h[b]?) b r o (Af v):=Vo (by kernel_rfl) h b r o v
theorem dI(h:Aa)(b r o:Nat):ld Tryd.prog 50 h (some (.ptr b r o))=pI (Ik (h[b]?) r) o 2:=Wl ⟨by kernel_rfl,by kernel_rfl⟩ h b r o
theorem fY(ps:List (Nat × AV)):Oh Tryd.prog 69 ps=(Hk (fun i=>([(0,5),(5,2),(7,2)]:List (Nat × Nat))[i]?) (Af (.agg [.int .i64 0,.int .i64 0,.nils,.int .i64 0,.int .i64 0,.int .i64 0,.int .i64 0,.int .i64 0,.int .i64 0])) ps).map .agg:=by kernel_rfl
theorem Rz(b r o:Nat):fa Tryd.prog 67 (some (.ptr b r o)) 1=some (.ret (.ptr b r (o+1)),[]):=Bn (show Df Tryd.prog 67 1 1 1 from⟨_,_,Tryd.underlying67,rfl,rfl,by kernel_rfl,by decide⟩) b r o
theorem hQ(ps:List (Nat × AV)):Oh Tryd.prog 31 ps=(Hk (fun i=>([(0,1),(1,1)]:List (Nat × Nat))[i]?) (Af (.agg [.int .i64 0,.int .i64 0])) ps).map .agg:=by kernel_rfl
theorem Lm(b r o:Nat):fa Tryd.prog 29 (some (.ptr b r o)) 1=some (.ret (.ptr b r (o+1)),[]):=Bn (show Df Tryd.prog 29 1 1 1 from⟨_,_,Tryd.underlying29,rfl,rfl,by kernel_rfl,by decide⟩) b r o
theorem Oc(h:Aa)(b r o:Nat):ld Tryd.prog 26 h (some (.ptr b r o))=lM (Ik (h[b]?) r) o:=Sl ⟨by kernel_rfl,1,by kernel_rfl⟩ h b r o
theorem Rh(fl nn:Bool)(rows:List (List AV)):ln Tryd.prog 26 (some (An 4 fl nn rows))=some (.ret (.int .i64 rows.length),[]):=Xm ⟨_,Tryd.underlying26,by kernel_rfl⟩ fl nn rows
theorem Zf(fl nn:Bool)(rows:List (List AV))(k:IntKind)(i:Int):ia Tryd.prog 26 (some (An 4 fl nn rows)) (some (.int k i))=if 0≤i then r1 ((rows[i.toNat]?).map .iptr)else none:=Vw ⟨_,Tryd.underlying26,by kernel_rfl⟩ fl nn rows k i
theorem eD(h:Aa)(b r o:Nat):ld Tryd.prog 71 h (some (.ptr b r o))=pI (Ik (h[b]?) r) o 4:=Wl ⟨by kernel_rfl,by kernel_rfl⟩ h b r o
theorem Wb(h:Aa)(cs:List AV):ld Tryd.prog 71 h (some (.iptr cs))=if 4≤cs.length then some (.ret (.agg (cs.take 4)),[])else none:=fM ⟨by kernel_rfl,by kernel_rfl⟩ h cs
theorem bV:Gu Tryd.prog 71=some (.agg [.nils,.int .i64 0,.int .i64 0,.bool false]):=by kernel_rfl
theorem bI(h:Aa)(b r o:Nat)(v:AV):pZ Tryd.prog 71 h (some (.ptr b r o)) (some v)=sv 4 (h[b]?) b r o (Af v):=Vo (by kernel_rfl) h b r o v
theorem Tz(b r o:Nat):fa Tryd.prog 71 (some (.ptr b r o)) 0=some (.ret (.ptr b r (o+0)),[]):=Bn (show Df Tryd.prog 71 0 0 1 from⟨_,_,Tryd.underlying71,rfl,rfl,by kernel_rfl,by decide⟩) b r o
theorem Mc(fl nn:Bool)(rows:List (List AV)):ln Tryd.prog 22 (some (An 1 fl nn rows))=some (.ret (.int .i64 rows.length),[]):=Xm ⟨_,Tryd.underlying22,by kernel_rfl⟩ fl nn rows
theorem Rm(b r o:Nat):fa Tryd.prog 29 (some (.ptr b r o)) 0=some (.ret (.ptr b r (o+0)),[]):=Bn (show Df Tryd.prog 29 0 0 1 from⟨_,_,Tryd.underlying29,rfl,rfl,by kernel_rfl,by decide⟩) b r o
theorem Uw(h:Aa)(b r o:Nat):ld Tryd.prog 25 h (some (.ptr b r o))=lM (Ik (h[b]?) r) o:=Sl ⟨by kernel_rfl,1,by kernel_rfl⟩ h b r o
theorem Yc(fl nn:Bool)(rows:List (List AV))(k:IntKind)(i:Int):ia Tryd.prog 25 (some (An 3 fl nn rows)) (some (.int k i))=if 0≤i then r1 ((rows[i.toNat]?).map .iptr)else none:=Vw ⟨_,Tryd.underlying25,by kernel_rfl⟩ fl nn rows k i
theorem Wg(h:Aa)(cs:List AV):ld Tryd.prog 74 h (some (.iptr cs))=if 3≤cs.length then some (.ret (.agg (cs.take 3)),[])else none:=fM ⟨by kernel_rfl,by kernel_rfl⟩ h cs
theorem Sz(b r o:Nat):fa Tryd.prog 71 (some (.ptr b r o)) 1=some (.ret (.ptr b r (o+1)),[]):=Bn (show Df Tryd.prog 71 1 1 1 from⟨_,_,Tryd.underlying71,rfl,rfl,by kernel_rfl,by decide⟩) b r o
theorem Ta(b r o:Nat):fa Tryd.prog 29 (some (.ptr b r o)) 3=some (.ret (.ptr b r (o+3)),[]):=Bn (show Df Tryd.prog 29 3 3 1 from⟨_,_,Tryd.underlying29,rfl,rfl,by kernel_rfl,by decide⟩) b r o
theorem oI:Gu Tryd.prog 74=some (.agg [.int .i64 0,.int .i64 0,.bool false]):=by kernel_rfl
theorem lA:Gu Tryd.prog 78=some (.agg [.int .i64 0,.bool false]):=by kernel_rfl
theorem cF(b r o:Nat):fa Tryd.prog 74 (some (.ptr b r o)) 2=some (.ret (.ptr b r (o+2)),[]):=Bn (show Df Tryd.prog 74 2 2 1 from⟨_,_,Tryd.underlying74,rfl,rfl,by kernel_rfl,by decide⟩) b r o
theorem gX(fl nn:Bool)(rows:List (List AV)):ln Tryd.prog 25 (some (An 3 fl nn rows))=some (.ret (.int .i64 rows.length),[]):=Xm ⟨_,Tryd.underlying25,by kernel_rfl⟩ fl nn rows
theorem Vf(h:Aa)(b r o:Nat):ld Tryd.prog 69 h (some (.ptr b r o))=pI (Ik (h[b]?) r) o 9:=Wl ⟨by kernel_rfl,by kernel_rfl⟩ h b r o
theorem Sj(b r o:Nat):fa Tryd.prog 74 (some (.ptr b r o)) 0=some (.ret (.ptr b r (o+0)),[]):=Bn (show Df Tryd.prog 74 0 0 1 from⟨_,_,Tryd.underlying74,rfl,rfl,by kernel_rfl,by decide⟩) b r o
theorem To(b r o:Nat):fa Tryd.prog 74 (some (.ptr b r o)) 1=some (.ret (.ptr b r (o+1)),[]):=Bn (show Df Tryd.prog 74 1 1 1 from⟨_,_,Tryd.underlying74,rfl,rfl,by kernel_rfl,by decide⟩) b r o
theorem aG(b r o:Nat):fa Tryd.prog 71 (some (.ptr b r o)) 3=some (.ret (.ptr b r (o+3)),[]):=Bn (show Df Tryd.prog 71 3 3 1 from⟨_,_,Tryd.underlying71,rfl,rfl,by kernel_rfl,by decide⟩) b r o
theorem Rx(b r o:Nat):fa Tryd.prog 71 (some (.ptr b r o)) 2=some (.ret (.ptr b r (o+2)),[]):=Bn (show Df Tryd.prog 71 2 2 1 from⟨_,_,Tryd.underlying71,rfl,rfl,by kernel_rfl,by decide⟩) b r o
theorem bP(b r o:Nat):fa Tryd.prog 29 (some (.ptr b r o)) 5=some (.ret (.ptr b r (o+5)),[]):=Bn (show Df Tryd.prog 29 5 5 1 from⟨_,_,Tryd.underlying29,rfl,rfl,by kernel_rfl,by decide⟩) b r o
theorem nP(h:Aa)(b r o:Nat)(v:AV):pZ Tryd.prog 74 h (some (.ptr b r o)) (some v)=sv 3 (h[b]?) b r o (Af v):=Vo (by kernel_rfl) h b r o v
theorem cB(b r o:Nat):fa Tryd.prog 50 (some (.ptr b r o)) 0=some (.ret (.ptr b r (o+0)),[]):=Bn (show Df Tryd.prog 50 0 0 1 from⟨_,_,Tryd.underlying50,rfl,rfl,by kernel_rfl,by decide⟩) b r o
theorem Ir(b r o:Nat):fa Tryd.prog 69 (some (.ptr b r o)) 0=some (.ret (.ptr b r (o+0)),[]):=Bn (show Df Tryd.prog 69 0 0 5 from⟨_,_,Tryd.underlying69,rfl,rfl,by kernel_rfl,by decide⟩) b r o
theorem Tc(b r o:Nat):fa Tryd.prog 67 (some (.ptr b r o)) 0=some (.ret (.ptr b r (o+0)),[]):=Bn (show Df Tryd.prog 67 0 0 1 from⟨_,_,Tryd.underlying67,rfl,rfl,by kernel_rfl,by decide⟩) b r o
theorem Tn(b r o:Nat):fa Tryd.prog 69 (some (.ptr b r o)) 1=some (.ret (.ptr b r (o+5)),[]):=Bn (show Df Tryd.prog 69 1 5 2 from⟨_,_,Tryd.underlying69,rfl,rfl,by kernel_rfl,by decide⟩) b r o
theorem Ud(b r o:Nat):fa Tryd.prog 67 (some (.ptr b r o)) 4=some (.ret (.ptr b r (o+4)),[]):=Bn (show Df Tryd.prog 67 4 4 1 from⟨_,_,Tryd.underlying67,rfl,rfl,by kernel_rfl,by decide⟩) b r o
theorem Ri(b r o:Nat):fa Tryd.prog 67 (some (.ptr b r o)) 2=some (.ret (.ptr b r (o+2)),[]):=Bn (show Df Tryd.prog 67 2 2 1 from⟨_,_,Tryd.underlying67,rfl,rfl,by kernel_rfl,by decide⟩) b r o
theorem Vg(h:Aa)(b r o:Nat):ld Tryd.prog 65 h (some (.ptr b r o))=lM (Ik (h[b]?) r) o:=Sl ⟨by kernel_rfl,1,by kernel_rfl⟩ h b r o
theorem Ue(b r o:Nat):fa Tryd.prog 67 (some (.ptr b r o)) 3=some (.ret (.ptr b r (o+3)),[]):=Bn (show Df Tryd.prog 67 3 3 1 from⟨_,_,Tryd.underlying67,rfl,rfl,by kernel_rfl,by decide⟩) b r o
theorem Si(b r o:Nat):fa Tryd.prog 69 (some (.ptr b r o)) 2=some (.ret (.ptr b r (o+7)),[]):=Bn (show Df Tryd.prog 69 2 7 2 from⟨_,_,Tryd.underlying69,rfl,rfl,by kernel_rfl,by decide⟩) b r o
theorem aM(b r o:Nat):fa Tryd.prog 50 (some (.ptr b r o)) 1=some (.ret (.ptr b r (o+1)),[]):=Bn (show Df Tryd.prog 50 1 1 1 from⟨_,_,Tryd.underlying50,rfl,rfl,by kernel_rfl,by decide⟩) b r o
theorem Zd(fl nn:Bool)(rows:List (List AV)):ln Tryd.prog 65 (some (An 2 fl nn rows))=some (.ret (.int .i64 rows.length),[]):=Xm ⟨_,Tryd.underlying65,by kernel_rfl⟩ fl nn rows
theorem Yl(fl nn:Bool)(rows:List (List AV))(k:IntKind)(i:Int):ia Tryd.prog 65 (some (An 2 fl nn rows)) (some (.int k i))=if 0≤i then r1 ((rows[i.toNat]?).map .iptr)else none:=Vw ⟨_,Tryd.underlying65,by kernel_rfl⟩ fl nn rows k i
theorem Xb(h:Aa)(cs:List AV):ld Tryd.prog 78 h (some (.iptr cs))=if 2≤cs.length then some (.ret (.agg (cs.take 2)),[])else none:=fM ⟨by kernel_rfl,by kernel_rfl⟩ h cs
theorem nF(h:Aa)(b r o:Nat)(v:AV):pZ Tryd.prog 78 h (some (.ptr b r o)) (some v)=sv 2 (h[b]?) b r o (Af v):=Vo (by kernel_rfl) h b r o v
theorem Ky(b r o:Nat):fa Tryd.prog 78 (some (.ptr b r o)) 0=some (.ret (.ptr b r (o+0)),[]):=Bn (show Df Tryd.prog 78 0 0 1 from⟨_,_,Tryd.underlying78,rfl,rfl,by kernel_rfl,by decide⟩) b r o
theorem bO(b r o:Nat):fa Tryd.prog 78 (some (.ptr b r o)) 1=some (.ret (.ptr b r (o+1)),[]):=Bn (show Df Tryd.prog 78 1 1 1 from⟨_,_,Tryd.underlying78,rfl,rfl,by kernel_rfl,by decide⟩) b r o
def TY3:=PLift.up (aaJ @oP (aaJ @fW (aaJ @gY (aaJ @gJ (aaJ @dQ @dV)))))
def TY8:=PLift.up (aaJ @aJ @Qq)
def lF:=PLift.up (aaJ @dO (aaJ @lO (aaJ @Tt (aaJ @Vl (aaJ @Qi (aaJ @Yg (aaJ @Wv (aaJ @Vk (aaJ @nW (aaJ @kA (aaJ @dI (aaJ @fY (aaJ @Rz (aaJ @Ej (aaJ @hQ (aaJ @mL (aaJ @Ss @Rl)))))))))))))))))
def eH:=PLift.up (aaJ @Lm (aaJ @Oc (aaJ @Rh (aaJ @Zf (aaJ @eD (aaJ @Wb (aaJ @bV (aaJ @bI (aaJ @Tz (aaJ @Wm (aaJ @Mc (aaJ @Qu (aaJ @Ej (aaJ @Qj (aaJ @Rm (aaJ @Uw (aaJ @Yc (aaJ @Wg @Sz))))))))))))))))))
def abO:=PLift.up (aaJ @Vf @Vf)
def asB:=PLift.up (aaJ @cF (aaJ @Qq (aaJ @Sj (aaJ @Ej (aaJ @To (aaJ @aG @Rx))))))
def Xq:=PLift.up (aaJ @Rm (aaJ @Uw (aaJ @gX (aaJ @Lm (aaJ @Oc (aaJ @Rh (aaJ @Tt (aaJ @Vl (aaJ @Qi (aaJ @Ta (aaJ @Ej (aaJ @Ua (aaJ @bP (aaJ @cA (aaJ @Wm (aaJ @Mc (aaJ @Yc (aaJ @Wg (aaJ @oI (aaJ @nP (aaJ @Sj (aaJ @To (aaJ @Zf (aaJ @Wb (aaJ @bV (aaJ @bI (aaJ @Tz (aaJ @Sz @Rx))))))))))))))))))))))))))))
def iC:=PLift.up (aaJ @Mc (aaJ @Qu @Qj))
def asP:=PLift.up (aaJ @Ir (aaJ @Tc (aaJ @Ej (aaJ @Tn @Ss))))
def auX:=PLift.up (aaJ @Ir (aaJ @Ud (aaJ @Ej (aaJ @Tn @Rl))))
def ax0:=PLift.up (aaJ @Ir (aaJ @Ri @Vg))
def aAL:=PLift.up (aaJ @Ir (aaJ @Ue (aaJ @Ej (aaJ @Si @aM))))
def auE:=PLift.up (aaJ @dW @Wv)
def eE:=PLift.up (aaJ @Ri (aaJ @Vg (aaJ @Zd (aaJ @Yl (aaJ @Xb (aaJ @lA (aaJ @nF (aaJ @Ky (aaJ @Ej (aaJ @Lm (aaJ @Oc (aaJ @Rh (aaJ @Tc (aaJ @Ta (aaJ @Rz (aaJ @Ue (aaJ @Ua @Ud)))))))))))))))))
def pC:=PLift.up (aaJ @Mc (aaJ @Qu @Qj))
def at0:=PLift.up (aaJ @Si (aaJ @cB (aaJ @Ej (aaJ @Ky (aaJ @bO @Qq)))))
def lE:=PLift.up (aaJ @Qi (aaJ @Yg @Vk))
def at7:=PLift.up (aaJ @Ky @Ej)
def Ya:=PLift.up (aaJ @Zd (aaJ @Yl @Xb))
end Go.Proofs.YtfkokgjfpojeoaaDoor
namespace Go.Proofs.YtfkokgjfpojeoaaDoor
open Go Go.Ev Go.ChangeShapes Go.WideShapes Go.ChangeAt Go.RowKit
set_option maxRecDepth 100000
set_option maxHeartbeats 16000000
def mdL:List Nat:=[58,65,72,50]
def pr:Dy:=dP 26 (mdL.contains ·)
noncomputable def En:Db:=om Tryd.prog pr
theorem aa5(f:Nat):En.md f=([58,65,72,50]:List Nat).contains f:=an1 rfl rfl
def Va:=PLift.up (aaJ EE.down @aa5)
def Vc:=PLift.up (aaJ EG.down EVu.down)
theorem zF{C:R→Prop}[pF C]{n:Nat}{k:List Ai}{c:Code}{s:St}(h:Un En Tryd.prog n k c C (Ba En Tryd.prog 5000 c [] s)):C (tL En Tryd.prog n k (En.loop c s)):=abY (pr:=pr) h
theorem own:ownKnob Tryd.prog.godebug=none:=by kernel_rfl
theorem afW:jK Tryd.prog:=fun f fn hf=>by
 have h:(Tryd.prog.funcs.toList.all fun fn=> !(fn.name== "runtime.NumGoroutine"))=true:=by kernel_rfl
 have:=List.all_eq_true.1 h fn (by rw[Array.mem_toList_iff];exact Array.mem_of_getElem? hf)
 simpa using this
theorem mixed:Tryd.prog.follows .mixedOrders=true:=by kernel_rfl
theorem rJ:laidOutB Tryd.prog=true:=by kernel_rfl
def laid:List (String × DataW Unit):=[("math/bits.deBruijn32tab",Rows.laid_math_bits_deBruijn32tab),("math/bits.deBruijn64tab",Rows.laid_math_bits_deBruijn64tab),("internal/strconv.uint64pow10",Rows.laid_internal_strconv_uint64pow10)]
theorem al2:Tryd.prog.globalNamed "internal/strconv.uint64pow10" =some 0:=by kernel_rfl
theorem hY{W:World}(h:laidMetH Tryd.prog laid W):Lib.TabIs Tryd.prog W "internal/strconv.uint64pow10" .u64 Lib.pow10Tab:=by
 rw[MakeChecks.laidMetH_plain _ _ _ (by kernel_rfl)]at h
 obtain⟨ps,h,_⟩:=h
 exact Pz (t:=136) (e:=125) (n:=20) al2 (by kernel_rfl) (by kernel_rfl) (by kernel_rfl) (by kernel_rfl) (by kernel_rfl) h (by
  have e:(Lib.tabData .u64 Lib.pow10Tab:DataW Unit)=Rows.laid_internal_strconv_uint64pow10:=rfl
  rw[e];simp[laid])
theorem jT{W:World}(h:laidMetH Tryd.prog laid W):Do Tryd.prog (kD W 0) En:=
 acR afW (fP (rS (eM afW Tryd.func26 rfl) (nI al2 (hY h)) (fun n w h0 h1 ht=>Tryd.strconv_Itoa n h0 h1 w ht))) mixed
theorem nR(os:Os)(args:Array Value):laidMetH Tryd.prog laid ((World.doorLaid Tryd.prog 400 os).forCall (fun _ _=>0) ⟨#[],args,[]⟩).memory:=
 laidMetH_of_parts3 (fuel:=8) (laidMet_of_run' 8 (by kernel_rfl) (by kernel_rfl)) (by kernel_rfl) (by kernel_rfl)
theorem ayS{f:Nat}{fn:Func}{c:Code}{args:List AV}{h:Aa}{Q:Dj→Aa→Prop}(hp:pr f=none)(hf:Tryd.prog.funcs[f]?=some fn)(hb:fn.body=some c)(hl:Nat.ble args.length fn.ntmps=true)
 (he:yN Tryd.prog h.length fn.results.toList Q (Ba En Tryd.prog 5000 c [] ⟨mk fn.ntmps (Hf args),h⟩)):yP En f args h Q:=yP.start (pr:=pr) hp hf hb hl he
theorem ce{f:Nat}{fn:Func}{c:Code}{args:List AV}{h:Aa}{o:Dj}{h':Aa}(hf:Tryd.prog.funcs[f]?=some fn)(he:yN Tryd.prog h.length fn.results.toList (fun o1 h1=>(o1,h1)=(o,h')) (Ba En Tryd.prog 5000 c [] ⟨mk fn.ntmps (Hf args),h⟩))(hp:pr f=none:=by exact rfl)(hb:fn.body=some c:=by exact rfl)(hl:Nat.ble args.length fn.ntmps=true:=by exact rfl):En.call (.fn f) args h=some (o,h'):=(ayS hp hf hb hl he).eq
theorem mN{α σ ρ:Type}{c:Code}(N:Nat)(l:List α)(E:Nat→σ→Tm→Aa→Prop)(F:List α→σ→ρ)(Q:ρ→Ex→Tm→Aa→Prop)
 (stop:∀s t h Q',(∀e t h,Q (F [] s) e t h→Q' e ⟨mk N t,h⟩)→E l.length s t h→jE N (fun _ _=>False) Q' (Ba En Tryd.prog 5000 c [] ⟨mk N t,h⟩))
 (go:∀x rest i s t h J Q',(∀t' h' s',E (i+1) s' t' h'→F rest s'=F (x::rest) s→J t' h')→(∀e t h,Q (F (x::rest) s) e t h→Q' e ⟨mk N t,h⟩)→l[i]?=some x→i<l.length→E i s t h→
   jE N J Q' (Ba En Tryd.prog 5000 c [] ⟨mk N t,h⟩)):
 ∀s t h,E 0 s t h→pJ En c ⟨mk N t,h⟩ (Ot N (Q (F l s))):=iI (pr:=pr) rfl N l E F Q stop go
def iv(x:Int):List AV:=[.int .i64 x]
theorem Em{h:Aa}{b:Nat}{c:CB}(h0:h[b]?=some c)(l:Aa):(h++l)[b]?=some c:=by
 rw[List.getElem?_append_left (apR.1 h0).1];exact h0
end Go.Proofs.YtfkokgjfpojeoaaDoor
namespace Go.Proofs.YtfkokgjfpojeoaaDoor
open Go.Ev Go
set_option maxRecDepth 100000
set_option maxHeartbeats 16000000
structure Eh where
 lo:Int
 hi:Int
 byp:Bool
def Eh.cells(s:Eh):List AV:=[.int .i64 s.lo,.int .i64 s.hi,.bool s.byp]
structure Bf where
 nn:Bool
 sens:List Int
 need:Int
 level:Int
 above:Bool
def Bf.cells(v:Bf):List AV:=[An 1 true v.nn (v.sens.map iv),.int .i64 v.need,.int .i64 v.level,.bool v.above]
structure Ao where
 vote:Int
 is:Bool
def Ao.cells(w:Ao):List AV:=[.int .i64 w.vote,.bool w.is]
structure Ax where
 frm:Int
 to:Int
 nn:Bool
 wants:List Ao
 cmd:Int
 after:Int
def Ax.cells(x:Ax):List AV:=[.int .i64 x.frm,.int .i64 x.to,An 2 true x.nn (x.wants.map Ao.cells),.int .i64 x.cmd,.int .i64 x.after]
structure Ek where
 nS:Bool
 sens:List Eh
 nV:Bool
 votes:List Bf
 nM:Bool
 moves:List Ax
 states:Int
 cmds:Int
 bgn:Int
 nO:Bool
 opn:List Int
abbrev Ek.cells(m:Ek):List AV:=[An 3 true m.nS (m.sens.map Eh.cells),An 4 false m.nV (m.votes.map Bf.cells),An 5 false m.nM (m.moves.map Ax.cells),.int .i64 m.states,.int .i64 m.cmds,.int .i64 m.bgn,An 1 true m.nO (m.opn.map iv)]
structure Xc where
 nn:Bool
 reads:List Int
 cmd:Int
def Xc.cells(s:Xc):List AV:=[An 1 true s.nn (s.reads.map iv),.int .i64 s.cmd]
structure Ek.small(m:Ek):Prop where
 sens:m.sens.length≤maxLen
 votes:m.votes.length≤maxLen
 moves:m.moves.length≤maxLen
 opn:m.opn.length≤maxLen
 vs:∀v∈m.votes,v.sens.length≤maxLen
 ws:∀x∈m.moves,x.wants.length≤maxLen
def Xn(x lo hi:Int):Bool:=decide (lo≤x)&&decide (x≤hi)
theorem Ug(x lo hi:Int):En.call (.fn 23) [.int .i64 x,.int .i64 lo,.int .i64 hi] []=some (.ret (.bool (Xn x lo hi)),[]):=by
 (refine ce Tryd.func23 ?_;simp only[Tryd.f23];(have hb:=trivial;with_reducible repeat' (first|simp only[hb,Va.down,seval]|refine Dx ?_ ?_<;>intro hb|refine fd ?_|fail)))
 all_goals simp[Xn, *]
def sH(x:Int):Bool:=Xn x (-10000) 10000
theorem fJ(x:Int):En.call (.fn 38) [.int .i64 x] []=some (.ret (.bool (sH x)),[]):=by
 (refine ce Tryd.func38 ?_;simp only[Tryd.f38];(have hb:=trivial;with_reducible repeat' (first|simp only[hb,Va.down,seval,Ug]|refine Dx ?_ ?_<;>intro hb|refine fd ?_|fail)))
 all_goals rfl
theorem pB(x:Int):En.call (.fn 47) [.int .i64 x] []=some (.ret (.bool (!Xn x 0 255)),[]):=by
 (refine ce Tryd.func47 ?_;simp only[Tryd.f47];(have hb:=trivial;with_reducible repeat' (first|simp only[hb,Va.down,seval,Ug]|refine Dx ?_ ?_<;>intro hb|refine fd ?_|fail)))
def eZ(s:Eh)(v:Bf)(r:Int):Bool:= !s.byp&&(!Xn r s.lo s.hi||(if v.above=true then decide (v.level≤r)else decide (r≤v.level)))
theorem vA(s:Eh)(v:Bf)(r:Int):En.call (.fn 25) [.agg [.int .i64 s.lo,.int .i64 s.hi,.bool s.byp],.agg [An 1 true v.nn (v.sens.map iv),.int .i64 v.need,.int .i64 v.level,.bool v.above],.int .i64 r] []=some (.ret (.bool (eZ s v r)),[]):=by
 (refine ce Tryd.func25 ?_;simp only[Tryd.f25];(have hb:=trivial;with_reducible repeat' (first|simp only[hb,Va.down,seval,asB.down,Ug]|refine Dx ?_ ?_<;>intro hb|refine fd ?_|fail)))
 all_goals simp_all[eZ]
def Zs{α:Type}(p:α→Bool):List α→Int→Int
 | [],_=> -1
 |x::l,i=>if p x=true then i else Zs p l (i+1)
theorem Qb{α:Type}(p:α→Bool):∀(l:List α) (i:Int),0≤i→decide (0≤Zs p l i)=l.any p
 | [],i,_=>rfl
 |x::l,i,h=>by
  unfold Zs
  split
  ·rename_i hp;simp[h,hp]
  ·rename_i hp;rw[Qb p l (i+1) (by omega)];simp[hp]
theorem mD{l:List Int}{nn:Bool}{g:Nat}{cap:List AV}{p:Int→Bool}(hc:cap.all (Am 8)=true)(hc7:cap.all (Am 7)=true)(hp:∀x∈l,En.call (.fn g) (.int .i64 x::cap) []=some (.ret (.bool (p x)),[]))(hl:l.length≤maxLen):
 En.call (.fn 52) [An 1 true nn (l.map iv),.func (.func g) [] cap] []=some (.ret (.int .i64 (Zs p l 0)),[]):=by
 (refine ce Tryd.func52 ?_;simp only[Tryd.f52];(have hb:=trivial;with_reducible repeat' (first|simp only[hb,Va.down,seval,pC.down,abJ]|refine Dx ?_ ?_<;>intro hb|refine fd ?_|fail)))
 refine Lt (mN 19 l (fun i (s:Int) t h=>s=i∧h=[]∧t 0=An 1 true nn (l.map iv)∧t 1=.func (.func g) [] cap∧t 7=.int .i64 l.length∧t 8=.int .i64 i)
  (fun rest s=>Zs p rest s) (fun r e t h=>h=[]∧((e=.exit 0∧r= -1)∨(e=.ret∧t 4=.int .i64 r))) ?_ ?_ 0 _ _ ?_) (fun e t h hk=>?_)
 ·rintro s t h Q' kQ ⟨rfl,rfl,h0,h1,h7,h8⟩
  (have hb:=trivial;with_reducible repeat' (first|simp only[hb,Va.down,seval,pC.down,h0,h1,h7,h8,afC,decide_false]|refine Dx ?_ ?_<;>intro hb|refine fd ?_|fail))
  exact kQ _ _ _ ⟨rfl,.inl ⟨rfl,rfl⟩⟩
 ·rintro x rest i s t h J Q' kJ kQ hx hi ⟨rfl,rfl,h0,h1,h7,h8⟩
  have hpx:=hp x (afM hx)
  have hd:decide ((i:Int)<(l.length:Int))=true:=by simpa using hi
  (have hb:=trivial;with_reducible repeat' (first|simp only[hb,Va.down,seval,pC.down,h0,h1,h7,h8,hd,hx,iv,hc,hc7,hpx,Dv hi hl]|refine Dx ?_ ?_<;>intro hb|refine fd ?_|fail))
  ·exact kQ _ _ _ ⟨rfl,.inr ⟨rfl,by simp[up,Zs,hb]⟩⟩
  ·exact Hj (kJ _ _ (i+1) ⟨by simp,rfl,by simp[up,h0],by simp[up,h1],by simp[up,h7],by simp[up]⟩ (by simp[Zs,hb]))
 ·exact⟨rfl,rfl,by simp[up,Hf],by simp[up,Hf],by simp[up],by simp[up]⟩
 ·obtain⟨rfl,⟨rfl,hi⟩|⟨rfl,hi⟩⟩:=hk
  ·(have hb:=trivial;with_reducible repeat' (first|simp only[hb,Va.down,seval,pC.down]|refine Dx ?_ ?_<;>intro hb|refine fd ?_|fail))
   rw[hi]
  ·(have hb:=trivial;with_reducible repeat' (first|simp only[hb,Va.down,seval,pC.down,hi]|refine Dx ?_ ?_<;>intro hb|refine fd ?_|fail))
theorem gR{l:List Int}{nn:Bool}{g:Nat}{cap:List AV}{p:Int→Bool}(hc:cap.all (Am 8)=true)(hc7:cap.all (Am 7)=true)(hp:∀x∈l,En.call (.fn g) (.int .i64 x::cap) []=some (.ret (.bool (p x)),[]))(hl:l.length≤maxLen):
 En.call (.fn 36) [An 1 true nn (l.map iv),.func (.func g) [] cap] []=some (.ret (.bool (l.any p)),[]):=by
 (refine ce Tryd.func36 ?_;simp only[Tryd.f36];(have hb:=trivial;with_reducible repeat' (first|simp only[hb,Va.down,seval,mD hc hc7 hp hl,hc,hc7,Qb p l 0 (anN 0)]|refine Dx ?_ ?_<;>intro hb|refine fd ?_|fail)))
def Xo(b:Int):List Int→Option Int→Bool
 | [],_=>true
 |n::l,p=>Xn n 0 (IntKind.i64.wrap (b-1))&&(match p with|none=>true|some q=> !decide (n≤q))&&Xo b l (some n)
theorem Zp{l:List Int}{nn:Bool}(b:Int)(hl:l.length≤maxLen):En.call (.fn 32) [An 1 true nn (l.map iv),.int .i64 b] []=some (.ret (.bool (Xo b l none)),[]):=by
 (refine ce Tryd.func32 ?_;simp only[Tryd.f32];(have hb:=trivial;with_reducible repeat' (first|simp only[hb,Va.down,seval,iC.down,abJ]|refine Dx ?_ ?_<;>intro hb|refine fd ?_|fail)))
 refine Lt (mN 33 l (fun i (s:Option Int) t h=>(i=0∧s=none∨0<i∧s=l[i-1]?)∧t 0=An 1 true nn (l.map iv)∧t 1=.int .i64 b∧t 7=An 1 true nn (l.map iv)∧t 8=.int .i64 l.length∧t 9=.int .i64 i)
  (fun rest s=>Xo b rest s) (fun r e t h=>if r=true then e=.exit 0 else e=.ret∧t 4=.bool false) ?_ ?_ none _ _ ?_) (fun e t h hk=>?_)
 ·rintro s t h Q' kQ ⟨hs,h0,h1,h7,h8,h9⟩
  (have hb:=trivial;with_reducible repeat' (first|simp only[hb,Va.down,seval,iC.down,h0,h1,h7,h8,h9,afC,decide_false]|refine Dx ?_ ?_<;>intro hb|refine fd ?_|fail))
  exact kQ _ _ _ (by simp[Xo])
 ·rintro x rest i s t h J Q' kJ kQ hx hi ⟨hs,h0,h1,h7,h8,h9⟩
  have hd:decide ((i:Int)<(l.length:Int))=true:=by simpa using hi
  have kF:∀{p:Option Int},(Xn x 0 (IntKind.i64.wrap (b-1))&&(match p with|none=>true|some q=> !decide (x≤q)))=false→Xo b (x::rest) p=false:=fun h=>by simp[Xo,h]
  have kT:∀{p:Option Int},(Xn x 0 (IntKind.i64.wrap (b-1))&&(match p with|none=>true|some q=> !decide (x≤q)))=true→Xo b rest (some x)=Xo b (x::rest) p:=fun h=>by simp[Xo,h]
  have hw:=Dv hi hl
  rcases hs with⟨rfl,rfl⟩|⟨hpos,rfl⟩
  ·simp only[Int.natCast_zero,Int.zero_add]at hd h9 hw
   (have hb:=trivial;with_reducible repeat' (first|simp only[hb,Va.down,seval,iC.down,h0,h1,h7,h8,h9,hd,hx,iv,Ug,hw,Int.toNat_zero,anN,afC,decide_false]|refine Dx ?_ ?_<;>intro hb|refine fd ?_|fail))
   all_goals first
    |exact kQ _ _ _ (by rw[if_neg (by rw[kF (by simp_all)];simp)];exact⟨rfl,rfl⟩)
    |exact Hj (kJ _ _ (some x) ⟨.inr ⟨by omega,by simp[hx]⟩,by simp[up,h0],by simp[up,h1],by simp[up,h7],by simp[up,h8],by simp[up]<;>omega⟩ (kT (by simp_all)))
  ·obtain⟨j,rfl⟩:∃j,i=j+1:=⟨i-1,by omega⟩
   obtain⟨q,hq⟩:∃q,l[j]?=some q:=⟨l[j],apZ (by omega)⟩
   have hj:IntKind.i64.wrap (((j+1:Nat):Int)-1)=(j:Int):=by unfold maxLen at hl;rw[fF (by omega) (by omega)];omega
   have hg:decide (0<((j+1:Nat):Int))=true:=by rw[decide_eq_true_eq];omega
   simp only[Nat.add_sub_cancel,hq]at kJ kQ
   (have hb:=trivial;with_reducible repeat' (first|simp only[hb,Va.down,seval,iC.down,h0,h1,h7,h8,h9,hd,hx,iv,Ug,hw,hj,hg,hq]|refine Dx ?_ ?_<;>intro hb|refine fd ?_|fail))
   all_goals first
    |exact kQ _ _ _ (by rw[if_neg (by rw[kF (by simp_all)];simp)];exact⟨rfl,rfl⟩)
    |exact Hj (kJ _ _ (some x) ⟨.inr ⟨by omega,by simp[hx]⟩,by simp[up,h0],by simp[up,h1],by simp[up,h7],by simp[up,h8],by simp[up]<;>omega⟩ (kT (by simp_all)))
 ·exact⟨.inl ⟨rfl,rfl⟩,by simp[up,Hf],by simp[up,Hf],by simp[up,Hf],by simp[up],by simp[up]⟩
 ·split at hk
  ·subst hk
   rename_i hr
   (have hb:=trivial;with_reducible repeat' (first|simp only[hb,Va.down,seval,iC.down]|refine Dx ?_ ?_<;>intro hb|refine fd ?_|fail))
   all_goals simp[hr]
  ·obtain⟨rfl,h2⟩:=hk
   rename_i hr
   (have hb:=trivial;with_reducible repeat' (first|simp only[hb,Va.down,seval,iC.down,h2]|refine Dx ?_ ?_<;>intro hb|refine fd ?_|fail))
   all_goals simp[hr]
def fB(ns:Int)(v:Bf):Bool:=Xo ns v.sens none&&Xn v.need 1 v.sens.length&&sH v.level
theorem qL(o w:Ao):En.call (.fn 57) [.agg [.int .i64 o.vote,.bool o.is],.ptr 0 0 0] [.live 2 true false [[.int .i64 w.vote,.bool w.is]]]=some (.ret (.bool (o.vote==w.vote)),[.live 2 true false [[.int .i64 w.vote,.bool w.is]]]):=by
 (refine ce Tryd.func57 ?_;simp only[Tryd.f57];(have hb:=trivial;with_reducible repeat' (first|simp only[hb,Vc.down,seval,at7.down]|refine Dx ?_ ?_<;>intro hb|refine fd ?_|fail)))
theorem fZ{l:List Ao}{nn:Bool}{g:Nat}{ww:Ao}{p:Ao→Bool}(hp:∀x∈l,En.call (.fn g) (.agg [.int .i64 x.vote,.bool x.is]::[.ptr 0 0 0]) [.live 2 true false [[.int .i64 ww.vote,.bool ww.is]]]=some (.ret (.bool (p x)),[.live 2 true false [[.int .i64 ww.vote,.bool ww.is]]]))(hl:l.length≤maxLen):
 En.call (.fn 60) [An 2 true nn (l.map Ao.cells),.func (.func g) [] [.ptr 0 0 0]] [.live 2 true false [[.int .i64 ww.vote,.bool ww.is]]]=some (.ret (.int .i64 (Zs p l 0)),[.live 2 true false [[.int .i64 ww.vote,.bool ww.is]]]):=by
 (refine ce Tryd.func60 ?_;simp only[Tryd.f60];(have hb:=trivial;with_reducible repeat' (first|simp only[hb,Vc.down,seval,Ya.down,abJ]|refine Dx ?_ ?_<;>intro hb|refine fd ?_|fail)))
 refine Lt (mN 19 l (fun i (s:Int) t h=>s=i∧h=[.live 2 true false [[.int .i64 ww.vote,.bool ww.is]]]∧t 0=An 2 true nn (l.map Ao.cells)∧t 1=.func (.func g) [] [.ptr 0 0 0]∧t 7=.int .i64 l.length∧t 8=.int .i64 i)
  (fun rest s=>Zs p rest s) (fun r e t h=>h=[.live 2 true false [[.int .i64 ww.vote,.bool ww.is]]]∧((e=.exit 0∧r= -1)∨(e=.ret∧t 4=.int .i64 r))) ?_ ?_ 0 _ _ ?_) (fun e t h hk=>?_)
 ·rintro s t h Q' kQ ⟨rfl,rfl,h0,h1,h7,h8⟩
  (have hb:=trivial;with_reducible repeat' (first|simp only[hb,Vc.down,seval,Ya.down,h0,h1,h7,h8,afC,decide_false]|refine Dx ?_ ?_<;>intro hb|refine fd ?_|fail))
  exact kQ _ _ _ ⟨rfl,.inl ⟨rfl,rfl⟩⟩
 ·rintro x rest i s t h J Q' kJ kQ hx hi ⟨rfl,rfl,h0,h1,h7,h8⟩
  have hpx:=hp x (afM hx)
  have hd:decide ((i:Int)<(l.length:Int))=true:=by simpa using hi
  (have hb:=trivial;with_reducible repeat' (first|simp only[hb,Vc.down,seval,Ya.down,h0,h1,h7,h8,hd,hx,Ao.cells,hpx,Dv hi hl]|refine Dx ?_ ?_<;>intro hb|refine fd ?_|fail))
  ·exact kQ _ _ _ ⟨rfl,.inr ⟨rfl,by simp[up,Zs,hb]⟩⟩
  ·exact Hj (kJ _ _ (i+1) ⟨by simp,rfl,by simp[up,h0],by simp[up,h1],by simp[up,h7],by simp[up]⟩ (by simp[Zs,hb]))
 ·exact⟨rfl,rfl,by simp[up,Hf],by simp[up,Hf],by simp[up],by simp[up]⟩
 ·obtain⟨rfl,⟨rfl,hi⟩|⟨rfl,hi⟩⟩:=hk
  ·(have hb:=trivial;with_reducible repeat' (first|simp only[hb,Vc.down,seval,Ya.down]|refine Dx ?_ ?_<;>intro hb|refine fd ?_|fail))
   rw[hi]
  ·(have hb:=trivial;with_reducible repeat' (first|simp only[hb,Vc.down,seval,Ya.down,hi]|refine Dx ?_ ?_<;>intro hb|refine fd ?_|fail))
theorem dN{l:List Ao}{nn:Bool}{g:Nat}{ww:Ao}{p:Ao→Bool}(hp:∀x∈l,En.call (.fn g) (.agg [.int .i64 x.vote,.bool x.is]::[.ptr 0 0 0]) [.live 2 true false [[.int .i64 ww.vote,.bool ww.is]]]=some (.ret (.bool (p x)),[.live 2 true false [[.int .i64 ww.vote,.bool ww.is]]]))(hl:l.length≤maxLen):
 En.call (.fn 53) [An 2 true nn (l.map Ao.cells),.func (.func g) [] [.ptr 0 0 0]] [.live 2 true false [[.int .i64 ww.vote,.bool ww.is]]]=some (.ret (.bool (l.any p)),[.live 2 true false [[.int .i64 ww.vote,.bool ww.is]]]):=by
 (refine ce Tryd.func53 ?_;simp only[Tryd.f53];(have hb:=trivial;with_reducible repeat' (first|simp only[hb,Vc.down,seval,fZ hp hl,Qb p l 0 (anN 0)]|refine Dx ?_ ?_<;>intro hb|refine fd ?_|fail)))
def Qk(nv:Int):List Ao→List Ao→Bool
 |_,[]=>true
 |pre,w::l=>Xn w.vote 0 (IntKind.i64.wrap (nv-1))&& !(pre.any fun o=>o.vote==w.vote)&&Qk nv (pre++[w]) l
def Ru(m:Ek)(x:Ax):Bool:=Qk m.votes.length [] x.wants&&Xn x.frm 0 (IntKind.i64.wrap (m.states-1))&&Xn x.to 0 (IntKind.i64.wrap (m.states-1))&&decide (x.wants.length≤6)&&Xn x.cmd (-1) (IntKind.i64.wrap (m.cmds-1))&&Xn x.after 0 10
theorem vH(m:Ek)(y:Ax)(hl:y.wants.length≤maxLen):En.call (.fn 46) [.agg [An 3 true m.nS (m.sens.map Eh.cells),An 4 false m.nV (m.votes.map Bf.cells),An 5 false m.nM (m.moves.map Ax.cells),.int .i64 m.states,.int .i64 m.cmds,.int .i64 m.bgn,An 1 true m.nO (m.opn.map iv)],.agg [.int .i64 y.frm,.int .i64 y.to,An 2 true y.nn (y.wants.map Ao.cells),.int .i64 y.cmd,.int .i64 y.after]] []=some (.ret (.bool (Ru m y)),[]):=by
 have l6:decide ((y.wants.length:Int)≤6)=decide (y.wants.length≤6):=by rw[decide_eq_decide];omega
 (refine ce Tryd.func46 ?_;simp only[Tryd.f46];(have hb:=trivial;with_reducible repeat' (first|simp only[hb,Vc.down,seval,eE.down,abJ]|refine Dx ?_ ?_<;>intro hb|refine fd ?_|fail)))
 refine Lt (mN 65 y.wants (fun i (zz:List Ao) t h=>t 2=.ptr 0 0 0∧t 3=.ptr 1 0 0∧t 8=An 2 true y.nn (y.wants.map Ao.cells)∧t 9=.int .i64 y.wants.length∧t 10=.int .i64 i∧(h[0]?=some (.live 7 false false [[An 3 true m.nS (m.sens.map Eh.cells),An 4 false m.nV (m.votes.map Bf.cells),An 5 false m.nM (m.moves.map Ax.cells),.int .i64 m.states,.int .i64 m.cmds,.int .i64 m.bgn,An 1 true m.nO (m.opn.map iv)]])∧h[1]?=some (.live 5 false false [[.int .i64 y.frm,.int .i64 y.to,An 2 true y.nn (y.wants.map Ao.cells),.int .i64 y.cmd,.int .i64 y.after]])∧zz=y.wants.take i)) (fun rest zz=>Qk m.votes.length zz rest) (fun r e t h=>(if r=true then e=.exit 0∧t 2=.ptr 0 0 0∧t 3=.ptr 1 0 0∧h[0]?=some (.live 7 false false [[An 3 true m.nS (m.sens.map Eh.cells),An 4 false m.nV (m.votes.map Bf.cells),An 5 false m.nM (m.moves.map Ax.cells),.int .i64 m.states,.int .i64 m.cmds,.int .i64 m.bgn,An 1 true m.nO (m.opn.map iv)]])∧h[1]?=some (.live 5 false false [[.int .i64 y.frm,.int .i64 y.to,An 2 true y.nn (y.wants.map Ao.cells),.int .i64 y.cmd,.int .i64 y.after]])else e=.ret∧t 4=.bool false)) ?_ ?_ ([]) _ _ ?_) (fun e t h hk=>?_)
 ·rintro p t h Q' kQ ⟨h2,h3,h8,h9,h10,⟨hA,hB,hp⟩⟩
  (have hb:=trivial;with_reducible repeat' (first|simp only[hb,Vc.down,seval,eE.down,h2,h3,h8,h9,h10,afC,decide_false]|refine Dx ?_ ?_<;>intro hb|refine fd ?_|fail))
  exact kQ _ _ _ (by rw[if_pos (by rfl)];exact⟨rfl,by simp[up,h2],by simp[up,h3],hA,hB⟩)
 ·rintro x rest i p t h J Q' kJ kQ hx hi ⟨h2,h3,h8,h9,h10,⟨hA,hB,hp⟩⟩
  have hd:decide ((i:Int)<(y.wants.length:Int))=true:=decide_eq_true (by omega)
  have hw:=Dv hi hl
  have hA1:=Em hA
  have hB1:=Em hB
  have hcW:=dN (l:=y.wants.take i) (nn:=true) (ww:=x) (g:=57) (p:=fun o=>o.vote==x.vote) (fun o _=>qL o x) (by simp;omega)
  have hsl:=vI (P:=Tryd.prog) (ty:=65) (n:=2) ⟨_,Tryd.underlying65,by kernel_rfl⟩ true y.nn (rows:=y.wants.map Ao.cells) (i:=i) (by simpa using hi)
  rw[kR,List.map_take]at hcW
  subst hp
  cases c1:Xn x.vote 0 (IntKind.i64.wrap ((m.votes.length:Int)-1))with
  |false=>
   (have hb:=trivial;with_reducible repeat' (first|simp only[hb,Vc.down,seval,eE.down,h2,h3,h8,h9,h10,hd,hx,hw,hA1,hB1,Ug,Ao.cells,abJ,hcW,hsl,c1]|refine Dx ?_ ?_<;>intro hb|refine fd ?_|fail))
   exact kQ _ _ _ (by rw[if_neg (by simp[Qk,c1])];exact⟨rfl,by simp[up]⟩)
  |true=>
   cases c2:(y.wants.take i).any (fun o=>o.vote==x.vote)with
   |true=>
    rw[c2]at hcW
    (have hb:=trivial;with_reducible repeat' (first|simp only[hb,Vc.down,seval,eE.down,h2,h3,h8,h9,h10,hd,hx,hw,hA1,hB1,Ug,Ao.cells,abJ,hcW,hsl,c1]|refine Dx ?_ ?_<;>intro hb|refine fd ?_|fail))
    exact kQ _ _ _ (by rw[if_neg (by simp only[Qk,c1,c2,akQ,aqF,ao3];simp)];exact⟨rfl,by simp[up]⟩)
   |false=>
    rw[c2]at hcW
    (have hb:=trivial;with_reducible repeat' (first|simp only[hb,Vc.down,seval,eE.down,h2,h3,h8,h9,h10,hd,hx,hw,hA1,hB1,Ug,Ao.cells,abJ,hcW,hsl,c1]|refine Dx ?_ ?_<;>intro hb|refine fd ?_|fail))
    (refine Hj (kJ _ _ (y.wants.take i++[x]) ⟨?_,?_,?_,?_,?_,⟨hA1 _,hB1 _,by rw[List.take_add_one,hx];rfl⟩⟩ ?_);(simp[up,h2]);(simp[up,h3]);(simp[up,h8]);(simp[up,h9]);(simp[up]);(simp only[Qk,c1,c2,amC,apA,apC]))
 ·exact⟨by simp[up,Hf],by simp[up,Hf],by simp[up,Hf],by simp[up,Hf],by simp[up],⟨rfl,rfl,rfl⟩⟩
 ·split at hk
  ·obtain⟨rfl,h2,h3,hA,hB⟩:=hk
   rename_i hr
   have hA1:=Em hA
   have hB1:=Em hB
   (have hb:=trivial;with_reducible repeat' (first|simp only[hb,Vc.down,seval,eE.down,h2,h3,hA,hB,hA1,hB1,Ug,abJ,l6]|refine Dx ?_ ?_<;>intro hb|refine fd ?_|fail))
   all_goals (refine congrArg (fun b=>(Dj.ret (AV.bool b),([]:Aa))) ?_;symm;((try simp only[aqU,akQ,amC]at *);simp only[Ru, *,aqF,ao3,apA,apC,Bool.and_self,Bool.not_not,akQ,amC,List.all_cons,List.all_nil]))
  ·obtain⟨rfl,h4⟩:=hk
   rename_i hr
   (have hb:=trivial;with_reducible repeat' (first|simp only[hb,Vc.down,seval,eE.down,h4]|refine Dx ?_ ?_<;>intro hb|refine fd ?_|fail))
   all_goals simp_all[Ru]
def rG(s:Eh):Bool:=sH s.lo&&sH s.hi&& !decide (s.hi<s.lo)
def eT(m:Ek):Bool:=decide (m.sens.length≤6)&&decide (m.votes.length≤6)&&decide (m.moves.length≤20)&&Xn m.states 1 8&&Xn m.cmds 0 4&&Xn m.bgn 0 (IntKind.i64.wrap (m.states-1))&&((m.opn.length:Int)==m.states)
def Xh(m:Ek):Bool:=eT m&&m.sens.all rG&&m.votes.all (fB m.sens.length)&&m.moves.all (Ru m)&&m.opn.all (fun n=>Xn n 0 255)
theorem jV(m:Ek)(x:Ax)(hl:x.wants.length≤maxLen):En.call (.fn 45) [.agg [.int .i64 x.frm,.int .i64 x.to,An 2 true x.nn (x.wants.map Ao.cells),.int .i64 x.cmd,.int .i64 x.after],.ptr 0 0 0] [.live 7 false false [[An 3 true m.nS (m.sens.map Eh.cells),An 4 false m.nV (m.votes.map Bf.cells),An 5 false m.nM (m.moves.map Ax.cells),.int .i64 m.states,.int .i64 m.cmds,.int .i64 m.bgn,An 1 true m.nO (m.opn.map iv)]]]=some (.ret (.bool (!Ru m x)),[.live 7 false false [[An 3 true m.nS (m.sens.map Eh.cells),An 4 false m.nV (m.votes.map Bf.cells),An 5 false m.nM (m.moves.map Ax.cells),.int .i64 m.states,.int .i64 m.cmds,.int .i64 m.bgn,An 1 true m.nO (m.opn.map iv)]]]):=by
 have hm:=vH m x hl
 (refine ce Tryd.func45 ?_;simp only[Tryd.f45];(have hb:=trivial;with_reducible repeat' (first|simp only[hb,Vc.down,seval,auE.down,hm]|refine Dx ?_ ?_<;>intro hb|refine fd ?_|fail)))
theorem iK{l:List Ax}{nn:Bool}{g:Nat}{mm:Ek}{p:Ax→Bool}(hp:∀x∈l,En.call (.fn g) (.agg [.int .i64 x.frm,.int .i64 x.to,An 2 true x.nn (x.wants.map Ao.cells),.int .i64 x.cmd,.int .i64 x.after]::[.ptr 0 0 0]) [.live 7 false false [[An 3 true mm.nS (mm.sens.map Eh.cells),An 4 false mm.nV (mm.votes.map Bf.cells),An 5 false mm.nM (mm.moves.map Ax.cells),.int .i64 mm.states,.int .i64 mm.cmds,.int .i64 mm.bgn,An 1 true mm.nO (mm.opn.map iv)]]]=some (.ret (.bool (p x)),[.live 7 false false [[An 3 true mm.nS (mm.sens.map Eh.cells),An 4 false mm.nV (mm.votes.map Bf.cells),An 5 false mm.nM (mm.moves.map Ax.cells),.int .i64 mm.states,.int .i64 mm.cmds,.int .i64 mm.bgn,An 1 true mm.nO (mm.opn.map iv)]]]))(hl:l.length≤maxLen):
 En.call (.fn 56) [An 5 false nn (l.map Ax.cells),.func (.func g) [] [.ptr 0 0 0]] [.live 7 false false [[An 3 true mm.nS (mm.sens.map Eh.cells),An 4 false mm.nV (mm.votes.map Bf.cells),An 5 false mm.nM (mm.moves.map Ax.cells),.int .i64 mm.states,.int .i64 mm.cmds,.int .i64 mm.bgn,An 1 true mm.nO (mm.opn.map iv)]]]=some (.ret (.int .i64 (Zs p l 0)),[.live 7 false false [[An 3 true mm.nS (mm.sens.map Eh.cells),An 4 false mm.nV (mm.votes.map Bf.cells),An 5 false mm.nM (mm.moves.map Ax.cells),.int .i64 mm.states,.int .i64 mm.cmds,.int .i64 mm.bgn,An 1 true mm.nO (mm.opn.map iv)]]]):=by
 (refine ce Tryd.func56 ?_;simp only[Tryd.f56];(have hb:=trivial;with_reducible repeat' (first|simp only[hb,Vc.down,seval,lE.down,abJ]|refine Dx ?_ ?_<;>intro hb|refine fd ?_|fail)))
 refine Lt (mN 19 l (fun i (s:Int) t h=>s=i∧h=[.live 7 false false [[An 3 true mm.nS (mm.sens.map Eh.cells),An 4 false mm.nV (mm.votes.map Bf.cells),An 5 false mm.nM (mm.moves.map Ax.cells),.int .i64 mm.states,.int .i64 mm.cmds,.int .i64 mm.bgn,An 1 true mm.nO (mm.opn.map iv)]]]∧t 0=An 5 false nn (l.map Ax.cells)∧t 1=.func (.func g) [] [.ptr 0 0 0]∧t 7=.int .i64 l.length∧t 8=.int .i64 i)
  (fun rest s=>Zs p rest s) (fun r e t h=>h=[.live 7 false false [[An 3 true mm.nS (mm.sens.map Eh.cells),An 4 false mm.nV (mm.votes.map Bf.cells),An 5 false mm.nM (mm.moves.map Ax.cells),.int .i64 mm.states,.int .i64 mm.cmds,.int .i64 mm.bgn,An 1 true mm.nO (mm.opn.map iv)]]]∧((e=.exit 0∧r= -1)∨(e=.ret∧t 4=.int .i64 r))) ?_ ?_ 0 _ _ ?_) (fun e t h hk=>?_)
 ·rintro s t h Q' kQ ⟨rfl,rfl,h0,h1,h7,h8⟩
  (have hb:=trivial;with_reducible repeat' (first|simp only[hb,Vc.down,seval,lE.down,h0,h1,h7,h8,afC,decide_false]|refine Dx ?_ ?_<;>intro hb|refine fd ?_|fail))
  exact kQ _ _ _ ⟨rfl,.inl ⟨rfl,rfl⟩⟩
 ·rintro x rest i s t h J Q' kJ kQ hx hi ⟨rfl,rfl,h0,h1,h7,h8⟩
  have hpx:=hp x (afM hx)
  have hd:decide ((i:Int)<(l.length:Int))=true:=by simpa using hi
  (have hb:=trivial;with_reducible repeat' (first|simp only[hb,Vc.down,seval,lE.down,h0,h1,h7,h8,hd,hx,Ax.cells,hpx,Dv hi hl]|refine Dx ?_ ?_<;>intro hb|refine fd ?_|fail))
  ·exact kQ _ _ _ ⟨rfl,.inr ⟨rfl,by simp[up,Zs,hb]⟩⟩
  ·exact Hj (kJ _ _ (i+1) ⟨by simp,rfl,by simp[up,h0],by simp[up,h1],by simp[up,h7],by simp[up]⟩ (by simp[Zs,hb]))
 ·exact⟨rfl,rfl,by simp[up,Hf],by simp[up,Hf],by simp[up],by simp[up]⟩
 ·obtain⟨rfl,⟨rfl,hi⟩|⟨rfl,hi⟩⟩:=hk
  ·(have hb:=trivial;with_reducible repeat' (first|simp only[hb,Vc.down,seval,lE.down]|refine Dx ?_ ?_<;>intro hb|refine fd ?_|fail))
   rw[hi]
  ·(have hb:=trivial;with_reducible repeat' (first|simp only[hb,Vc.down,seval,lE.down,hi]|refine Dx ?_ ?_<;>intro hb|refine fd ?_|fail))
theorem eB{l:List Ax}{nn:Bool}{g:Nat}{mm:Ek}{p:Ax→Bool}(hp:∀x∈l,En.call (.fn g) (.agg [.int .i64 x.frm,.int .i64 x.to,An 2 true x.nn (x.wants.map Ao.cells),.int .i64 x.cmd,.int .i64 x.after]::[.ptr 0 0 0]) [.live 7 false false [[An 3 true mm.nS (mm.sens.map Eh.cells),An 4 false mm.nV (mm.votes.map Bf.cells),An 5 false mm.nM (mm.moves.map Ax.cells),.int .i64 mm.states,.int .i64 mm.cmds,.int .i64 mm.bgn,An 1 true mm.nO (mm.opn.map iv)]]]=some (.ret (.bool (p x)),[.live 7 false false [[An 3 true mm.nS (mm.sens.map Eh.cells),An 4 false mm.nV (mm.votes.map Bf.cells),An 5 false mm.nM (mm.moves.map Ax.cells),.int .i64 mm.states,.int .i64 mm.cmds,.int .i64 mm.bgn,An 1 true mm.nO (mm.opn.map iv)]]]))(hl:l.length≤maxLen):
 En.call (.fn 44) [An 5 false nn (l.map Ax.cells),.func (.func g) [] [.ptr 0 0 0]] [.live 7 false false [[An 3 true mm.nS (mm.sens.map Eh.cells),An 4 false mm.nV (mm.votes.map Bf.cells),An 5 false mm.nM (mm.moves.map Ax.cells),.int .i64 mm.states,.int .i64 mm.cmds,.int .i64 mm.bgn,An 1 true mm.nO (mm.opn.map iv)]]]=some (.ret (.bool (l.any p)),[.live 7 false false [[An 3 true mm.nS (mm.sens.map Eh.cells),An 4 false mm.nV (mm.votes.map Bf.cells),An 5 false mm.nM (mm.moves.map Ax.cells),.int .i64 mm.states,.int .i64 mm.cmds,.int .i64 mm.bgn,An 1 true mm.nO (mm.opn.map iv)]]]):=by
 (refine ce Tryd.func44 ?_;simp only[Tryd.f44];(have hb:=trivial;with_reducible repeat' (first|simp only[hb,Vc.down,seval,iK hp hl,Qb p l 0 (anN 0)]|refine Dx ?_ ?_<;>intro hb|refine fd ?_|fail)))
theorem pS(m:Ek)(hs:m.small):En.call (.fn 27) [.agg [An 3 true m.nS (m.sens.map Eh.cells),An 4 false m.nV (m.votes.map Bf.cells),An 5 false m.nM (m.moves.map Ax.cells),.int .i64 m.states,.int .i64 m.cmds,.int .i64 m.bgn,An 1 true m.nO (m.opn.map iv)]] []=some (.ret (.bool (Xh m)),[]):=by
 have l1:decide ((6:Int)<(m.sens.length:Int))= !decide (m.sens.length≤6):=by rw[←decide_not,decide_eq_decide];omega
 have l2:decide ((6:Int)<(m.votes.length:Int))= !decide (m.votes.length≤6):=by rw[←decide_not,decide_eq_decide];omega
 have l3:decide ((20:Int)<(m.moves.length:Int))= !decide (m.moves.length≤20):=by rw[←decide_not,decide_eq_decide];omega
 cases hp:eT m with
 |false=>
  have hp':Xh m=false:=by simp[Xh,hp]
  rw[hp']
  (refine ce Tryd.func27 ?_;simp only[Tryd.f27];(have hb:=trivial;with_reducible repeat' (first|simp only[hb,Vc.down,seval,Xq.down,abJ,Ug,l1,l2,l3]|refine Dx ?_ ?_<;>intro hb|refine fd ?_|fail)))
  all_goals first
   |rfl
   |(exfalso;simp_all[eT];done)
 |true=>
  have hp':=hp
  simp only[eT,Bool.and_eq_true]at hp'
  obtain⟨⟨⟨⟨⟨⟨p1,p2⟩,p3⟩,p4⟩,p5⟩,p6⟩,p7⟩:=hp'
  (refine ce Tryd.func27 ?_;simp only[Tryd.f27];(have hb:=trivial;with_reducible repeat' (first|simp only[hb,Vc.down,seval,Xq.down,abJ,Ug,l1,l2,l3,p1,p2,p3,p4,p5,p6,p7]|refine Dx ?_ ?_<;>intro hb|refine fd ?_|fail)))
  refine Lt (mN 118 m.sens (fun i (zz:Unit) t h=>t 1=.ptr 0 0 0∧t 53=An 3 true m.nS (m.sens.map Eh.cells)∧t 54=.int .i64 m.sens.length∧t 55=.int .i64 i∧(h[0]?=some (.live 7 false false [[An 3 true m.nS (m.sens.map Eh.cells),An 4 false m.nV (m.votes.map Bf.cells),An 5 false m.nM (m.moves.map Ax.cells),.int .i64 m.states,.int .i64 m.cmds,.int .i64 m.bgn,An 1 true m.nO (m.opn.map iv)]]))) (fun rest zz=>rest.all rG) (fun r e t h=>(if r=true then e=.exit 0∧t 1=.ptr 0 0 0∧h[0]?=some (.live 7 false false [[An 3 true m.nS (m.sens.map Eh.cells),An 4 false m.nV (m.votes.map Bf.cells),An 5 false m.nM (m.moves.map Ax.cells),.int .i64 m.states,.int .i64 m.cmds,.int .i64 m.bgn,An 1 true m.nO (m.opn.map iv)]])else e=.ret∧t 2=.bool false)) ?_ ?_ () _ _ ?_) (fun e t h hk=>?_)
  ·rintro _ t h Q' kQ ⟨h1,h53,h54,h55,hA⟩
   (have hb:=trivial;with_reducible repeat' (first|simp only[hb,Vc.down,seval,Xq.down,h1,h53,h54,h55,afC,decide_false]|refine Dx ?_ ?_<;>intro hb|refine fd ?_|fail))
   exact kQ _ _ _ (by rw[if_pos (by rfl)];exact⟨rfl,by simp[up,h1],hA⟩)
  ·rintro x rest i _ t h J Q' kJ kQ hx hi ⟨h1,h53,h54,h55,hA⟩
   have hd:decide ((i:Int)<(m.sens.length:Int))=true:=decide_eq_true (by omega)
   have hw:=Dv hi hs.sens
   have hA1:=Em hA
   (have hb:=trivial;with_reducible repeat' (first|simp only[hb,Vc.down,seval,Xq.down,h1,h53,h54,h55,hd,hx,hw,fJ,Eh.cells,abJ]|refine Dx ?_ ?_<;>intro hb|refine fd ?_|fail))
   all_goals first
    |exact kQ _ _ _ (by rw[if_neg (by simp_all[rG])];exact⟨rfl,by simp[up]⟩)
    |(refine Hj (kJ _ _ () ⟨?_,?_,?_,?_,hA1 _⟩ ?_);(simp[up,h1]);(simp[up,h53]);(simp[up,h54]);(simp[up]);(simp_all[rG]))
  ·exact⟨by simp[up,Hf],by simp[up,Hf],by simp[up,Hf],by simp[up],rfl⟩
  ·split at hk
   ·obtain⟨rfl,h1,hA⟩:=hk
    rename_i hr1
    have hA1:=Em hA
    (have hb:=trivial;with_reducible repeat' (first|simp only[hb,Vc.down,seval,Xq.down,h1,hA,hA1,abJ]|refine Dx ?_ ?_<;>intro hb|refine fd ?_|fail))
    refine Lt (mN 118 m.votes (fun i (zz:Unit) t h=>t 1=.ptr 0 0 0∧t 78=An 4 false m.nV (m.votes.map Bf.cells)∧t 79=.int .i64 m.votes.length∧t 80=.int .i64 i∧(h[0]?=some (.live 7 false false [[An 3 true m.nS (m.sens.map Eh.cells),An 4 false m.nV (m.votes.map Bf.cells),An 5 false m.nM (m.moves.map Ax.cells),.int .i64 m.states,.int .i64 m.cmds,.int .i64 m.bgn,An 1 true m.nO (m.opn.map iv)]]))) (fun rest zz=>rest.all (fB m.sens.length)) (fun r e t h=>(if r=true then e=.exit 2∧t 1=.ptr 0 0 0∧h[0]?=some (.live 7 false false [[An 3 true m.nS (m.sens.map Eh.cells),An 4 false m.nV (m.votes.map Bf.cells),An 5 false m.nM (m.moves.map Ax.cells),.int .i64 m.states,.int .i64 m.cmds,.int .i64 m.bgn,An 1 true m.nO (m.opn.map iv)]])else e=.ret∧t 2=.bool false)) ?_ ?_ () _ _ ?_) (fun e t h hk=>?_)
    ·rintro _ t h Q' kQ ⟨h1,h78,h79,h80,hA⟩
     (have hb:=trivial;with_reducible repeat' (first|simp only[hb,Vc.down,seval,Xq.down,h1,h78,h79,h80,afC,decide_false]|refine Dx ?_ ?_<;>intro hb|refine fd ?_|fail))
     exact kQ _ _ _ (by rw[if_pos (by rfl)];exact⟨rfl,by simp[up,h1],hA⟩)
    ·rintro x rest i _ t h J Q' kJ kQ hx hi ⟨h1,h78,h79,h80,hA⟩
     have hd:decide ((i:Int)<(m.votes.length:Int))=true:=decide_eq_true (by omega)
     have hw:=Dv hi hs.votes
     have hA1:=Em hA
     have hin:=Zp (nn:=x.nn) m.sens.length (hs.vs x (afM hx))
     (have hb:=trivial;with_reducible repeat' (first|simp only[hb,Vc.down,seval,Xq.down,h1,h78,h79,h80,hd,hx,hw,hA1,fJ,Ug,hin,Bf.cells,abJ]|refine Dx ?_ ?_<;>intro hb|refine fd ?_|fail))
     all_goals first
      |exact kQ _ _ _ (by rw[if_neg (by simp_all[fB])];exact⟨rfl,by simp[up]⟩)
      |(refine Hj (kJ _ _ () ⟨?_,?_,?_,?_,hA1 _⟩ ?_);(simp[up,h1]);(simp[up,h78]);(simp[up,h79]);(simp[up]);(simp_all[fB]))
    ·exact⟨by simp[up,Hf,h1],by simp[up,Hf,h1],by simp[up,Hf,h1],by simp[up],hA⟩
    ·split at hk
     ·obtain⟨rfl,h1,hA⟩:=hk
      rename_i hr2
      have hA1:=Em hA
      have hcM:=eB (mm:=m) (l:=m.moves) (nn:=m.nM) (g:=45) (p:=fun x=> !Ru m x) (fun x hx=>jV m x (hs.ws x hx)) hs.moves
      have hcI:=gR (l:=m.opn) (nn:=m.nO) (g:=47) (cap:=[]) (p:=fun x=> !Xn x 0 255) rfl rfl (fun x _=>pB x) hs.opn
      (have hb:=trivial;with_reducible repeat' (first|simp only[hb,Vc.down,seval,Xq.down,h1,hA,hA1,abJ,hcM,hcI]|refine Dx ?_ ?_<;>intro hb|refine fd ?_|fail))
      all_goals
       have q1:m.moves.all (Ru m)= !(m.moves.any fun x=> !Ru m x):=aqO
       have q2:m.opn.all (fun n=>Xn n 0 255)= !(m.opn.any fun x=> !Xn x 0 255):=aqO
       simp only[Xh,hp,hr1,hr2,q1,q2,hb,akQ,amC,apC,ao3,apA]
       try rfl
     ·obtain⟨rfl,h2⟩:=hk
      rename_i hr2
      (have hb:=trivial;with_reducible repeat' (first|simp only[hb,Vc.down,seval,Xq.down,h2]|refine Dx ?_ ?_<;>intro hb|refine fd ?_|fail))
      all_goals simp[Xh,hp,arC.2 hr2]
   ·obtain⟨rfl,h2⟩:=hk
    rename_i hr1
    (have hb:=trivial;with_reducible repeat' (first|simp only[hb,Vc.down,seval,Xq.down,h2]|refine Dx ?_ ?_<;>intro hb|refine fd ?_|fail))
    all_goals simp[Xh,hp,arC.2 hr1]
def yO(m:Ek)(k:Int):Eh:=m.sens.getD k.toNat ⟨0,0,false⟩
def rAt(l:List Int)(k:Int):Int:=l.getD k.toNat 0
theorem sQ{m:Ek}{k:Int}(h:k.toNat<m.sens.length):m.sens[k.toNat]?=some (yO m k):=by
 simp[yO,List.getD,apZ h]
theorem qP{l:List Int}{k:Int}(h:k.toNat<l.length):l[k.toNat]?=some (rAt l k):=by
 simp[rAt,List.getD,apZ h]
def iV(m:Ek)(v:Bf)(l:List Int):List Int→Int→Int
 | [],c=>c
 |k::ks,c=>iV m v l ks (if eZ (yO m k) v (rAt l k)=true then IntKind.i64.wrap (c+1)else c)
def wW(m:Ek)(l:List Int)(v:Bf):Bool:=decide (v.need≤iV m v l v.sens 0)
def Idx(m:Ek)(l:List Int):Prop:=∀k∈l,0≤k∧k.toNat<m.sens.length
def orN(a b:Int):Int:=IntKind.i64.wrap ((BitVec.ofInt 64 a|||BitVec.ofInt 64 b).toNat:Int)
theorem zW(ty:TypeId)(a b:Int):Ff Tryd.prog .or ty (.int .i64 a) (.int .i64 b)=some (.int .i64 (orN a b)):=by
 show(if IntKind.i64=IntKind.i64 then Fb .or .i64 a b else none)=_
 rw[if_pos rfl];rfl
def Yb(m:Ek)(l:List Int):List Bf→Nat→Int→Int
 | [],_,b=>b
 |v::vs,i,b=>Yb m l vs (i+1) (if wW m l v=true then orN b (rK i)else b)
theorem sP(m:Ek){l:List Int}{nn:Bool}(hl:l.length=m.sens.length)(hs:m.small)(hi:∀v∈m.votes,Idx m v.sens):En.call (.fn 11) [.agg [An 3 true m.nS (m.sens.map Eh.cells),An 4 false m.nV (m.votes.map Bf.cells),An 5 false m.nM (m.moves.map Ax.cells),.int .i64 m.states,.int .i64 m.cmds,.int .i64 m.bgn,An 1 true m.nO (m.opn.map iv)],An 1 true nn (l.map iv)] []=some (.ret (.int .i64 (Yb m l m.votes 0 0)),[]):=by
 have hI:=hi
 clear hi
 (refine ce Tryd.func11 ?_;simp only[Tryd.f11];(have hb:=trivial;with_reducible repeat' (first|simp only[hb,Vc.down,seval,eH.down,abJ]|refine Dx ?_ ?_<;>intro hb|refine fd ?_|fail)))
 refine Lt (mN 50 m.votes (fun i (zz:Nat × Int) t h=>t 1=An 1 true nn (l.map iv)∧t 2=.ptr 0 0 0∧t 12=An 4 false m.nV (m.votes.map Bf.cells)∧t 13=.int .i64 m.votes.length∧t 14=.int .i64 i∧t 5=.int .i64 zz.2∧(h[0]?=some (.live 7 false false [[An 3 true m.nS (m.sens.map Eh.cells),An 4 false m.nV (m.votes.map Bf.cells),An 5 false m.nM (m.moves.map Ax.cells),.int .i64 m.states,.int .i64 m.cmds,.int .i64 m.bgn,An 1 true m.nO (m.opn.map iv)]])∧i=zz.1)) (fun rest zz=>Yb m l rest zz.1 zz.2) (fun r e t h=>e=.exit 0∧t 5=.int .i64 r) ?_ ?_ (0,0) _ _ ?_) (fun e t h hk=>?_)
 ·rintro⟨k,b⟩ t h Q' kQ ⟨h1,h2,h12,h13,h14,h5,⟨hA,rfl⟩⟩
  try dsimp only at *
  (have hb:=trivial;with_reducible repeat' (first|simp only[hb,Vc.down,seval,eH.down,h1,h2,h12,h13,h14,h5,afC,decide_false]|refine Dx ?_ ?_<;>intro hb|refine fd ?_|fail))
  exact kQ _ _ _ ⟨rfl,by simp[up,h5,Yb]⟩
 ·rintro x rest i ⟨k,b⟩ t h J Q' kJ kQ hx hi ⟨h1,h2,h12,h13,h14,h5,⟨hA,rfl⟩⟩
  have hd:decide ((i:Int)<(m.votes.length:Int))=true:=decide_eq_true (by omega)
  have hw:=Dv hi hs.votes
  try dsimp only at *
  have hA1:=Em hA
  have hvs:=hs.vs x (afM hx)
  have hIx:=hI x (afM hx)
  obtain⟨w,rfl⟩:∃w,w=x:=⟨_,rfl⟩
  obtain⟨k,rfl⟩:∃k,k=i:=⟨_,rfl⟩
  obtain⟨hL,hLe⟩:∃hL,hL=h.length:=⟨_,rfl⟩
  (have hb:=trivial;with_reducible repeat' (first|simp only[hb,Vc.down,seval,eH.down,h1,h2,h12,h13,h14,h5,hd,hx,hw,hA1,Bf.cells,abJ]|refine Dx ?_ ?_<;>intro hb|refine fd ?_|fail))
  refine Lt (mN 50 w.sens (fun i (zz:Int) t h=>t 1=An 1 true nn (l.map iv)∧t 2=.ptr 0 0 0∧t 12=An 4 false m.nV (m.votes.map Bf.cells)∧t 13=.int .i64 m.votes.length∧t 14=.int .i64 (k:Int)∧t 5=.int .i64 b∧t 6=.int .i64 (k:Int)∧t 7=.ptr hL 0 0∧t 20=An 1 true w.nn (w.sens.map iv)∧t 21=.int .i64 w.sens.length∧t 22=.int .i64 i∧t 8=.int .i64 zz∧(h[0]?=some (.live 7 false false [[An 3 true m.nS (m.sens.map Eh.cells),An 4 false m.nV (m.votes.map Bf.cells),An 5 false m.nM (m.moves.map Ax.cells),.int .i64 m.states,.int .i64 m.cmds,.int .i64 m.bgn,An 1 true m.nO (m.opn.map iv)]])∧∃wf,h[hL]?=some (.live 4 false wf [[An 1 true w.nn (w.sens.map iv),.int .i64 w.need,.int .i64 w.level,.bool w.above]]))) (fun rest zz=>iV m w l rest zz) (fun r e t h=>e=.exit 2∧t 1=An 1 true nn (l.map iv)∧t 2=.ptr 0 0 0∧t 12=An 4 false m.nV (m.votes.map Bf.cells)∧t 13=.int .i64 m.votes.length∧t 14=.int .i64 (k:Int)∧t 5=.int .i64 b∧t 6=.int .i64 (k:Int)∧t 7=.ptr hL 0 0∧t 8=.int .i64 r∧h[0]?=some (.live 7 false false [[An 3 true m.nS (m.sens.map Eh.cells),An 4 false m.nV (m.votes.map Bf.cells),An 5 false m.nM (m.moves.map Ax.cells),.int .i64 m.states,.int .i64 m.cmds,.int .i64 m.bgn,An 1 true m.nO (m.opn.map iv)]])∧∃wf,h[hL]?=some (.live 4 false wf [[An 1 true w.nn (w.sens.map iv),.int .i64 w.need,.int .i64 w.level,.bool w.above]])) ?_ ?_ (0) _ _ ?_) (fun e tC hC hk=>?_)
  ·rintro c t h Q' kQ ⟨h1,h2,h12,h13,h14,h5,h6,h7,h20,h21,h22,h8,⟨hA,wf,hB⟩⟩
   (have hb:=trivial;with_reducible repeat' (first|simp only[hb,Vc.down,seval,eH.down,h1,h2,h12,h13,h14,h5,h6,h7,h20,h21,h22,h8,afC,decide_false]|refine Dx ?_ ?_<;>intro hb|refine fd ?_|fail))
   exact kQ _ _ _ ⟨rfl,by simp[up,h1],by simp[up,h2],by simp[up,h12],by simp[up,h13],by simp[up,h14],by simp[up,h5],by simp[up,h6],by simp[up,h7],by simp[up,h8,iV],hA,wf,hB⟩
  ·rintro x rest i c t h J Q' kJ kQ hx hi ⟨h1,h2,h12,h13,h14,h5,h6,h7,h20,h21,h22,h8,⟨hA,wf,hB⟩⟩
   have hd:decide ((i:Int)<(w.sens.length:Int))=true:=decide_eq_true (by omega)
   have hw:=Dv hi hvs
   obtain⟨k0,k1⟩:=hIx x (afM hx)
   have hrr:=qP (l:=l) (k:=x) (by omega)
   have hss:=sQ k1
   have h0':(0≤x)=True:=eq_true k0
   have hS:=vA (yO m x) w (rAt l x)
   generalize hq:eZ (yO m x) w (rAt l x)=q at hS
   generalize yO m x=s at hss hS
   (have hb:=trivial;with_reducible repeat' (first|simp only[hb,Vc.down,seval,eH.down,h1,h2,h7,h8,h20,h21,h22,hd,hx,hw,hrr,hss,h0',hA,hB,hS,iv,Eh.cells,abJ]|refine Dx ?_ ?_<;>intro hb|refine fd ?_|fail))
   all_goals (refine Hj (kJ _ _ (if q=true then IntKind.i64.wrap (c+1)else c) ⟨?_,?_,?_,?_,?_,?_,?_,?_,?_,?_,?_,?_,⟨hA,wf,hB⟩⟩ ?_);(simp[up,h1]);(simp[up,h2]);(simp[up,h12]);(simp[up,h13]);(simp[up,h14]);(simp[up,h5]);(simp[up,h6]);(simp[up,h7]);(simp[up,h20]);(simp[up,h21]);(simp[up]);(simp[up,h8,hb]);(simp[iV,hq]))
  ·exact⟨by simp[up,Hf,h1,h2,h12,h13,h14,h5,hLe],by simp[up,Hf,h1,h2,h12,h13,h14,h5,hLe],by simp[up,Hf,h1,h2,h12,h13,h14,h5,hLe],by simp[up,Hf,h1,h2,h12,h13,h14,h5,hLe],by simp[up,Hf,h1,h2,h12,h13,h14,h5,hLe],by simp[up,Hf,h1,h2,h12,h13,h14,h5,hLe],by simp[up,Hf,h1,h2,h12,h13,h14,h5,hLe],by simp[up,Hf,h1,h2,h12,h13,h14,h5,hLe],by simp[up,Hf,h1,h2,h12,h13,h14,h5,hLe],by simp[up,Hf,h1,h2,h12,h13,h14,h5,hLe],by simp[up],by simp[up,Hf,h1,h2,h12,h13,h14,h5,hLe],⟨hA1 _,true,by rw[hLe];simp⟩⟩
  ·obtain⟨rfl,h1,h2,h12,h13,h14,h5,h6,h7,h8,hA,wf,hB⟩:=hk
   have hy:decide (w.need≤iV m w l w.sens 0)=wW m l w:=rfl
   (have hb:=trivial;with_reducible repeat' (first|simp only[hb,Vc.down,seval,eH.down,h1,h2,h12,h13,h14,h5,h6,h7,h8,hA,hB,hw,hy,zW]|refine Dx ?_ ?_<;>intro hb|refine fd ?_|fail))
   all_goals (refine Hj (kJ _ _ (k+1,(if wW m l w=true then orN b (rK k)else b)) ⟨?_,?_,?_,?_,?_,?_,⟨hA,rfl⟩⟩ ?_);(simp[up,h1]);(simp[up,h2]);(simp[up,h12]);(simp[up,h13]);(simp[up]);(simp[up,h5,hb]);(simp[Yb]))
 ·exact⟨by simp[up,Hf],by simp[up,Hf],by simp[up,Hf],by simp[up,Hf],by simp[up],by simp[up,Hf],⟨rfl,rfl⟩⟩
 obtain⟨rfl,h5⟩:=hk
 (have hb:=trivial;with_reducible repeat' (first|simp only[hb,Vc.down,seval,eH.down,h5]|refine Dx ?_ ?_<;>intro hb|refine fd ?_|fail))
def cX(b v:Int):Bool:=yZ (uE b v.toNat)==1
theorem vP(a b:Bool):Ff Tryd.prog .neq 4 (.bool a) (.bool b)=some (.bool (!(a==b))):=by cases a<;>cases b<;>kernel_rfl
structure Nr where
 frm:Int
 to:Int
 nn:Bool
 wants:List Ao
 cmd:Int
 after:Int
 st:Int
 ag:Int
 bits:Int
 com:Int
theorem vC(n:Nr):En.call (.fn 39) [.agg [.int .i64 n.frm,.int .i64 n.to,An 2 true n.nn (n.wants.map Ao.cells),.int .i64 n.cmd,.int .i64 n.after,.int .i64 n.st,.int .i64 n.ag,.int .i64 n.bits,.int .i64 n.com]] []=some (.ret (.bool (n.frm==n.st)),[]):=by
 (refine ce Tryd.func39 ?_;simp only[Tryd.f39];(have hb:=trivial;with_reducible repeat' (first|simp only[hb,Vc.down,seval,asP.down]|refine Dx ?_ ?_<;>intro hb|refine fd ?_|fail)))
theorem aa8(n:Nr):En.call (.fn 40) [.agg [.int .i64 n.frm,.int .i64 n.to,An 2 true n.nn (n.wants.map Ao.cells),.int .i64 n.cmd,.int .i64 n.after,.int .i64 n.st,.int .i64 n.ag,.int .i64 n.bits,.int .i64 n.com]] []=some (.ret (.bool (decide (n.after≤n.ag))),[]):=by
 (refine ce Tryd.func40 ?_;simp only[Tryd.f40];(have hb:=trivial;with_reducible repeat' (first|simp only[hb,Vc.down,seval,auX.down]|refine Dx ?_ ?_<;>intro hb|refine fd ?_|fail)))
theorem vJ(n:Nr):En.call (.fn 42) [.agg [.int .i64 n.frm,.int .i64 n.to,An 2 true n.nn (n.wants.map Ao.cells),.int .i64 n.cmd,.int .i64 n.after,.int .i64 n.st,.int .i64 n.ag,.int .i64 n.bits,.int .i64 n.com]] []=some (.ret (.bool (n.cmd== -1||n.cmd==n.com)),[]):=by
 (refine ce Tryd.func42 ?_;simp only[Tryd.f42];(have hb:=trivial;with_reducible repeat' (first|simp only[hb,Vc.down,seval,aAL.down]|refine Dx ?_ ?_<;>intro hb|refine fd ?_|fail)))
 all_goals simp_all
theorem iZ(n:Nr)(w:Ao)(h0:0≤w.vote):En.call (.fn 54) [.agg [.int .i64 w.vote,.bool w.is],.ptr 0 0 0] [.live 9 false false [[.int .i64 n.frm,.int .i64 n.to,An 2 true n.nn (n.wants.map Ao.cells),.int .i64 n.cmd,.int .i64 n.after,.int .i64 n.st,.int .i64 n.ag,.int .i64 n.bits,.int .i64 n.com]]]=some (.ret (.bool (!(cX n.bits w.vote==w.is))),[.live 9 false false [[.int .i64 n.frm,.int .i64 n.to,An 2 true n.nn (n.wants.map Ao.cells),.int .i64 n.cmd,.int .i64 n.after,.int .i64 n.st,.int .i64 n.ag,.int .i64 n.bits,.int .i64 n.com]]]):=by
 obtain⟨v,is⟩:=w
 obtain⟨k,hk⟩:∃k:Nat,v=k:=⟨v.toNat,by simp at h0;omega⟩
 subst hk
 (refine ce Tryd.func54 ?_;simp only[Tryd.f54];(have hb:=trivial;with_reducible repeat' (first|simp only[hb,Vc.down,seval,at0.down,vP]|refine Dx ?_ ?_<;>intro hb|refine fd ?_|fail)))
 all_goals simp[cX]
theorem dM{l:List Ao}{nn:Bool}{g:Nat}{ndq:Nr}{p:Ao→Bool}(hp:∀x∈l,En.call (.fn g) (.agg [.int .i64 x.vote,.bool x.is]::[.ptr 0 0 0]) [.live 9 false false [[.int .i64 ndq.frm,.int .i64 ndq.to,An 2 true ndq.nn (ndq.wants.map Ao.cells),.int .i64 ndq.cmd,.int .i64 ndq.after,.int .i64 ndq.st,.int .i64 ndq.ag,.int .i64 ndq.bits,.int .i64 ndq.com]]]=some (.ret (.bool (p x)),[.live 9 false false [[.int .i64 ndq.frm,.int .i64 ndq.to,An 2 true ndq.nn (ndq.wants.map Ao.cells),.int .i64 ndq.cmd,.int .i64 ndq.after,.int .i64 ndq.st,.int .i64 ndq.ag,.int .i64 ndq.bits,.int .i64 ndq.com]]]))(hl:l.length≤maxLen):
 En.call (.fn 60) [An 2 true nn (l.map Ao.cells),.func (.func g) [] [.ptr 0 0 0]] [.live 9 false false [[.int .i64 ndq.frm,.int .i64 ndq.to,An 2 true ndq.nn (ndq.wants.map Ao.cells),.int .i64 ndq.cmd,.int .i64 ndq.after,.int .i64 ndq.st,.int .i64 ndq.ag,.int .i64 ndq.bits,.int .i64 ndq.com]]]=some (.ret (.int .i64 (Zs p l 0)),[.live 9 false false [[.int .i64 ndq.frm,.int .i64 ndq.to,An 2 true ndq.nn (ndq.wants.map Ao.cells),.int .i64 ndq.cmd,.int .i64 ndq.after,.int .i64 ndq.st,.int .i64 ndq.ag,.int .i64 ndq.bits,.int .i64 ndq.com]]]):=by
 (refine ce Tryd.func60 ?_;simp only[Tryd.f60];(have hb:=trivial;with_reducible repeat' (first|simp only[hb,Vc.down,seval,Ya.down,abJ]|refine Dx ?_ ?_<;>intro hb|refine fd ?_|fail)))
 refine Lt (mN 19 l (fun i (s:Int) t h=>s=i∧h=[.live 9 false false [[.int .i64 ndq.frm,.int .i64 ndq.to,An 2 true ndq.nn (ndq.wants.map Ao.cells),.int .i64 ndq.cmd,.int .i64 ndq.after,.int .i64 ndq.st,.int .i64 ndq.ag,.int .i64 ndq.bits,.int .i64 ndq.com]]]∧t 0=An 2 true nn (l.map Ao.cells)∧t 1=.func (.func g) [] [.ptr 0 0 0]∧t 7=.int .i64 l.length∧t 8=.int .i64 i)
  (fun rest s=>Zs p rest s) (fun r e t h=>h=[.live 9 false false [[.int .i64 ndq.frm,.int .i64 ndq.to,An 2 true ndq.nn (ndq.wants.map Ao.cells),.int .i64 ndq.cmd,.int .i64 ndq.after,.int .i64 ndq.st,.int .i64 ndq.ag,.int .i64 ndq.bits,.int .i64 ndq.com]]]∧((e=.exit 0∧r= -1)∨(e=.ret∧t 4=.int .i64 r))) ?_ ?_ 0 _ _ ?_) (fun e t h hk=>?_)
 ·rintro s t h Q' kQ ⟨rfl,rfl,h0,h1,h7,h8⟩
  (have hb:=trivial;with_reducible repeat' (first|simp only[hb,Vc.down,seval,Ya.down,h0,h1,h7,h8,afC,decide_false]|refine Dx ?_ ?_<;>intro hb|refine fd ?_|fail))
  exact kQ _ _ _ ⟨rfl,.inl ⟨rfl,rfl⟩⟩
 ·rintro x rest i s t h J Q' kJ kQ hx hi ⟨rfl,rfl,h0,h1,h7,h8⟩
  have hpx:=hp x (afM hx)
  have hd:decide ((i:Int)<(l.length:Int))=true:=by simpa using hi
  (have hb:=trivial;with_reducible repeat' (first|simp only[hb,Vc.down,seval,Ya.down,h0,h1,h7,h8,hd,hx,Ao.cells,hpx,Dv hi hl]|refine Dx ?_ ?_<;>intro hb|refine fd ?_|fail))
  ·exact kQ _ _ _ ⟨rfl,.inr ⟨rfl,by simp[up,Zs,hb]⟩⟩
  ·exact Hj (kJ _ _ (i+1) ⟨by simp,rfl,by simp[up,h0],by simp[up,h1],by simp[up,h7],by simp[up]⟩ (by simp[Zs,hb]))
 ·exact⟨rfl,rfl,by simp[up,Hf],by simp[up,Hf],by simp[up],by simp[up]⟩
 ·obtain⟨rfl,⟨rfl,hi⟩|⟨rfl,hi⟩⟩:=hk
  ·(have hb:=trivial;with_reducible repeat' (first|simp only[hb,Vc.down,seval,Ya.down]|refine Dx ?_ ?_<;>intro hb|refine fd ?_|fail))
   rw[hi]
  ·(have hb:=trivial;with_reducible repeat' (first|simp only[hb,Vc.down,seval,Ya.down,hi]|refine Dx ?_ ?_<;>intro hb|refine fd ?_|fail))
theorem bQ{l:List Ao}{nn:Bool}{g:Nat}{ndq:Nr}{p:Ao→Bool}(hp:∀x∈l,En.call (.fn g) (.agg [.int .i64 x.vote,.bool x.is]::[.ptr 0 0 0]) [.live 9 false false [[.int .i64 ndq.frm,.int .i64 ndq.to,An 2 true ndq.nn (ndq.wants.map Ao.cells),.int .i64 ndq.cmd,.int .i64 ndq.after,.int .i64 ndq.st,.int .i64 ndq.ag,.int .i64 ndq.bits,.int .i64 ndq.com]]]=some (.ret (.bool (p x)),[.live 9 false false [[.int .i64 ndq.frm,.int .i64 ndq.to,An 2 true ndq.nn (ndq.wants.map Ao.cells),.int .i64 ndq.cmd,.int .i64 ndq.after,.int .i64 ndq.st,.int .i64 ndq.ag,.int .i64 ndq.bits,.int .i64 ndq.com]]]))(hl:l.length≤maxLen):
 En.call (.fn 53) [An 2 true nn (l.map Ao.cells),.func (.func g) [] [.ptr 0 0 0]] [.live 9 false false [[.int .i64 ndq.frm,.int .i64 ndq.to,An 2 true ndq.nn (ndq.wants.map Ao.cells),.int .i64 ndq.cmd,.int .i64 ndq.after,.int .i64 ndq.st,.int .i64 ndq.ag,.int .i64 ndq.bits,.int .i64 ndq.com]]]=some (.ret (.bool (l.any p)),[.live 9 false false [[.int .i64 ndq.frm,.int .i64 ndq.to,An 2 true ndq.nn (ndq.wants.map Ao.cells),.int .i64 ndq.cmd,.int .i64 ndq.after,.int .i64 ndq.st,.int .i64 ndq.ag,.int .i64 ndq.bits,.int .i64 ndq.com]]]):=by
 (refine ce Tryd.func53 ?_;simp only[Tryd.f53];(have hb:=trivial;with_reducible repeat' (first|simp only[hb,Vc.down,seval,dM hp hl,Qb p l 0 (anN 0)]|refine Dx ?_ ?_<;>intro hb|refine fd ?_|fail)))
def Zh(bits:Int)(l:List Ao):Bool:=l.all fun w=>cX bits w.vote==w.is
theorem oK(n:Nr)(hl:n.wants.length≤maxLen)(h0:∀w∈n.wants,0≤w.vote):En.call (.fn 41) [.agg [.int .i64 n.frm,.int .i64 n.to,An 2 true n.nn (n.wants.map Ao.cells),.int .i64 n.cmd,.int .i64 n.after,.int .i64 n.st,.int .i64 n.ag,.int .i64 n.bits,.int .i64 n.com]] []=some (.ret (.bool (Zh n.bits n.wants)),[]):=by
 have hc:=bQ (ndq:=n) (l:=n.wants) (nn:=n.nn) (g:=54) (p:=fun w=> !(cX n.bits w.vote==w.is)) (fun w hw=>iZ n w (h0 w hw)) hl
 have q1:Zh n.bits n.wants= !(n.wants.any fun w=> !(cX n.bits w.vote==w.is)):=aqO
 (refine ce Tryd.func41 ?_;simp only[Tryd.f41];(have hb:=trivial;with_reducible repeat' (first|simp only[hb,Vc.down,seval,ax0.down,hc]|refine Dx ?_ ?_<;>intro hb|refine fd ?_|fail)))
 all_goals simp[q1]
theorem zX(f0 f1 f2 f3:Fn)(a0 a1 a2 a3 c0 c1 c2 c3:List AV):Oh Tryd.prog 97 [(0,.func f0 a0 c0),(1,.func f1 a1 c1),(2,.func f2 a2 c2),(3,.func f3 a3 c3)]=some (.agg [.func f0 a0 c0,.func f1 a1 c1,.func f2 a2 c2,.func f3 a3 c3]):=by kernel_rfl
theorem tH(a b c d:AV):Le Tryd.prog 97 (.agg [a,b,c,d]) (.int .i64 0)=some a:=by kernel_rfl
theorem tG(a b c d:AV):Le Tryd.prog 97 (.agg [a,b,c,d]) (.int .i64 1)=some b:=by kernel_rfl
theorem tV(a b c d:AV):Le Tryd.prog 97 (.agg [a,b,c,d]) (.int .i64 2)=some c:=by kernel_rfl
theorem tJ(a b c d:AV):Le Tryd.prog 97 (.agg [a,b,c,d]) (.int .i64 3)=some d:=by kernel_rfl
def rM(n:Nr):Bool:=(n.frm==n.st)&&decide (n.after≤n.ag)&&Zh n.bits n.wants&&(n.cmd== -1||n.cmd==n.com)
theorem w2:IntKind.i64.wrap 2=2:=an1 rfl rfl
theorem w3:IntKind.i64.wrap 3=3:=an1 rfl rfl
theorem w4:IntKind.i64.wrap 4=4:=an1 rfl rfl
theorem fR(n:Nr)(hl:n.wants.length≤maxLen)(h0:∀w∈n.wants,0≤w.vote):En.call (.fn 24) [.agg [.int .i64 n.frm,.int .i64 n.to,An 2 true n.nn (n.wants.map Ao.cells),.int .i64 n.cmd,.int .i64 n.after,.int .i64 n.st,.int .i64 n.ag,.int .i64 n.bits,.int .i64 n.com]] []=some (.ret (.bool (rM n)),[]):=by
 have q1:=vC n
 have q2:=aa8 n
 have q3:=oK n hl h0
 have q4:=vJ n
 (refine ce Tryd.func24 ?_;simp only[Tryd.f24];(have hb:=trivial;with_reducible repeat' (first|simp only[hb,Vc.down,seval,abO.down,zX,tH,tG,tV,tJ,q1,q2,q3,q4,w2,w3,w4]|refine Dx ?_ ?_<;>intro hb|refine fd ?_|fail)))
 (have hb:=trivial;with_reducible repeat' (first|simp only[hb,Vc.down,seval,abO.down,zX,tH,tG,tV,tJ,q1,q2,q3,q4,w2,w3,w4]|refine Dx ?_ ?_<;>intro hb|refine fd ?_|refine zF ?_|fail))
 all_goals (refine congrArg (fun b=>(Dj.ret (AV.bool b),([]:Aa))) ?_;symm;((try simp only[aqU,akQ,amC]at *);simp only[rM, *,aqF,ao3,apA,apC,Bool.and_self,Bool.not_not,akQ,amC,List.all_cons,List.all_nil]))
def nd(x:Ax)(st ag bits com:Int):Nr:=⟨x.frm,x.to,x.nn,x.wants,x.cmd,x.after,st,ag,bits,com⟩
def vE(a:Int):Int:=if IntKind.i64.wrap (a+1)<10 then IntKind.i64.wrap (a+1)else 10
def Wi(st ag bits com:Int):List Ax→Int × Int
 | []=>(st,vE ag)
 |x::l=>if rM (nd x st ag bits com)=true then(x.to,0)else Wi st ag bits com l
theorem xB(m:Ek)(st ag bits com:Int)(hs:m.small)(h0:∀x∈m.moves,∀w∈x.wants,0≤w.vote):
 En.call (.fn 10) [.agg [An 3 true m.nS (m.sens.map Eh.cells),An 4 false m.nV (m.votes.map Bf.cells),An 5 false m.nM (m.moves.map Ax.cells),.int .i64 m.states,.int .i64 m.cmds,.int .i64 m.bgn,An 1 true m.nO (m.opn.map iv)],.agg [.int .i64 st,.int .i64 ag],.agg [.int .i64 bits,.int .i64 com]] []=some (.ret (.agg [.int .i64 (Wi st ag bits com m.moves).1,.int .i64 (Wi st ag bits com m.moves).2]),[]):=by
 (refine ce Tryd.func10 ?_;simp only[Tryd.f10];(have hb:=trivial;with_reducible repeat' (first|simp only[hb,Vc.down,seval,lF.down,abJ]|refine Dx ?_ ?_<;>intro hb|refine fd ?_|fail)))
 refine Lt (mN 32 m.moves (fun i (zz:Unit) t h=>t 4=.ptr 1 0 0∧t 5=.ptr 2 0 0∧t 6=.ptr 3 0 0∧t 10=An 5 false m.nM (m.moves.map Ax.cells)∧t 11=.int .i64 m.moves.length∧t 12=.int .i64 i∧(h[1]?=some (.live 2 true false [[.int .i64 st,.int .i64 ag]])∧h[2]?=some (.live 2 true false [[.int .i64 bits,.int .i64 com]])∧h[3]?=some (.live 2 true false [[.int .i64 0,.int .i64 0]]))) (fun rest zz=>Wi st ag bits com rest) (fun r e t h=>(e=.exit 0∧t 4=.ptr 1 0 0∧t 6=.ptr 3 0 0∧h[1]?=some (.live 2 true false [[.int .i64 st,.int .i64 ag]])∧h[3]?=some (.live 2 true false [[.int .i64 0,.int .i64 0]])∧r=(st,vE ag))∨(e=.ret∧t 6=.ptr 3 0 0∧h[3]?=some (.live 2 true true [[.int .i64 r.1,.int .i64 r.2]]))) ?_ ?_ () _ _ ?_) (fun e t h hk=>?_)
 ·rintro _ t h Q' kQ ⟨h4,h5,h6,h10,h11,h12,⟨hA,hB,hC⟩⟩
  (have hb:=trivial;with_reducible repeat' (first|simp only[hb,Vc.down,seval,lF.down,h4,h5,h6,h10,h11,h12,afC,decide_false]|refine Dx ?_ ?_<;>intro hb|refine fd ?_|fail))
  exact kQ _ _ _ (.inl ⟨rfl,by simp[up,h4],by simp[up,h6],hA,hC,rfl⟩)
 ·rintro x rest i _ t h J Q' kJ kQ hx hi ⟨h4,h5,h6,h10,h11,h12,⟨hA,hB,hC⟩⟩
  have hd:decide ((i:Int)<(m.moves.length:Int))=true:=decide_eq_true (by omega)
  have hw:=Dv hi hs.moves
  have hA1:=Em hA
  have hB1:=Em hB
  have hC1:=Em hC
  have hap:=fR (nd x st ag bits com) (hs.ws x (afM hx)) (h0 x (afM hx))
  have h3l:3<h.length:=(apR.1 hC).1
  generalize hq:rM (nd x st ag bits com)=q at hap
  simp only[nd]at hap
  (have hb:=trivial;with_reducible repeat' (first|simp only[hb,Vc.down,seval,lF.down,h4,h5,h6,h10,h11,h12,hd,hx,hw,hA1,hB1,hC1,hap,Ax.cells,abJ]|refine Dx ?_ ?_<;>intro hb|refine fd ?_|fail))
  ·exact kQ _ _ _ (.inr ⟨rfl,by simp[up,h6],by rw[arJ (by simp;omega)];simp[Wi,hq,hb]⟩)
  ·(refine Hj (kJ _ _ () ⟨?_,?_,?_,?_,?_,?_,⟨hA1 _,hB1 _,hC1 _⟩⟩ ?_);(simp[up,h4]);(simp[up,h5]);(simp[up,h6]);(simp[up,h10]);(simp[up,h11]);(simp[up]);(simp[Wi,hq,hb]))
 ·exact⟨by simp[up,Hf],by simp[up,Hf],by simp[up,Hf],by simp[up,Hf],by simp[up,Hf],by simp[up],⟨rfl,rfl,rfl⟩⟩
 rcases hk with⟨rfl,h4,h6,hA,hC,hr⟩|⟨rfl,h6,hC⟩
 ·have hA1:=Em hA
  have hC1:=Em hC
  have h3l:3<h.length:=(apR.1 hC).1
  have hset:∀c:CB,(h.set 3 c)[3]?=some c:=fun c=>arJ h3l
  have hmt:(if IntKind.i64.wrap (ag+1)<10 then IntKind.i64.wrap (ag+1)else 10)=vE ag:=rfl
  rw[hr]
  (have hb:=trivial;with_reducible repeat' (first|simp only[hb,Vc.down,seval,lF.down,h4,h6,hA,hC,hA1,hC1,hset,hmt]|refine Dx ?_ ?_<;>intro hb|refine fd ?_|fail))
 ·(have hb:=trivial;with_reducible repeat' (first|simp only[hb,Vc.down,seval,lF.down,h6,hC]|refine Dx ?_ ?_<;>intro hb|refine fd ?_|fail))
end Go.Proofs.YtfkokgjfpojeoaaDoor
