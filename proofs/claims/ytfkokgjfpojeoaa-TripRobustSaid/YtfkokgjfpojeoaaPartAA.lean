/- The functions of the layer, walked. -/
import Derived.Test.YtfkokgjfpojeoaaLibD
import Derived.Test.YtfkokgjfpojeoaaChecked
import Derived.Test.YtfkokgjfpojeoaaRows
import Derived.ProofKit
import Derived.LaidMore
import Derived.OpenShut
open And renaming intro→aaG
open List renaming length_map→aaH,mem_of_getElem?→aaL,getElem?_eq_getElem→aaU,take_add_one→aa1,all_eq_not_any_not→aa6
open Int renaming lt_irrefl→aaI,le_refl→aaP,natCast_zero→aaT
open Bool renaming eq_false_iff→aaK,not_true→aaM,not_false→aaN,true_and→aaO,false_and→aaQ,and_true→aaR,and_false→aaS,not_eq_eq_eq_not→aa2,and_eq_true→aa4
open Nat renaming add_sub_cancel→aaZ
set_option linter.unusedSimpArgs false
set_option linter.unusedVariables false
namespace Go.Proofs.Ytfkokgjfpojeoaa
open Go.Ev
set_option maxRecDepth 100000
theorem Iz(h:Aa)(b r o:Nat):ld Try.prog 27 h (some (.ptr b r o))=rY (Jx (h[b]?) r) o 7:=Ze ⟨by kernel_rfl,by kernel_rfl⟩ h b r o
theorem Gj(h:Aa)(b r o:Nat):ld Try.prog 25 h (some (.ptr b r o))=oR (Jx (h[b]?) r) o:=Xj ⟨by kernel_rfl,1,by kernel_rfl⟩ h b r o
theorem dW(h:Aa)(c:AV)(cs:List AV):ld Try.prog 25 h (some (.iptr (c::cs)))=some (.ret c,[]):=fL ⟨by kernel_rfl,1,by kernel_rfl⟩ h c cs
theorem Fo(fl nn:Bool)(rows:List (List AV)):ln Try.prog 25 (some (Ag 1 fl nn rows))=some (.ret (.int .i64 rows.length),[]):=Xk ⟨_,Try.underlying25,by kernel_rfl⟩ fl nn rows
theorem Jh(b r o:Nat):fa Try.prog 27 (some (.ptr b r o)) 3=some (.ret (.ptr b r (o+3)),[]):=Br (show Db Try.prog 27 3 3 1 from⟨_,_,Try.underlying27,rfl,rfl,by kernel_rfl,by decide⟩) b r o
theorem Cb(h:Aa)(b r o:Nat):ld Try.prog 3 h (some (.ptr b r o))=oR (Jx (h[b]?) r) o:=Xj ⟨by kernel_rfl,1,by kernel_rfl⟩ h b r o
theorem Gs(h:Aa)(c:AV)(cs:List AV):ld Try.prog 3 h (some (.iptr (c::cs)))=some (.ret c,[]):=fL ⟨by kernel_rfl,1,by kernel_rfl⟩ h c cs
theorem Dy(b r o:Nat):fa Try.prog 27 (some (.ptr b r o)) 1=some (.ret (.ptr b r (o+1)),[]):=Br (show Db Try.prog 27 1 1 1 from⟨_,_,Try.underlying27,rfl,rfl,by kernel_rfl,by decide⟩) b r o
theorem Em(h:Aa)(b r o:Nat):ld Try.prog 23 h (some (.ptr b r o))=oR (Jx (h[b]?) r) o:=Xj ⟨by kernel_rfl,1,by kernel_rfl⟩ h b r o
theorem Gt(fl nn:Bool)(rows:List (List AV)):ln Try.prog 23 (some (Ag 4 fl nn rows))=some (.ret (.int .i64 rows.length),[]):=Xk ⟨_,Try.underlying23,by kernel_rfl⟩ fl nn rows
theorem Ip(fl nn:Bool)(rows:List (List AV))(k:IntKind)(i:Int):ia Try.prog 23 (some (Ag 4 fl nn rows)) (some (.int k i))=if 0≤i then r1 ((rows[i.toNat]?).map .iptr)else none:=Wv ⟨_,Try.underlying23,by kernel_rfl⟩ fl nn rows k i
theorem Wy(h:Aa)(b r o:Nat):ld Try.prog 48 h (some (.ptr b r o))=rY (Jx (h[b]?) r) o 4:=Ze ⟨by kernel_rfl,by kernel_rfl⟩ h b r o
theorem Ir(h:Aa)(cs:List AV):ld Try.prog 48 h (some (.iptr cs))=if 4≤cs.length then some (.ret (.agg (cs.take 4)),[])else none:=fQ ⟨by kernel_rfl,by kernel_rfl⟩ h cs
theorem Rb:Is Try.prog 48=some (.agg [.nils,.int .i64 0,.int .i64 0,.bool false]):=by kernel_rfl
theorem Sj(h:Aa)(b r o:Nat)(v:AV):pO Try.prog 48 h (some (.ptr b r o)) (some v)=sv 4 (h[b]?) b r o (Aj v):=Wc (by kernel_rfl) h b r o v
theorem Hw(b r o:Nat):fa Try.prog 48 (some (.ptr b r o)) 0=some (.ret (.ptr b r (o+0)),[]):=Br (show Db Try.prog 48 0 0 1 from⟨_,_,Try.underlying48,rfl,rfl,by kernel_rfl,by decide⟩) b r o
theorem aS(cs:List AV):fa Try.prog 48 (some (.iptr cs)) 0=if 0+1≤cs.length then some (.ret (.iptr (cs.drop 0)),[])else none:=Vn (show Db Try.prog 48 0 0 1 from⟨_,_,Try.underlying48,rfl,rfl,by kernel_rfl,by decide⟩) cs
theorem Hk(fl nn:Bool)(rows:List (List AV))(k:IntKind)(i:Int):ia Try.prog 25 (some (Ag 1 fl nn rows)) (some (.int k i))=if 0≤i then r1 ((rows[i.toNat]?).map .iptr)else none:=Wv ⟨_,Try.underlying25,by kernel_rfl⟩ fl nn rows k i
theorem Gq(b r o:Nat):fa Try.prog 27 (some (.ptr b r o)) 0=some (.ret (.ptr b r (o+0)),[]):=Br (show Db Try.prog 27 0 0 1 from⟨_,_,Try.underlying27,rfl,rfl,by kernel_rfl,by decide⟩) b r o
theorem Hj(h:Aa)(b r o:Nat):ld Try.prog 22 h (some (.ptr b r o))=oR (Jx (h[b]?) r) o:=Xj ⟨by kernel_rfl,1,by kernel_rfl⟩ h b r o
theorem Jy(fl nn:Bool)(rows:List (List AV))(k:IntKind)(i:Int):ia Try.prog 22 (some (Ag 3 fl nn rows)) (some (.int k i))=if 0≤i then r1 ((rows[i.toNat]?).map .iptr)else none:=Wv ⟨_,Try.underlying22,by kernel_rfl⟩ fl nn rows k i
theorem Qj(h:Aa)(cs:List AV):ld Try.prog 50 h (some (.iptr cs))=if 3≤cs.length then some (.ret (.agg (cs.take 3)),[])else none:=fQ ⟨by kernel_rfl,by kernel_rfl⟩ h cs
theorem aZ:Is Try.prog 50=some (.agg [.int .i64 0,.int .i64 0,.bool false]):=by kernel_rfl
theorem dA(h:Aa)(b r o:Nat)(v:AV):pO Try.prog 50 h (some (.ptr b r o)) (some v)=sv 3 (h[b]?) b r o (Aj v):=Wc (by kernel_rfl) h b r o v
theorem cI(b r o:Nat):fa Try.prog 50 (some (.ptr b r o)) 2=some (.ret (.ptr b r (o+2)),[]):=Br (show Db Try.prog 50 2 2 1 from⟨_,_,Try.underlying50,rfl,rfl,by kernel_rfl,by decide⟩) b r o
theorem Um(cs:List AV):fa Try.prog 50 (some (.iptr cs)) 2=if 2+1≤cs.length then some (.ret (.iptr (cs.drop 2)),[])else none:=Vn (show Db Try.prog 50 2 2 1 from⟨_,_,Try.underlying50,rfl,rfl,by kernel_rfl,by decide⟩) cs
theorem Zi(h:Aa)(b r o:Nat):ld Try.prog 4 h (some (.ptr b r o))=oR (Jx (h[b]?) r) o:=Xj ⟨by kernel_rfl,1,by kernel_rfl⟩ h b r o
theorem Yy(h:Aa)(c:AV)(cs:List AV):ld Try.prog 4 h (some (.iptr (c::cs)))=some (.ret c,[]):=fL ⟨by kernel_rfl,1,by kernel_rfl⟩ h c cs
theorem Nn(b r o:Nat):fa Try.prog 50 (some (.ptr b r o)) 0=some (.ret (.ptr b r (o+0)),[]):=Br (show Db Try.prog 50 0 0 1 from⟨_,_,Try.underlying50,rfl,rfl,by kernel_rfl,by decide⟩) b r o
theorem Oc(b r o:Nat):fa Try.prog 50 (some (.ptr b r o)) 1=some (.ret (.ptr b r (o+1)),[]):=Br (show Db Try.prog 50 1 1 1 from⟨_,_,Try.underlying50,rfl,rfl,by kernel_rfl,by decide⟩) b r o
theorem cM(b r o:Nat):fa Try.prog 48 (some (.ptr b r o)) 3=some (.ret (.ptr b r (o+3)),[]):=Br (show Db Try.prog 48 3 3 1 from⟨_,_,Try.underlying48,rfl,rfl,by kernel_rfl,by decide⟩) b r o
theorem Ni(b r o:Nat):fa Try.prog 48 (some (.ptr b r o)) 2=some (.ret (.ptr b r (o+2)),[]):=Br (show Db Try.prog 48 2 2 1 from⟨_,_,Try.underlying48,rfl,rfl,by kernel_rfl,by decide⟩) b r o
theorem Hz(b r o:Nat):fa Try.prog 48 (some (.ptr b r o)) 1=some (.ret (.ptr b r (o+1)),[]):=Br (show Db Try.prog 48 1 1 1 from⟨_,_,Try.underlying48,rfl,rfl,by kernel_rfl,by decide⟩) b r o
theorem Tt(fl nn:Bool)(rows:List (List AV)):ln Try.prog 22 (some (Ag 3 fl nn rows))=some (.ret (.int .i64 rows.length),[]):=Xk ⟨_,Try.underlying22,by kernel_rfl⟩ fl nn rows
theorem Jd(b r o:Nat):fa Try.prog 27 (some (.ptr b r o)) 2=some (.ret (.ptr b r (o+2)),[]):=Br (show Db Try.prog 27 2 2 1 from⟨_,_,Try.underlying27,rfl,rfl,by kernel_rfl,by decide⟩) b r o
theorem Lc(h:Aa)(b r o:Nat):ld Try.prog 24 h (some (.ptr b r o))=oR (Jx (h[b]?) r) o:=Xj ⟨by kernel_rfl,1,by kernel_rfl⟩ h b r o
theorem Ju(fl nn:Bool)(rows:List (List AV)):ln Try.prog 24 (some (Ag 5 fl nn rows))=some (.ret (.int .i64 rows.length),[]):=Xk ⟨_,Try.underlying24,by kernel_rfl⟩ fl nn rows
theorem nW:Is Try.prog 56=some (.agg [.int .i64 0,.bool false]):=by kernel_rfl
theorem nD:Is Try.prog 59=some (.agg [.int .i64 0,.int .i64 0,.nils,.int .i64 0,.int .i64 0]):=by kernel_rfl
theorem Vd(b r o:Nat):fa Try.prog 27 (some (.ptr b r o)) 5=some (.ret (.ptr b r (o+5)),[]):=Br (show Db Try.prog 27 5 5 1 from⟨_,_,Try.underlying27,rfl,rfl,by kernel_rfl,by decide⟩) b r o
theorem Pe(fl nn:Bool)(rows:List (List AV))(k:IntKind)(i:Int):ia Try.prog 24 (some (Ag 5 fl nn rows)) (some (.int k i))=if 0≤i then r1 ((rows[i.toNat]?).map .iptr)else none:=Wv ⟨_,Try.underlying24,by kernel_rfl⟩ fl nn rows k i
theorem Oh(b r o:Nat):fa Try.prog 59 (some (.ptr b r o)) 2=some (.ret (.ptr b r (o+2)),[]):=Br (show Db Try.prog 59 2 2 1 from⟨_,_,Try.underlying59,rfl,rfl,by kernel_rfl,by decide⟩) b r o
theorem bP(cs:List AV):fa Try.prog 59 (some (.iptr cs)) 2=if 2+1≤cs.length then some (.ret (.iptr (cs.drop 2)),[])else none:=Vn (show Db Try.prog 59 2 2 1 from⟨_,_,Try.underlying59,rfl,rfl,by kernel_rfl,by decide⟩) cs
theorem Qf(h:Aa)(b r o:Nat):ld Try.prog 57 h (some (.ptr b r o))=oR (Jx (h[b]?) r) o:=Xj ⟨by kernel_rfl,1,by kernel_rfl⟩ h b r o
theorem eB(h:Aa)(c:AV)(cs:List AV):ld Try.prog 57 h (some (.iptr (c::cs)))=some (.ret c,[]):=fL ⟨by kernel_rfl,1,by kernel_rfl⟩ h c cs
theorem Ox(fl nn:Bool)(rows:List (List AV)):ln Try.prog 57 (some (Ag 2 fl nn rows))=some (.ret (.int .i64 rows.length),[]):=Xk ⟨_,Try.underlying57,by kernel_rfl⟩ fl nn rows
theorem Oq(b r o:Nat):fa Try.prog 27 (some (.ptr b r o)) 6=some (.ret (.ptr b r (o+6)),[]):=Br (show Db Try.prog 27 6 6 1 from⟨_,_,Try.underlying27,rfl,rfl,by kernel_rfl,by decide⟩) b r o
theorem jG(ps:List (Nat × AV)):Qm Try.prog 86 ps=(Ic (fun i=>([(0,1),(1,1)]:List (Nat × Nat))[i]?) (Aj (.agg [.int .i64 0,.int .i64 0])) ps).map .agg:=by kernel_rfl
theorem lP:Is Try.prog 86=some (.agg [.int .i64 0,.int .i64 0]):=by kernel_rfl
theorem oI(h:Aa)(b r o:Nat)(v:AV):pO Try.prog 86 h (some (.ptr b r o)) (some v)=sv 2 (h[b]?) b r o (Aj v):=Wc (by kernel_rfl) h b r o v
theorem Uy(b r o:Nat):fa Try.prog 86 (some (.ptr b r o)) 0=some (.ret (.ptr b r (o+0)),[]):=Br (show Db Try.prog 86 0 0 1 from⟨_,_,Try.underlying86,rfl,rfl,by kernel_rfl,by decide⟩) b r o
theorem Uz(b r o:Nat):fa Try.prog 86 (some (.ptr b r o)) 1=some (.ret (.ptr b r (o+1)),[]):=Br (show Db Try.prog 86 1 1 1 from⟨_,_,Try.underlying86,rfl,rfl,by kernel_rfl,by decide⟩) b r o
theorem Jg(b r o:Nat):fa Try.prog 27 (some (.ptr b r o)) 4=some (.ret (.ptr b r (o+4)),[]):=Br (show Db Try.prog 27 4 4 1 from⟨_,_,Try.underlying27,rfl,rfl,by kernel_rfl,by decide⟩) b r o
theorem Xg(h:Aa)(b r o:Nat):ld Try.prog 59 h (some (.ptr b r o))=rY (Jx (h[b]?) r) o 5:=Ze ⟨by kernel_rfl,by kernel_rfl⟩ h b r o
theorem Qq(h:Aa)(cs:List AV):ld Try.prog 59 h (some (.iptr cs))=if 5≤cs.length then some (.ret (.agg (cs.take 5)),[])else none:=fQ ⟨by kernel_rfl,by kernel_rfl⟩ h cs
theorem Nw(b r o:Nat):fa Try.prog 59 (some (.ptr b r o)) 1=some (.ret (.ptr b r (o+1)),[]):=Br (show Db Try.prog 59 1 1 1 from⟨_,_,Try.underlying59,rfl,rfl,by kernel_rfl,by decide⟩) b r o
theorem eA(h:Aa)(b r o:Nat):ld Try.prog 86 h (some (.ptr b r o))=rY (Jx (h[b]?) r) o 2:=Ze ⟨by kernel_rfl,by kernel_rfl⟩ h b r o
theorem lF(h:Aa)(b r o:Nat)(v:AV):pO Try.prog 59 h (some (.ptr b r o)) (some v)=sv 5 (h[b]?) b r o (Aj v):=Wc (by kernel_rfl) h b r o v
theorem dM(h:Aa)(b r o:Nat):ld Try.prog 90 h (some (.ptr b r o))=rY (Jx (h[b]?) r) o 2:=Ze ⟨by kernel_rfl,by kernel_rfl⟩ h b r o
theorem eN(ps:List (Nat × AV)):Qm Try.prog 126 ps=(Ic (fun i=>([(0,5),(5,2),(7,2)]:List (Nat × Nat))[i]?) (Aj (.agg [.int .i64 0,.int .i64 0,.nils,.int .i64 0,.int .i64 0,.int .i64 0,.int .i64 0,.int .i64 0,.int .i64 0])) ps).map .agg:=by kernel_rfl
theorem Td(fl nn:Bool)(rows:List (List AV))(k:IntKind)(i:Int):ia Try.prog 57 (some (Ag 2 fl nn rows)) (some (.int k i))=if 0≤i then r1 ((rows[i.toNat]?).map .iptr)else none:=Wv ⟨_,Try.underlying57,by kernel_rfl⟩ fl nn rows k i
theorem Nj(b r o:Nat):fa Try.prog 56 (some (.ptr b r o)) 0=some (.ret (.ptr b r (o+0)),[]):=Br (show Db Try.prog 56 0 0 1 from⟨_,_,Try.underlying56,rfl,rfl,by kernel_rfl,by decide⟩) b r o
theorem bX(cs:List AV):fa Try.prog 56 (some (.iptr cs)) 0=if 0+1≤cs.length then some (.ret (.iptr (cs.drop 0)),[])else none:=Vn (show Db Try.prog 56 0 0 1 from⟨_,_,Try.underlying56,rfl,rfl,by kernel_rfl,by decide⟩) cs
theorem Np(b r o:Nat):fa Try.prog 59 (some (.ptr b r o)) 0=some (.ret (.ptr b r (o+0)),[]):=Br (show Db Try.prog 59 0 0 1 from⟨_,_,Try.underlying59,rfl,rfl,by kernel_rfl,by decide⟩) b r o
theorem Nx(b r o:Nat):fa Try.prog 59 (some (.ptr b r o)) 3=some (.ret (.ptr b r (o+3)),[]):=Br (show Db Try.prog 59 3 3 1 from⟨_,_,Try.underlying59,rfl,rfl,by kernel_rfl,by decide⟩) b r o
theorem Oj(b r o:Nat):fa Try.prog 59 (some (.ptr b r o)) 4=some (.ret (.ptr b r (o+4)),[]):=Br (show Db Try.prog 59 4 4 1 from⟨_,_,Try.underlying59,rfl,rfl,by kernel_rfl,by decide⟩) b r o
theorem bT(b r o:Nat):fa Try.prog 56 (some (.ptr b r o)) 1=some (.ret (.ptr b r (o+1)),[]):=Br (show Db Try.prog 56 1 1 1 from⟨_,_,Try.underlying56,rfl,rfl,by kernel_rfl,by decide⟩) b r o
theorem aX(b r o:Nat):fa Try.prog 90 (some (.ptr b r o)) 0=some (.ret (.ptr b r (o+0)),[]):=Br (show Db Try.prog 90 0 0 1 from⟨_,_,Try.underlying90,rfl,rfl,by kernel_rfl,by decide⟩) b r o
theorem Xq(h:Aa)(cs:List AV):ld Try.prog 56 h (some (.iptr cs))=if 2≤cs.length then some (.ret (.agg (cs.take 2)),[])else none:=fQ ⟨by kernel_rfl,by kernel_rfl⟩ h cs
theorem kM(h:Aa)(b r o:Nat)(v:AV):pO Try.prog 56 h (some (.ptr b r o)) (some v)=sv 2 (h[b]?) b r o (Aj v):=Wc (by kernel_rfl) h b r o v
theorem Ux(h:Aa)(b r o:Nat):ld Try.prog 126 h (some (.ptr b r o))=rY (Jx (h[b]?) r) o 9:=Ze ⟨by kernel_rfl,by kernel_rfl⟩ h b r o
theorem Ii(b r o:Nat):fa Try.prog 126 (some (.ptr b r o)) 0=some (.ret (.ptr b r (o+0)),[]):=Br (show Db Try.prog 126 0 0 5 from⟨_,_,Try.underlying126,rfl,rfl,by kernel_rfl,by decide⟩) b r o
theorem Qu(b r o:Nat):fa Try.prog 126 (some (.ptr b r o)) 1=some (.ret (.ptr b r (o+5)),[]):=Br (show Db Try.prog 126 1 5 2 from⟨_,_,Try.underlying126,rfl,rfl,by kernel_rfl,by decide⟩) b r o
theorem Sv(b r o:Nat):fa Try.prog 126 (some (.ptr b r o)) 2=some (.ret (.ptr b r (o+7)),[]):=Br (show Db Try.prog 126 2 7 2 from⟨_,_,Try.underlying126,rfl,rfl,by kernel_rfl,by decide⟩) b r o
theorem bA(b r o:Nat):fa Try.prog 90 (some (.ptr b r o)) 1=some (.ret (.ptr b r (o+1)),[]):=Br (show Db Try.prog 90 1 1 1 from⟨_,_,Try.underlying90,rfl,rfl,by kernel_rfl,by decide⟩) b r o
def zH:=PLift.up (aaG @Iz (aaG @Dy (aaG @Em @Gt)))
def Wx:=PLift.up (aaG @Dy (aaG @Em (aaG @Gt (aaG @Ip (aaG @aS (aaG @Gj (aaG @dW (aaG @Fo (aaG @Jd (aaG @Lc (aaG @Ju (aaG @Pe (aaG @bP (aaG @eB (aaG @Ox (aaG @Gq (aaG @Hj (aaG @Tt @Oq))))))))))))))))))
def Na:=PLift.up (aaG @Gq (aaG @Hj (aaG @Tt (aaG @Jy (aaG @Qj (aaG @aZ (aaG @dA (aaG @Nn (aaG @Cb (aaG @Gs (aaG @Oc (aaG @Dy (aaG @Em (aaG @Gt (aaG @Ip (aaG @Ir (aaG @Jh (aaG @Jg (aaG @Vd (aaG @Oq (aaG @Gj (aaG @Fo (aaG @Jd (aaG @Lc (aaG @Ju (aaG @Hk (aaG @Iz (aaG @Pe @Qq))))))))))))))))))))))))))))
def cU:=PLift.up (aaG @Iz (aaG @Dy (aaG @Em (aaG @Gt (aaG @Ip (aaG @Ir (aaG @Rb (aaG @Sj (aaG @Hw (aaG @Gj (aaG @Fo (aaG @Hk (aaG @Cb (aaG @Gs (aaG @Gq (aaG @Hj (aaG @Jy (aaG @Um (aaG @Yy @Hz)))))))))))))))))))
def abP:=PLift.up (aaG @Dy (aaG @Em (aaG @Ip (aaG @Wy (aaG @Ir (aaG @Rb (aaG @Sj (aaG @Iz (aaG @Hz @Cb)))))))))
def Yj:=PLift.up (aaG @Gq (aaG @Hj (aaG @Tt (aaG @Dy (aaG @Em (aaG @Gt (aaG @Jd (aaG @Lc (aaG @Ju (aaG @Jh (aaG @Cb (aaG @Jg (aaG @Vd (aaG @Oq (aaG @Gj (aaG @Fo (aaG @Jy (aaG @Qj (aaG @aZ (aaG @dA (aaG @Nn (aaG @Oc (aaG @Ip (aaG @Ir (aaG @Rb (aaG @Sj (aaG @Hw (aaG @Hz @Ni))))))))))))))))))))))))))))
def jZ:=PLift.up (aaG @eA (aaG @lP (aaG @Jd (aaG @Lc (aaG @Ju (aaG @Pe (aaG @Xg (aaG @Qq (aaG @nD (aaG @lF (aaG @dM (aaG @eN (aaG @Nw (aaG @Cb (aaG @jG (aaG @oI (aaG @Uy @Uz)))))))))))))))))
def dU:=PLift.up (aaG @Dy (aaG @Em (aaG @Gt (aaG @Ip (aaG @Wy (aaG @Ir (aaG @Rb (aaG @Sj (aaG @Hw (aaG @Gj (aaG @Fo (aaG @Hk (aaG @Cb (aaG @Gs (aaG @Gq (aaG @Hj (aaG @Jy (aaG @Qj @Hz))))))))))))))))))
def gB:=PLift.up (aaG @Hw (aaG @Gj (aaG @Fo (aaG @Hk (aaG @Cb (aaG @Gs (aaG @Hz @Ni)))))))
def Xx:=PLift.up (aaG @Oh (aaG @Qf (aaG @Ox (aaG @Td (aaG @bX (aaG @Cb (aaG @Gs (aaG @Dy (aaG @Em (aaG @Gt (aaG @Np (aaG @Jh (aaG @Nw (aaG @Nx (aaG @Jg @Oj)))))))))))))))
def mH:=PLift.up (aaG @Hw (aaG @Gj (aaG @Fo (aaG @Gq (aaG @Hj (aaG @Hk (aaG @Gs (aaG @Jy (aaG @Um @Yy)))))))))
def iJ:=PLift.up (aaG @Fo (aaG @Hk @Gs))
def abR:=PLift.up (aaG @Iz @Xg)
def eF:=PLift.up (aaG @Oh (aaG @Qf (aaG @Ox (aaG @Td (aaG @Xq (aaG @nW (aaG @kM (aaG @Nj (aaG @Cb (aaG @Dy (aaG @Em (aaG @Gt (aaG @Np (aaG @Jh (aaG @Nw (aaG @Nx (aaG @Jg @Oj)))))))))))))))))
def xU:=PLift.up (aaG @Ux @Ux)
def abJ:=PLift.up (aaG @cI (aaG @Zi (aaG @Nn (aaG @Cb (aaG @Oc (aaG @cM @Ni))))))
def mG:=PLift.up (aaG @Ju (aaG @Pe @Qq))
def abC:=PLift.up (aaG @Nj @Cb)
def mU:=PLift.up (aaG @Fo (aaG @Hk @Gs))
def aaY:=PLift.up (aaG @Ii (aaG @Np (aaG @Cb (aaG @Qu @Uy))))
def aa0:=PLift.up (aaG @Ii (aaG @Oj (aaG @Cb (aaG @Qu @Uz))))
def aa3:=PLift.up (aaG @Ii (aaG @Oh @Qf))
def aaX:=PLift.up (aaG @Ii (aaG @Nx (aaG @Cb (aaG @Sv @bA))))
def Ym:=PLift.up (aaG @Ox (aaG @Td @Xq))
def abE:=PLift.up (aaG @Sv (aaG @aX (aaG @Cb (aaG @Nj (aaG @bT @Zi)))))
end Go.Proofs.Ytfkokgjfpojeoaa
namespace Go.Proofs.Ytfkokgjfpojeoaa
open Go Go.Ev Go.ChangeShapes Go.WideShapes Go.ChangeAt Go.RowKit
set_option maxRecDepth 100000
set_option maxHeartbeats 16000000
def mdL:List Nat:=[96,100,102,83]
def pr:Et:=⟨fun _=>none,(mdL.contains ·)⟩
noncomputable def Ez:Dm:=om Try.prog pr
def Va:=PLift.up (aaG EE.down EE.down)
def Vc:=PLift.up (aaG EG.down EVu.down)
theorem aaV{C:R→Prop}[oW C]{n:Nat}{k:List Ah}{c:Code}{s:St}(h:Un Ez Try.prog n k c C (Bg Ez Try.prog 5000 c [] s)):C (sH Ez Try.prog n k (Ez.loop c s)):=xR (pr:=pr) h
theorem own:ownKnob Try.prog.godebug=none:=by kernel_rfl
theorem aa5:iC Try.prog:=fun f fn hf=>by
 have h:(Try.prog.funcs.toList.all fun fn=> !(fn.name== "runtime.NumGoroutine"))=true:=by kernel_rfl
 have:=List.all_eq_true.1 h fn (by rw[Array.mem_toList_iff];exact Array.mem_of_getElem? hf)
 simpa using this
theorem zF:Try.prog.follows .mixedOrders=true:=by kernel_rfl
theorem pJ:laidOutB Try.prog=true:=by kernel_rfl
theorem mN:Dx Try.prog (fun _=>none) Ez:=zJ aa5 (fun f p h=>by cases h) zF
theorem wG{W:World}{S:Nat→Prop}:Uw (fun _=>none) W S:=fun b o h=>by cases h
theorem abH{f:Nat}{fn:Func}{c:Code}{args:List AV}{h:Aa}{Q:Dz→Aa→Prop}(hp:pr f=none)(hf:Try.prog.funcs[f]?=some fn)(hb:fn.body=some c)(hl:Nat.ble args.length fn.ntmps=true)
 (he:wZ Try.prog h.length fn.results.toList Q (Bg Ez Try.prog 5000 c [] ⟨mk fn.ntmps (Eu args),h⟩)):wW Ez f args h Q:=wW.start (pr:=pr) hp hf hb hl he
theorem ce{f:Nat}{fn:Func}{c:Code}{args:List AV}{h:Aa}{o:Dz}{h':Aa}(hf:Try.prog.funcs[f]?=some fn)(he:wZ Try.prog h.length fn.results.toList (fun o1 h1=>(o1,h1)=(o,h')) (Bg Ez Try.prog 5000 c [] ⟨mk fn.ntmps (Eu args),h⟩))(hp:pr f=none:=by exact rfl)(hb:fn.body=some c:=by exact rfl)(hl:Nat.ble args.length fn.ntmps=true:=by exact rfl):Ez.call (.fn f) args h=some (o,h'):=(abH hp hf hb hl he).eq
theorem Ye{α σ ρ:Type}{c:Code}(N:Nat)(l:List α)(E:Nat→σ→Tm→Aa→Prop)(F:List α→σ→ρ)(Q:ρ→Ex→Tm→Aa→Prop)
 (stop:∀s t h Q',(∀e t h,Q (F [] s) e t h→Q' e ⟨mk N t,h⟩)→E l.length s t h→jB N (fun _ _=>False) Q' (Bg Ez Try.prog 5000 c [] ⟨mk N t,h⟩))
 (go:∀x rest i s t h J Q',(∀t' h' s',E (i+1) s' t' h'→F rest s'=F (x::rest) s→J t' h')→(∀e t h,Q (F (x::rest) s) e t h→Q' e ⟨mk N t,h⟩)→l[i]?=some x→i<l.length→E i s t h→
   jB N J Q' (Bg Ez Try.prog 5000 c [] ⟨mk N t,h⟩)):
 ∀s t h,E 0 s t h→oY Ez c ⟨mk N t,h⟩ (Ot N (Q (F l s))):=iR (pr:=pr) rfl N l E F Q stop go
def iv(x:Int):List AV:=[.int .i64 x]
theorem Bo{h:Aa}{b:Nat}{c:CB}(h0:h[b]?=some c)(l:Aa):(h++l)[b]?=some c:=by
 rw[List.getElem?_append_left (List.getElem?_eq_some_iff.1 h0).1];exact h0
end Go.Proofs.Ytfkokgjfpojeoaa
namespace Go.Proofs.Ytfkokgjfpojeoaa
open Go.Ev Go
set_option maxRecDepth 100000
set_option maxHeartbeats 16000000
structure Bd where
 lo:Int
 hi:Int
 byp:Bool
def Bd.cells(s:Bd):List AV:=[.int .i64 s.lo,.int .i64 s.hi,.bool s.byp]
structure Ak where
 nn:Bool
 sens:List Int
 need:Int
 level:Int
 above:Bool
def Ak.cells(v:Ak):List AV:=[Ag 1 true v.nn (v.sens.map iv),.int .i64 v.need,.int .i64 v.level,.bool v.above]
structure An where
 vote:Int
 is:Bool
def An.cells(w:An):List AV:=[.int .i64 w.vote,.bool w.is]
structure Am where
 frm:Int
 to:Int
 nn:Bool
 wants:List An
 cmd:Int
 after:Int
def Am.cells(x:Am):List AV:=[.int .i64 x.frm,.int .i64 x.to,Ag 2 true x.nn (x.wants.map An.cells),.int .i64 x.cmd,.int .i64 x.after]
structure Ba where
 nS:Bool
 sens:List Bd
 nV:Bool
 votes:List Ak
 nM:Bool
 moves:List Am
 states:Int
 cmds:Int
 bgn:Int
 nO:Bool
 opn:List Int
abbrev Ba.cells(m:Ba):List AV:=[Ag 3 true m.nS (m.sens.map Bd.cells),Ag 4 false m.nV (m.votes.map Ak.cells),Ag 5 false m.nM (m.moves.map Am.cells),.int .i64 m.states,.int .i64 m.cmds,.int .i64 m.bgn,Ag 1 true m.nO (m.opn.map iv)]
structure Ba.small(m:Ba):Prop where
 sens:m.sens.length≤maxLen
 votes:m.votes.length≤maxLen
 moves:m.moves.length≤maxLen
 opn:m.opn.length≤maxLen
 vs:∀v∈m.votes,v.sens.length≤maxLen
 ws:∀x∈m.moves,x.wants.length≤maxLen
def Me(x lo hi:Int):Bool:=decide (lo≤x)&&decide (x≤hi)
theorem Rj(x lo hi:Int):Ez.call (.fn 43) [.int .i64 x,.int .i64 lo,.int .i64 hi] []=some (.ret (.bool (Me x lo hi)),[]):=by
 (refine ce Try.func43 ?_;simp only[Try.f43];(have hb:=trivial;with_reducible repeat' (first|simp only[hb,Va.down,seval]|refine Be ?_ ?_<;>intro hb|refine fd ?_|fail)))
 all_goals simp[Me, *]
theorem Zw(x lo hi:Int):Ez.call (.fn 48) [.int .i64 x,.int .i64 lo,.int .i64 hi] []=some (.ret (.bool (Me x lo hi)),[]):=by
 (refine ce Try.func48 ?_;simp only[Try.f48];(have hb:=trivial;with_reducible repeat' (first|simp only[hb,Va.down,seval]|refine Be ?_ ?_<;>intro hb|refine fd ?_|fail)))
 all_goals simp[Me, *]
def iL(x:Int):Bool:=Me x (-10000) 10000
theorem fB(x:Int):Ez.call (.fn 69) [.int .i64 x] []=some (.ret (.bool (iL x)),[]):=by
 (refine ce Try.func69 ?_;simp only[Try.f69];(have hb:=trivial;with_reducible repeat' (first|simp only[hb,Va.down,seval,Rj]|refine Be ?_ ?_<;>intro hb|refine fd ?_|fail)))
 all_goals rfl
theorem nC(x:Int):Ez.call (.fn 74) [.int .i64 x] []=some (.ret (.bool (!Me x 0 255)),[]):=by
 (refine ce Try.func74 ?_;simp only[Try.f74];(have hb:=trivial;with_reducible repeat' (first|simp only[hb,Va.down,seval,Rj]|refine Be ?_ ?_<;>intro hb|refine fd ?_|fail)))
def eQ(s:Bd)(v:Ak)(r:Int):Bool:= !s.byp&&(!Me r s.lo s.hi||(if v.above=true then decide (v.level≤r)else decide (r≤v.level)))
theorem vU(s:Bd)(v:Ak)(r:Int):Ez.call (.fn 76) [.agg [.int .i64 s.lo,.int .i64 s.hi,.bool s.byp],.agg [Ag 1 true v.nn (v.sens.map iv),.int .i64 v.need,.int .i64 v.level,.bool v.above],.int .i64 r] []=some (.ret (.bool (eQ s v r)),[]):=by
 (refine ce Try.func76 ?_;simp only[Try.f76];(have hb:=trivial;with_reducible repeat' (first|simp only[hb,Va.down,seval,abJ.down,Rj]|refine Be ?_ ?_<;>intro hb|refine fd ?_|fail)))
 all_goals simp_all[eQ]
def aO{α:Type}(p:α→Bool):List α→Int→Int
 | [],_=> -1
 |x::l,i=>if p x=true then i else aO p l (i+1)
theorem Rh{α:Type}(p:α→Bool):∀(l:List α) (i:Int),0≤i→decide (0≤aO p l i)=l.any p
 | [],i,_=>rfl
 |x::l,i,h=>by
  unfold aO
  split
  ·rename_i hp;simp[h,hp]
  ·rename_i hp;rw[Rh p l (i+1) (by omega)];simp[hp]
theorem oH{l:List Int}{nn:Bool}{g:Nat}{cap:List AV}{p:Int→Bool}(hc:cap.all (Aq 8)=true)(hc7:cap.all (Aq 7)=true)(hp:∀x∈l,Ez.call (.fn g) (.int .i64 x::cap) []=some (.ret (.bool (p x)),[]))(hl:l.length≤maxLen):
 Ez.call (.fn 91) [Ag 1 true nn (l.map iv),.func (.func g) [] cap] []=some (.ret (.int .i64 (aO p l 0)),[]):=by
 (refine ce Try.func91 ?_;simp only[Try.f91];(have hb:=trivial;with_reducible repeat' (first|simp only[hb,Va.down,seval,mU.down,aaH]|refine Be ?_ ?_<;>intro hb|refine fd ?_|fail)))
 refine Fq (Ye 19 l (fun i (s:Int) t h=>s=i∧h=[]∧t 0=Ag 1 true nn (l.map iv)∧t 1=.func (.func g) [] cap∧t 7=.int .i64 l.length∧t 8=.int .i64 i)
  (fun rest s=>aO p rest s) (fun r e t h=>h=[]∧((e=.exit 0∧r= -1)∨(e=.ret∧t 4=.int .i64 r))) ?_ ?_ 0 _ _ ?_) (fun e t h hk=>?_)
 ·rintro s t h Q' kQ ⟨rfl,rfl,h0,h1,h7,h8⟩
  (have hb:=trivial;with_reducible repeat' (first|simp only[hb,Va.down,seval,mU.down,h0,h1,h7,h8,aaI,decide_false]|refine Be ?_ ?_<;>intro hb|refine fd ?_|fail))
  exact kQ _ _ _ ⟨rfl,.inl ⟨rfl,rfl⟩⟩
 ·rintro x rest i s t h J Q' kJ kQ hx hi ⟨rfl,rfl,h0,h1,h7,h8⟩
  have hpx:=hp x (aaL hx)
  have hd:decide ((i:Int)<(l.length:Int))=true:=by simpa using hi
  (have hb:=trivial;with_reducible repeat' (first|simp only[hb,Va.down,seval,mU.down,h0,h1,h7,h8,hd,hx,iv,hc,hc7,hpx,Aw hi hl]|refine Be ?_ ?_<;>intro hb|refine fd ?_|fail))
  ·exact kQ _ _ _ ⟨rfl,.inr ⟨rfl,by simp[up,aO,hb]⟩⟩
  ·exact Cf (kJ _ _ (i+1) ⟨by simp,rfl,by simp[up,h0],by simp[up,h1],by simp[up,h7],by simp[up]⟩ (by simp[aO,hb]))
 ·exact⟨rfl,rfl,by simp[up,Eu],by simp[up,Eu],by simp[up],by simp[up]⟩
 ·obtain⟨rfl,⟨rfl,hi⟩|⟨rfl,hi⟩⟩:=hk
  ·(have hb:=trivial;with_reducible repeat' (first|simp only[hb,Va.down,seval,mU.down]|refine Be ?_ ?_<;>intro hb|refine fd ?_|fail))
   rw[hi]
  ·(have hb:=trivial;with_reducible repeat' (first|simp only[hb,Va.down,seval,mU.down,hi]|refine Be ?_ ?_<;>intro hb|refine fd ?_|fail))
theorem fZ{l:List Int}{nn:Bool}{g:Nat}{cap:List AV}{p:Int→Bool}(hc:cap.all (Aq 8)=true)(hc7:cap.all (Aq 7)=true)(hp:∀x∈l,Ez.call (.fn g) (.int .i64 x::cap) []=some (.ret (.bool (p x)),[]))(hl:l.length≤maxLen):
 Ez.call (.fn 73) [Ag 1 true nn (l.map iv),.func (.func g) [] cap] []=some (.ret (.bool (l.any p)),[]):=by
 (refine ce Try.func73 ?_;simp only[Try.f73];(have hb:=trivial;with_reducible repeat' (first|simp only[hb,Va.down,seval,oH hc hc7 hp hl,hc,hc7,Rh p l 0 (aaP 0)]|refine Be ?_ ?_<;>intro hb|refine fd ?_|fail)))
def Jl(b:Int):List Int→Option Int→Bool
 | [],_=>true
 |n::l,p=>Me n 0 (IntKind.i64.wrap (b-1))&&(match p with|none=>true|some q=> !decide (n≤q))&&Jl b l (some n)
theorem Zy{l:List Int}{nn:Bool}(b:Int)(hl:l.length≤maxLen):Ez.call (.fn 53) [Ag 1 true nn (l.map iv),.int .i64 b] []=some (.ret (.bool (Jl b l none)),[]):=by
 (refine ce Try.func53 ?_;simp only[Try.f53];(have hb:=trivial;with_reducible repeat' (first|simp only[hb,Va.down,seval,iJ.down,aaH]|refine Be ?_ ?_<;>intro hb|refine fd ?_|fail)))
 refine Fq (Ye 33 l (fun i (s:Option Int) t h=>(i=0∧s=none∨0<i∧s=l[i-1]?)∧t 0=Ag 1 true nn (l.map iv)∧t 1=.int .i64 b∧t 7=Ag 1 true nn (l.map iv)∧t 8=.int .i64 l.length∧t 9=.int .i64 i)
  (fun rest s=>Jl b rest s) (fun r e t h=>if r=true then e=.exit 0 else e=.ret∧t 4=.bool false) ?_ ?_ none _ _ ?_) (fun e t h hk=>?_)
 ·rintro s t h Q' kQ ⟨hs,h0,h1,h7,h8,h9⟩
  (have hb:=trivial;with_reducible repeat' (first|simp only[hb,Va.down,seval,iJ.down,h0,h1,h7,h8,h9,aaI,decide_false]|refine Be ?_ ?_<;>intro hb|refine fd ?_|fail))
  exact kQ _ _ _ (by simp[Jl])
 ·rintro x rest i s t h J Q' kJ kQ hx hi ⟨hs,h0,h1,h7,h8,h9⟩
  have hd:decide ((i:Int)<(l.length:Int))=true:=by simpa using hi
  have kF:∀{p:Option Int},(Me x 0 (IntKind.i64.wrap (b-1))&&(match p with|none=>true|some q=> !decide (x≤q)))=false→Jl b (x::rest) p=false:=fun h=>by simp[Jl,h]
  have kT:∀{p:Option Int},(Me x 0 (IntKind.i64.wrap (b-1))&&(match p with|none=>true|some q=> !decide (x≤q)))=true→Jl b rest (some x)=Jl b (x::rest) p:=fun h=>by simp[Jl,h]
  have hw:=Aw hi hl
  rcases hs with⟨rfl,rfl⟩|⟨hpos,rfl⟩
  ·simp only[aaT,Int.zero_add]at hd h9 hw
   (have hb:=trivial;with_reducible repeat' (first|simp only[hb,Va.down,seval,iJ.down,h0,h1,h7,h8,h9,hd,hx,iv,Rj,hw,Int.toNat_zero,aaP,aaI,decide_false]|refine Be ?_ ?_<;>intro hb|refine fd ?_|fail))
   all_goals first
    |exact kQ _ _ _ (by rw[if_neg (by rw[kF (by simp_all)];simp)];exact⟨rfl,rfl⟩)
    |exact Cf (kJ _ _ (some x) ⟨.inr ⟨by omega,by simp[hx]⟩,by simp[up,h0],by simp[up,h1],by simp[up,h7],by simp[up,h8],by simp[up]<;>omega⟩ (kT (by simp_all)))
  ·obtain⟨j,rfl⟩:∃j,i=j+1:=⟨i-1,by omega⟩
   obtain⟨q,hq⟩:∃q,l[j]?=some q:=⟨l[j],aaU (by omega)⟩
   have hj:IntKind.i64.wrap (((j+1:Nat):Int)-1)=(j:Int):=by unfold maxLen at hl;rw[Ht (by omega) (by omega)];omega
   have hg:decide (0<((j+1:Nat):Int))=true:=by rw[decide_eq_true_eq];omega
   simp only[aaZ,hq]at kJ kQ
   (have hb:=trivial;with_reducible repeat' (first|simp only[hb,Va.down,seval,iJ.down,h0,h1,h7,h8,h9,hd,hx,iv,Rj,hw,hj,hg,hq]|refine Be ?_ ?_<;>intro hb|refine fd ?_|fail))
   all_goals first
    |exact kQ _ _ _ (by rw[if_neg (by rw[kF (by simp_all)];simp)];exact⟨rfl,rfl⟩)
    |exact Cf (kJ _ _ (some x) ⟨.inr ⟨by omega,by simp[hx]⟩,by simp[up,h0],by simp[up,h1],by simp[up,h7],by simp[up,h8],by simp[up]<;>omega⟩ (kT (by simp_all)))
 ·exact⟨.inl ⟨rfl,rfl⟩,by simp[up,Eu],by simp[up,Eu],by simp[up,Eu],by simp[up],by simp[up]⟩
 ·split at hk
  ·subst hk
   rename_i hr
   (have hb:=trivial;with_reducible repeat' (first|simp only[hb,Va.down,seval,iJ.down]|refine Be ?_ ?_<;>intro hb|refine fd ?_|fail))
   all_goals simp[hr]
  ·obtain⟨rfl,h2⟩:=hk
   rename_i hr
   (have hb:=trivial;with_reducible repeat' (first|simp only[hb,Va.down,seval,iJ.down,h2]|refine Be ?_ ?_<;>intro hb|refine fd ?_|fail))
   all_goals simp[hr]
def Og(ns:Int)(v:Ak):Bool:=Jl ns v.sens none&&Me v.need 1 v.sens.length&&iL v.level
theorem vI(v:Ak)(ns:Int)(hl:v.sens.length≤maxLen):Ez.call (.fn 47) [.agg [Ag 1 true v.nn (v.sens.map iv),.int .i64 v.need,.int .i64 v.level,.bool v.above],.int .i64 ns] []=some (.ret (.bool (Og ns v)),[]):=by
 (refine ce Try.func47 ?_;simp only[Try.f47];(have hb:=trivial;with_reducible repeat' (first|simp only[hb,Va.down,seval,gB.down,aaH]|refine Be ?_ ?_<;>intro hb|refine fd ?_|fail)))
 refine Fq (Ye 51 v.sens (fun i (s:Option Int) t h=>(i=0∧s=none∨0<i∧s=v.sens[i-1]?)∧h[0]?=some (.live 4 false false [[Ag 1 true v.nn (v.sens.map iv),.int .i64 v.need,.int .i64 v.level,.bool v.above]])∧t 1=.int .i64 ns∧t 2=.ptr 0 0 0∧t 5=.int .i64 i)
  (fun rest s=>Jl ns rest s) (fun r e t h=>if r=true then e=.exit 0∧h[0]?=some (.live 4 false false [[Ag 1 true v.nn (v.sens.map iv),.int .i64 v.need,.int .i64 v.level,.bool v.above]])∧t 2=.ptr 0 0 0 else e=.ret∧t 4=.bool false) ?_ ?_ none _ _ ?_) (fun e t h hk=>?_)
 ·rintro s t h Q' kQ ⟨hs,hh,h1,h2,h5⟩
  (have hb:=trivial;with_reducible repeat' (first|simp only[hb,Va.down,seval,gB.down,hh,h1,h2,h5,aaH,aaI,decide_false]|refine Be ?_ ?_<;>intro hb|refine fd ?_|fail))
  exact kQ _ _ _ (by simp[Jl,up,h2,hh])
 ·rintro x rest i s t h J Q' kJ kQ hx hi ⟨hs,hh,h1,h2,h5⟩
  have hd:decide ((i:Int)<(v.sens.length:Int))=true:=by simpa using hi
  have hA:=Bo hh
  have kF:∀{p:Option Int},(Me x 0 (IntKind.i64.wrap (ns-1))&&(match p with|none=>true|some q=> !decide (x≤q)))=false→Jl ns (x::rest) p=false:=fun h=>by simp[Jl,h]
  have kT:∀{p:Option Int},(Me x 0 (IntKind.i64.wrap (ns-1))&&(match p with|none=>true|some q=> !decide (x≤q)))=true→Jl ns rest (some x)=Jl ns (x::rest) p:=fun h=>by simp[Jl,h]
  have hw:=Aw hi hl
  rcases hs with⟨rfl,rfl⟩|⟨hpos,rfl⟩
  ·simp only[aaT,Int.zero_add]at hd h5 hw
   (have hb:=trivial;with_reducible repeat' (first|simp only[hb,Va.down,seval,gB.down,hA,hh,h1,h2,h5,hd,hx,aaH,iv,Zw,hw,Int.toNat_zero,aaP,aaI,decide_false]|refine Be ?_ ?_<;>intro hb|refine fd ?_|fail))
   all_goals first
    |exact kQ _ _ _ (by rw[if_neg (by rw[kF (by simp_all)];simp)];exact⟨rfl,rfl⟩)
    |exact Cf (kJ _ _ (some x) ⟨.inr ⟨by omega,by simp[hx]⟩,by simp[hh],by simp[up,h1],by simp[up,h2],by simp[up]<;>omega⟩ (kT (by simp_all)))
  ·obtain⟨j,rfl⟩:∃j,i=j+1:=⟨i-1,by omega⟩
   obtain⟨q,hq⟩:∃q,v.sens[j]?=some q:=⟨v.sens[j],aaU (by omega)⟩
   have hj:IntKind.i64.wrap (((j+1:Nat):Int)-1)=(j:Int):=by unfold maxLen at hl;rw[Ht (by omega) (by omega)];omega
   have hg:decide (0<((j+1:Nat):Int))=true:=by rw[decide_eq_true_eq];omega
   simp only[aaZ,hq]at kJ kQ
   (have hb:=trivial;with_reducible repeat' (first|simp only[hb,Va.down,seval,gB.down,hA,hh,h1,h2,h5,hd,hx,aaH,iv,Zw,hw,hj,hg,hq]|refine Be ?_ ?_<;>intro hb|refine fd ?_|fail))
   all_goals first
    |exact kQ _ _ _ (by rw[if_neg (by rw[kF (by simp_all)];simp)];exact⟨rfl,rfl⟩)
    |exact Cf (kJ _ _ (some x) ⟨.inr ⟨by omega,by simp[hx]⟩,by simp[hh],by simp[up,h1],by simp[up,h2],by simp[up]<;>omega⟩ (kT (by simp_all)))
 ·exact⟨.inl ⟨rfl,rfl⟩,rfl,by simp[up,Eu],by simp[up],by simp[up]⟩
 ·split at hk
  ·obtain⟨rfl,hh,h2⟩:=hk
   have hA:=Bo hh
   rename_i hr
   (have hb:=trivial;with_reducible repeat' (first|simp only[hb,Va.down,seval,gB.down,hA,hh,h2,aaH,Zw]|refine Be ?_ ?_<;>intro hb|refine fd ?_|fail))
   all_goals simp_all[Og,iL]
  ·obtain⟨rfl,h2⟩:=hk
   rename_i hr
   (have hb:=trivial;with_reducible repeat' (first|simp only[hb,Va.down,seval,gB.down,h2]|refine Be ?_ ?_<;>intro hb|refine fd ?_|fail))
   all_goals simp[Og,hr]
theorem rN(o w:An):Ez.call (.fn 90) [.agg [.int .i64 o.vote,.bool o.is],.ptr 0 0 0] [.live 2 true false [[.int .i64 w.vote,.bool w.is]]]=some (.ret (.bool (o.vote==w.vote)),[.live 2 true false [[.int .i64 w.vote,.bool w.is]]]):=by
 (refine ce Try.func90 ?_;simp only[Try.f90];(have hb:=trivial;with_reducible repeat' (first|simp only[hb,Vc.down,seval,abC.down]|refine Be ?_ ?_<;>intro hb|refine fd ?_|fail)))
theorem jF{l:List An}{nn:Bool}{g:Nat}{ww:An}{p:An→Bool}(hp:∀x∈l,Ez.call (.fn g) (.agg [.int .i64 x.vote,.bool x.is]::[.ptr 0 0 0]) [.live 2 true false [[.int .i64 ww.vote,.bool ww.is]]]=some (.ret (.bool (p x)),[.live 2 true false [[.int .i64 ww.vote,.bool ww.is]]]))(hl:l.length≤maxLen):
 Ez.call (.fn 98) [Ag 2 true nn (l.map An.cells),.func (.func g) [] [.ptr 0 0 0]] [.live 2 true false [[.int .i64 ww.vote,.bool ww.is]]]=some (.ret (.int .i64 (aO p l 0)),[.live 2 true false [[.int .i64 ww.vote,.bool ww.is]]]):=by
 (refine ce Try.func98 ?_;simp only[Try.f98];(have hb:=trivial;with_reducible repeat' (first|simp only[hb,Vc.down,seval,Ym.down,aaH]|refine Be ?_ ?_<;>intro hb|refine fd ?_|fail)))
 refine Fq (Ye 19 l (fun i (s:Int) t h=>s=i∧h=[.live 2 true false [[.int .i64 ww.vote,.bool ww.is]]]∧t 0=Ag 2 true nn (l.map An.cells)∧t 1=.func (.func g) [] [.ptr 0 0 0]∧t 7=.int .i64 l.length∧t 8=.int .i64 i)
  (fun rest s=>aO p rest s) (fun r e t h=>h=[.live 2 true false [[.int .i64 ww.vote,.bool ww.is]]]∧((e=.exit 0∧r= -1)∨(e=.ret∧t 4=.int .i64 r))) ?_ ?_ 0 _ _ ?_) (fun e t h hk=>?_)
 ·rintro s t h Q' kQ ⟨rfl,rfl,h0,h1,h7,h8⟩
  (have hb:=trivial;with_reducible repeat' (first|simp only[hb,Vc.down,seval,Ym.down,h0,h1,h7,h8,aaI,decide_false]|refine Be ?_ ?_<;>intro hb|refine fd ?_|fail))
  exact kQ _ _ _ ⟨rfl,.inl ⟨rfl,rfl⟩⟩
 ·rintro x rest i s t h J Q' kJ kQ hx hi ⟨rfl,rfl,h0,h1,h7,h8⟩
  have hpx:=hp x (aaL hx)
  have hd:decide ((i:Int)<(l.length:Int))=true:=by simpa using hi
  (have hb:=trivial;with_reducible repeat' (first|simp only[hb,Vc.down,seval,Ym.down,h0,h1,h7,h8,hd,hx,An.cells,hpx,Aw hi hl]|refine Be ?_ ?_<;>intro hb|refine fd ?_|fail))
  ·exact kQ _ _ _ ⟨rfl,.inr ⟨rfl,by simp[up,aO,hb]⟩⟩
  ·exact Cf (kJ _ _ (i+1) ⟨by simp,rfl,by simp[up,h0],by simp[up,h1],by simp[up,h7],by simp[up]⟩ (by simp[aO,hb]))
 ·exact⟨rfl,rfl,by simp[up,Eu],by simp[up,Eu],by simp[up],by simp[up]⟩
 ·obtain⟨rfl,⟨rfl,hi⟩|⟨rfl,hi⟩⟩:=hk
  ·(have hb:=trivial;with_reducible repeat' (first|simp only[hb,Vc.down,seval,Ym.down]|refine Be ?_ ?_<;>intro hb|refine fd ?_|fail))
   rw[hi]
  ·(have hb:=trivial;with_reducible repeat' (first|simp only[hb,Vc.down,seval,Ym.down,hi]|refine Be ?_ ?_<;>intro hb|refine fd ?_|fail))
theorem dP{l:List An}{nn:Bool}{g:Nat}{ww:An}{p:An→Bool}(hp:∀x∈l,Ez.call (.fn g) (.agg [.int .i64 x.vote,.bool x.is]::[.ptr 0 0 0]) [.live 2 true false [[.int .i64 ww.vote,.bool ww.is]]]=some (.ret (.bool (p x)),[.live 2 true false [[.int .i64 ww.vote,.bool ww.is]]]))(hl:l.length≤maxLen):
 Ez.call (.fn 89) [Ag 2 true nn (l.map An.cells),.func (.func g) [] [.ptr 0 0 0]] [.live 2 true false [[.int .i64 ww.vote,.bool ww.is]]]=some (.ret (.bool (l.any p)),[.live 2 true false [[.int .i64 ww.vote,.bool ww.is]]]):=by
 (refine ce Try.func89 ?_;simp only[Try.f89];(have hb:=trivial;with_reducible repeat' (first|simp only[hb,Vc.down,seval,jF hp hl,Rh p l 0 (aaP 0)]|refine Be ?_ ?_<;>intro hb|refine fd ?_|fail)))
def Jq(nv:Int):List An→List An→Bool
 |_,[]=>true
 |pre,w::l=>Me w.vote 0 (IntKind.i64.wrap (nv-1))&& !(pre.any fun o=>o.vote==w.vote)&&Jq nv (pre++[w]) l
def Lx(m:Ba)(x:Am):Bool:=Jq m.votes.length [] x.wants&&Me x.frm 0 (IntKind.i64.wrap (m.states-1))&&Me x.to 0 (IntKind.i64.wrap (m.states-1))&&decide (x.wants.length≤6)&&Me x.cmd (-1) (IntKind.i64.wrap (m.cmds-1))&&Me x.after 0 10
theorem wB(m:Ba)(y:Am)(hl:y.wants.length≤maxLen):Ez.call (.fn 72) [.agg [Ag 3 true m.nS (m.sens.map Bd.cells),Ag 4 false m.nV (m.votes.map Ak.cells),Ag 5 false m.nM (m.moves.map Am.cells),.int .i64 m.states,.int .i64 m.cmds,.int .i64 m.bgn,Ag 1 true m.nO (m.opn.map iv)],.agg [.int .i64 y.frm,.int .i64 y.to,Ag 2 true y.nn (y.wants.map An.cells),.int .i64 y.cmd,.int .i64 y.after]] []=some (.ret (.bool (Lx m y)),[]):=by
 have l6:decide ((y.wants.length:Int)≤6)=decide (y.wants.length≤6):=by rw[decide_eq_decide];omega
 (refine ce Try.func72 ?_;simp only[Try.f72];(have hb:=trivial;with_reducible repeat' (first|simp only[hb,Vc.down,seval,eF.down,aaH]|refine Be ?_ ?_<;>intro hb|refine fd ?_|fail)))
 refine Fq (Ye 65 y.wants (fun i (zz:List An) t h=>t 2=.ptr 0 0 0∧t 3=.ptr 1 0 0∧t 8=Ag 2 true y.nn (y.wants.map An.cells)∧t 9=.int .i64 y.wants.length∧t 10=.int .i64 i∧(h[0]?=some (.live 7 false false [[Ag 3 true m.nS (m.sens.map Bd.cells),Ag 4 false m.nV (m.votes.map Ak.cells),Ag 5 false m.nM (m.moves.map Am.cells),.int .i64 m.states,.int .i64 m.cmds,.int .i64 m.bgn,Ag 1 true m.nO (m.opn.map iv)]])∧h[1]?=some (.live 5 false false [[.int .i64 y.frm,.int .i64 y.to,Ag 2 true y.nn (y.wants.map An.cells),.int .i64 y.cmd,.int .i64 y.after]])∧zz=y.wants.take i)) (fun rest zz=>Jq m.votes.length zz rest) (fun r e t h=>(if r=true then e=.exit 0∧t 2=.ptr 0 0 0∧t 3=.ptr 1 0 0∧h[0]?=some (.live 7 false false [[Ag 3 true m.nS (m.sens.map Bd.cells),Ag 4 false m.nV (m.votes.map Ak.cells),Ag 5 false m.nM (m.moves.map Am.cells),.int .i64 m.states,.int .i64 m.cmds,.int .i64 m.bgn,Ag 1 true m.nO (m.opn.map iv)]])∧h[1]?=some (.live 5 false false [[.int .i64 y.frm,.int .i64 y.to,Ag 2 true y.nn (y.wants.map An.cells),.int .i64 y.cmd,.int .i64 y.after]])else e=.ret∧t 4=.bool false)) ?_ ?_ ([]) _ _ ?_) (fun e t h hk=>?_)
 ·rintro p t h Q' kQ ⟨h2,h3,h8,h9,h10,⟨hA,hB,hp⟩⟩
  (have hb:=trivial;with_reducible repeat' (first|simp only[hb,Vc.down,seval,eF.down,h2,h3,h8,h9,h10,aaI,decide_false]|refine Be ?_ ?_<;>intro hb|refine fd ?_|fail))
  exact kQ _ _ _ (by rw[if_pos (by rfl)];exact⟨rfl,by simp[up,h2],by simp[up,h3],hA,hB⟩)
 ·rintro x rest i p t h J Q' kJ kQ hx hi ⟨h2,h3,h8,h9,h10,⟨hA,hB,hp⟩⟩
  have hd:decide ((i:Int)<(y.wants.length:Int))=true:=decide_eq_true (by omega)
  have hw:=Aw hi hl
  have hA1:=Bo hA
  have hB1:=Bo hB
  have hcW:=dP (l:=y.wants.take i) (nn:=true) (ww:=x) (g:=90) (p:=fun o=>o.vote==x.vote) (fun o _=>rN o x) (by simp;omega)
  have hsl:=uM (P:=Try.prog) (ty:=57) (n:=2) ⟨_,Try.underlying57,by kernel_rfl⟩ true y.nn (rows:=y.wants.map An.cells) (i:=i) (by simpa using hi)
  rw[mZ,List.map_take]at hcW
  subst hp
  cases c1:Me x.vote 0 (IntKind.i64.wrap ((m.votes.length:Int)-1))with
  |false=>
   (have hb:=trivial;with_reducible repeat' (first|simp only[hb,Vc.down,seval,eF.down,h2,h3,h8,h9,h10,hd,hx,hw,hA1,hB1,Rj,An.cells,aaH,hcW,hsl,c1]|refine Be ?_ ?_<;>intro hb|refine fd ?_|fail))
   exact kQ _ _ _ (by rw[if_neg (by simp[Jq,c1])];exact⟨rfl,by simp[up]⟩)
  |true=>
   cases c2:(y.wants.take i).any (fun o=>o.vote==x.vote)with
   |true=>
    rw[c2]at hcW
    (have hb:=trivial;with_reducible repeat' (first|simp only[hb,Vc.down,seval,eF.down,h2,h3,h8,h9,h10,hd,hx,hw,hA1,hB1,Rj,An.cells,aaH,hcW,hsl,c1]|refine Be ?_ ?_<;>intro hb|refine fd ?_|fail))
    exact kQ _ _ _ (by rw[if_neg (by simp only[Jq,c1,c2,aaM,aaS,aaQ];simp)];exact⟨rfl,by simp[up]⟩)
   |false=>
    rw[c2]at hcW
    (have hb:=trivial;with_reducible repeat' (first|simp only[hb,Vc.down,seval,eF.down,h2,h3,h8,h9,h10,hd,hx,hw,hA1,hB1,Rj,An.cells,aaH,hcW,hsl,c1]|refine Be ?_ ?_<;>intro hb|refine fd ?_|fail))
    (refine Cf (kJ _ _ (y.wants.take i++[x]) ⟨?_,?_,?_,?_,?_,⟨hA1 _,hB1 _,by rw[aa1,hx];rfl⟩⟩ ?_);(simp[up,h2]);(simp[up,h3]);(simp[up,h8]);(simp[up,h9]);(simp[up]);(simp only[Jq,c1,c2,aaN,aaR,aaO]))
 ·exact⟨by simp[up,Eu],by simp[up,Eu],by simp[up,Eu],by simp[up,Eu],by simp[up],⟨rfl,rfl,rfl⟩⟩
 ·split at hk
  ·obtain⟨rfl,h2,h3,hA,hB⟩:=hk
   rename_i hr
   have hA1:=Bo hA
   have hB1:=Bo hB
   (have hb:=trivial;with_reducible repeat' (first|simp only[hb,Vc.down,seval,eF.down,h2,h3,hA,hB,hA1,hB1,Rj,aaH,l6]|refine Be ?_ ?_<;>intro hb|refine fd ?_|fail))
   all_goals (refine congrArg (fun b=>(Dz.ret (AV.bool b),([]:Aa))) ?_;symm;((try simp only[aa2,aaM,aaN]at *);simp only[Lx, *,aaS,aaQ,aaR,aaO,Bool.and_self,Bool.not_not,aaM,aaN,List.all_cons,List.all_nil]))
  ·obtain⟨rfl,h4⟩:=hk
   rename_i hr
   (have hb:=trivial;with_reducible repeat' (first|simp only[hb,Vc.down,seval,eF.down,h4]|refine Be ?_ ?_<;>intro hb|refine fd ?_|fail))
   all_goals simp_all[Lx]
def gC(w:An):List An→Bool
 | []=>true
 |o::l=> !(o.vote==w.vote)&&gC w l
theorem aP(w:An):∀l,gC w l= !(l.any fun o=>o.vote==w.vote)
 | []=>rfl
 |o::l=>by simp[gC,aP w l]
theorem wN(m:Ba)(y:Am)(hl:y.wants.length≤maxLen):Ez.call (.fn 49) [.agg [Ag 3 true m.nS (m.sens.map Bd.cells),Ag 4 false m.nV (m.votes.map Ak.cells),Ag 5 false m.nM (m.moves.map Am.cells),.int .i64 m.states,.int .i64 m.cmds,.int .i64 m.bgn,Ag 1 true m.nO (m.opn.map iv)],.agg [.int .i64 y.frm,.int .i64 y.to,Ag 2 true y.nn (y.wants.map An.cells),.int .i64 y.cmd,.int .i64 y.after]] []=some (.ret (.bool (Lx m y)),[]):=by
 have l6:decide ((y.wants.length:Int)≤6)=decide (y.wants.length≤6):=by rw[decide_eq_decide];omega
 (refine ce Try.func49 ?_;simp only[Try.f49];(have hb:=trivial;with_reducible repeat' (first|simp only[hb,Vc.down,seval,Xx.down,aaH]|refine Be ?_ ?_<;>intro hb|refine fd ?_|fail)))
 refine Fq (Ye 77 y.wants (fun i (zz:List An) t h=>t 2=.ptr 0 0 0∧t 3=.ptr 1 0 0∧t 5=.int .i64 i∧(h=[.live 7 false false [[Ag 3 true m.nS (m.sens.map Bd.cells),Ag 4 false m.nV (m.votes.map Ak.cells),Ag 5 false m.nM (m.moves.map Am.cells),.int .i64 m.states,.int .i64 m.cmds,.int .i64 m.bgn,Ag 1 true m.nO (m.opn.map iv)]],.live 5 false false [[.int .i64 y.frm,.int .i64 y.to,Ag 2 true y.nn (y.wants.map An.cells),.int .i64 y.cmd,.int .i64 y.after]]]∧zz=y.wants.take i)) (fun rest zz=>Jq m.votes.length zz rest) (fun r e t h=>(if r=true then e=.exit 0∧t 2=.ptr 0 0 0∧t 3=.ptr 1 0 0∧h=[.live 7 false false [[Ag 3 true m.nS (m.sens.map Bd.cells),Ag 4 false m.nV (m.votes.map Ak.cells),Ag 5 false m.nM (m.moves.map Am.cells),.int .i64 m.states,.int .i64 m.cmds,.int .i64 m.bgn,Ag 1 true m.nO (m.opn.map iv)]],.live 5 false false [[.int .i64 y.frm,.int .i64 y.to,Ag 2 true y.nn (y.wants.map An.cells),.int .i64 y.cmd,.int .i64 y.after]]]else e=.ret∧t 4=.bool false)) ?_ ?_ ([]) _ _ ?_) (fun e t h hk=>?_)
 ·rintro p t h Q' kQ ⟨h2,h3,h5,⟨rfl,hp⟩⟩
  (have hb:=trivial;with_reducible repeat' (first|simp only[hb,Vc.down,seval,Xx.down,h2,h3,h5,aaI,decide_false,aaH]|refine Be ?_ ?_<;>intro hb|refine fd ?_|fail))
  exact kQ _ _ _ (by rw[if_pos (by rfl)];exact⟨rfl,by simp[up,h2],by simp[up,h3],rfl⟩)
 ·rintro x rest i p t h J Q' kJ kQ hx hi ⟨h2,h3,h5,⟨rfl,hp⟩⟩
  have hd:decide ((i:Int)<(y.wants.length:Int))=true:=decide_eq_true (by omega)
  have hw:=Aw hi hl
  subst hp
  cases c1:Me x.vote 0 (IntKind.i64.wrap ((m.votes.length:Int)-1))with
  |false=>
   (have hb:=trivial;with_reducible repeat' (first|simp only[hb,Vc.down,seval,Xx.down,h2,h3,h5,hd,hx,hw,Zw,c1,An.cells,aaH]|refine Be ?_ ?_<;>intro hb|refine fd ?_|fail))
   exact kQ _ _ _ (by rw[if_neg (by simp[Jq,c1])];exact⟨rfl,by simp[up]⟩)
  |true=>
   obtain⟨w,rfl⟩:∃w,w=x:=⟨_,rfl⟩
   obtain⟨k,rfl⟩:∃k,k=i:=⟨_,rfl⟩
   have hlen:(y.wants.take k).length=k:=by simp;omega
   have hxk:=hx
   (have hb:=trivial;with_reducible repeat' (first|simp only[hb,Vc.down,seval,Xx.down,h2,h3,h5,hd,hx,hw,Zw,c1,An.cells,aaH]|refine Be ?_ ?_<;>intro hb|refine fd ?_|fail))
   refine Fq (Ye 77 (y.wants.take k) (fun i (zz:Unit) t h=>t 2=.ptr 0 0 0∧t 3=.ptr 1 0 0∧t 5=.int .i64 (k:Int)∧t 6=.int .i64 i∧h=[.live 7 false false [[Ag 3 true m.nS (m.sens.map Bd.cells),Ag 4 false m.nV (m.votes.map Ak.cells),Ag 5 false m.nM (m.moves.map Am.cells),.int .i64 m.states,.int .i64 m.cmds,.int .i64 m.bgn,Ag 1 true m.nO (m.opn.map iv)]],.live 5 false false [[.int .i64 y.frm,.int .i64 y.to,Ag 2 true y.nn (y.wants.map An.cells),.int .i64 y.cmd,.int .i64 y.after]]]) (fun rest zz=>gC w rest) (fun r e t h=>(if r=true then e=.exit 2∧t 2=.ptr 0 0 0∧t 3=.ptr 1 0 0∧t 5=.int .i64 (k:Int)∧h=[.live 7 false false [[Ag 3 true m.nS (m.sens.map Bd.cells),Ag 4 false m.nV (m.votes.map Ak.cells),Ag 5 false m.nM (m.moves.map Am.cells),.int .i64 m.states,.int .i64 m.cmds,.int .i64 m.bgn,Ag 1 true m.nO (m.opn.map iv)]],.live 5 false false [[.int .i64 y.frm,.int .i64 y.to,Ag 2 true y.nn (y.wants.map An.cells),.int .i64 y.cmd,.int .i64 y.after]]]else e=.ret∧t 4=.bool false)) ?_ ?_ () _ _ ?_) (fun e tC hC hk=>?_)
   ·rintro _ t h Q' kQ ⟨h2,h3,h5,h6,rfl⟩
    (have hb:=trivial;with_reducible repeat' (first|simp only[hb,Vc.down,seval,Xx.down,h2,h3,h5,h6,aaI,decide_false,hlen]|refine Be ?_ ?_<;>intro hb|refine fd ?_|fail))
    exact kQ _ _ _ (by rw[if_pos (by rfl)];exact⟨rfl,by simp[up,h2],by simp[up,h3],by simp[up,h5],rfl⟩)
   ·rintro x rest i _ t h J Q' kJ kQ hx hi ⟨h2,h3,h5,h6,rfl⟩
    have hd:decide ((i:Int)<((y.wants.take k).length:Int))=true:=decide_eq_true (by omega)
    have hw:=Aw hi (by simp;omega)
    rw[hlen]at hd
    have hxi:y.wants[i]?=some x:=by rw[List.getElem?_take]at hx;split at hx;exact hx;cases hx
    cases c3:(x.vote==w.vote)with
    |true=>
     (have hb:=trivial;with_reducible repeat' (first|simp only[hb,Vc.down,seval,Xx.down,h2,h3,h5,h6,hd,hxi,hxk,hw,c3,An.cells]|refine Be ?_ ?_<;>intro hb|refine fd ?_|fail))
     exact kQ _ _ _ (by rw[if_neg (by simp[gC,c3])];exact⟨rfl,by simp[up]⟩)
    |false=>
     (have hb:=trivial;with_reducible repeat' (first|simp only[hb,Vc.down,seval,Xx.down,h2,h3,h5,h6,hd,hxi,hxk,hw,c3,An.cells]|refine Be ?_ ?_<;>intro hb|refine fd ?_|fail))
     (refine Cf (kJ _ _ () ⟨?_,?_,?_,?_,rfl⟩ ?_);(simp[up,h2]);(simp[up,h3]);(simp[up,h5]);(simp[up]);(simp[gC,c3]))
   ·exact⟨by simp[up,Eu,h2,h3,h5],by simp[up,Eu,h2,h3,h5],by simp[up,Eu,h2,h3,h5],by simp[up],rfl⟩
   ·split at hk
    ·rename_i hdup
     obtain⟨rfl,h2,h3,h5,rfl⟩:=hk
     (have hb:=trivial;with_reducible repeat' (first|simp only[hb,Vc.down,seval,Xx.down,h2,h3,h5,hw]|refine Be ?_ ?_<;>intro hb|refine fd ?_|fail))
     rw[aP]at hdup
     (refine Cf (kJ _ _ (y.wants.take k++[w]) ⟨?_,?_,?_,⟨rfl,by rw[aa1,hxk];rfl⟩⟩ ?_);(simp[up,h2]);(simp[up,h3]);(simp[up]);(simp only[Jq,c1,hdup,aaO]))
    ·rename_i hdup
     obtain⟨rfl,h4⟩:=hk
     (have hb:=trivial;with_reducible repeat' (first|simp only[hb,Vc.down,seval,Xx.down,h4]|refine Be ?_ ?_<;>intro hb|refine fd ?_|fail))
     rw[aP]at hdup
     exact kQ _ _ _ (by rw[if_neg (by simp only[Jq,c1,aaO,aaK.2 hdup,aaQ];simp)];exact⟨rfl,by simp[up,h4]⟩)
 ·exact⟨by simp[up,Eu],by simp[up,Eu],by simp[up],⟨rfl,rfl⟩⟩
 ·split at hk
  ·obtain⟨rfl,h2,h3,rfl⟩:=hk
   rename_i hr
   (have hb:=trivial;with_reducible repeat' (first|simp only[hb,Vc.down,seval,Xx.down,h2,h3,Zw,aaH,l6]|refine Be ?_ ?_<;>intro hb|refine fd ?_|fail))
   all_goals (refine congrArg (fun b=>(Dz.ret (AV.bool b),([]:Aa))) ?_;symm;((try simp only[aa2,aaM,aaN]at *);simp only[Lx, *,aaS,aaQ,aaR,aaO,Bool.and_self,Bool.not_not,aaM,aaN,List.all_cons,List.all_nil]))
  ·obtain⟨rfl,h4⟩:=hk
   rename_i hr
   (have hb:=trivial;with_reducible repeat' (first|simp only[hb,Vc.down,seval,Xx.down,h4]|refine Be ?_ ?_<;>intro hb|refine fd ?_|fail))
   all_goals simp_all[Lx]
def eI(s:Bd):Bool:=iL s.lo&&iL s.hi&& !decide (s.hi<s.lo)
def Oa(m:Ba):Bool:=decide (m.sens.length≤6)&&decide (m.votes.length≤6)&&decide (m.moves.length≤20)&&Me m.states 1 8&&Me m.cmds 0 4&&Me m.bgn 0 (IntKind.i64.wrap (m.states-1))&&((m.opn.length:Int)==m.states)
def Do(m:Ba):Bool:=Oa m&&m.sens.all eI&&m.votes.all (Og m.sens.length)&&m.moves.all (Lx m)&&m.opn.all (fun n=>Me n 0 255)
theorem mQ(m:Ba)(x:Am)(hl:x.wants.length≤maxLen):Ez.call (.fn 71) [.agg [.int .i64 x.frm,.int .i64 x.to,Ag 2 true x.nn (x.wants.map An.cells),.int .i64 x.cmd,.int .i64 x.after],.ptr 0 0 0] [.live 7 false false [[Ag 3 true m.nS (m.sens.map Bd.cells),Ag 4 false m.nV (m.votes.map Ak.cells),Ag 5 false m.nM (m.moves.map Am.cells),.int .i64 m.states,.int .i64 m.cmds,.int .i64 m.bgn,Ag 1 true m.nO (m.opn.map iv)]]]=some (.ret (.bool (!Lx m x)),[.live 7 false false [[Ag 3 true m.nS (m.sens.map Bd.cells),Ag 4 false m.nV (m.votes.map Ak.cells),Ag 5 false m.nM (m.moves.map Am.cells),.int .i64 m.states,.int .i64 m.cmds,.int .i64 m.bgn,Ag 1 true m.nO (m.opn.map iv)]]]):=by
 have hm:=wB m x hl
 (refine ce Try.func71 ?_;simp only[Try.f71];(have hb:=trivial;with_reducible repeat' (first|simp only[hb,Vc.down,seval,abR.down,hm]|refine Be ?_ ?_<;>intro hb|refine fd ?_|fail)))
theorem iY{l:List Am}{nn:Bool}{g:Nat}{mm:Ba}{p:Am→Bool}(hp:∀x∈l,Ez.call (.fn g) (.agg [.int .i64 x.frm,.int .i64 x.to,Ag 2 true x.nn (x.wants.map An.cells),.int .i64 x.cmd,.int .i64 x.after]::[.ptr 0 0 0]) [.live 7 false false [[Ag 3 true mm.nS (mm.sens.map Bd.cells),Ag 4 false mm.nV (mm.votes.map Ak.cells),Ag 5 false mm.nM (mm.moves.map Am.cells),.int .i64 mm.states,.int .i64 mm.cmds,.int .i64 mm.bgn,Ag 1 true mm.nO (mm.opn.map iv)]]]=some (.ret (.bool (p x)),[.live 7 false false [[Ag 3 true mm.nS (mm.sens.map Bd.cells),Ag 4 false mm.nV (mm.votes.map Ak.cells),Ag 5 false mm.nM (mm.moves.map Am.cells),.int .i64 mm.states,.int .i64 mm.cmds,.int .i64 mm.bgn,Ag 1 true mm.nO (mm.opn.map iv)]]]))(hl:l.length≤maxLen):
 Ez.call (.fn 88) [Ag 5 false nn (l.map Am.cells),.func (.func g) [] [.ptr 0 0 0]] [.live 7 false false [[Ag 3 true mm.nS (mm.sens.map Bd.cells),Ag 4 false mm.nV (mm.votes.map Ak.cells),Ag 5 false mm.nM (mm.moves.map Am.cells),.int .i64 mm.states,.int .i64 mm.cmds,.int .i64 mm.bgn,Ag 1 true mm.nO (mm.opn.map iv)]]]=some (.ret (.int .i64 (aO p l 0)),[.live 7 false false [[Ag 3 true mm.nS (mm.sens.map Bd.cells),Ag 4 false mm.nV (mm.votes.map Ak.cells),Ag 5 false mm.nM (mm.moves.map Am.cells),.int .i64 mm.states,.int .i64 mm.cmds,.int .i64 mm.bgn,Ag 1 true mm.nO (mm.opn.map iv)]]]):=by
 (refine ce Try.func88 ?_;simp only[Try.f88];(have hb:=trivial;with_reducible repeat' (first|simp only[hb,Vc.down,seval,mG.down,aaH]|refine Be ?_ ?_<;>intro hb|refine fd ?_|fail)))
 refine Fq (Ye 19 l (fun i (s:Int) t h=>s=i∧h=[.live 7 false false [[Ag 3 true mm.nS (mm.sens.map Bd.cells),Ag 4 false mm.nV (mm.votes.map Ak.cells),Ag 5 false mm.nM (mm.moves.map Am.cells),.int .i64 mm.states,.int .i64 mm.cmds,.int .i64 mm.bgn,Ag 1 true mm.nO (mm.opn.map iv)]]]∧t 0=Ag 5 false nn (l.map Am.cells)∧t 1=.func (.func g) [] [.ptr 0 0 0]∧t 7=.int .i64 l.length∧t 8=.int .i64 i)
  (fun rest s=>aO p rest s) (fun r e t h=>h=[.live 7 false false [[Ag 3 true mm.nS (mm.sens.map Bd.cells),Ag 4 false mm.nV (mm.votes.map Ak.cells),Ag 5 false mm.nM (mm.moves.map Am.cells),.int .i64 mm.states,.int .i64 mm.cmds,.int .i64 mm.bgn,Ag 1 true mm.nO (mm.opn.map iv)]]]∧((e=.exit 0∧r= -1)∨(e=.ret∧t 4=.int .i64 r))) ?_ ?_ 0 _ _ ?_) (fun e t h hk=>?_)
 ·rintro s t h Q' kQ ⟨rfl,rfl,h0,h1,h7,h8⟩
  (have hb:=trivial;with_reducible repeat' (first|simp only[hb,Vc.down,seval,mG.down,h0,h1,h7,h8,aaI,decide_false]|refine Be ?_ ?_<;>intro hb|refine fd ?_|fail))
  exact kQ _ _ _ ⟨rfl,.inl ⟨rfl,rfl⟩⟩
 ·rintro x rest i s t h J Q' kJ kQ hx hi ⟨rfl,rfl,h0,h1,h7,h8⟩
  have hpx:=hp x (aaL hx)
  have hd:decide ((i:Int)<(l.length:Int))=true:=by simpa using hi
  (have hb:=trivial;with_reducible repeat' (first|simp only[hb,Vc.down,seval,mG.down,h0,h1,h7,h8,hd,hx,Am.cells,hpx,Aw hi hl]|refine Be ?_ ?_<;>intro hb|refine fd ?_|fail))
  ·exact kQ _ _ _ ⟨rfl,.inr ⟨rfl,by simp[up,aO,hb]⟩⟩
  ·exact Cf (kJ _ _ (i+1) ⟨by simp,rfl,by simp[up,h0],by simp[up,h1],by simp[up,h7],by simp[up]⟩ (by simp[aO,hb]))
 ·exact⟨rfl,rfl,by simp[up,Eu],by simp[up,Eu],by simp[up],by simp[up]⟩
 ·obtain⟨rfl,⟨rfl,hi⟩|⟨rfl,hi⟩⟩:=hk
  ·(have hb:=trivial;with_reducible repeat' (first|simp only[hb,Vc.down,seval,mG.down]|refine Be ?_ ?_<;>intro hb|refine fd ?_|fail))
   rw[hi]
  ·(have hb:=trivial;with_reducible repeat' (first|simp only[hb,Vc.down,seval,mG.down,hi]|refine Be ?_ ?_<;>intro hb|refine fd ?_|fail))
theorem eH{l:List Am}{nn:Bool}{g:Nat}{mm:Ba}{p:Am→Bool}(hp:∀x∈l,Ez.call (.fn g) (.agg [.int .i64 x.frm,.int .i64 x.to,Ag 2 true x.nn (x.wants.map An.cells),.int .i64 x.cmd,.int .i64 x.after]::[.ptr 0 0 0]) [.live 7 false false [[Ag 3 true mm.nS (mm.sens.map Bd.cells),Ag 4 false mm.nV (mm.votes.map Ak.cells),Ag 5 false mm.nM (mm.moves.map Am.cells),.int .i64 mm.states,.int .i64 mm.cmds,.int .i64 mm.bgn,Ag 1 true mm.nO (mm.opn.map iv)]]]=some (.ret (.bool (p x)),[.live 7 false false [[Ag 3 true mm.nS (mm.sens.map Bd.cells),Ag 4 false mm.nV (mm.votes.map Ak.cells),Ag 5 false mm.nM (mm.moves.map Am.cells),.int .i64 mm.states,.int .i64 mm.cmds,.int .i64 mm.bgn,Ag 1 true mm.nO (mm.opn.map iv)]]]))(hl:l.length≤maxLen):
 Ez.call (.fn 70) [Ag 5 false nn (l.map Am.cells),.func (.func g) [] [.ptr 0 0 0]] [.live 7 false false [[Ag 3 true mm.nS (mm.sens.map Bd.cells),Ag 4 false mm.nV (mm.votes.map Ak.cells),Ag 5 false mm.nM (mm.moves.map Am.cells),.int .i64 mm.states,.int .i64 mm.cmds,.int .i64 mm.bgn,Ag 1 true mm.nO (mm.opn.map iv)]]]=some (.ret (.bool (l.any p)),[.live 7 false false [[Ag 3 true mm.nS (mm.sens.map Bd.cells),Ag 4 false mm.nV (mm.votes.map Ak.cells),Ag 5 false mm.nM (mm.moves.map Am.cells),.int .i64 mm.states,.int .i64 mm.cmds,.int .i64 mm.bgn,Ag 1 true mm.nO (mm.opn.map iv)]]]):=by
 (refine ce Try.func70 ?_;simp only[Try.f70];(have hb:=trivial;with_reducible repeat' (first|simp only[hb,Vc.down,seval,iY hp hl,Rh p l 0 (aaP 0)]|refine Be ?_ ?_<;>intro hb|refine fd ?_|fail)))
theorem fJ(m:Ba)(hs:m.small):Ez.call (.fn 42) [.agg [Ag 3 true m.nS (m.sens.map Bd.cells),Ag 4 false m.nV (m.votes.map Ak.cells),Ag 5 false m.nM (m.moves.map Am.cells),.int .i64 m.states,.int .i64 m.cmds,.int .i64 m.bgn,Ag 1 true m.nO (m.opn.map iv)]] []=some (.ret (.bool (Do m)),[]):=by
 have l1:decide ((6:Int)<(m.sens.length:Int))= !decide (m.sens.length≤6):=by rw[←decide_not,decide_eq_decide];omega
 have l2:decide ((6:Int)<(m.votes.length:Int))= !decide (m.votes.length≤6):=by rw[←decide_not,decide_eq_decide];omega
 have l3:decide ((20:Int)<(m.moves.length:Int))= !decide (m.moves.length≤20):=by rw[←decide_not,decide_eq_decide];omega
 cases hp:Oa m with
 |false=>
  have hp':Do m=false:=by simp[Do,hp]
  rw[hp']
  (refine ce Try.func42 ?_;simp only[Try.f42];(have hb:=trivial;with_reducible repeat' (first|simp only[hb,Vc.down,seval,Yj.down,aaH,Rj,l1,l2,l3]|refine Be ?_ ?_<;>intro hb|refine fd ?_|fail)))
  all_goals first
   |rfl
   |(exfalso;simp_all[Oa];done)
 |true=>
  have hp':=hp
  simp only[Oa,aa4]at hp'
  obtain⟨⟨⟨⟨⟨⟨p1,p2⟩,p3⟩,p4⟩,p5⟩,p6⟩,p7⟩:=hp'
  (refine ce Try.func42 ?_;simp only[Try.f42];(have hb:=trivial;with_reducible repeat' (first|simp only[hb,Vc.down,seval,Yj.down,aaH,Rj,l1,l2,l3,p1,p2,p3,p4,p5,p6,p7]|refine Be ?_ ?_<;>intro hb|refine fd ?_|fail)))
  refine Fq (Ye 118 m.sens (fun i (zz:Unit) t h=>t 1=.ptr 0 0 0∧t 53=Ag 3 true m.nS (m.sens.map Bd.cells)∧t 54=.int .i64 m.sens.length∧t 55=.int .i64 i∧(h[0]?=some (.live 7 false false [[Ag 3 true m.nS (m.sens.map Bd.cells),Ag 4 false m.nV (m.votes.map Ak.cells),Ag 5 false m.nM (m.moves.map Am.cells),.int .i64 m.states,.int .i64 m.cmds,.int .i64 m.bgn,Ag 1 true m.nO (m.opn.map iv)]]))) (fun rest zz=>rest.all eI) (fun r e t h=>(if r=true then e=.exit 0∧t 1=.ptr 0 0 0∧h[0]?=some (.live 7 false false [[Ag 3 true m.nS (m.sens.map Bd.cells),Ag 4 false m.nV (m.votes.map Ak.cells),Ag 5 false m.nM (m.moves.map Am.cells),.int .i64 m.states,.int .i64 m.cmds,.int .i64 m.bgn,Ag 1 true m.nO (m.opn.map iv)]])else e=.ret∧t 2=.bool false)) ?_ ?_ () _ _ ?_) (fun e t h hk=>?_)
  ·rintro _ t h Q' kQ ⟨h1,h53,h54,h55,hA⟩
   (have hb:=trivial;with_reducible repeat' (first|simp only[hb,Vc.down,seval,Yj.down,h1,h53,h54,h55,aaI,decide_false]|refine Be ?_ ?_<;>intro hb|refine fd ?_|fail))
   exact kQ _ _ _ (by rw[if_pos (by rfl)];exact⟨rfl,by simp[up,h1],hA⟩)
  ·rintro x rest i _ t h J Q' kJ kQ hx hi ⟨h1,h53,h54,h55,hA⟩
   have hd:decide ((i:Int)<(m.sens.length:Int))=true:=decide_eq_true (by omega)
   have hw:=Aw hi hs.sens
   have hA1:=Bo hA
   (have hb:=trivial;with_reducible repeat' (first|simp only[hb,Vc.down,seval,Yj.down,h1,h53,h54,h55,hd,hx,hw,fB,Bd.cells,aaH]|refine Be ?_ ?_<;>intro hb|refine fd ?_|fail))
   all_goals first
    |exact kQ _ _ _ (by rw[if_neg (by simp_all[eI])];exact⟨rfl,by simp[up]⟩)
    |(refine Cf (kJ _ _ () ⟨?_,?_,?_,?_,hA1 _⟩ ?_);(simp[up,h1]);(simp[up,h53]);(simp[up,h54]);(simp[up]);(simp_all[eI]))
  ·exact⟨by simp[up,Eu],by simp[up,Eu],by simp[up,Eu],by simp[up],rfl⟩
  ·split at hk
   ·obtain⟨rfl,h1,hA⟩:=hk
    rename_i hr1
    have hA1:=Bo hA
    (have hb:=trivial;with_reducible repeat' (first|simp only[hb,Vc.down,seval,Yj.down,h1,hA,hA1,aaH]|refine Be ?_ ?_<;>intro hb|refine fd ?_|fail))
    refine Fq (Ye 118 m.votes (fun i (zz:Unit) t h=>t 1=.ptr 0 0 0∧t 78=Ag 4 false m.nV (m.votes.map Ak.cells)∧t 79=.int .i64 m.votes.length∧t 80=.int .i64 i∧(h[0]?=some (.live 7 false false [[Ag 3 true m.nS (m.sens.map Bd.cells),Ag 4 false m.nV (m.votes.map Ak.cells),Ag 5 false m.nM (m.moves.map Am.cells),.int .i64 m.states,.int .i64 m.cmds,.int .i64 m.bgn,Ag 1 true m.nO (m.opn.map iv)]]))) (fun rest zz=>rest.all (Og m.sens.length)) (fun r e t h=>(if r=true then e=.exit 2∧t 1=.ptr 0 0 0∧h[0]?=some (.live 7 false false [[Ag 3 true m.nS (m.sens.map Bd.cells),Ag 4 false m.nV (m.votes.map Ak.cells),Ag 5 false m.nM (m.moves.map Am.cells),.int .i64 m.states,.int .i64 m.cmds,.int .i64 m.bgn,Ag 1 true m.nO (m.opn.map iv)]])else e=.ret∧t 2=.bool false)) ?_ ?_ () _ _ ?_) (fun e t h hk=>?_)
    ·rintro _ t h Q' kQ ⟨h1,h78,h79,h80,hA⟩
     (have hb:=trivial;with_reducible repeat' (first|simp only[hb,Vc.down,seval,Yj.down,h1,h78,h79,h80,aaI,decide_false]|refine Be ?_ ?_<;>intro hb|refine fd ?_|fail))
     exact kQ _ _ _ (by rw[if_pos (by rfl)];exact⟨rfl,by simp[up,h1],hA⟩)
    ·rintro x rest i _ t h J Q' kJ kQ hx hi ⟨h1,h78,h79,h80,hA⟩
     have hd:decide ((i:Int)<(m.votes.length:Int))=true:=decide_eq_true (by omega)
     have hw:=Aw hi hs.votes
     have hA1:=Bo hA
     have hin:=Zy (nn:=x.nn) m.sens.length (hs.vs x (aaL hx))
     (have hb:=trivial;with_reducible repeat' (first|simp only[hb,Vc.down,seval,Yj.down,h1,h78,h79,h80,hd,hx,hw,hA1,fB,Rj,hin,Ak.cells,aaH]|refine Be ?_ ?_<;>intro hb|refine fd ?_|fail))
     all_goals first
      |exact kQ _ _ _ (by rw[if_neg (by simp_all[Og])];exact⟨rfl,by simp[up]⟩)
      |(refine Cf (kJ _ _ () ⟨?_,?_,?_,?_,hA1 _⟩ ?_);(simp[up,h1]);(simp[up,h78]);(simp[up,h79]);(simp[up]);(simp_all[Og]))
    ·exact⟨by simp[up,Eu,h1],by simp[up,Eu,h1],by simp[up,Eu,h1],by simp[up],hA⟩
    ·split at hk
     ·obtain⟨rfl,h1,hA⟩:=hk
      rename_i hr2
      have hA1:=Bo hA
      have hcM:=eH (mm:=m) (l:=m.moves) (nn:=m.nM) (g:=71) (p:=fun x=> !Lx m x) (fun x hx=>mQ m x (hs.ws x hx)) hs.moves
      have hcI:=fZ (l:=m.opn) (nn:=m.nO) (g:=74) (cap:=[]) (p:=fun x=> !Me x 0 255) rfl rfl (fun x _=>nC x) hs.opn
      (have hb:=trivial;with_reducible repeat' (first|simp only[hb,Vc.down,seval,Yj.down,h1,hA,hA1,aaH,hcM,hcI]|refine Be ?_ ?_<;>intro hb|refine fd ?_|fail))
      all_goals
       have q1:m.moves.all (Lx m)= !(m.moves.any fun x=> !Lx m x):=aa6
       have q2:m.opn.all (fun n=>Me n 0 255)= !(m.opn.any fun x=> !Me x 0 255):=aa6
       simp only[Do,hp,hr1,hr2,q1,q2,hb,aaM,aaN,aaO,aaQ,aaR]
       try rfl
     ·obtain⟨rfl,h2⟩:=hk
      rename_i hr2
      (have hb:=trivial;with_reducible repeat' (first|simp only[hb,Vc.down,seval,Yj.down,h2]|refine Be ?_ ?_<;>intro hb|refine fd ?_|fail))
      all_goals simp[Do,hp,aaK.2 hr2]
   ·obtain⟨rfl,h2⟩:=hk
    rename_i hr1
    (have hb:=trivial;with_reducible repeat' (first|simp only[hb,Vc.down,seval,Yj.down,h2]|refine Be ?_ ?_<;>intro hb|refine fd ?_|fail))
    all_goals simp[Do,hp,aaK.2 hr1]
theorem iN(m:Ba)(hs:m.small):Ez.call (.fn 15) [.agg [Ag 3 true m.nS (m.sens.map Bd.cells),Ag 4 false m.nV (m.votes.map Ak.cells),Ag 5 false m.nM (m.moves.map Am.cells),.int .i64 m.states,.int .i64 m.cmds,.int .i64 m.bgn,Ag 1 true m.nO (m.opn.map iv)]] []=some (.ret (.bool (Do m)),[]):=by
 have l1:decide ((6:Int)<(m.sens.length:Int))= !decide (m.sens.length≤6):=by rw[←decide_not,decide_eq_decide];omega
 have l2:decide ((6:Int)<(m.votes.length:Int))= !decide (m.votes.length≤6):=by rw[←decide_not,decide_eq_decide];omega
 have l3:decide ((20:Int)<(m.moves.length:Int))= !decide (m.moves.length≤20):=by rw[←decide_not,decide_eq_decide];omega
 have sen:∀x:Bd,eI x=(!decide (x.lo < -10000)&& !decide (x.hi<x.lo)&& !decide (10000<x.hi)):=fun x=>by
  rw[Bool.eq_iff_iff];simp[eI,iL,Me];omega
 (refine ce Try.func15 ?_;simp only[Try.f15];(have hb:=trivial;with_reducible repeat' (first|simp only[hb,Vc.down,seval,Na.down,aaH]|refine Be ?_ ?_<;>intro hb|refine fd ?_|fail)))
 refine Fq (Ye 126 m.sens (fun i (zz:Unit) t h=>t 1=.ptr 0 0 0∧t 3=.int .i64 i∧(h[0]?=some (.live 7 false false [[Ag 3 true m.nS (m.sens.map Bd.cells),Ag 4 false m.nV (m.votes.map Ak.cells),Ag 5 false m.nM (m.moves.map Am.cells),.int .i64 m.states,.int .i64 m.cmds,.int .i64 m.bgn,Ag 1 true m.nO (m.opn.map iv)]]))) (fun rest zz=>rest.all eI) (fun r e t h=>(if r=true then e=.exit 0∧t 1=.ptr 0 0 0∧h[0]?=some (.live 7 false false [[Ag 3 true m.nS (m.sens.map Bd.cells),Ag 4 false m.nV (m.votes.map Ak.cells),Ag 5 false m.nM (m.moves.map Am.cells),.int .i64 m.states,.int .i64 m.cmds,.int .i64 m.bgn,Ag 1 true m.nO (m.opn.map iv)]])else e=.ret∧t 2=.bool false)) ?_ ?_ () _ _ ?_) (fun e t h hk=>?_)
 ·rintro _ t h Q' kQ ⟨h1,h3,hA⟩
  (have hb:=trivial;with_reducible repeat' (first|simp only[hb,Vc.down,seval,Na.down,h1,h3,aaI,decide_false,hA,aaH]|refine Be ?_ ?_<;>intro hb|refine fd ?_|fail))
  exact kQ _ _ _ (by rw[if_pos (by rfl)];exact⟨rfl,by simp[up,h1],hA⟩)
 ·rintro x rest i _ t h J Q' kJ kQ hx hi ⟨h1,h3,hA⟩
  have hd:decide ((i:Int)<(m.sens.length:Int))=true:=decide_eq_true (by omega)
  have hw:=Aw hi hs.sens
  have hA1:=Bo hA
  (have hb:=trivial;with_reducible repeat' (first|simp only[hb,Vc.down,seval,Na.down,h1,h3,hd,hx,hw,hA,hA1,Bd.cells,aaH]|refine Be ?_ ?_<;>intro hb|refine fd ?_|fail))
  all_goals first
   |exact kQ _ _ _ (by rw[if_neg (by simp_all)];exact⟨rfl,by simp[up]⟩)
   |(refine Cf (kJ _ _ () ⟨?_,?_,hA1 _⟩ ?_);(simp[up,h1]);(simp[up]);(simp_all))
 ·exact⟨by simp[up,Eu],by simp[up],rfl⟩
 split at hk
 rotate_left
 ·obtain⟨rfl,h2⟩:=hk
  rename_i hr1
  (have hb:=trivial;with_reducible repeat' (first|simp only[hb,Vc.down,seval,Na.down,h2]|refine Be ?_ ?_<;>intro hb|refine fd ?_|fail))
  all_goals simp[Do,aaK.2 hr1]
 obtain⟨rfl,h1,hA⟩:=hk
 rename_i hr1
 have hA1:=Bo hA
 (have hb:=trivial;with_reducible repeat' (first|simp only[hb,Vc.down,seval,Na.down,h1,hA,hA1,aaH]|refine Be ?_ ?_<;>intro hb|refine fd ?_|fail))
 refine Fq (Ye 126 m.votes (fun i (zz:Unit) t h=>t 1=.ptr 0 0 0∧t 5=.int .i64 i∧(h[0]?=some (.live 7 false false [[Ag 3 true m.nS (m.sens.map Bd.cells),Ag 4 false m.nV (m.votes.map Ak.cells),Ag 5 false m.nM (m.moves.map Am.cells),.int .i64 m.states,.int .i64 m.cmds,.int .i64 m.bgn,Ag 1 true m.nO (m.opn.map iv)]]))) (fun rest zz=>rest.all (Og m.sens.length)) (fun r e t h=>(if r=true then e=.exit 2∧t 1=.ptr 0 0 0∧h[0]?=some (.live 7 false false [[Ag 3 true m.nS (m.sens.map Bd.cells),Ag 4 false m.nV (m.votes.map Ak.cells),Ag 5 false m.nM (m.moves.map Am.cells),.int .i64 m.states,.int .i64 m.cmds,.int .i64 m.bgn,Ag 1 true m.nO (m.opn.map iv)]])else e=.ret∧t 2=.bool false)) ?_ ?_ () _ _ ?_) (fun e t h hk=>?_)
 ·rintro _ t h Q' kQ ⟨h1,h5,hA⟩
  (have hb:=trivial;with_reducible repeat' (first|simp only[hb,Vc.down,seval,Na.down,h1,h5,aaI,decide_false,hA,aaH]|refine Be ?_ ?_<;>intro hb|refine fd ?_|fail))
  exact kQ _ _ _ (by rw[if_pos (by rfl)];exact⟨rfl,by simp[up,h1],hA⟩)
 ·rintro x rest i _ t h J Q' kJ kQ hx hi ⟨h1,h5,hA⟩
  have hd:decide ((i:Int)<(m.votes.length:Int))=true:=decide_eq_true (by omega)
  have hw:=Aw hi hs.votes
  have hA1:=Bo hA
  have hV:=vI x m.sens.length (hs.vs x (aaL hx))
  (have hb:=trivial;with_reducible repeat' (first|simp only[hb,Vc.down,seval,Na.down,h1,h5,hd,hx,hw,hA,hA1,hV,Ak.cells,aaH]|refine Be ?_ ?_<;>intro hb|refine fd ?_|fail))
  all_goals first
   |exact kQ _ _ _ (by rw[if_neg (by simp_all)];exact⟨rfl,by simp[up]⟩)
   |(refine Cf (kJ _ _ () ⟨?_,?_,hA⟩ ?_);(simp[up,h1]);(simp[up]);(simp_all))
 ·exact⟨by simp[up,Eu,h1],by simp[up],hA⟩
 split at hk
 rotate_left
 ·obtain⟨rfl,h2⟩:=hk
  rename_i hr2
  (have hb:=trivial;with_reducible repeat' (first|simp only[hb,Vc.down,seval,Na.down,h2]|refine Be ?_ ?_<;>intro hb|refine fd ?_|fail))
  all_goals simp[Do,aaK.2 hr2]
 obtain⟨rfl,h1,hA⟩:=hk
 rename_i hr2
 have hA1:=Bo hA
 cases hp:Oa m with
 |false=>
  have hp':Do m=false:=by simp[Do,hp]
  rw[hp']
  (have hb:=trivial;with_reducible repeat' (first|simp only[hb,Vc.down,seval,Na.down,h1,hA,hA1,aaH,Zw,l1,l2,l3]|refine Be ?_ ?_<;>intro hb|refine fd ?_|fail))
  all_goals first
   |rfl
   |(exfalso;simp_all[Oa];done)
 |true=>
  have hp':=hp
  simp only[Oa,aa4]at hp'
  obtain⟨⟨⟨⟨⟨⟨p1,p2⟩,p3⟩,p4⟩,p5⟩,p6⟩,p7⟩:=hp'
  (have hb:=trivial;with_reducible repeat' (first|simp only[hb,Vc.down,seval,Na.down,h1,hA,hA1,aaH,Zw,l1,l2,l3,p1,p2,p3,p4,p5,p6,p7]|refine Be ?_ ?_<;>intro hb|refine fd ?_|fail))
  refine Fq (Ye 126 m.opn (fun i (zz:Unit) t h=>t 1=.ptr 0 0 0∧t 6=.int .i64 i∧(h[0]?=some (.live 7 false false [[Ag 3 true m.nS (m.sens.map Bd.cells),Ag 4 false m.nV (m.votes.map Ak.cells),Ag 5 false m.nM (m.moves.map Am.cells),.int .i64 m.states,.int .i64 m.cmds,.int .i64 m.bgn,Ag 1 true m.nO (m.opn.map iv)]]))) (fun rest zz=>rest.all (fun n=>Me n 0 255)) (fun r e t h=>(if r=true then e=.exit 4∧t 1=.ptr 0 0 0∧h[0]?=some (.live 7 false false [[Ag 3 true m.nS (m.sens.map Bd.cells),Ag 4 false m.nV (m.votes.map Ak.cells),Ag 5 false m.nM (m.moves.map Am.cells),.int .i64 m.states,.int .i64 m.cmds,.int .i64 m.bgn,Ag 1 true m.nO (m.opn.map iv)]])else e=.ret∧t 2=.bool false)) ?_ ?_ () _ _ ?_) (fun e t h hk=>?_)
  ·rintro _ t h Q' kQ ⟨h1,h6,hA⟩
   (have hb:=trivial;with_reducible repeat' (first|simp only[hb,Vc.down,seval,Na.down,h1,h6,aaI,decide_false,hA,aaH]|refine Be ?_ ?_<;>intro hb|refine fd ?_|fail))
   exact kQ _ _ _ (by rw[if_pos (by rfl)];exact⟨rfl,by simp[up,h1],hA⟩)
  ·rintro x rest i _ t h J Q' kJ kQ hx hi ⟨h1,h6,hA⟩
   have hd:decide ((i:Int)<(m.opn.length:Int))=true:=decide_eq_true (by omega)
   have hw:=Aw hi hs.opn
   have hA1:=Bo hA
   (have hb:=trivial;with_reducible repeat' (first|simp only[hb,Vc.down,seval,Na.down,h1,h6,hd,hx,hw,hA,hA1,Zw,iv,aaH]|refine Be ?_ ?_<;>intro hb|refine fd ?_|fail))
   all_goals first
    |exact kQ _ _ _ (by rw[if_neg (by simp_all)];exact⟨rfl,by simp[up]⟩)
    |(refine Cf (kJ _ _ () ⟨?_,?_,hA⟩ ?_);(simp[up,h1]);(simp[up]);(simp_all))
  ·exact⟨by simp[up,Eu,h1],by simp[up],hA⟩
  split at hk
  rotate_left
  ·obtain⟨rfl,h2⟩:=hk
   rename_i hr3
   (have hb:=trivial;with_reducible repeat' (first|simp only[hb,Vc.down,seval,Na.down,h2]|refine Be ?_ ?_<;>intro hb|refine fd ?_|fail))
   all_goals simp[Do,aaK.2 hr3]
  obtain⟨rfl,h1,hA⟩:=hk
  rename_i hr3
  have hA1:=Bo hA
  (have hb:=trivial;with_reducible repeat' (first|simp only[hb,Vc.down,seval,Na.down,h1,hA,hA1,aaH]|refine Be ?_ ?_<;>intro hb|refine fd ?_|fail))
  refine Fq (Ye 126 m.moves (fun i (zz:Unit) t h=>t 1=.ptr 0 0 0∧t 7=.int .i64 i∧(h[0]?=some (.live 7 false false [[Ag 3 true m.nS (m.sens.map Bd.cells),Ag 4 false m.nV (m.votes.map Ak.cells),Ag 5 false m.nM (m.moves.map Am.cells),.int .i64 m.states,.int .i64 m.cmds,.int .i64 m.bgn,Ag 1 true m.nO (m.opn.map iv)]]))) (fun rest zz=>rest.all (Lx m)) (fun r e t h=>(if r=true then e=.exit 6 else e=.ret∧t 2=.bool false)) ?_ ?_ () _ _ ?_) (fun e t h hk=>?_)
  ·rintro _ t h Q' kQ ⟨h1,h7,hA⟩
   (have hb:=trivial;with_reducible repeat' (first|simp only[hb,Vc.down,seval,Na.down,h1,h7,aaI,decide_false,hA,aaH]|refine Be ?_ ?_<;>intro hb|refine fd ?_|fail))
   exact kQ _ _ _ (by rw[if_pos (by rfl)])
  ·rintro x rest i _ t h J Q' kJ kQ hx hi ⟨h1,h7,hA⟩
   have hd:decide ((i:Int)<(m.moves.length:Int))=true:=decide_eq_true (by omega)
   have hw:=Aw hi hs.moves
   have hA1:=Bo hA
   have hM:=wN m x (hs.ws x (aaL hx))
   (have hb:=trivial;with_reducible repeat' (first|simp only[hb,Vc.down,seval,Na.down,h1,h7,hd,hx,hw,hA,hA1,hM,Am.cells,aaH]|refine Be ?_ ?_<;>intro hb|refine fd ?_|fail))
   all_goals first
    |exact kQ _ _ _ (by rw[if_neg (by simp_all)];exact⟨rfl,by simp[up]⟩)
    |(refine Cf (kJ _ _ () ⟨?_,?_,hA⟩ ?_);(simp[up,h1]);(simp[up]);(simp_all))
  ·exact⟨by simp[up,Eu,h1],by simp[up],hA⟩
  split at hk
  ·subst hk
   rename_i hr4
   (have hb:=trivial;with_reducible repeat' (first|simp only[hb,Vc.down,seval,Na.down]|refine Be ?_ ?_<;>intro hb|refine fd ?_|fail))
   all_goals simp[Do,hp,hr1,hr2,hr3,hr4]
  ·obtain⟨rfl,h2⟩:=hk
   rename_i hr4
   (have hb:=trivial;with_reducible repeat' (first|simp only[hb,Vc.down,seval,Na.down,h2]|refine Be ?_ ?_<;>intro hb|refine fd ?_|fail))
   all_goals simp[Do,aaK.2 hr4]
end Go.Proofs.Ytfkokgjfpojeoaa
