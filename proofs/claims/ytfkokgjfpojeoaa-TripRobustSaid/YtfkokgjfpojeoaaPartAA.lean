/- The functions of the layer, walked. -/
import Derived.Test.YtfkokgjfpojeoaaLibD
import Derived.Test.YtfkokgjfpojeoaaChecked
import Derived.Test.YtfkokgjfpojeoaaRows
import Derived.ProofKit
import Derived.LaidMore
import Derived.OpenShut
open And renaming intro→aaF
open List renaming length_map→aaV,mem_of_getElem?→aa0,getElem?_eq_getElem→abL,take_add_one→abR,all_eq_not_any_not→acN
open Int renaming lt_irrefl→aaX,le_refl→abC,natCast_zero→abJ
open Bool renaming eq_false_iff→aaY,not_true→aa3,not_false→aa4,true_and→aa5,false_and→abE,and_true→abG,and_false→abH,not_eq_eq_eq_not→acC,and_eq_true→acI
open Nat renaming add_sub_cancel→abP
set_option linter.unusedSimpArgs false
set_option linter.unusedVariables false
namespace Go.Proofs.Ytfkokgjfpojeoaa
open Go.Ev
set_option maxRecDepth 100000
theorem Iu(h:Aa)(b r o:Nat):ld Try.prog 27 h (some (.ptr b r o))=qI (Kr (h[b]?) r) o 7:=Zk ⟨by kernel_rfl,by kernel_rfl⟩ h b r o
theorem Gj(h:Aa)(b r o:Nat):ld Try.prog 25 h (some (.ptr b r o))=oY (Kr (h[b]?) r) o:=Xa ⟨by kernel_rfl,1,by kernel_rfl⟩ h b r o
theorem dO(h:Aa)(c:AV)(cs:List AV):ld Try.prog 25 h (some (.iptr (c::cs)))=some (.ret c,[]):=fC ⟨by kernel_rfl,1,by kernel_rfl⟩ h c cs
theorem Fh(fl nn:Bool)(rows:List (List AV)):ln Try.prog 25 (some (Ag 1 fl nn rows))=some (.ret (.int .i64 rows.length),[]):=Wl ⟨_,Try.underlying25,by kernel_rfl⟩ fl nn rows
theorem Jg(b r o:Nat):fa Try.prog 27 (some (.ptr b r o)) 3=some (.ret (.ptr b r (o+3)),[]):=Br (show Dc Try.prog 27 3 3 1 from⟨_,_,Try.underlying27,rfl,rfl,by kernel_rfl,by decide⟩) b r o
theorem Bw(h:Aa)(b r o:Nat):ld Try.prog 3 h (some (.ptr b r o))=oY (Kr (h[b]?) r) o:=Xa ⟨by kernel_rfl,1,by kernel_rfl⟩ h b r o
theorem Gn(h:Aa)(c:AV)(cs:List AV):ld Try.prog 3 h (some (.iptr (c::cs)))=some (.ret c,[]):=fC ⟨by kernel_rfl,1,by kernel_rfl⟩ h c cs
theorem Dt(b r o:Nat):fa Try.prog 27 (some (.ptr b r o)) 1=some (.ret (.ptr b r (o+1)),[]):=Br (show Dc Try.prog 27 1 1 1 from⟨_,_,Try.underlying27,rfl,rfl,by kernel_rfl,by decide⟩) b r o
theorem Ei(h:Aa)(b r o:Nat):ld Try.prog 23 h (some (.ptr b r o))=oY (Kr (h[b]?) r) o:=Xa ⟨by kernel_rfl,1,by kernel_rfl⟩ h b r o
theorem Gt(fl nn:Bool)(rows:List (List AV)):ln Try.prog 23 (some (Ag 4 fl nn rows))=some (.ret (.int .i64 rows.length),[]):=Wl ⟨_,Try.underlying23,by kernel_rfl⟩ fl nn rows
theorem Ip(fl nn:Bool)(rows:List (List AV))(k:IntKind)(i:Int):ia Try.prog 23 (some (Ag 4 fl nn rows)) (some (.int k i))=if 0≤i then r1 ((rows[i.toNat]?).map .iptr)else none:=Xr ⟨_,Try.underlying23,by kernel_rfl⟩ fl nn rows k i
theorem Xn(h:Aa)(b r o:Nat):ld Try.prog 48 h (some (.ptr b r o))=qI (Kr (h[b]?) r) o 4:=Zk ⟨by kernel_rfl,by kernel_rfl⟩ h b r o
theorem Iy(h:Aa)(cs:List AV):ld Try.prog 48 h (some (.iptr cs))=if 4≤cs.length then some (.ret (.agg (cs.take 4)),[])else none:=eQ ⟨by kernel_rfl,by kernel_rfl⟩ h cs
theorem Ss:Is Try.prog 48=some (.agg [.nils,.int .i64 0,.int .i64 0,.bool false]):=by kernel_rfl
theorem Rq(h:Aa)(b r o:Nat)(v:AV):rK Try.prog 48 h (some (.ptr b r o)) (some v)=sv 4 (h[b]?) b r o (Aj v):=Wy (by kernel_rfl) h b r o v
theorem Ib(b r o:Nat):fa Try.prog 48 (some (.ptr b r o)) 0=some (.ret (.ptr b r (o+0)),[]):=Br (show Dc Try.prog 48 0 0 1 from⟨_,_,Try.underlying48,rfl,rfl,by kernel_rfl,by decide⟩) b r o
theorem aZ(cs:List AV):fa Try.prog 48 (some (.iptr cs)) 0=if 0+1≤cs.length then some (.ret (.iptr (cs.drop 0)),[])else none:=Vp (show Dc Try.prog 48 0 0 1 from⟨_,_,Try.underlying48,rfl,rfl,by kernel_rfl,by decide⟩) cs
theorem Hj(fl nn:Bool)(rows:List (List AV))(k:IntKind)(i:Int):ia Try.prog 25 (some (Ag 1 fl nn rows)) (some (.int k i))=if 0≤i then r1 ((rows[i.toNat]?).map .iptr)else none:=Xr ⟨_,Try.underlying25,by kernel_rfl⟩ fl nn rows k i
theorem Gm(b r o:Nat):fa Try.prog 27 (some (.ptr b r o)) 0=some (.ret (.ptr b r (o+0)),[]):=Br (show Dc Try.prog 27 0 0 1 from⟨_,_,Try.underlying27,rfl,rfl,by kernel_rfl,by decide⟩) b r o
theorem Hk(h:Aa)(b r o:Nat):ld Try.prog 22 h (some (.ptr b r o))=oY (Kr (h[b]?) r) o:=Xa ⟨by kernel_rfl,1,by kernel_rfl⟩ h b r o
theorem Jw(fl nn:Bool)(rows:List (List AV))(k:IntKind)(i:Int):ia Try.prog 22 (some (Ag 3 fl nn rows)) (some (.int k i))=if 0≤i then r1 ((rows[i.toNat]?).map .iptr)else none:=Xr ⟨_,Try.underlying22,by kernel_rfl⟩ fl nn rows k i
theorem Qm(h:Aa)(cs:List AV):ld Try.prog 50 h (some (.iptr cs))=if 3≤cs.length then some (.ret (.agg (cs.take 3)),[])else none:=eQ ⟨by kernel_rfl,by kernel_rfl⟩ h cs
theorem bP:Is Try.prog 50=some (.agg [.int .i64 0,.int .i64 0,.bool false]):=by kernel_rfl
theorem cS(h:Aa)(b r o:Nat)(v:AV):rK Try.prog 50 h (some (.ptr b r o)) (some v)=sv 3 (h[b]?) b r o (Aj v):=Wy (by kernel_rfl) h b r o v
theorem cE(b r o:Nat):fa Try.prog 50 (some (.ptr b r o)) 2=some (.ret (.ptr b r (o+2)),[]):=Br (show Dc Try.prog 50 2 2 1 from⟨_,_,Try.underlying50,rfl,rfl,by kernel_rfl,by decide⟩) b r o
theorem Vf(cs:List AV):fa Try.prog 50 (some (.iptr cs)) 2=if 2+1≤cs.length then some (.ret (.iptr (cs.drop 2)),[])else none:=Vp (show Dc Try.prog 50 2 2 1 from⟨_,_,Try.underlying50,rfl,rfl,by kernel_rfl,by decide⟩) cs
theorem Zm(h:Aa)(b r o:Nat):ld Try.prog 4 h (some (.ptr b r o))=oY (Kr (h[b]?) r) o:=Xa ⟨by kernel_rfl,1,by kernel_rfl⟩ h b r o
theorem Yt(h:Aa)(c:AV)(cs:List AV):ld Try.prog 4 h (some (.iptr (c::cs)))=some (.ret c,[]):=fC ⟨by kernel_rfl,1,by kernel_rfl⟩ h c cs
theorem Np(b r o:Nat):fa Try.prog 50 (some (.ptr b r o)) 0=some (.ret (.ptr b r (o+0)),[]):=Br (show Dc Try.prog 50 0 0 1 from⟨_,_,Try.underlying50,rfl,rfl,by kernel_rfl,by decide⟩) b r o
theorem Ol(b r o:Nat):fa Try.prog 50 (some (.ptr b r o)) 1=some (.ret (.ptr b r (o+1)),[]):=Br (show Dc Try.prog 50 1 1 1 from⟨_,_,Try.underlying50,rfl,rfl,by kernel_rfl,by decide⟩) b r o
theorem cH(b r o:Nat):fa Try.prog 48 (some (.ptr b r o)) 3=some (.ret (.ptr b r (o+3)),[]):=Br (show Dc Try.prog 48 3 3 1 from⟨_,_,Try.underlying48,rfl,rfl,by kernel_rfl,by decide⟩) b r o
theorem Nj(b r o:Nat):fa Try.prog 48 (some (.ptr b r o)) 2=some (.ret (.ptr b r (o+2)),[]):=Br (show Dc Try.prog 48 2 2 1 from⟨_,_,Try.underlying48,rfl,rfl,by kernel_rfl,by decide⟩) b r o
theorem Ia(b r o:Nat):fa Try.prog 48 (some (.ptr b r o)) 1=some (.ret (.ptr b r (o+1)),[]):=Br (show Dc Try.prog 48 1 1 1 from⟨_,_,Try.underlying48,rfl,rfl,by kernel_rfl,by decide⟩) b r o
theorem Tz(fl nn:Bool)(rows:List (List AV)):ln Try.prog 22 (some (Ag 3 fl nn rows))=some (.ret (.int .i64 rows.length),[]):=Wl ⟨_,Try.underlying22,by kernel_rfl⟩ fl nn rows
theorem Jh(b r o:Nat):fa Try.prog 27 (some (.ptr b r o)) 2=some (.ret (.ptr b r (o+2)),[]):=Br (show Dc Try.prog 27 2 2 1 from⟨_,_,Try.underlying27,rfl,rfl,by kernel_rfl,by decide⟩) b r o
theorem Lc(h:Aa)(b r o:Nat):ld Try.prog 24 h (some (.ptr b r o))=oY (Kr (h[b]?) r) o:=Xa ⟨by kernel_rfl,1,by kernel_rfl⟩ h b r o
theorem Jy(fl nn:Bool)(rows:List (List AV)):ln Try.prog 24 (some (Ag 5 fl nn rows))=some (.ret (.int .i64 rows.length),[]):=Wl ⟨_,Try.underlying24,by kernel_rfl⟩ fl nn rows
theorem nY:Is Try.prog 56=some (.agg [.int .i64 0,.bool false]):=by kernel_rfl
theorem lY:Is Try.prog 59=some (.agg [.int .i64 0,.int .i64 0,.nils,.int .i64 0,.int .i64 0]):=by kernel_rfl
theorem Uj(b r o:Nat):fa Try.prog 27 (some (.ptr b r o)) 5=some (.ret (.ptr b r (o+5)),[]):=Br (show Dc Try.prog 27 5 5 1 from⟨_,_,Try.underlying27,rfl,rfl,by kernel_rfl,by decide⟩) b r o
theorem Or(fl nn:Bool)(rows:List (List AV))(k:IntKind)(i:Int):ia Try.prog 24 (some (Ag 5 fl nn rows)) (some (.int k i))=if 0≤i then r1 ((rows[i.toNat]?).map .iptr)else none:=Xr ⟨_,Try.underlying24,by kernel_rfl⟩ fl nn rows k i
theorem Om(b r o:Nat):fa Try.prog 59 (some (.ptr b r o)) 2=some (.ret (.ptr b r (o+2)),[]):=Br (show Dc Try.prog 59 2 2 1 from⟨_,_,Try.underlying59,rfl,rfl,by kernel_rfl,by decide⟩) b r o
theorem dJ(cs:List AV):fa Try.prog 59 (some (.iptr cs)) 2=if 2+1≤cs.length then some (.ret (.iptr (cs.drop 2)),[])else none:=Vp (show Dc Try.prog 59 2 2 1 from⟨_,_,Try.underlying59,rfl,rfl,by kernel_rfl,by decide⟩) cs
theorem Ql(h:Aa)(b r o:Nat):ld Try.prog 57 h (some (.ptr b r o))=oY (Kr (h[b]?) r) o:=Xa ⟨by kernel_rfl,1,by kernel_rfl⟩ h b r o
theorem eI(h:Aa)(c:AV)(cs:List AV):ld Try.prog 57 h (some (.iptr (c::cs)))=some (.ret c,[]):=fC ⟨by kernel_rfl,1,by kernel_rfl⟩ h c cs
theorem Ou(fl nn:Bool)(rows:List (List AV)):ln Try.prog 57 (some (Ag 2 fl nn rows))=some (.ret (.int .i64 rows.length),[]):=Wl ⟨_,Try.underlying57,by kernel_rfl⟩ fl nn rows
theorem On(b r o:Nat):fa Try.prog 27 (some (.ptr b r o)) 6=some (.ret (.ptr b r (o+6)),[]):=Br (show Dc Try.prog 27 6 6 1 from⟨_,_,Try.underlying27,rfl,rfl,by kernel_rfl,by decide⟩) b r o
theorem jO(ps:List (Nat × AV)):Qj Try.prog 86 ps=(Ie (fun i=>([(0,1),(1,1)]:List (Nat × Nat))[i]?) (Aj (.agg [.int .i64 0,.int .i64 0])) ps).map .agg:=by kernel_rfl
theorem jX:Is Try.prog 86=some (.agg [.int .i64 0,.int .i64 0]):=by kernel_rfl
theorem nA(h:Aa)(b r o:Nat)(v:AV):rK Try.prog 86 h (some (.ptr b r o)) (some v)=sv 2 (h[b]?) b r o (Aj v):=Wy (by kernel_rfl) h b r o v
theorem Ux(b r o:Nat):fa Try.prog 86 (some (.ptr b r o)) 0=some (.ret (.ptr b r (o+0)),[]):=Br (show Dc Try.prog 86 0 0 1 from⟨_,_,Try.underlying86,rfl,rfl,by kernel_rfl,by decide⟩) b r o
theorem Uw(b r o:Nat):fa Try.prog 86 (some (.ptr b r o)) 1=some (.ret (.ptr b r (o+1)),[]):=Br (show Dc Try.prog 86 1 1 1 from⟨_,_,Try.underlying86,rfl,rfl,by kernel_rfl,by decide⟩) b r o
theorem Jd(b r o:Nat):fa Try.prog 27 (some (.ptr b r o)) 4=some (.ret (.ptr b r (o+4)),[]):=Br (show Dc Try.prog 27 4 4 1 from⟨_,_,Try.underlying27,rfl,rfl,by kernel_rfl,by decide⟩) b r o
theorem Xz(h:Aa)(b r o:Nat):ld Try.prog 59 h (some (.ptr b r o))=qI (Kr (h[b]?) r) o 5:=Zk ⟨by kernel_rfl,by kernel_rfl⟩ h b r o
theorem Qi(h:Aa)(cs:List AV):ld Try.prog 59 h (some (.iptr cs))=if 5≤cs.length then some (.ret (.agg (cs.take 5)),[])else none:=eQ ⟨by kernel_rfl,by kernel_rfl⟩ h cs
theorem Nx(b r o:Nat):fa Try.prog 59 (some (.ptr b r o)) 1=some (.ret (.ptr b r (o+1)),[]):=Br (show Dc Try.prog 59 1 1 1 from⟨_,_,Try.underlying59,rfl,rfl,by kernel_rfl,by decide⟩) b r o
theorem eO(h:Aa)(b r o:Nat):ld Try.prog 86 h (some (.ptr b r o))=qI (Kr (h[b]?) r) o 2:=Zk ⟨by kernel_rfl,by kernel_rfl⟩ h b r o
theorem nB(h:Aa)(b r o:Nat)(v:AV):rK Try.prog 59 h (some (.ptr b r o)) (some v)=sv 5 (h[b]?) b r o (Aj v):=Wy (by kernel_rfl) h b r o v
theorem dQ(h:Aa)(b r o:Nat):ld Try.prog 90 h (some (.ptr b r o))=qI (Kr (h[b]?) r) o 2:=Zk ⟨by kernel_rfl,by kernel_rfl⟩ h b r o
theorem dW(ps:List (Nat × AV)):Qj Try.prog 126 ps=(Ie (fun i=>([(0,5),(5,2),(7,2)]:List (Nat × Nat))[i]?) (Aj (.agg [.int .i64 0,.int .i64 0,.nils,.int .i64 0,.int .i64 0,.int .i64 0,.int .i64 0,.int .i64 0,.int .i64 0])) ps).map .agg:=by kernel_rfl
theorem Tc(fl nn:Bool)(rows:List (List AV))(k:IntKind)(i:Int):ia Try.prog 57 (some (Ag 2 fl nn rows)) (some (.int k i))=if 0≤i then r1 ((rows[i.toNat]?).map .iptr)else none:=Xr ⟨_,Try.underlying57,by kernel_rfl⟩ fl nn rows k i
theorem Oe(b r o:Nat):fa Try.prog 56 (some (.ptr b r o)) 0=some (.ret (.ptr b r (o+0)),[]):=Br (show Dc Try.prog 56 0 0 1 from⟨_,_,Try.underlying56,rfl,rfl,by kernel_rfl,by decide⟩) b r o
theorem bS(cs:List AV):fa Try.prog 56 (some (.iptr cs)) 0=if 0+1≤cs.length then some (.ret (.iptr (cs.drop 0)),[])else none:=Vp (show Dc Try.prog 56 0 0 1 from⟨_,_,Try.underlying56,rfl,rfl,by kernel_rfl,by decide⟩) cs
theorem Nk(b r o:Nat):fa Try.prog 59 (some (.ptr b r o)) 0=some (.ret (.ptr b r (o+0)),[]):=Br (show Dc Try.prog 59 0 0 1 from⟨_,_,Try.underlying59,rfl,rfl,by kernel_rfl,by decide⟩) b r o
theorem Nq(b r o:Nat):fa Try.prog 59 (some (.ptr b r o)) 3=some (.ret (.ptr b r (o+3)),[]):=Br (show Dc Try.prog 59 3 3 1 from⟨_,_,Try.underlying59,rfl,rfl,by kernel_rfl,by decide⟩) b r o
theorem Nz(b r o:Nat):fa Try.prog 59 (some (.ptr b r o)) 4=some (.ret (.ptr b r (o+4)),[]):=Br (show Dc Try.prog 59 4 4 1 from⟨_,_,Try.underlying59,rfl,rfl,by kernel_rfl,by decide⟩) b r o
theorem bF(b r o:Nat):fa Try.prog 56 (some (.ptr b r o)) 1=some (.ret (.ptr b r (o+1)),[]):=Br (show Dc Try.prog 56 1 1 1 from⟨_,_,Try.underlying56,rfl,rfl,by kernel_rfl,by decide⟩) b r o
theorem dH(b r o:Nat):fa Try.prog 90 (some (.ptr b r o)) 0=some (.ret (.ptr b r (o+0)),[]):=Br (show Dc Try.prog 90 0 0 1 from⟨_,_,Try.underlying90,rfl,rfl,by kernel_rfl,by decide⟩) b r o
theorem Xu(h:Aa)(cs:List AV):ld Try.prog 56 h (some (.iptr cs))=if 2≤cs.length then some (.ret (.agg (cs.take 2)),[])else none:=eQ ⟨by kernel_rfl,by kernel_rfl⟩ h cs
theorem nR(h:Aa)(b r o:Nat)(v:AV):rK Try.prog 56 h (some (.ptr b r o)) (some v)=sv 2 (h[b]?) b r o (Aj v):=Wy (by kernel_rfl) h b r o v
theorem Us(h:Aa)(b r o:Nat):ld Try.prog 126 h (some (.ptr b r o))=qI (Kr (h[b]?) r) o 9:=Zk ⟨by kernel_rfl,by kernel_rfl⟩ h b r o
theorem Ii(b r o:Nat):fa Try.prog 126 (some (.ptr b r o)) 0=some (.ret (.ptr b r (o+0)),[]):=Br (show Dc Try.prog 126 0 0 5 from⟨_,_,Try.underlying126,rfl,rfl,by kernel_rfl,by decide⟩) b r o
theorem Qx(b r o:Nat):fa Try.prog 126 (some (.ptr b r o)) 1=some (.ret (.ptr b r (o+5)),[]):=Br (show Dc Try.prog 126 1 5 2 from⟨_,_,Try.underlying126,rfl,rfl,by kernel_rfl,by decide⟩) b r o
theorem Rn(b r o:Nat):fa Try.prog 126 (some (.ptr b r o)) 2=some (.ret (.ptr b r (o+7)),[]):=Br (show Dc Try.prog 126 2 7 2 from⟨_,_,Try.underlying126,rfl,rfl,by kernel_rfl,by decide⟩) b r o
theorem bN(b r o:Nat):fa Try.prog 90 (some (.ptr b r o)) 1=some (.ret (.ptr b r (o+1)),[]):=Br (show Dc Try.prog 90 1 1 1 from⟨_,_,Try.underlying90,rfl,rfl,by kernel_rfl,by decide⟩) b r o
def xY:=PLift.up (aaF @Iu (aaF @Dt (aaF @Ei @Gt)))
def Wb:=PLift.up (aaF @Dt (aaF @Ei (aaF @Gt (aaF @Ip (aaF @aZ (aaF @Gj (aaF @dO (aaF @Fh (aaF @Jh (aaF @Lc (aaF @Jy (aaF @Or (aaF @dJ (aaF @eI (aaF @Ou (aaF @Gm (aaF @Hk (aaF @Tz @On))))))))))))))))))
def Me:=PLift.up (aaF @Gm (aaF @Hk (aaF @Tz (aaF @Jw (aaF @Qm (aaF @bP (aaF @cS (aaF @Np (aaF @Bw (aaF @Gn (aaF @Ol (aaF @Dt (aaF @Ei (aaF @Gt (aaF @Ip (aaF @Iy (aaF @Jg (aaF @Jd (aaF @Uj (aaF @On (aaF @Gj (aaF @Fh (aaF @Jh (aaF @Lc (aaF @Jy (aaF @Hj (aaF @Iu (aaF @Or @Qi))))))))))))))))))))))))))))
def bB:=PLift.up (aaF @Iu (aaF @Dt (aaF @Ei (aaF @Gt (aaF @Ip (aaF @Iy (aaF @Ss (aaF @Rq (aaF @Ib (aaF @Gj (aaF @Fh (aaF @Hj (aaF @Bw (aaF @Gn (aaF @Gm (aaF @Hk (aaF @Jw (aaF @Vf (aaF @Yt @Ia)))))))))))))))))))
def acJ:=PLift.up (aaF @Dt (aaF @Ei (aaF @Ip (aaF @Xn (aaF @Iy (aaF @Ss (aaF @Rq (aaF @Iu (aaF @Ia @Bw)))))))))
def Yn:=PLift.up (aaF @Gm (aaF @Hk (aaF @Tz (aaF @Dt (aaF @Ei (aaF @Gt (aaF @Jh (aaF @Lc (aaF @Jy (aaF @Jg (aaF @Bw (aaF @Jd (aaF @Uj (aaF @On (aaF @Gj (aaF @Fh (aaF @Jw (aaF @Qm (aaF @bP (aaF @cS (aaF @Np (aaF @Ol (aaF @Ip (aaF @Iy (aaF @Ss (aaF @Rq (aaF @Ib (aaF @Ia @Nj))))))))))))))))))))))))))))
def lN:=PLift.up (aaF @eO (aaF @jX (aaF @Jh (aaF @Lc (aaF @Jy (aaF @Or (aaF @Xz (aaF @Qi (aaF @lY (aaF @nB (aaF @dQ (aaF @dW (aaF @Nx (aaF @Bw (aaF @jO (aaF @nA (aaF @Ux @Uw)))))))))))))))))
def eK:=PLift.up (aaF @Dt (aaF @Ei (aaF @Gt (aaF @Ip (aaF @Xn (aaF @Iy (aaF @Ss (aaF @Rq (aaF @Ib (aaF @Gj (aaF @Fh (aaF @Hj (aaF @Bw (aaF @Gn (aaF @Gm (aaF @Hk (aaF @Jw (aaF @Qm @Ia))))))))))))))))))
def iZ:=PLift.up (aaF @Ib (aaF @Gj (aaF @Fh (aaF @Hj (aaF @Bw (aaF @Gn (aaF @Ia @Nj)))))))
def Vu:=PLift.up (aaF @Om (aaF @Ql (aaF @Ou (aaF @Tc (aaF @bS (aaF @Bw (aaF @Gn (aaF @Dt (aaF @Ei (aaF @Gt (aaF @Nk (aaF @Jg (aaF @Nx (aaF @Nq (aaF @Jd @Nz)))))))))))))))
def mR:=PLift.up (aaF @Ib (aaF @Gj (aaF @Fh (aaF @Gm (aaF @Hk (aaF @Hj (aaF @Gn (aaF @Jw (aaF @Vf @Yt)))))))))
def gJ:=PLift.up (aaF @Fh (aaF @Hj @Gn))
def acR:=PLift.up (aaF @Iu @Xz)
def dT:=PLift.up (aaF @Om (aaF @Ql (aaF @Ou (aaF @Tc (aaF @Xu (aaF @nY (aaF @nR (aaF @Oe (aaF @Bw (aaF @Dt (aaF @Ei (aaF @Gt (aaF @Nk (aaF @Jg (aaF @Nx (aaF @Nq (aaF @Jd @Nz)))))))))))))))))
def yE:=PLift.up (aaF @Us @Us)
def acH:=PLift.up (aaF @cE (aaF @Zm (aaF @Np (aaF @Bw (aaF @Ol (aaF @cH @Nj))))))
def oD:=PLift.up (aaF @Jy (aaF @Or @Qi))
def agD:=PLift.up (aaF @Oe @Bw)
def lR:=PLift.up (aaF @Fh (aaF @Hj @Gn))
def ahP:=PLift.up (aaF @Ii (aaF @Nk (aaF @Bw (aaF @Qx @Ux))))
def aoG:=PLift.up (aaF @Ii (aaF @Nz (aaF @Bw (aaF @Qx @Uw))))
def afO:=PLift.up (aaF @Ii (aaF @Om @Ql))
def anQ:=PLift.up (aaF @Ii (aaF @Nq (aaF @Bw (aaF @Rn @bN))))
def Yk:=PLift.up (aaF @Ou (aaF @Tc @Xu))
def ab2:=PLift.up (aaF @Rn (aaF @dH (aaF @Bw (aaF @Oe (aaF @bF @Zm)))))
end Go.Proofs.Ytfkokgjfpojeoaa
namespace Go.Proofs.Ytfkokgjfpojeoaa
open Go Go.Ev Go.ChangeShapes Go.WideShapes Go.ChangeAt Go.RowKit
set_option maxRecDepth 100000
set_option maxHeartbeats 16000000
def mdL:List Nat:=[96,100,102,83]
def pr:Et:=⟨fun _=>none,(mdL.contains ·)⟩
noncomputable def Fa:Dm:=om Try.prog pr
def Va:=PLift.up (aaF EE.down EE.down)
def Vc:=PLift.up (aaF EG.down EVu.down)
theorem an8{C:R→Prop}[oW C]{n:Nat}{k:List Ah}{c:Code}{s:St}(h:Un Fa Try.prog n k c C (Bf Fa Try.prog 5000 c [] s)):C (sJ Fa Try.prog n k (Fa.loop c s)):=zO (pr:=pr) h
theorem own:ownKnob Try.prog.godebug=none:=by kernel_rfl
theorem alH:iQ Try.prog:=fun f fn hf=>by
 have h:(Try.prog.funcs.toList.all fun fn=> !(fn.name== "runtime.NumGoroutine"))=true:=by kernel_rfl
 have:=List.all_eq_true.1 h fn (by rw[Array.mem_toList_iff];exact Array.mem_of_getElem? hf)
 simpa using this
theorem yV:Try.prog.follows .mixedOrders=true:=by kernel_rfl
theorem pK:laidOutB Try.prog=true:=by kernel_rfl
theorem kA:Du Try.prog (fun _=>none) Fa:=zQ alH (fun f p h=>by cases h) yV
theorem uN{W:World}{S:Nat→Prop}:Ul (fun _=>none) W S:=fun b o h=>by cases h
theorem afR{f:Nat}{fn:Func}{c:Code}{args:List AV}{h:Aa}{Q:Dv→Aa→Prop}(hp:pr f=none)(hf:Try.prog.funcs[f]?=some fn)(hb:fn.body=some c)(hl:Nat.ble args.length fn.ntmps=true)
 (he:wX Try.prog h.length fn.results.toList Q (Bf Fa Try.prog 5000 c [] ⟨mk fn.ntmps (Eu args),h⟩)):xE Fa f args h Q:=xE.start (pr:=pr) hp hf hb hl he
theorem ce{f:Nat}{fn:Func}{c:Code}{args:List AV}{h:Aa}{o:Dv}{h':Aa}(hf:Try.prog.funcs[f]?=some fn)(he:wX Try.prog h.length fn.results.toList (fun o1 h1=>(o1,h1)=(o,h')) (Bf Fa Try.prog 5000 c [] ⟨mk fn.ntmps (Eu args),h⟩))(hp:pr f=none:=by exact rfl)(hb:fn.body=some c:=by exact rfl)(hl:Nat.ble args.length fn.ntmps=true:=by exact rfl):Fa.call (.fn f) args h=some (o,h'):=(afR hp hf hb hl he).eq
theorem Yg{α σ ρ:Type}{c:Code}(N:Nat)(l:List α)(E:Nat→σ→Tm→Aa→Prop)(F:List α→σ→ρ)(Q:ρ→Ex→Tm→Aa→Prop)
 (stop:∀s t h Q',(∀e t h,Q (F [] s) e t h→Q' e ⟨mk N t,h⟩)→E l.length s t h→jM N (fun _ _=>False) Q' (Bf Fa Try.prog 5000 c [] ⟨mk N t,h⟩))
 (go:∀x rest i s t h J Q',(∀t' h' s',E (i+1) s' t' h'→F rest s'=F (x::rest) s→J t' h')→(∀e t h,Q (F (x::rest) s) e t h→Q' e ⟨mk N t,h⟩)→l[i]?=some x→i<l.length→E i s t h→
   jM N J Q' (Bf Fa Try.prog 5000 c [] ⟨mk N t,h⟩)):
 ∀s t h,E 0 s t h→oU Fa c ⟨mk N t,h⟩ (Ot N (Q (F l s))):=iM (pr:=pr) rfl N l E F Q stop go
def iv(x:Int):List AV:=[.int .i64 x]
theorem Bo{h:Aa}{b:Nat}{c:CB}(h0:h[b]?=some c)(l:Aa):(h++l)[b]?=some c:=by
 rw[List.getElem?_append_left (List.getElem?_eq_some_iff.1 h0).1];exact h0
end Go.Proofs.Ytfkokgjfpojeoaa
namespace Go.Proofs.Ytfkokgjfpojeoaa
open Go.Ev Go
set_option maxRecDepth 100000
set_option maxHeartbeats 16000000
structure Bd where
 lo:Int
 hi:Int
 byp:Bool
def Bd.cells(s:Bd):List AV:=[.int .i64 s.lo,.int .i64 s.hi,.bool s.byp]
structure Ak where
 nn:Bool
 sens:List Int
 need:Int
 level:Int
 above:Bool
def Ak.cells(v:Ak):List AV:=[Ag 1 true v.nn (v.sens.map iv),.int .i64 v.need,.int .i64 v.level,.bool v.above]
structure An where
 vote:Int
 is:Bool
def An.cells(w:An):List AV:=[.int .i64 w.vote,.bool w.is]
structure Am where
 frm:Int
 to:Int
 nn:Bool
 wants:List An
 cmd:Int
 after:Int
def Am.cells(x:Am):List AV:=[.int .i64 x.frm,.int .i64 x.to,Ag 2 true x.nn (x.wants.map An.cells),.int .i64 x.cmd,.int .i64 x.after]
structure Ba where
 nS:Bool
 sens:List Bd
 nV:Bool
 votes:List Ak
 nM:Bool
 moves:List Am
 states:Int
 cmds:Int
 bgn:Int
 nO:Bool
 opn:List Int
abbrev Ba.cells(m:Ba):List AV:=[Ag 3 true m.nS (m.sens.map Bd.cells),Ag 4 false m.nV (m.votes.map Ak.cells),Ag 5 false m.nM (m.moves.map Am.cells),.int .i64 m.states,.int .i64 m.cmds,.int .i64 m.bgn,Ag 1 true m.nO (m.opn.map iv)]
structure Ba.small(m:Ba):Prop where
 sens:m.sens.length≤maxLen
 votes:m.votes.length≤maxLen
 moves:m.moves.length≤maxLen
 opn:m.opn.length≤maxLen
 vs:∀v∈m.votes,v.sens.length≤maxLen
 ws:∀x∈m.moves,x.wants.length≤maxLen
def Nb(x lo hi:Int):Bool:=decide (lo≤x)&&decide (x≤hi)
theorem Rx(x lo hi:Int):Fa.call (.fn 43) [.int .i64 x,.int .i64 lo,.int .i64 hi] []=some (.ret (.bool (Nb x lo hi)),[]):=by
 (refine ce Try.func43 ?_;simp only[Try.f43];(have hb:=trivial;with_reducible repeat' (first|simp only[hb,Va.down,seval]|refine Be ?_ ?_<;>intro hb|refine fd ?_|fail)))
 all_goals simp[Nb, *]
theorem aP(x lo hi:Int):Fa.call (.fn 48) [.int .i64 x,.int .i64 lo,.int .i64 hi] []=some (.ret (.bool (Nb x lo hi)),[]):=by
 (refine ce Try.func48 ?_;simp only[Try.f48];(have hb:=trivial;with_reducible repeat' (first|simp only[hb,Va.down,seval]|refine Be ?_ ?_<;>intro hb|refine fd ?_|fail)))
 all_goals simp[Nb, *]
def fX(x:Int):Bool:=Nb x (-10000) 10000
theorem eU(x:Int):Fa.call (.fn 69) [.int .i64 x] []=some (.ret (.bool (fX x)),[]):=by
 (refine ce Try.func69 ?_;simp only[Try.f69];(have hb:=trivial;with_reducible repeat' (first|simp only[hb,Va.down,seval,Rx]|refine Be ?_ ?_<;>intro hb|refine fd ?_|fail)))
 all_goals rfl
theorem nD(x:Int):Fa.call (.fn 74) [.int .i64 x] []=some (.ret (.bool (!Nb x 0 255)),[]):=by
 (refine ce Try.func74 ?_;simp only[Try.f74];(have hb:=trivial;with_reducible repeat' (first|simp only[hb,Va.down,seval,Rx]|refine Be ?_ ?_<;>intro hb|refine fd ?_|fail)))
def fA(s:Bd)(v:Ak)(r:Int):Bool:= !s.byp&&(!Nb r s.lo s.hi||(if v.above=true then decide (v.level≤r)else decide (r≤v.level)))
theorem sU(s:Bd)(v:Ak)(r:Int):Fa.call (.fn 76) [.agg [.int .i64 s.lo,.int .i64 s.hi,.bool s.byp],.agg [Ag 1 true v.nn (v.sens.map iv),.int .i64 v.need,.int .i64 v.level,.bool v.above],.int .i64 r] []=some (.ret (.bool (fA s v r)),[]):=by
 (refine ce Try.func76 ?_;simp only[Try.f76];(have hb:=trivial;with_reducible repeat' (first|simp only[hb,Va.down,seval,acH.down,Rx]|refine Be ?_ ?_<;>intro hb|refine fd ?_|fail)))
 all_goals simp_all[fA]
def aN{α:Type}(p:α→Bool):List α→Int→Int
 | [],_=> -1
 |x::l,i=>if p x=true then i else aN p l (i+1)
theorem Ry{α:Type}(p:α→Bool):∀(l:List α) (i:Int),0≤i→decide (0≤aN p l i)=l.any p
 | [],i,_=>rfl
 |x::l,i,h=>by
  unfold aN
  split
  ·rename_i hp;simp[h,hp]
  ·rename_i hp;rw[Ry p l (i+1) (by omega)];simp[hp]
theorem oQ{l:List Int}{nn:Bool}{g:Nat}{cap:List AV}{p:Int→Bool}(hc:cap.all (Aq 8)=true)(hc7:cap.all (Aq 7)=true)(hp:∀x∈l,Fa.call (.fn g) (.int .i64 x::cap) []=some (.ret (.bool (p x)),[]))(hl:l.length≤maxLen):
 Fa.call (.fn 91) [Ag 1 true nn (l.map iv),.func (.func g) [] cap] []=some (.ret (.int .i64 (aN p l 0)),[]):=by
 (refine ce Try.func91 ?_;simp only[Try.f91];(have hb:=trivial;with_reducible repeat' (first|simp only[hb,Va.down,seval,lR.down,aaV]|refine Be ?_ ?_<;>intro hb|refine fd ?_|fail)))
 refine Ft (Yg 19 l (fun i (s:Int) t h=>s=i∧h=[]∧t 0=Ag 1 true nn (l.map iv)∧t 1=.func (.func g) [] cap∧t 7=.int .i64 l.length∧t 8=.int .i64 i)
  (fun rest s=>aN p rest s) (fun r e t h=>h=[]∧((e=.exit 0∧r= -1)∨(e=.ret∧t 4=.int .i64 r))) ?_ ?_ 0 _ _ ?_) (fun e t h hk=>?_)
 ·rintro s t h Q' kQ ⟨rfl,rfl,h0,h1,h7,h8⟩
  (have hb:=trivial;with_reducible repeat' (first|simp only[hb,Va.down,seval,lR.down,h0,h1,h7,h8,aaX,decide_false]|refine Be ?_ ?_<;>intro hb|refine fd ?_|fail))
  exact kQ _ _ _ ⟨rfl,.inl ⟨rfl,rfl⟩⟩
 ·rintro x rest i s t h J Q' kJ kQ hx hi ⟨rfl,rfl,h0,h1,h7,h8⟩
  have hpx:=hp x (aa0 hx)
  have hd:decide ((i:Int)<(l.length:Int))=true:=by simpa using hi
  (have hb:=trivial;with_reducible repeat' (first|simp only[hb,Va.down,seval,lR.down,h0,h1,h7,h8,hd,hx,iv,hc,hc7,hpx,Aw hi hl]|refine Be ?_ ?_<;>intro hb|refine fd ?_|fail))
  ·exact kQ _ _ _ ⟨rfl,.inr ⟨rfl,by simp[up,aN,hb]⟩⟩
  ·exact Cj (kJ _ _ (i+1) ⟨by simp,rfl,by simp[up,h0],by simp[up,h1],by simp[up,h7],by simp[up]⟩ (by simp[aN,hb]))
 ·exact⟨rfl,rfl,by simp[up,Eu],by simp[up,Eu],by simp[up],by simp[up]⟩
 ·obtain⟨rfl,⟨rfl,hi⟩|⟨rfl,hi⟩⟩:=hk
  ·(have hb:=trivial;with_reducible repeat' (first|simp only[hb,Va.down,seval,lR.down]|refine Be ?_ ?_<;>intro hb|refine fd ?_|fail))
   rw[hi]
  ·(have hb:=trivial;with_reducible repeat' (first|simp only[hb,Va.down,seval,lR.down,hi]|refine Be ?_ ?_<;>intro hb|refine fd ?_|fail))
theorem iE{l:List Int}{nn:Bool}{g:Nat}{cap:List AV}{p:Int→Bool}(hc:cap.all (Aq 8)=true)(hc7:cap.all (Aq 7)=true)(hp:∀x∈l,Fa.call (.fn g) (.int .i64 x::cap) []=some (.ret (.bool (p x)),[]))(hl:l.length≤maxLen):
 Fa.call (.fn 73) [Ag 1 true nn (l.map iv),.func (.func g) [] cap] []=some (.ret (.bool (l.any p)),[]):=by
 (refine ce Try.func73 ?_;simp only[Try.f73];(have hb:=trivial;with_reducible repeat' (first|simp only[hb,Va.down,seval,oQ hc hc7 hp hl,hc,hc7,Ry p l 0 (abC 0)]|refine Be ?_ ?_<;>intro hb|refine fd ?_|fail)))
def Jm(b:Int):List Int→Option Int→Bool
 | [],_=>true
 |n::l,p=>Nb n 0 (IntKind.i64.wrap (b-1))&&(match p with|none=>true|some q=> !decide (n≤q))&&Jm b l (some n)
theorem aE{l:List Int}{nn:Bool}(b:Int)(hl:l.length≤maxLen):Fa.call (.fn 53) [Ag 1 true nn (l.map iv),.int .i64 b] []=some (.ret (.bool (Jm b l none)),[]):=by
 (refine ce Try.func53 ?_;simp only[Try.f53];(have hb:=trivial;with_reducible repeat' (first|simp only[hb,Va.down,seval,gJ.down,aaV]|refine Be ?_ ?_<;>intro hb|refine fd ?_|fail)))
 refine Ft (Yg 33 l (fun i (s:Option Int) t h=>(i=0∧s=none∨0<i∧s=l[i-1]?)∧t 0=Ag 1 true nn (l.map iv)∧t 1=.int .i64 b∧t 7=Ag 1 true nn (l.map iv)∧t 8=.int .i64 l.length∧t 9=.int .i64 i)
  (fun rest s=>Jm b rest s) (fun r e t h=>if r=true then e=.exit 0 else e=.ret∧t 4=.bool false) ?_ ?_ none _ _ ?_) (fun e t h hk=>?_)
 ·rintro s t h Q' kQ ⟨hs,h0,h1,h7,h8,h9⟩
  (have hb:=trivial;with_reducible repeat' (first|simp only[hb,Va.down,seval,gJ.down,h0,h1,h7,h8,h9,aaX,decide_false]|refine Be ?_ ?_<;>intro hb|refine fd ?_|fail))
  exact kQ _ _ _ (by simp[Jm])
 ·rintro x rest i s t h J Q' kJ kQ hx hi ⟨hs,h0,h1,h7,h8,h9⟩
  have hd:decide ((i:Int)<(l.length:Int))=true:=by simpa using hi
  have kF:∀{p:Option Int},(Nb x 0 (IntKind.i64.wrap (b-1))&&(match p with|none=>true|some q=> !decide (x≤q)))=false→Jm b (x::rest) p=false:=fun h=>by simp[Jm,h]
  have kT:∀{p:Option Int},(Nb x 0 (IntKind.i64.wrap (b-1))&&(match p with|none=>true|some q=> !decide (x≤q)))=true→Jm b rest (some x)=Jm b (x::rest) p:=fun h=>by simp[Jm,h]
  have hw:=Aw hi hl
  rcases hs with⟨rfl,rfl⟩|⟨hpos,rfl⟩
  ·simp only[abJ,Int.zero_add]at hd h9 hw
   (have hb:=trivial;with_reducible repeat' (first|simp only[hb,Va.down,seval,gJ.down,h0,h1,h7,h8,h9,hd,hx,iv,Rx,hw,Int.toNat_zero,abC,aaX,decide_false]|refine Be ?_ ?_<;>intro hb|refine fd ?_|fail))
   all_goals first
    |exact kQ _ _ _ (by rw[if_neg (by rw[kF (by simp_all)];simp)];exact⟨rfl,rfl⟩)
    |exact Cj (kJ _ _ (some x) ⟨.inr ⟨by omega,by simp[hx]⟩,by simp[up,h0],by simp[up,h1],by simp[up,h7],by simp[up,h8],by simp[up]<;>omega⟩ (kT (by simp_all)))
  ·obtain⟨j,rfl⟩:∃j,i=j+1:=⟨i-1,by omega⟩
   obtain⟨q,hq⟩:∃q,l[j]?=some q:=⟨l[j],abL (by omega)⟩
   have hj:IntKind.i64.wrap (((j+1:Nat):Int)-1)=(j:Int):=by unfold maxLen at hl;rw[Hu (by omega) (by omega)];omega
   have hg:decide (0<((j+1:Nat):Int))=true:=by rw[decide_eq_true_eq];omega
   simp only[abP,hq]at kJ kQ
   (have hb:=trivial;with_reducible repeat' (first|simp only[hb,Va.down,seval,gJ.down,h0,h1,h7,h8,h9,hd,hx,iv,Rx,hw,hj,hg,hq]|refine Be ?_ ?_<;>intro hb|refine fd ?_|fail))
   all_goals first
    |exact kQ _ _ _ (by rw[if_neg (by rw[kF (by simp_all)];simp)];exact⟨rfl,rfl⟩)
    |exact Cj (kJ _ _ (some x) ⟨.inr ⟨by omega,by simp[hx]⟩,by simp[up,h0],by simp[up,h1],by simp[up,h7],by simp[up,h8],by simp[up]<;>omega⟩ (kT (by simp_all)))
 ·exact⟨.inl ⟨rfl,rfl⟩,by simp[up,Eu],by simp[up,Eu],by simp[up,Eu],by simp[up],by simp[up]⟩
 ·split at hk
  ·subst hk
   rename_i hr
   (have hb:=trivial;with_reducible repeat' (first|simp only[hb,Va.down,seval,gJ.down]|refine Be ?_ ?_<;>intro hb|refine fd ?_|fail))
   all_goals simp[hr]
  ·obtain⟨rfl,h2⟩:=hk
   rename_i hr
   (have hb:=trivial;with_reducible repeat' (first|simp only[hb,Va.down,seval,gJ.down,h2]|refine Be ?_ ?_<;>intro hb|refine fd ?_|fail))
   all_goals simp[hr]
def Oi(ns:Int)(v:Ak):Bool:=Jm ns v.sens none&&Nb v.need 1 v.sens.length&&fX v.level
theorem vW(v:Ak)(ns:Int)(hl:v.sens.length≤maxLen):Fa.call (.fn 47) [.agg [Ag 1 true v.nn (v.sens.map iv),.int .i64 v.need,.int .i64 v.level,.bool v.above],.int .i64 ns] []=some (.ret (.bool (Oi ns v)),[]):=by
 (refine ce Try.func47 ?_;simp only[Try.f47];(have hb:=trivial;with_reducible repeat' (first|simp only[hb,Va.down,seval,iZ.down,aaV]|refine Be ?_ ?_<;>intro hb|refine fd ?_|fail)))
 refine Ft (Yg 51 v.sens (fun i (s:Option Int) t h=>(i=0∧s=none∨0<i∧s=v.sens[i-1]?)∧h[0]?=some (.live 4 false false [[Ag 1 true v.nn (v.sens.map iv),.int .i64 v.need,.int .i64 v.level,.bool v.above]])∧t 1=.int .i64 ns∧t 2=.ptr 0 0 0∧t 5=.int .i64 i)
  (fun rest s=>Jm ns rest s) (fun r e t h=>if r=true then e=.exit 0∧h[0]?=some (.live 4 false false [[Ag 1 true v.nn (v.sens.map iv),.int .i64 v.need,.int .i64 v.level,.bool v.above]])∧t 2=.ptr 0 0 0 else e=.ret∧t 4=.bool false) ?_ ?_ none _ _ ?_) (fun e t h hk=>?_)
 ·rintro s t h Q' kQ ⟨hs,hh,h1,h2,h5⟩
  (have hb:=trivial;with_reducible repeat' (first|simp only[hb,Va.down,seval,iZ.down,hh,h1,h2,h5,aaV,aaX,decide_false]|refine Be ?_ ?_<;>intro hb|refine fd ?_|fail))
  exact kQ _ _ _ (by simp[Jm,up,h2,hh])
 ·rintro x rest i s t h J Q' kJ kQ hx hi ⟨hs,hh,h1,h2,h5⟩
  have hd:decide ((i:Int)<(v.sens.length:Int))=true:=by simpa using hi
  have hA:=Bo hh
  have kF:∀{p:Option Int},(Nb x 0 (IntKind.i64.wrap (ns-1))&&(match p with|none=>true|some q=> !decide (x≤q)))=false→Jm ns (x::rest) p=false:=fun h=>by simp[Jm,h]
  have kT:∀{p:Option Int},(Nb x 0 (IntKind.i64.wrap (ns-1))&&(match p with|none=>true|some q=> !decide (x≤q)))=true→Jm ns rest (some x)=Jm ns (x::rest) p:=fun h=>by simp[Jm,h]
  have hw:=Aw hi hl
  rcases hs with⟨rfl,rfl⟩|⟨hpos,rfl⟩
  ·simp only[abJ,Int.zero_add]at hd h5 hw
   (have hb:=trivial;with_reducible repeat' (first|simp only[hb,Va.down,seval,iZ.down,hA,hh,h1,h2,h5,hd,hx,aaV,iv,aP,hw,Int.toNat_zero,abC,aaX,decide_false]|refine Be ?_ ?_<;>intro hb|refine fd ?_|fail))
   all_goals first
    |exact kQ _ _ _ (by rw[if_neg (by rw[kF (by simp_all)];simp)];exact⟨rfl,rfl⟩)
    |exact Cj (kJ _ _ (some x) ⟨.inr ⟨by omega,by simp[hx]⟩,by simp[hh],by simp[up,h1],by simp[up,h2],by simp[up]<;>omega⟩ (kT (by simp_all)))
  ·obtain⟨j,rfl⟩:∃j,i=j+1:=⟨i-1,by omega⟩
   obtain⟨q,hq⟩:∃q,v.sens[j]?=some q:=⟨v.sens[j],abL (by omega)⟩
   have hj:IntKind.i64.wrap (((j+1:Nat):Int)-1)=(j:Int):=by unfold maxLen at hl;rw[Hu (by omega) (by omega)];omega
   have hg:decide (0<((j+1:Nat):Int))=true:=by rw[decide_eq_true_eq];omega
   simp only[abP,hq]at kJ kQ
   (have hb:=trivial;with_reducible repeat' (first|simp only[hb,Va.down,seval,iZ.down,hA,hh,h1,h2,h5,hd,hx,aaV,iv,aP,hw,hj,hg,hq]|refine Be ?_ ?_<;>intro hb|refine fd ?_|fail))
   all_goals first
    |exact kQ _ _ _ (by rw[if_neg (by rw[kF (by simp_all)];simp)];exact⟨rfl,rfl⟩)
    |exact Cj (kJ _ _ (some x) ⟨.inr ⟨by omega,by simp[hx]⟩,by simp[hh],by simp[up,h1],by simp[up,h2],by simp[up]<;>omega⟩ (kT (by simp_all)))
 ·exact⟨.inl ⟨rfl,rfl⟩,rfl,by simp[up,Eu],by simp[up],by simp[up]⟩
 ·split at hk
  ·obtain⟨rfl,hh,h2⟩:=hk
   have hA:=Bo hh
   rename_i hr
   (have hb:=trivial;with_reducible repeat' (first|simp only[hb,Va.down,seval,iZ.down,hA,hh,h2,aaV,aP]|refine Be ?_ ?_<;>intro hb|refine fd ?_|fail))
   all_goals simp_all[Oi,fX]
  ·obtain⟨rfl,h2⟩:=hk
   rename_i hr
   (have hb:=trivial;with_reducible repeat' (first|simp only[hb,Va.down,seval,iZ.down,h2]|refine Be ?_ ?_<;>intro hb|refine fd ?_|fail))
   all_goals simp[Oi,hr]
theorem pH(o w:An):Fa.call (.fn 90) [.agg [.int .i64 o.vote,.bool o.is],.ptr 0 0 0] [.live 2 true false [[.int .i64 w.vote,.bool w.is]]]=some (.ret (.bool (o.vote==w.vote)),[.live 2 true false [[.int .i64 w.vote,.bool w.is]]]):=by
 (refine ce Try.func90 ?_;simp only[Try.f90];(have hb:=trivial;with_reducible repeat' (first|simp only[hb,Vc.down,seval,agD.down]|refine Be ?_ ?_<;>intro hb|refine fd ?_|fail)))
theorem iG{l:List An}{nn:Bool}{g:Nat}{ww:An}{p:An→Bool}(hp:∀x∈l,Fa.call (.fn g) (.agg [.int .i64 x.vote,.bool x.is]::[.ptr 0 0 0]) [.live 2 true false [[.int .i64 ww.vote,.bool ww.is]]]=some (.ret (.bool (p x)),[.live 2 true false [[.int .i64 ww.vote,.bool ww.is]]]))(hl:l.length≤maxLen):
 Fa.call (.fn 98) [Ag 2 true nn (l.map An.cells),.func (.func g) [] [.ptr 0 0 0]] [.live 2 true false [[.int .i64 ww.vote,.bool ww.is]]]=some (.ret (.int .i64 (aN p l 0)),[.live 2 true false [[.int .i64 ww.vote,.bool ww.is]]]):=by
 (refine ce Try.func98 ?_;simp only[Try.f98];(have hb:=trivial;with_reducible repeat' (first|simp only[hb,Vc.down,seval,Yk.down,aaV]|refine Be ?_ ?_<;>intro hb|refine fd ?_|fail)))
 refine Ft (Yg 19 l (fun i (s:Int) t h=>s=i∧h=[.live 2 true false [[.int .i64 ww.vote,.bool ww.is]]]∧t 0=Ag 2 true nn (l.map An.cells)∧t 1=.func (.func g) [] [.ptr 0 0 0]∧t 7=.int .i64 l.length∧t 8=.int .i64 i)
  (fun rest s=>aN p rest s) (fun r e t h=>h=[.live 2 true false [[.int .i64 ww.vote,.bool ww.is]]]∧((e=.exit 0∧r= -1)∨(e=.ret∧t 4=.int .i64 r))) ?_ ?_ 0 _ _ ?_) (fun e t h hk=>?_)
 ·rintro s t h Q' kQ ⟨rfl,rfl,h0,h1,h7,h8⟩
  (have hb:=trivial;with_reducible repeat' (first|simp only[hb,Vc.down,seval,Yk.down,h0,h1,h7,h8,aaX,decide_false]|refine Be ?_ ?_<;>intro hb|refine fd ?_|fail))
  exact kQ _ _ _ ⟨rfl,.inl ⟨rfl,rfl⟩⟩
 ·rintro x rest i s t h J Q' kJ kQ hx hi ⟨rfl,rfl,h0,h1,h7,h8⟩
  have hpx:=hp x (aa0 hx)
  have hd:decide ((i:Int)<(l.length:Int))=true:=by simpa using hi
  (have hb:=trivial;with_reducible repeat' (first|simp only[hb,Vc.down,seval,Yk.down,h0,h1,h7,h8,hd,hx,An.cells,hpx,Aw hi hl]|refine Be ?_ ?_<;>intro hb|refine fd ?_|fail))
  ·exact kQ _ _ _ ⟨rfl,.inr ⟨rfl,by simp[up,aN,hb]⟩⟩
  ·exact Cj (kJ _ _ (i+1) ⟨by simp,rfl,by simp[up,h0],by simp[up,h1],by simp[up,h7],by simp[up]⟩ (by simp[aN,hb]))
 ·exact⟨rfl,rfl,by simp[up,Eu],by simp[up,Eu],by simp[up],by simp[up]⟩
 ·obtain⟨rfl,⟨rfl,hi⟩|⟨rfl,hi⟩⟩:=hk
  ·(have hb:=trivial;with_reducible repeat' (first|simp only[hb,Vc.down,seval,Yk.down]|refine Be ?_ ?_<;>intro hb|refine fd ?_|fail))
   rw[hi]
  ·(have hb:=trivial;with_reducible repeat' (first|simp only[hb,Vc.down,seval,Yk.down,hi]|refine Be ?_ ?_<;>intro hb|refine fd ?_|fail))
theorem dU{l:List An}{nn:Bool}{g:Nat}{ww:An}{p:An→Bool}(hp:∀x∈l,Fa.call (.fn g) (.agg [.int .i64 x.vote,.bool x.is]::[.ptr 0 0 0]) [.live 2 true false [[.int .i64 ww.vote,.bool ww.is]]]=some (.ret (.bool (p x)),[.live 2 true false [[.int .i64 ww.vote,.bool ww.is]]]))(hl:l.length≤maxLen):
 Fa.call (.fn 89) [Ag 2 true nn (l.map An.cells),.func (.func g) [] [.ptr 0 0 0]] [.live 2 true false [[.int .i64 ww.vote,.bool ww.is]]]=some (.ret (.bool (l.any p)),[.live 2 true false [[.int .i64 ww.vote,.bool ww.is]]]):=by
 (refine ce Try.func89 ?_;simp only[Try.f89];(have hb:=trivial;with_reducible repeat' (first|simp only[hb,Vc.down,seval,iG hp hl,Ry p l 0 (abC 0)]|refine Be ?_ ?_<;>intro hb|refine fd ?_|fail)))
def Jp(nv:Int):List An→List An→Bool
 |_,[]=>true
 |pre,w::l=>Nb w.vote 0 (IntKind.i64.wrap (nv-1))&& !(pre.any fun o=>o.vote==w.vote)&&Jp nv (pre++[w]) l
def Lu(m:Ba)(x:Am):Bool:=Jp m.votes.length [] x.wants&&Nb x.frm 0 (IntKind.i64.wrap (m.states-1))&&Nb x.to 0 (IntKind.i64.wrap (m.states-1))&&decide (x.wants.length≤6)&&Nb x.cmd (-1) (IntKind.i64.wrap (m.cmds-1))&&Nb x.after 0 10
theorem vR(m:Ba)(y:Am)(hl:y.wants.length≤maxLen):Fa.call (.fn 72) [.agg [Ag 3 true m.nS (m.sens.map Bd.cells),Ag 4 false m.nV (m.votes.map Ak.cells),Ag 5 false m.nM (m.moves.map Am.cells),.int .i64 m.states,.int .i64 m.cmds,.int .i64 m.bgn,Ag 1 true m.nO (m.opn.map iv)],.agg [.int .i64 y.frm,.int .i64 y.to,Ag 2 true y.nn (y.wants.map An.cells),.int .i64 y.cmd,.int .i64 y.after]] []=some (.ret (.bool (Lu m y)),[]):=by
 have l6:decide ((y.wants.length:Int)≤6)=decide (y.wants.length≤6):=by rw[decide_eq_decide];omega
 (refine ce Try.func72 ?_;simp only[Try.f72];(have hb:=trivial;with_reducible repeat' (first|simp only[hb,Vc.down,seval,dT.down,aaV]|refine Be ?_ ?_<;>intro hb|refine fd ?_|fail)))
 refine Ft (Yg 65 y.wants (fun i (zz:List An) t h=>t 2=.ptr 0 0 0∧t 3=.ptr 1 0 0∧t 8=Ag 2 true y.nn (y.wants.map An.cells)∧t 9=.int .i64 y.wants.length∧t 10=.int .i64 i∧(h[0]?=some (.live 7 false false [[Ag 3 true m.nS (m.sens.map Bd.cells),Ag 4 false m.nV (m.votes.map Ak.cells),Ag 5 false m.nM (m.moves.map Am.cells),.int .i64 m.states,.int .i64 m.cmds,.int .i64 m.bgn,Ag 1 true m.nO (m.opn.map iv)]])∧h[1]?=some (.live 5 false false [[.int .i64 y.frm,.int .i64 y.to,Ag 2 true y.nn (y.wants.map An.cells),.int .i64 y.cmd,.int .i64 y.after]])∧zz=y.wants.take i)) (fun rest zz=>Jp m.votes.length zz rest) (fun r e t h=>(if r=true then e=.exit 0∧t 2=.ptr 0 0 0∧t 3=.ptr 1 0 0∧h[0]?=some (.live 7 false false [[Ag 3 true m.nS (m.sens.map Bd.cells),Ag 4 false m.nV (m.votes.map Ak.cells),Ag 5 false m.nM (m.moves.map Am.cells),.int .i64 m.states,.int .i64 m.cmds,.int .i64 m.bgn,Ag 1 true m.nO (m.opn.map iv)]])∧h[1]?=some (.live 5 false false [[.int .i64 y.frm,.int .i64 y.to,Ag 2 true y.nn (y.wants.map An.cells),.int .i64 y.cmd,.int .i64 y.after]])else e=.ret∧t 4=.bool false)) ?_ ?_ ([]) _ _ ?_) (fun e t h hk=>?_)
 ·rintro p t h Q' kQ ⟨h2,h3,h8,h9,h10,⟨hA,hB,hp⟩⟩
  (have hb:=trivial;with_reducible repeat' (first|simp only[hb,Vc.down,seval,dT.down,h2,h3,h8,h9,h10,aaX,decide_false]|refine Be ?_ ?_<;>intro hb|refine fd ?_|fail))
  exact kQ _ _ _ (by rw[if_pos (by rfl)];exact⟨rfl,by simp[up,h2],by simp[up,h3],hA,hB⟩)
 ·rintro x rest i p t h J Q' kJ kQ hx hi ⟨h2,h3,h8,h9,h10,⟨hA,hB,hp⟩⟩
  have hd:decide ((i:Int)<(y.wants.length:Int))=true:=decide_eq_true (by omega)
  have hw:=Aw hi hl
  have hA1:=Bo hA
  have hB1:=Bo hB
  have hcW:=dU (l:=y.wants.take i) (nn:=true) (ww:=x) (g:=90) (p:=fun o=>o.vote==x.vote) (fun o _=>pH o x) (by simp;omega)
  have hsl:=uY (P:=Try.prog) (ty:=57) (n:=2) ⟨_,Try.underlying57,by kernel_rfl⟩ true y.nn (rows:=y.wants.map An.cells) (i:=i) (by simpa using hi)
  rw[lP,List.map_take]at hcW
  subst hp
  cases c1:Nb x.vote 0 (IntKind.i64.wrap ((m.votes.length:Int)-1))with
  |false=>
   (have hb:=trivial;with_reducible repeat' (first|simp only[hb,Vc.down,seval,dT.down,h2,h3,h8,h9,h10,hd,hx,hw,hA1,hB1,Rx,An.cells,aaV,hcW,hsl,c1]|refine Be ?_ ?_<;>intro hb|refine fd ?_|fail))
   exact kQ _ _ _ (by rw[if_neg (by simp[Jp,c1])];exact⟨rfl,by simp[up]⟩)
  |true=>
   cases c2:(y.wants.take i).any (fun o=>o.vote==x.vote)with
   |true=>
    rw[c2]at hcW
    (have hb:=trivial;with_reducible repeat' (first|simp only[hb,Vc.down,seval,dT.down,h2,h3,h8,h9,h10,hd,hx,hw,hA1,hB1,Rx,An.cells,aaV,hcW,hsl,c1]|refine Be ?_ ?_<;>intro hb|refine fd ?_|fail))
    exact kQ _ _ _ (by rw[if_neg (by simp only[Jp,c1,c2,aa3,abH,abE];simp)];exact⟨rfl,by simp[up]⟩)
   |false=>
    rw[c2]at hcW
    (have hb:=trivial;with_reducible repeat' (first|simp only[hb,Vc.down,seval,dT.down,h2,h3,h8,h9,h10,hd,hx,hw,hA1,hB1,Rx,An.cells,aaV,hcW,hsl,c1]|refine Be ?_ ?_<;>intro hb|refine fd ?_|fail))
    (refine Cj (kJ _ _ (y.wants.take i++[x]) ⟨?_,?_,?_,?_,?_,⟨hA1 _,hB1 _,by rw[abR,hx];rfl⟩⟩ ?_);(simp[up,h2]);(simp[up,h3]);(simp[up,h8]);(simp[up,h9]);(simp[up]);(simp only[Jp,c1,c2,aa4,abG,aa5]))
 ·exact⟨by simp[up,Eu],by simp[up,Eu],by simp[up,Eu],by simp[up,Eu],by simp[up],⟨rfl,rfl,rfl⟩⟩
 ·split at hk
  ·obtain⟨rfl,h2,h3,hA,hB⟩:=hk
   rename_i hr
   have hA1:=Bo hA
   have hB1:=Bo hB
   (have hb:=trivial;with_reducible repeat' (first|simp only[hb,Vc.down,seval,dT.down,h2,h3,hA,hB,hA1,hB1,Rx,aaV,l6]|refine Be ?_ ?_<;>intro hb|refine fd ?_|fail))
   all_goals (refine congrArg (fun b=>(Dv.ret (AV.bool b),([]:Aa))) ?_;symm;((try simp only[acC,aa3,aa4]at *);simp only[Lu, *,abH,abE,abG,aa5,Bool.and_self,Bool.not_not,aa3,aa4,List.all_cons,List.all_nil]))
  ·obtain⟨rfl,h4⟩:=hk
   rename_i hr
   (have hb:=trivial;with_reducible repeat' (first|simp only[hb,Vc.down,seval,dT.down,h4]|refine Be ?_ ?_<;>intro hb|refine fd ?_|fail))
   all_goals simp_all[Lu]
def hZ(w:An):List An→Bool
 | []=>true
 |o::l=> !(o.vote==w.vote)&&hZ w l
theorem aK(w:An):∀l,hZ w l= !(l.any fun o=>o.vote==w.vote)
 | []=>rfl
 |o::l=>by simp[hZ,aK w l]
theorem uC(m:Ba)(y:Am)(hl:y.wants.length≤maxLen):Fa.call (.fn 49) [.agg [Ag 3 true m.nS (m.sens.map Bd.cells),Ag 4 false m.nV (m.votes.map Ak.cells),Ag 5 false m.nM (m.moves.map Am.cells),.int .i64 m.states,.int .i64 m.cmds,.int .i64 m.bgn,Ag 1 true m.nO (m.opn.map iv)],.agg [.int .i64 y.frm,.int .i64 y.to,Ag 2 true y.nn (y.wants.map An.cells),.int .i64 y.cmd,.int .i64 y.after]] []=some (.ret (.bool (Lu m y)),[]):=by
 have l6:decide ((y.wants.length:Int)≤6)=decide (y.wants.length≤6):=by rw[decide_eq_decide];omega
 (refine ce Try.func49 ?_;simp only[Try.f49];(have hb:=trivial;with_reducible repeat' (first|simp only[hb,Vc.down,seval,Vu.down,aaV]|refine Be ?_ ?_<;>intro hb|refine fd ?_|fail)))
 refine Ft (Yg 77 y.wants (fun i (zz:List An) t h=>t 2=.ptr 0 0 0∧t 3=.ptr 1 0 0∧t 5=.int .i64 i∧(h=[.live 7 false false [[Ag 3 true m.nS (m.sens.map Bd.cells),Ag 4 false m.nV (m.votes.map Ak.cells),Ag 5 false m.nM (m.moves.map Am.cells),.int .i64 m.states,.int .i64 m.cmds,.int .i64 m.bgn,Ag 1 true m.nO (m.opn.map iv)]],.live 5 false false [[.int .i64 y.frm,.int .i64 y.to,Ag 2 true y.nn (y.wants.map An.cells),.int .i64 y.cmd,.int .i64 y.after]]]∧zz=y.wants.take i)) (fun rest zz=>Jp m.votes.length zz rest) (fun r e t h=>(if r=true then e=.exit 0∧t 2=.ptr 0 0 0∧t 3=.ptr 1 0 0∧h=[.live 7 false false [[Ag 3 true m.nS (m.sens.map Bd.cells),Ag 4 false m.nV (m.votes.map Ak.cells),Ag 5 false m.nM (m.moves.map Am.cells),.int .i64 m.states,.int .i64 m.cmds,.int .i64 m.bgn,Ag 1 true m.nO (m.opn.map iv)]],.live 5 false false [[.int .i64 y.frm,.int .i64 y.to,Ag 2 true y.nn (y.wants.map An.cells),.int .i64 y.cmd,.int .i64 y.after]]]else e=.ret∧t 4=.bool false)) ?_ ?_ ([]) _ _ ?_) (fun e t h hk=>?_)
 ·rintro p t h Q' kQ ⟨h2,h3,h5,⟨rfl,hp⟩⟩
  (have hb:=trivial;with_reducible repeat' (first|simp only[hb,Vc.down,seval,Vu.down,h2,h3,h5,aaX,decide_false,aaV]|refine Be ?_ ?_<;>intro hb|refine fd ?_|fail))
  exact kQ _ _ _ (by rw[if_pos (by rfl)];exact⟨rfl,by simp[up,h2],by simp[up,h3],rfl⟩)
 ·rintro x rest i p t h J Q' kJ kQ hx hi ⟨h2,h3,h5,⟨rfl,hp⟩⟩
  have hd:decide ((i:Int)<(y.wants.length:Int))=true:=decide_eq_true (by omega)
  have hw:=Aw hi hl
  subst hp
  cases c1:Nb x.vote 0 (IntKind.i64.wrap ((m.votes.length:Int)-1))with
  |false=>
   (have hb:=trivial;with_reducible repeat' (first|simp only[hb,Vc.down,seval,Vu.down,h2,h3,h5,hd,hx,hw,aP,c1,An.cells,aaV]|refine Be ?_ ?_<;>intro hb|refine fd ?_|fail))
   exact kQ _ _ _ (by rw[if_neg (by simp[Jp,c1])];exact⟨rfl,by simp[up]⟩)
  |true=>
   obtain⟨w,rfl⟩:∃w,w=x:=⟨_,rfl⟩
   obtain⟨k,rfl⟩:∃k,k=i:=⟨_,rfl⟩
   have hlen:(y.wants.take k).length=k:=by simp;omega
   have hxk:=hx
   (have hb:=trivial;with_reducible repeat' (first|simp only[hb,Vc.down,seval,Vu.down,h2,h3,h5,hd,hx,hw,aP,c1,An.cells,aaV]|refine Be ?_ ?_<;>intro hb|refine fd ?_|fail))
   refine Ft (Yg 77 (y.wants.take k) (fun i (zz:Unit) t h=>t 2=.ptr 0 0 0∧t 3=.ptr 1 0 0∧t 5=.int .i64 (k:Int)∧t 6=.int .i64 i∧h=[.live 7 false false [[Ag 3 true m.nS (m.sens.map Bd.cells),Ag 4 false m.nV (m.votes.map Ak.cells),Ag 5 false m.nM (m.moves.map Am.cells),.int .i64 m.states,.int .i64 m.cmds,.int .i64 m.bgn,Ag 1 true m.nO (m.opn.map iv)]],.live 5 false false [[.int .i64 y.frm,.int .i64 y.to,Ag 2 true y.nn (y.wants.map An.cells),.int .i64 y.cmd,.int .i64 y.after]]]) (fun rest zz=>hZ w rest) (fun r e t h=>(if r=true then e=.exit 2∧t 2=.ptr 0 0 0∧t 3=.ptr 1 0 0∧t 5=.int .i64 (k:Int)∧h=[.live 7 false false [[Ag 3 true m.nS (m.sens.map Bd.cells),Ag 4 false m.nV (m.votes.map Ak.cells),Ag 5 false m.nM (m.moves.map Am.cells),.int .i64 m.states,.int .i64 m.cmds,.int .i64 m.bgn,Ag 1 true m.nO (m.opn.map iv)]],.live 5 false false [[.int .i64 y.frm,.int .i64 y.to,Ag 2 true y.nn (y.wants.map An.cells),.int .i64 y.cmd,.int .i64 y.after]]]else e=.ret∧t 4=.bool false)) ?_ ?_ () _ _ ?_) (fun e tC hC hk=>?_)
   ·rintro _ t h Q' kQ ⟨h2,h3,h5,h6,rfl⟩
    (have hb:=trivial;with_reducible repeat' (first|simp only[hb,Vc.down,seval,Vu.down,h2,h3,h5,h6,aaX,decide_false,hlen]|refine Be ?_ ?_<;>intro hb|refine fd ?_|fail))
    exact kQ _ _ _ (by rw[if_pos (by rfl)];exact⟨rfl,by simp[up,h2],by simp[up,h3],by simp[up,h5],rfl⟩)
   ·rintro x rest i _ t h J Q' kJ kQ hx hi ⟨h2,h3,h5,h6,rfl⟩
    have hd:decide ((i:Int)<((y.wants.take k).length:Int))=true:=decide_eq_true (by omega)
    have hw:=Aw hi (by simp;omega)
    rw[hlen]at hd
    have hxi:y.wants[i]?=some x:=by rw[List.getElem?_take]at hx;split at hx;exact hx;cases hx
    cases c3:(x.vote==w.vote)with
    |true=>
     (have hb:=trivial;with_reducible repeat' (first|simp only[hb,Vc.down,seval,Vu.down,h2,h3,h5,h6,hd,hxi,hxk,hw,c3,An.cells]|refine Be ?_ ?_<;>intro hb|refine fd ?_|fail))
     exact kQ _ _ _ (by rw[if_neg (by simp[hZ,c3])];exact⟨rfl,by simp[up]⟩)
    |false=>
     (have hb:=trivial;with_reducible repeat' (first|simp only[hb,Vc.down,seval,Vu.down,h2,h3,h5,h6,hd,hxi,hxk,hw,c3,An.cells]|refine Be ?_ ?_<;>intro hb|refine fd ?_|fail))
     (refine Cj (kJ _ _ () ⟨?_,?_,?_,?_,rfl⟩ ?_);(simp[up,h2]);(simp[up,h3]);(simp[up,h5]);(simp[up]);(simp[hZ,c3]))
   ·exact⟨by simp[up,Eu,h2,h3,h5],by simp[up,Eu,h2,h3,h5],by simp[up,Eu,h2,h3,h5],by simp[up],rfl⟩
   ·split at hk
    ·rename_i hdup
     obtain⟨rfl,h2,h3,h5,rfl⟩:=hk
     (have hb:=trivial;with_reducible repeat' (first|simp only[hb,Vc.down,seval,Vu.down,h2,h3,h5,hw]|refine Be ?_ ?_<;>intro hb|refine fd ?_|fail))
     rw[aK]at hdup
     (refine Cj (kJ _ _ (y.wants.take k++[w]) ⟨?_,?_,?_,⟨rfl,by rw[abR,hxk];rfl⟩⟩ ?_);(simp[up,h2]);(simp[up,h3]);(simp[up]);(simp only[Jp,c1,hdup,aa5]))
    ·rename_i hdup
     obtain⟨rfl,h4⟩:=hk
     (have hb:=trivial;with_reducible repeat' (first|simp only[hb,Vc.down,seval,Vu.down,h4]|refine Be ?_ ?_<;>intro hb|refine fd ?_|fail))
     rw[aK]at hdup
     exact kQ _ _ _ (by rw[if_neg (by simp only[Jp,c1,aa5,aaY.2 hdup,abE];simp)];exact⟨rfl,by simp[up,h4]⟩)
 ·exact⟨by simp[up,Eu],by simp[up,Eu],by simp[up],⟨rfl,rfl⟩⟩
 ·split at hk
  ·obtain⟨rfl,h2,h3,rfl⟩:=hk
   rename_i hr
   (have hb:=trivial;with_reducible repeat' (first|simp only[hb,Vc.down,seval,Vu.down,h2,h3,aP,aaV,l6]|refine Be ?_ ?_<;>intro hb|refine fd ?_|fail))
   all_goals (refine congrArg (fun b=>(Dv.ret (AV.bool b),([]:Aa))) ?_;symm;((try simp only[acC,aa3,aa4]at *);simp only[Lu, *,abH,abE,abG,aa5,Bool.and_self,Bool.not_not,aa3,aa4,List.all_cons,List.all_nil]))
  ·obtain⟨rfl,h4⟩:=hk
   rename_i hr
   (have hb:=trivial;with_reducible repeat' (first|simp only[hb,Vc.down,seval,Vu.down,h4]|refine Be ?_ ?_<;>intro hb|refine fd ?_|fail))
   all_goals simp_all[Lu]
def dL(s:Bd):Bool:=fX s.lo&&fX s.hi&& !decide (s.hi<s.lo)
def Ns(m:Ba):Bool:=decide (m.sens.length≤6)&&decide (m.votes.length≤6)&&decide (m.moves.length≤20)&&Nb m.states 1 8&&Nb m.cmds 0 4&&Nb m.bgn 0 (IntKind.i64.wrap (m.states-1))&&((m.opn.length:Int)==m.states)
def Do(m:Ba):Bool:=Ns m&&m.sens.all dL&&m.votes.all (Oi m.sens.length)&&m.moves.all (Lu m)&&m.opn.all (fun n=>Nb n 0 255)
theorem kL(m:Ba)(x:Am)(hl:x.wants.length≤maxLen):Fa.call (.fn 71) [.agg [.int .i64 x.frm,.int .i64 x.to,Ag 2 true x.nn (x.wants.map An.cells),.int .i64 x.cmd,.int .i64 x.after],.ptr 0 0 0] [.live 7 false false [[Ag 3 true m.nS (m.sens.map Bd.cells),Ag 4 false m.nV (m.votes.map Ak.cells),Ag 5 false m.nM (m.moves.map Am.cells),.int .i64 m.states,.int .i64 m.cmds,.int .i64 m.bgn,Ag 1 true m.nO (m.opn.map iv)]]]=some (.ret (.bool (!Lu m x)),[.live 7 false false [[Ag 3 true m.nS (m.sens.map Bd.cells),Ag 4 false m.nV (m.votes.map Ak.cells),Ag 5 false m.nM (m.moves.map Am.cells),.int .i64 m.states,.int .i64 m.cmds,.int .i64 m.bgn,Ag 1 true m.nO (m.opn.map iv)]]]):=by
 have hm:=vR m x hl
 (refine ce Try.func71 ?_;simp only[Try.f71];(have hb:=trivial;with_reducible repeat' (first|simp only[hb,Vc.down,seval,acR.down,hm]|refine Be ?_ ?_<;>intro hb|refine fd ?_|fail)))
theorem hY{l:List Am}{nn:Bool}{g:Nat}{mm:Ba}{p:Am→Bool}(hp:∀x∈l,Fa.call (.fn g) (.agg [.int .i64 x.frm,.int .i64 x.to,Ag 2 true x.nn (x.wants.map An.cells),.int .i64 x.cmd,.int .i64 x.after]::[.ptr 0 0 0]) [.live 7 false false [[Ag 3 true mm.nS (mm.sens.map Bd.cells),Ag 4 false mm.nV (mm.votes.map Ak.cells),Ag 5 false mm.nM (mm.moves.map Am.cells),.int .i64 mm.states,.int .i64 mm.cmds,.int .i64 mm.bgn,Ag 1 true mm.nO (mm.opn.map iv)]]]=some (.ret (.bool (p x)),[.live 7 false false [[Ag 3 true mm.nS (mm.sens.map Bd.cells),Ag 4 false mm.nV (mm.votes.map Ak.cells),Ag 5 false mm.nM (mm.moves.map Am.cells),.int .i64 mm.states,.int .i64 mm.cmds,.int .i64 mm.bgn,Ag 1 true mm.nO (mm.opn.map iv)]]]))(hl:l.length≤maxLen):
 Fa.call (.fn 88) [Ag 5 false nn (l.map Am.cells),.func (.func g) [] [.ptr 0 0 0]] [.live 7 false false [[Ag 3 true mm.nS (mm.sens.map Bd.cells),Ag 4 false mm.nV (mm.votes.map Ak.cells),Ag 5 false mm.nM (mm.moves.map Am.cells),.int .i64 mm.states,.int .i64 mm.cmds,.int .i64 mm.bgn,Ag 1 true mm.nO (mm.opn.map iv)]]]=some (.ret (.int .i64 (aN p l 0)),[.live 7 false false [[Ag 3 true mm.nS (mm.sens.map Bd.cells),Ag 4 false mm.nV (mm.votes.map Ak.cells),Ag 5 false mm.nM (mm.moves.map Am.cells),.int .i64 mm.states,.int .i64 mm.cmds,.int .i64 mm.bgn,Ag 1 true mm.nO (mm.opn.map iv)]]]):=by
 (refine ce Try.func88 ?_;simp only[Try.f88];(have hb:=trivial;with_reducible repeat' (first|simp only[hb,Vc.down,seval,oD.down,aaV]|refine Be ?_ ?_<;>intro hb|refine fd ?_|fail)))
 refine Ft (Yg 19 l (fun i (s:Int) t h=>s=i∧h=[.live 7 false false [[Ag 3 true mm.nS (mm.sens.map Bd.cells),Ag 4 false mm.nV (mm.votes.map Ak.cells),Ag 5 false mm.nM (mm.moves.map Am.cells),.int .i64 mm.states,.int .i64 mm.cmds,.int .i64 mm.bgn,Ag 1 true mm.nO (mm.opn.map iv)]]]∧t 0=Ag 5 false nn (l.map Am.cells)∧t 1=.func (.func g) [] [.ptr 0 0 0]∧t 7=.int .i64 l.length∧t 8=.int .i64 i)
  (fun rest s=>aN p rest s) (fun r e t h=>h=[.live 7 false false [[Ag 3 true mm.nS (mm.sens.map Bd.cells),Ag 4 false mm.nV (mm.votes.map Ak.cells),Ag 5 false mm.nM (mm.moves.map Am.cells),.int .i64 mm.states,.int .i64 mm.cmds,.int .i64 mm.bgn,Ag 1 true mm.nO (mm.opn.map iv)]]]∧((e=.exit 0∧r= -1)∨(e=.ret∧t 4=.int .i64 r))) ?_ ?_ 0 _ _ ?_) (fun e t h hk=>?_)
 ·rintro s t h Q' kQ ⟨rfl,rfl,h0,h1,h7,h8⟩
  (have hb:=trivial;with_reducible repeat' (first|simp only[hb,Vc.down,seval,oD.down,h0,h1,h7,h8,aaX,decide_false]|refine Be ?_ ?_<;>intro hb|refine fd ?_|fail))
  exact kQ _ _ _ ⟨rfl,.inl ⟨rfl,rfl⟩⟩
 ·rintro x rest i s t h J Q' kJ kQ hx hi ⟨rfl,rfl,h0,h1,h7,h8⟩
  have hpx:=hp x (aa0 hx)
  have hd:decide ((i:Int)<(l.length:Int))=true:=by simpa using hi
  (have hb:=trivial;with_reducible repeat' (first|simp only[hb,Vc.down,seval,oD.down,h0,h1,h7,h8,hd,hx,Am.cells,hpx,Aw hi hl]|refine Be ?_ ?_<;>intro hb|refine fd ?_|fail))
  ·exact kQ _ _ _ ⟨rfl,.inr ⟨rfl,by simp[up,aN,hb]⟩⟩
  ·exact Cj (kJ _ _ (i+1) ⟨by simp,rfl,by simp[up,h0],by simp[up,h1],by simp[up,h7],by simp[up]⟩ (by simp[aN,hb]))
 ·exact⟨rfl,rfl,by simp[up,Eu],by simp[up,Eu],by simp[up],by simp[up]⟩
 ·obtain⟨rfl,⟨rfl,hi⟩|⟨rfl,hi⟩⟩:=hk
  ·(have hb:=trivial;with_reducible repeat' (first|simp only[hb,Vc.down,seval,oD.down]|refine Be ?_ ?_<;>intro hb|refine fd ?_|fail))
   rw[hi]
  ·(have hb:=trivial;with_reducible repeat' (first|simp only[hb,Vc.down,seval,oD.down,hi]|refine Be ?_ ?_<;>intro hb|refine fd ?_|fail))
theorem eP{l:List Am}{nn:Bool}{g:Nat}{mm:Ba}{p:Am→Bool}(hp:∀x∈l,Fa.call (.fn g) (.agg [.int .i64 x.frm,.int .i64 x.to,Ag 2 true x.nn (x.wants.map An.cells),.int .i64 x.cmd,.int .i64 x.after]::[.ptr 0 0 0]) [.live 7 false false [[Ag 3 true mm.nS (mm.sens.map Bd.cells),Ag 4 false mm.nV (mm.votes.map Ak.cells),Ag 5 false mm.nM (mm.moves.map Am.cells),.int .i64 mm.states,.int .i64 mm.cmds,.int .i64 mm.bgn,Ag 1 true mm.nO (mm.opn.map iv)]]]=some (.ret (.bool (p x)),[.live 7 false false [[Ag 3 true mm.nS (mm.sens.map Bd.cells),Ag 4 false mm.nV (mm.votes.map Ak.cells),Ag 5 false mm.nM (mm.moves.map Am.cells),.int .i64 mm.states,.int .i64 mm.cmds,.int .i64 mm.bgn,Ag 1 true mm.nO (mm.opn.map iv)]]]))(hl:l.length≤maxLen):
 Fa.call (.fn 70) [Ag 5 false nn (l.map Am.cells),.func (.func g) [] [.ptr 0 0 0]] [.live 7 false false [[Ag 3 true mm.nS (mm.sens.map Bd.cells),Ag 4 false mm.nV (mm.votes.map Ak.cells),Ag 5 false mm.nM (mm.moves.map Am.cells),.int .i64 mm.states,.int .i64 mm.cmds,.int .i64 mm.bgn,Ag 1 true mm.nO (mm.opn.map iv)]]]=some (.ret (.bool (l.any p)),[.live 7 false false [[Ag 3 true mm.nS (mm.sens.map Bd.cells),Ag 4 false mm.nV (mm.votes.map Ak.cells),Ag 5 false mm.nM (mm.moves.map Am.cells),.int .i64 mm.states,.int .i64 mm.cmds,.int .i64 mm.bgn,Ag 1 true mm.nO (mm.opn.map iv)]]]):=by
 (refine ce Try.func70 ?_;simp only[Try.f70];(have hb:=trivial;with_reducible repeat' (first|simp only[hb,Vc.down,seval,hY hp hl,Ry p l 0 (abC 0)]|refine Be ?_ ?_<;>intro hb|refine fd ?_|fail)))
theorem fH(m:Ba)(hs:m.small):Fa.call (.fn 42) [.agg [Ag 3 true m.nS (m.sens.map Bd.cells),Ag 4 false m.nV (m.votes.map Ak.cells),Ag 5 false m.nM (m.moves.map Am.cells),.int .i64 m.states,.int .i64 m.cmds,.int .i64 m.bgn,Ag 1 true m.nO (m.opn.map iv)]] []=some (.ret (.bool (Do m)),[]):=by
 have l1:decide ((6:Int)<(m.sens.length:Int))= !decide (m.sens.length≤6):=by rw[←decide_not,decide_eq_decide];omega
 have l2:decide ((6:Int)<(m.votes.length:Int))= !decide (m.votes.length≤6):=by rw[←decide_not,decide_eq_decide];omega
 have l3:decide ((20:Int)<(m.moves.length:Int))= !decide (m.moves.length≤20):=by rw[←decide_not,decide_eq_decide];omega
 cases hp:Ns m with
 |false=>
  have hp':Do m=false:=by simp[Do,hp]
  rw[hp']
  (refine ce Try.func42 ?_;simp only[Try.f42];(have hb:=trivial;with_reducible repeat' (first|simp only[hb,Vc.down,seval,Yn.down,aaV,Rx,l1,l2,l3]|refine Be ?_ ?_<;>intro hb|refine fd ?_|fail)))
  all_goals first
   |rfl
   |(exfalso;simp_all[Ns];done)
 |true=>
  have hp':=hp
  simp only[Ns,acI]at hp'
  obtain⟨⟨⟨⟨⟨⟨p1,p2⟩,p3⟩,p4⟩,p5⟩,p6⟩,p7⟩:=hp'
  (refine ce Try.func42 ?_;simp only[Try.f42];(have hb:=trivial;with_reducible repeat' (first|simp only[hb,Vc.down,seval,Yn.down,aaV,Rx,l1,l2,l3,p1,p2,p3,p4,p5,p6,p7]|refine Be ?_ ?_<;>intro hb|refine fd ?_|fail)))
  refine Ft (Yg 118 m.sens (fun i (zz:Unit) t h=>t 1=.ptr 0 0 0∧t 53=Ag 3 true m.nS (m.sens.map Bd.cells)∧t 54=.int .i64 m.sens.length∧t 55=.int .i64 i∧(h[0]?=some (.live 7 false false [[Ag 3 true m.nS (m.sens.map Bd.cells),Ag 4 false m.nV (m.votes.map Ak.cells),Ag 5 false m.nM (m.moves.map Am.cells),.int .i64 m.states,.int .i64 m.cmds,.int .i64 m.bgn,Ag 1 true m.nO (m.opn.map iv)]]))) (fun rest zz=>rest.all dL) (fun r e t h=>(if r=true then e=.exit 0∧t 1=.ptr 0 0 0∧h[0]?=some (.live 7 false false [[Ag 3 true m.nS (m.sens.map Bd.cells),Ag 4 false m.nV (m.votes.map Ak.cells),Ag 5 false m.nM (m.moves.map Am.cells),.int .i64 m.states,.int .i64 m.cmds,.int .i64 m.bgn,Ag 1 true m.nO (m.opn.map iv)]])else e=.ret∧t 2=.bool false)) ?_ ?_ () _ _ ?_) (fun e t h hk=>?_)
  ·rintro _ t h Q' kQ ⟨h1,h53,h54,h55,hA⟩
   (have hb:=trivial;with_reducible repeat' (first|simp only[hb,Vc.down,seval,Yn.down,h1,h53,h54,h55,aaX,decide_false]|refine Be ?_ ?_<;>intro hb|refine fd ?_|fail))
   exact kQ _ _ _ (by rw[if_pos (by rfl)];exact⟨rfl,by simp[up,h1],hA⟩)
  ·rintro x rest i _ t h J Q' kJ kQ hx hi ⟨h1,h53,h54,h55,hA⟩
   have hd:decide ((i:Int)<(m.sens.length:Int))=true:=decide_eq_true (by omega)
   have hw:=Aw hi hs.sens
   have hA1:=Bo hA
   (have hb:=trivial;with_reducible repeat' (first|simp only[hb,Vc.down,seval,Yn.down,h1,h53,h54,h55,hd,hx,hw,eU,Bd.cells,aaV]|refine Be ?_ ?_<;>intro hb|refine fd ?_|fail))
   all_goals first
    |exact kQ _ _ _ (by rw[if_neg (by simp_all[dL])];exact⟨rfl,by simp[up]⟩)
    |(refine Cj (kJ _ _ () ⟨?_,?_,?_,?_,hA1 _⟩ ?_);(simp[up,h1]);(simp[up,h53]);(simp[up,h54]);(simp[up]);(simp_all[dL]))
  ·exact⟨by simp[up,Eu],by simp[up,Eu],by simp[up,Eu],by simp[up],rfl⟩
  ·split at hk
   ·obtain⟨rfl,h1,hA⟩:=hk
    rename_i hr1
    have hA1:=Bo hA
    (have hb:=trivial;with_reducible repeat' (first|simp only[hb,Vc.down,seval,Yn.down,h1,hA,hA1,aaV]|refine Be ?_ ?_<;>intro hb|refine fd ?_|fail))
    refine Ft (Yg 118 m.votes (fun i (zz:Unit) t h=>t 1=.ptr 0 0 0∧t 78=Ag 4 false m.nV (m.votes.map Ak.cells)∧t 79=.int .i64 m.votes.length∧t 80=.int .i64 i∧(h[0]?=some (.live 7 false false [[Ag 3 true m.nS (m.sens.map Bd.cells),Ag 4 false m.nV (m.votes.map Ak.cells),Ag 5 false m.nM (m.moves.map Am.cells),.int .i64 m.states,.int .i64 m.cmds,.int .i64 m.bgn,Ag 1 true m.nO (m.opn.map iv)]]))) (fun rest zz=>rest.all (Oi m.sens.length)) (fun r e t h=>(if r=true then e=.exit 2∧t 1=.ptr 0 0 0∧h[0]?=some (.live 7 false false [[Ag 3 true m.nS (m.sens.map Bd.cells),Ag 4 false m.nV (m.votes.map Ak.cells),Ag 5 false m.nM (m.moves.map Am.cells),.int .i64 m.states,.int .i64 m.cmds,.int .i64 m.bgn,Ag 1 true m.nO (m.opn.map iv)]])else e=.ret∧t 2=.bool false)) ?_ ?_ () _ _ ?_) (fun e t h hk=>?_)
    ·rintro _ t h Q' kQ ⟨h1,h78,h79,h80,hA⟩
     (have hb:=trivial;with_reducible repeat' (first|simp only[hb,Vc.down,seval,Yn.down,h1,h78,h79,h80,aaX,decide_false]|refine Be ?_ ?_<;>intro hb|refine fd ?_|fail))
     exact kQ _ _ _ (by rw[if_pos (by rfl)];exact⟨rfl,by simp[up,h1],hA⟩)
    ·rintro x rest i _ t h J Q' kJ kQ hx hi ⟨h1,h78,h79,h80,hA⟩
     have hd:decide ((i:Int)<(m.votes.length:Int))=true:=decide_eq_true (by omega)
     have hw:=Aw hi hs.votes
     have hA1:=Bo hA
     have hin:=aE (nn:=x.nn) m.sens.length (hs.vs x (aa0 hx))
     (have hb:=trivial;with_reducible repeat' (first|simp only[hb,Vc.down,seval,Yn.down,h1,h78,h79,h80,hd,hx,hw,hA1,eU,Rx,hin,Ak.cells,aaV]|refine Be ?_ ?_<;>intro hb|refine fd ?_|fail))
     all_goals first
      |exact kQ _ _ _ (by rw[if_neg (by simp_all[Oi])];exact⟨rfl,by simp[up]⟩)
      |(refine Cj (kJ _ _ () ⟨?_,?_,?_,?_,hA1 _⟩ ?_);(simp[up,h1]);(simp[up,h78]);(simp[up,h79]);(simp[up]);(simp_all[Oi]))
    ·exact⟨by simp[up,Eu,h1],by simp[up,Eu,h1],by simp[up,Eu,h1],by simp[up],hA⟩
    ·split at hk
     ·obtain⟨rfl,h1,hA⟩:=hk
      rename_i hr2
      have hA1:=Bo hA
      have hcM:=eP (mm:=m) (l:=m.moves) (nn:=m.nM) (g:=71) (p:=fun x=> !Lu m x) (fun x hx=>kL m x (hs.ws x hx)) hs.moves
      have hcI:=iE (l:=m.opn) (nn:=m.nO) (g:=74) (cap:=[]) (p:=fun x=> !Nb x 0 255) rfl rfl (fun x _=>nD x) hs.opn
      (have hb:=trivial;with_reducible repeat' (first|simp only[hb,Vc.down,seval,Yn.down,h1,hA,hA1,aaV,hcM,hcI]|refine Be ?_ ?_<;>intro hb|refine fd ?_|fail))
      all_goals
       have q1:m.moves.all (Lu m)= !(m.moves.any fun x=> !Lu m x):=acN
       have q2:m.opn.all (fun n=>Nb n 0 255)= !(m.opn.any fun x=> !Nb x 0 255):=acN
       simp only[Do,hp,hr1,hr2,q1,q2,hb,aa3,aa4,aa5,abE,abG]
       try rfl
     ·obtain⟨rfl,h2⟩:=hk
      rename_i hr2
      (have hb:=trivial;with_reducible repeat' (first|simp only[hb,Vc.down,seval,Yn.down,h2]|refine Be ?_ ?_<;>intro hb|refine fd ?_|fail))
      all_goals simp[Do,hp,aaY.2 hr2]
   ·obtain⟨rfl,h2⟩:=hk
    rename_i hr1
    (have hb:=trivial;with_reducible repeat' (first|simp only[hb,Vc.down,seval,Yn.down,h2]|refine Be ?_ ?_<;>intro hb|refine fd ?_|fail))
    all_goals simp[Do,hp,aaY.2 hr1]
theorem jH(m:Ba)(hs:m.small):Fa.call (.fn 15) [.agg [Ag 3 true m.nS (m.sens.map Bd.cells),Ag 4 false m.nV (m.votes.map Ak.cells),Ag 5 false m.nM (m.moves.map Am.cells),.int .i64 m.states,.int .i64 m.cmds,.int .i64 m.bgn,Ag 1 true m.nO (m.opn.map iv)]] []=some (.ret (.bool (Do m)),[]):=by
 have l1:decide ((6:Int)<(m.sens.length:Int))= !decide (m.sens.length≤6):=by rw[←decide_not,decide_eq_decide];omega
 have l2:decide ((6:Int)<(m.votes.length:Int))= !decide (m.votes.length≤6):=by rw[←decide_not,decide_eq_decide];omega
 have l3:decide ((20:Int)<(m.moves.length:Int))= !decide (m.moves.length≤20):=by rw[←decide_not,decide_eq_decide];omega
 have sen:∀x:Bd,dL x=(!decide (x.lo < -10000)&& !decide (x.hi<x.lo)&& !decide (10000<x.hi)):=fun x=>by
  rw[Bool.eq_iff_iff];simp[dL,fX,Nb];omega
 (refine ce Try.func15 ?_;simp only[Try.f15];(have hb:=trivial;with_reducible repeat' (first|simp only[hb,Vc.down,seval,Me.down,aaV]|refine Be ?_ ?_<;>intro hb|refine fd ?_|fail)))
 refine Ft (Yg 126 m.sens (fun i (zz:Unit) t h=>t 1=.ptr 0 0 0∧t 3=.int .i64 i∧(h[0]?=some (.live 7 false false [[Ag 3 true m.nS (m.sens.map Bd.cells),Ag 4 false m.nV (m.votes.map Ak.cells),Ag 5 false m.nM (m.moves.map Am.cells),.int .i64 m.states,.int .i64 m.cmds,.int .i64 m.bgn,Ag 1 true m.nO (m.opn.map iv)]]))) (fun rest zz=>rest.all dL) (fun r e t h=>(if r=true then e=.exit 0∧t 1=.ptr 0 0 0∧h[0]?=some (.live 7 false false [[Ag 3 true m.nS (m.sens.map Bd.cells),Ag 4 false m.nV (m.votes.map Ak.cells),Ag 5 false m.nM (m.moves.map Am.cells),.int .i64 m.states,.int .i64 m.cmds,.int .i64 m.bgn,Ag 1 true m.nO (m.opn.map iv)]])else e=.ret∧t 2=.bool false)) ?_ ?_ () _ _ ?_) (fun e t h hk=>?_)
 ·rintro _ t h Q' kQ ⟨h1,h3,hA⟩
  (have hb:=trivial;with_reducible repeat' (first|simp only[hb,Vc.down,seval,Me.down,h1,h3,aaX,decide_false,hA,aaV]|refine Be ?_ ?_<;>intro hb|refine fd ?_|fail))
  exact kQ _ _ _ (by rw[if_pos (by rfl)];exact⟨rfl,by simp[up,h1],hA⟩)
 ·rintro x rest i _ t h J Q' kJ kQ hx hi ⟨h1,h3,hA⟩
  have hd:decide ((i:Int)<(m.sens.length:Int))=true:=decide_eq_true (by omega)
  have hw:=Aw hi hs.sens
  have hA1:=Bo hA
  (have hb:=trivial;with_reducible repeat' (first|simp only[hb,Vc.down,seval,Me.down,h1,h3,hd,hx,hw,hA,hA1,Bd.cells,aaV]|refine Be ?_ ?_<;>intro hb|refine fd ?_|fail))
  all_goals first
   |exact kQ _ _ _ (by rw[if_neg (by simp_all)];exact⟨rfl,by simp[up]⟩)
   |(refine Cj (kJ _ _ () ⟨?_,?_,hA1 _⟩ ?_);(simp[up,h1]);(simp[up]);(simp_all))
 ·exact⟨by simp[up,Eu],by simp[up],rfl⟩
 split at hk
 rotate_left
 ·obtain⟨rfl,h2⟩:=hk
  rename_i hr1
  (have hb:=trivial;with_reducible repeat' (first|simp only[hb,Vc.down,seval,Me.down,h2]|refine Be ?_ ?_<;>intro hb|refine fd ?_|fail))
  all_goals simp[Do,aaY.2 hr1]
 obtain⟨rfl,h1,hA⟩:=hk
 rename_i hr1
 have hA1:=Bo hA
 (have hb:=trivial;with_reducible repeat' (first|simp only[hb,Vc.down,seval,Me.down,h1,hA,hA1,aaV]|refine Be ?_ ?_<;>intro hb|refine fd ?_|fail))
 refine Ft (Yg 126 m.votes (fun i (zz:Unit) t h=>t 1=.ptr 0 0 0∧t 5=.int .i64 i∧(h[0]?=some (.live 7 false false [[Ag 3 true m.nS (m.sens.map Bd.cells),Ag 4 false m.nV (m.votes.map Ak.cells),Ag 5 false m.nM (m.moves.map Am.cells),.int .i64 m.states,.int .i64 m.cmds,.int .i64 m.bgn,Ag 1 true m.nO (m.opn.map iv)]]))) (fun rest zz=>rest.all (Oi m.sens.length)) (fun r e t h=>(if r=true then e=.exit 2∧t 1=.ptr 0 0 0∧h[0]?=some (.live 7 false false [[Ag 3 true m.nS (m.sens.map Bd.cells),Ag 4 false m.nV (m.votes.map Ak.cells),Ag 5 false m.nM (m.moves.map Am.cells),.int .i64 m.states,.int .i64 m.cmds,.int .i64 m.bgn,Ag 1 true m.nO (m.opn.map iv)]])else e=.ret∧t 2=.bool false)) ?_ ?_ () _ _ ?_) (fun e t h hk=>?_)
 ·rintro _ t h Q' kQ ⟨h1,h5,hA⟩
  (have hb:=trivial;with_reducible repeat' (first|simp only[hb,Vc.down,seval,Me.down,h1,h5,aaX,decide_false,hA,aaV]|refine Be ?_ ?_<;>intro hb|refine fd ?_|fail))
  exact kQ _ _ _ (by rw[if_pos (by rfl)];exact⟨rfl,by simp[up,h1],hA⟩)
 ·rintro x rest i _ t h J Q' kJ kQ hx hi ⟨h1,h5,hA⟩
  have hd:decide ((i:Int)<(m.votes.length:Int))=true:=decide_eq_true (by omega)
  have hw:=Aw hi hs.votes
  have hA1:=Bo hA
  have hV:=vW x m.sens.length (hs.vs x (aa0 hx))
  (have hb:=trivial;with_reducible repeat' (first|simp only[hb,Vc.down,seval,Me.down,h1,h5,hd,hx,hw,hA,hA1,hV,Ak.cells,aaV]|refine Be ?_ ?_<;>intro hb|refine fd ?_|fail))
  all_goals first
   |exact kQ _ _ _ (by rw[if_neg (by simp_all)];exact⟨rfl,by simp[up]⟩)
   |(refine Cj (kJ _ _ () ⟨?_,?_,hA⟩ ?_);(simp[up,h1]);(simp[up]);(simp_all))
 ·exact⟨by simp[up,Eu,h1],by simp[up],hA⟩
 split at hk
 rotate_left
 ·obtain⟨rfl,h2⟩:=hk
  rename_i hr2
  (have hb:=trivial;with_reducible repeat' (first|simp only[hb,Vc.down,seval,Me.down,h2]|refine Be ?_ ?_<;>intro hb|refine fd ?_|fail))
  all_goals simp[Do,aaY.2 hr2]
 obtain⟨rfl,h1,hA⟩:=hk
 rename_i hr2
 have hA1:=Bo hA
 cases hp:Ns m with
 |false=>
  have hp':Do m=false:=by simp[Do,hp]
  rw[hp']
  (have hb:=trivial;with_reducible repeat' (first|simp only[hb,Vc.down,seval,Me.down,h1,hA,hA1,aaV,aP,l1,l2,l3]|refine Be ?_ ?_<;>intro hb|refine fd ?_|fail))
  all_goals first
   |rfl
   |(exfalso;simp_all[Ns];done)
 |true=>
  have hp':=hp
  simp only[Ns,acI]at hp'
  obtain⟨⟨⟨⟨⟨⟨p1,p2⟩,p3⟩,p4⟩,p5⟩,p6⟩,p7⟩:=hp'
  (have hb:=trivial;with_reducible repeat' (first|simp only[hb,Vc.down,seval,Me.down,h1,hA,hA1,aaV,aP,l1,l2,l3,p1,p2,p3,p4,p5,p6,p7]|refine Be ?_ ?_<;>intro hb|refine fd ?_|fail))
  refine Ft (Yg 126 m.opn (fun i (zz:Unit) t h=>t 1=.ptr 0 0 0∧t 6=.int .i64 i∧(h[0]?=some (.live 7 false false [[Ag 3 true m.nS (m.sens.map Bd.cells),Ag 4 false m.nV (m.votes.map Ak.cells),Ag 5 false m.nM (m.moves.map Am.cells),.int .i64 m.states,.int .i64 m.cmds,.int .i64 m.bgn,Ag 1 true m.nO (m.opn.map iv)]]))) (fun rest zz=>rest.all (fun n=>Nb n 0 255)) (fun r e t h=>(if r=true then e=.exit 4∧t 1=.ptr 0 0 0∧h[0]?=some (.live 7 false false [[Ag 3 true m.nS (m.sens.map Bd.cells),Ag 4 false m.nV (m.votes.map Ak.cells),Ag 5 false m.nM (m.moves.map Am.cells),.int .i64 m.states,.int .i64 m.cmds,.int .i64 m.bgn,Ag 1 true m.nO (m.opn.map iv)]])else e=.ret∧t 2=.bool false)) ?_ ?_ () _ _ ?_) (fun e t h hk=>?_)
  ·rintro _ t h Q' kQ ⟨h1,h6,hA⟩
   (have hb:=trivial;with_reducible repeat' (first|simp only[hb,Vc.down,seval,Me.down,h1,h6,aaX,decide_false,hA,aaV]|refine Be ?_ ?_<;>intro hb|refine fd ?_|fail))
   exact kQ _ _ _ (by rw[if_pos (by rfl)];exact⟨rfl,by simp[up,h1],hA⟩)
  ·rintro x rest i _ t h J Q' kJ kQ hx hi ⟨h1,h6,hA⟩
   have hd:decide ((i:Int)<(m.opn.length:Int))=true:=decide_eq_true (by omega)
   have hw:=Aw hi hs.opn
   have hA1:=Bo hA
   (have hb:=trivial;with_reducible repeat' (first|simp only[hb,Vc.down,seval,Me.down,h1,h6,hd,hx,hw,hA,hA1,aP,iv,aaV]|refine Be ?_ ?_<;>intro hb|refine fd ?_|fail))
   all_goals first
    |exact kQ _ _ _ (by rw[if_neg (by simp_all)];exact⟨rfl,by simp[up]⟩)
    |(refine Cj (kJ _ _ () ⟨?_,?_,hA⟩ ?_);(simp[up,h1]);(simp[up]);(simp_all))
  ·exact⟨by simp[up,Eu,h1],by simp[up],hA⟩
  split at hk
  rotate_left
  ·obtain⟨rfl,h2⟩:=hk
   rename_i hr3
   (have hb:=trivial;with_reducible repeat' (first|simp only[hb,Vc.down,seval,Me.down,h2]|refine Be ?_ ?_<;>intro hb|refine fd ?_|fail))
   all_goals simp[Do,aaY.2 hr3]
  obtain⟨rfl,h1,hA⟩:=hk
  rename_i hr3
  have hA1:=Bo hA
  (have hb:=trivial;with_reducible repeat' (first|simp only[hb,Vc.down,seval,Me.down,h1,hA,hA1,aaV]|refine Be ?_ ?_<;>intro hb|refine fd ?_|fail))
  refine Ft (Yg 126 m.moves (fun i (zz:Unit) t h=>t 1=.ptr 0 0 0∧t 7=.int .i64 i∧(h[0]?=some (.live 7 false false [[Ag 3 true m.nS (m.sens.map Bd.cells),Ag 4 false m.nV (m.votes.map Ak.cells),Ag 5 false m.nM (m.moves.map Am.cells),.int .i64 m.states,.int .i64 m.cmds,.int .i64 m.bgn,Ag 1 true m.nO (m.opn.map iv)]]))) (fun rest zz=>rest.all (Lu m)) (fun r e t h=>(if r=true then e=.exit 6 else e=.ret∧t 2=.bool false)) ?_ ?_ () _ _ ?_) (fun e t h hk=>?_)
  ·rintro _ t h Q' kQ ⟨h1,h7,hA⟩
   (have hb:=trivial;with_reducible repeat' (first|simp only[hb,Vc.down,seval,Me.down,h1,h7,aaX,decide_false,hA,aaV]|refine Be ?_ ?_<;>intro hb|refine fd ?_|fail))
   exact kQ _ _ _ (by rw[if_pos (by rfl)])
  ·rintro x rest i _ t h J Q' kJ kQ hx hi ⟨h1,h7,hA⟩
   have hd:decide ((i:Int)<(m.moves.length:Int))=true:=decide_eq_true (by omega)
   have hw:=Aw hi hs.moves
   have hA1:=Bo hA
   have hM:=uC m x (hs.ws x (aa0 hx))
   (have hb:=trivial;with_reducible repeat' (first|simp only[hb,Vc.down,seval,Me.down,h1,h7,hd,hx,hw,hA,hA1,hM,Am.cells,aaV]|refine Be ?_ ?_<;>intro hb|refine fd ?_|fail))
   all_goals first
    |exact kQ _ _ _ (by rw[if_neg (by simp_all)];exact⟨rfl,by simp[up]⟩)
    |(refine Cj (kJ _ _ () ⟨?_,?_,hA⟩ ?_);(simp[up,h1]);(simp[up]);(simp_all))
  ·exact⟨by simp[up,Eu,h1],by simp[up],hA⟩
  split at hk
  ·subst hk
   rename_i hr4
   (have hb:=trivial;with_reducible repeat' (first|simp only[hb,Vc.down,seval,Me.down]|refine Be ?_ ?_<;>intro hb|refine fd ?_|fail))
   all_goals simp[Do,hp,hr1,hr2,hr3,hr4]
  ·obtain⟨rfl,h2⟩:=hk
   rename_i hr4
   (have hb:=trivial;with_reducible repeat' (first|simp only[hb,Vc.down,seval,Me.down,h2]|refine Be ?_ ?_<;>intro hb|refine fd ?_|fail))
   all_goals simp[Do,aaY.2 hr4]
end Go.Proofs.Ytfkokgjfpojeoaa
