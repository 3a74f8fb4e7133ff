/- The functions of the layer, walked. -/
import Derived.Test.YtckfcfcmfjfchaaDoorLibE
import Derived.Test.YtckfcfcmfjfchaaDoorChecked
import Derived.Test.YtckfcfcmfjfchaaDoorLibF
import Derived.Test.YtckfcfcmfjfchaaDoorLibD
import Derived.Test.YtckfcfcmfjfchaaDoorRows
import Derived.Test.YtckfcfcmfjfchaaDoorTie
import Derived.Test.YtckfcfcmfjfchaaDoorCards
import Derived.Test.YtckfcfcmfjfchaaDoorShelf
import Derived.ProofKit
import Derived.LaidMore
import Derived.OpenShut
import Derived.Stop.Joined
open And renaming intro→ab8
open List renaming length_map→ab9,replicate→acA,getElem?_eq_some_iff→acB,getElem?_set_ne→acC,getElem?_set_self→acE,getElem?_append_left→acF,getElem?_eq_getElem→acG,length_replicate→acH,take_of_length_le→acI,take→adL,getD_eq_getElem?_getD→af4,map_set→agD,all_eq_true→agR,getElem?_append_right→agT,length_set→agU,mem_of_getElem?→agW,set_set→agY,drop→ag5,flatMap_cons→ahG,cons_append→ajN,nil_append→ajS,length_eq_zero_iff→ajU,getElem?_map→ajX,replicate_succ→akU,take_add_one→akV,take_succ_cons→akX,drop_succ_cons→akY,set_cons_succ→akZ,length_take→ak0
open Int renaming lt_irrefl→acD
open Nat renaming ble→afD
open Bool renaming false_eq_true→akW,and_eq_true→ak1
set_option linter.unusedSimpArgs false
set_option linter.unusedVariables false
namespace Go.Proofs.YtckfcfcmfjfchaaDoor
open Go.Ev
set_option maxRecDepth 100000
theorem Ii(h:Aa)(b r o:Nat):ld Tryd.prog 24 h (some (.ptr b r o))=ldR (Ny (h[b]?) r) o 3:=pS ⟨by kernel_rfl,by kernel_rfl⟩ h b r o
theorem Xz(b r o:Nat):ftL Tryd.prog 24 (some (.ptr b r o))=some [.cells b o 3]:=afB (isA:=true) (n:=3) (by kernel_rfl) (by kernel_rfl) b r o
theorem tP(st b r len:Nat):ln Tryd.prog 27 (some (.slr st b r len))=some (.ret (.int .i64 len),[]):=abW (n:=1) ⟨_,Tryd.underlying27,by kernel_rfl⟩ st b r len
theorem sV:ln Tryd.prog 27 (some .nils)=some (.ret (.int .i64 0),[]):=gI (n:=1) ⟨_,Tryd.underlying27,by kernel_rfl⟩
theorem Yn(st b r len:Nat):ln Tryd.prog 28 (some (.slr st b r len))=some (.ret (.int .i64 len),[]):=abW (n:=1) ⟨_,Tryd.underlying28,by kernel_rfl⟩ st b r len
theorem eH:ln Tryd.prog 28 (some .nils)=some (.ret (.int .i64 0),[]):=gI (n:=1) ⟨_,Tryd.underlying28,by kernel_rfl⟩
theorem Yq(fl nn:Bool)(rows:List (List AV)):ln Tryd.prog 28 (some (Bv 1 fl nn rows))=some (.ret (.int .i64 rows.length),[]):=abX ⟨_,Tryd.underlying28,by kernel_rfl⟩ fl nn rows
theorem sK(b r len:Nat)(k:IntKind)(i:Int):ia Tryd.prog 27 (some (.slr 1 b r len)) (some (.int k i))=if 0≤i∧i<len then some (.ret (.ptr b (r+i.toNat) 0),[])else none:=nU ⟨_,Tryd.underlying27,by kernel_rfl⟩ b r len k i
theorem Ie(h:Aa)(b r o:Nat):ld Tryd.prog 28 h (some (.ptr b r o))=vK (Ny (h[b]?) r) o:=Wm ⟨by kernel_rfl,1,by kernel_rfl⟩ h b r o
theorem Dq(b r o:Nat):fa Tryd.prog 24 (some (.ptr b r o)) 2=some (.ret (.ptr b r (o+2)),[]):=Gy (show Hr Tryd.prog 24 2 2 1 from⟨_,_,Tryd.underlying24,rfl,rfl,by kernel_rfl,by decide⟩) b r o
theorem Ef(h:Aa)(b r o:Nat):ld Tryd.prog 22 h (some (.ptr b r o))=vK (Ny (h[b]?) r) o:=Wm ⟨by kernel_rfl,1,by kernel_rfl⟩ h b r o
theorem Ej(fl nn:Bool)(rows:List (List AV)):ln Tryd.prog 22 (some (Bv 9 fl nn rows))=some (.ret (.int .i64 rows.length),[]):=abX ⟨_,Tryd.underlying22,by kernel_rfl⟩ fl nn rows
theorem af2:Hq Tryd.prog 3=some (.int .i64 0):=by kernel_rfl
theorem tL(base:Nat)(l c:Option AV):msO Tryd.prog 28 base l c=msK 1 (.int .i64 0) base l c:=agV (e:=3) (n:=1) (b:=8) (by kernel_rfl) (by kernel_rfl) (by kernel_rfl) (by kernel_rfl) (by decide+kernel) base l c
theorem Ip(b r len:Nat)(k:IntKind)(i:Int):ia Tryd.prog 28 (some (.slr 1 b r len)) (some (.int k i))=if 0≤i∧i<len then some (.ret (.ptr b (r+i.toNat) 0),[])else none:=nU ⟨_,Tryd.underlying28,by kernel_rfl⟩ b r len k i
theorem Yb(fl nn:Bool)(rows:List (List AV))(k:IntKind)(i:Int):ia Tryd.prog 28 (some (Bv 1 fl nn rows)) (some (.int k i))=if 0≤i then r1 ((rows[i.toNat]?).map .iptr)else none:=oW ⟨_,Tryd.underlying28,by kernel_rfl⟩ fl nn rows k i
theorem Di(h:Aa)(b r o:Nat):ld Tryd.prog 3 h (some (.ptr b r o))=vK (Ny (h[b]?) r) o:=Wm ⟨by kernel_rfl,1,by kernel_rfl⟩ h b r o
theorem Qa(h:Aa)(c:AV)(cs:List AV):ld Tryd.prog 3 h (some (.iptr (c::cs)))=some (.ret c,[]):=agI ⟨by kernel_rfl,1,by kernel_rfl⟩ h c cs
theorem fD(b r len:Nat)(k:IntKind)(i:Int):ia Tryd.prog 41 (some (.slr 1 b r len)) (some (.int k i))=if 0≤i∧i<len then some (.ret (.ptr b (r+i.toNat) 0),[])else none:=nU ⟨_,Tryd.underlying41,by kernel_rfl⟩ b r len k i
theorem eP(fl nn:Bool)(rows:List (List AV))(k:IntKind)(i:Int):ia Tryd.prog 41 (some (Bv 1 fl nn rows)) (some (.int k i))=if 0≤i then r1 ((rows[i.toNat]?).map .iptr)else none:=oW ⟨_,Tryd.underlying41,by kernel_rfl⟩ fl nn rows k i
theorem Jp(h:Aa)(b r o:Nat):ld Tryd.prog 4 h (some (.ptr b r o))=vK (Ny (h[b]?) r) o:=Wm ⟨by kernel_rfl,1,by kernel_rfl⟩ h b r o
theorem Yt(h:Aa)(c:AV)(cs:List AV):ld Tryd.prog 4 h (some (.iptr (c::cs)))=some (.ret c,[]):=agI ⟨by kernel_rfl,1,by kernel_rfl⟩ h c cs
theorem rW(h:Aa)(b r o:Nat)(v:AV):vD Tryd.prog 3 h (some (.ptr b r o)) (some v)=sv 1 (h[b]?) b r o (Af v):=Qg (by kernel_rfl) h b r o v
theorem aB(b r o:Nat):fa Tryd.prog 24 (some (.ptr b r o)) 1=some (.ret (.ptr b r (o+1)),[]):=Gy (show Hr Tryd.prog 24 1 1 1 from⟨_,_,Tryd.underlying24,rfl,rfl,by kernel_rfl,by decide⟩) b r o
theorem Hi(fl nn:Bool)(rows:List (List AV))(k:IntKind)(i:Int):ia Tryd.prog 22 (some (Bv 9 fl nn rows)) (some (.int k i))=if 0≤i then r1 ((rows[i.toNat]?).map .iptr)else none:=oW ⟨_,Tryd.underlying22,by kernel_rfl⟩ fl nn rows k i
theorem oD(h:Aa)(b r o:Nat):ld Tryd.prog 62 h (some (.ptr b r o))=ldR (Ny (h[b]?) r) o 9:=pS ⟨by kernel_rfl,by kernel_rfl⟩ h b r o
theorem Il(h:Aa)(cs:List AV):ld Tryd.prog 62 h (some (.iptr cs))=if 9≤cs.length then some (.ret (.agg (cs.take 9)),[])else none:=am0 ⟨by kernel_rfl,by kernel_rfl⟩ h cs
theorem Xi:Hq Tryd.prog 62=some (.agg [.int .i64 0,.int .i64 0,.bool false,.bool false,.int .i64 0,.int .i64 0,.bool false,.int .i64 0,.int .i64 0]):=by kernel_rfl
theorem Wb(h:Aa)(b r o:Nat)(v:AV):vD Tryd.prog 62 h (some (.ptr b r o)) (some v)=sv 9 (h[b]?) b r o (Af v):=Qg (by kernel_rfl) h b r o v
theorem Rl(b r o:Nat):fa Tryd.prog 62 (some (.ptr b r o)) 3=some (.ret (.ptr b r (o+3)),[]):=Gy (show Hr Tryd.prog 62 3 3 1 from⟨_,_,Tryd.underlying62,rfl,rfl,by kernel_rfl,by decide⟩) b r o
theorem kB(cs:List AV):fa Tryd.prog 62 (some (.iptr cs)) 3=if 3+1≤cs.length then some (.ret (.iptr (cs.drop 3)),[])else none:=iS (show Hr Tryd.prog 62 3 3 1 from⟨_,_,Tryd.underlying62,rfl,rfl,by kernel_rfl,by decide⟩) cs
theorem rG(h:Aa)(b r o:Nat)(v:AV):vD Tryd.prog 4 h (some (.ptr b r o)) (some v)=sv 1 (h[b]?) b r o (Af v):=Qg (by kernel_rfl) h b r o v
theorem Yy(b r o:Nat):fa Tryd.prog 62 (some (.ptr b r o)) 6=some (.ret (.ptr b r (o+6)),[]):=Gy (show Hr Tryd.prog 62 6 6 1 from⟨_,_,Tryd.underlying62,rfl,rfl,by kernel_rfl,by decide⟩) b r o
theorem Iq(base len:Nat)(ps:List (Nat × AV)):rD (Bw Tryd.prog base 28 len ps)=bsK 1 (.int .i64 0) base len ps:=ajH (e:=3) (by kernel_rfl) (by kernel_rfl) (by kernel_rfl) base len ps
theorem jJ:Hq Tryd.prog 75=some (.agg [.int .i64 0,.bool false,.int .i64 0,.bool false,.int .i64 0,.bool false,.int .i64 0,.bool false,.int .i64 0,.bool false,.int .i64 0,.bool false,.int .i64 0,.bool false,.int .i64 0,.bool false,.int .i64 0,.bool false,.int .i64 0,.bool false,.int .i64 0,.bool false,.int .i64 0,.bool false]):=by kernel_rfl
theorem mL(h:Aa)(b r o:Nat)(v:AV):vD Tryd.prog 75 h (some (.ptr b r o)) (some v)=sv 24 (h[b]?) b r o (Af v):=Qg (by kernel_rfl) h b r o v
theorem Qu(h:Aa)(b r o:Nat):ld Tryd.prog 75 h (some (.ptr b r o))=ldR (Ny (h[b]?) r) o 24:=pS ⟨by kernel_rfl,by kernel_rfl⟩ h b r o
theorem It(b r o:Nat):fa Tryd.prog 79 (some (.ptr b r o)) 0=some (.ret (.ptr b r (o+0)),[]):=Gy (show Hr Tryd.prog 79 0 0 3 from⟨_,_,Tryd.underlying79,rfl,rfl,by kernel_rfl,by decide⟩) b r o
theorem Jz(b r o:Nat):fa Tryd.prog 62 (some (.ptr b r o)) 0=some (.ret (.ptr b r (o+0)),[]):=Gy (show Hr Tryd.prog 62 0 0 1 from⟨_,_,Tryd.underlying62,rfl,rfl,by kernel_rfl,by decide⟩) b r o
theorem Zp(cs:List AV):fa Tryd.prog 62 (some (.iptr cs)) 0=if 0+1≤cs.length then some (.ret (.iptr (cs.drop 0)),[])else none:=iS (show Hr Tryd.prog 62 0 0 1 from⟨_,_,Tryd.underlying62,rfl,rfl,by kernel_rfl,by decide⟩) cs
theorem Ks(b r o:Nat):fa Tryd.prog 62 (some (.ptr b r o)) 1=some (.ret (.ptr b r (o+1)),[]):=Gy (show Hr Tryd.prog 62 1 1 1 from⟨_,_,Tryd.underlying62,rfl,rfl,by kernel_rfl,by decide⟩) b r o
theorem Zi(cs:List AV):fa Tryd.prog 62 (some (.iptr cs)) 1=if 1+1≤cs.length then some (.ret (.iptr (cs.drop 1)),[])else none:=iS (show Hr Tryd.prog 62 1 1 1 from⟨_,_,Tryd.underlying62,rfl,rfl,by kernel_rfl,by decide⟩) cs
theorem Vq(h:Aa)(b r o:Nat):ld Tryd.prog 73 h (some (.ptr b r o))=ldR (Ny (h[b]?) r) o 2:=pS ⟨by kernel_rfl,by kernel_rfl⟩ h b r o
theorem Ff{O:Do}(t:List AV)(h:Aa)(s x:Operand):Dt O Tryd.prog t h (.call ⟨.builtin .append,#[s,x],#[28,28]⟩)=vQ Tryd.prog 28 h (Ad t s) (Ad t x):=yU t h s x 28 28 _ Tryd.underlying28
theorem Jr(h:Aa)(s:AV)(a b r l:Nat):vQ Tryd.prog 28 h (some s) (some (.slr a b r l))=sQ 1 h (some s) (srK 1 h (some (.slr a b r l))):=mN (e:=3) (b:=8) (z:=.int .i64 0) (by kernel_rfl) (by kernel_rfl) (by kernel_rfl) (by kernel_rfl) (by decide+kernel) h s _ (fun q e=>by cases e)
theorem tX(h:Aa)(s:AV)(st:Nat)(fl:Bool)(rows:List (List AV)):vQ Tryd.prog 28 h (some s) (some (.imm st fl rows))=sQ 1 h (some s) (srK 1 h (some (.imm st fl rows))):=mN (e:=3) (b:=8) (z:=.int .i64 0) (by kernel_rfl) (by kernel_rfl) (by kernel_rfl) (by kernel_rfl) (by decide+kernel) h s _ (fun q e=>by cases e)
theorem eN(h:Aa)(s:AV)  :vQ Tryd.prog 28 h (some s) (some .nils)=sQ 1 h (some s) (srK 1 h (some .nils)):=mN (e:=3) (b:=8) (z:=.int .i64 0) (by kernel_rfl) (by kernel_rfl) (by kernel_rfl) (by kernel_rfl) (by decide+kernel) h s _ (fun q e=>by cases e)
theorem kS:Hq Tryd.prog 28=some (.nils):=by kernel_rfl
theorem fQ(base len:Nat)(ps:List (Nat × AV)):rD (Bw Tryd.prog base 27 len ps)=bsK 1 (.nils) base len ps:=ajH (e:=28) (by kernel_rfl) (by kernel_rfl) (by kernel_rfl) base len ps
theorem Uw{O:Do}(t:List AV)(h:Aa)(s x:Operand):Dt O Tryd.prog t h (.call ⟨.builtin .append,#[s,x],#[27,27]⟩)=vQ Tryd.prog 27 h (Ad t s) (Ad t x):=yU t h s x 27 27 _ Tryd.underlying27
theorem eQ(h:Aa)(s:AV)(a b r l:Nat):vQ Tryd.prog 27 h (some s) (some (.slr a b r l))=sQ 1 h (some s) (srK 1 h (some (.slr a b r l))):=mN (e:=28) (b:=24) (z:=.nils) (by kernel_rfl) (by kernel_rfl) (by kernel_rfl) (by kernel_rfl) (by decide+kernel) h s _ (fun q e=>by cases e)
theorem Ix(b r o:Nat):fa Tryd.prog 24 (some (.ptr b r o)) 0=some (.ret (.ptr b r (o+0)),[]):=Gy (show Hr Tryd.prog 24 0 0 1 from⟨_,_,Tryd.underlying24,rfl,rfl,by kernel_rfl,by decide⟩) b r o
theorem Zk(b r o:Nat):fa Tryd.prog 62 (some (.ptr b r o)) 2=some (.ret (.ptr b r (o+2)),[]):=Gy (show Hr Tryd.prog 62 2 2 1 from⟨_,_,Tryd.underlying62,rfl,rfl,by kernel_rfl,by decide⟩) b r o
theorem Oa(b r o:Nat):fa Tryd.prog 62 (some (.ptr b r o)) 4=some (.ret (.ptr b r (o+4)),[]):=Gy (show Hr Tryd.prog 62 4 4 1 from⟨_,_,Tryd.underlying62,rfl,rfl,by kernel_rfl,by decide⟩) b r o
theorem Ol(b r o:Nat):fa Tryd.prog 62 (some (.ptr b r o)) 5=some (.ret (.ptr b r (o+5)),[]):=Gy (show Hr Tryd.prog 62 5 5 1 from⟨_,_,Tryd.underlying62,rfl,rfl,by kernel_rfl,by decide⟩) b r o
theorem Zz(b r o:Nat):fa Tryd.prog 62 (some (.ptr b r o)) 7=some (.ret (.ptr b r (o+7)),[]):=Gy (show Hr Tryd.prog 62 7 7 1 from⟨_,_,Tryd.underlying62,rfl,rfl,by kernel_rfl,by decide⟩) b r o
theorem aE(b r o:Nat):fa Tryd.prog 62 (some (.ptr b r o)) 8=some (.ret (.ptr b r (o+8)),[]):=Gy (show Hr Tryd.prog 62 8 8 1 from⟨_,_,Tryd.underlying62,rfl,rfl,by kernel_rfl,by decide⟩) b r o
theorem adV:Hq Tryd.prog 4=some (.bool false):=by kernel_rfl
theorem uW(base len:Nat)(ps:List (Nat × AV)):rD (Bw Tryd.prog base 41 len ps)=bsK 1 (.bool false) base len ps:=ajH (e:=4) (by kernel_rfl) (by kernel_rfl) (by kernel_rfl) base len ps
theorem dN{O:Do}(t:List AV)(h:Aa)(s x:Operand):Dt O Tryd.prog t h (.call ⟨.builtin .append,#[s,x],#[41,41]⟩)=vQ Tryd.prog 41 h (Ad t s) (Ad t x):=yU t h s x 41 41 _ Tryd.underlying41
theorem uT(h:Aa)(s:AV)(a b r l:Nat):vQ Tryd.prog 41 h (some s) (some (.slr a b r l))=sQ 1 h (some s) (srK 1 h (some (.slr a b r l))):=mN (e:=4) (b:=1) (z:=.bool false) (by kernel_rfl) (by kernel_rfl) (by kernel_rfl) (by kernel_rfl) (by decide+kernel) h s _ (fun q e=>by cases e)
theorem Zj(b r o:Nat):fa Tryd.prog 73 (some (.ptr b r o)) 0=some (.ret (.ptr b r (o+0)),[]):=Gy (show Hr Tryd.prog 73 0 0 1 from⟨_,_,Tryd.underlying73,rfl,rfl,by kernel_rfl,by decide⟩) b r o
theorem vU(h:Aa)(b r o:Nat)(v:AV):vD Tryd.prog 71 h (some (.ptr b r o)) (some v)=sv 1 (h[b]?) b r o (Af v):=Qg (by kernel_rfl) h b r o v
theorem mU(b r o:Nat):fa Tryd.prog 79 (some (.ptr b r o)) 1=some (.ret (.ptr b r (o+3)),[]):=Gy (show Hr Tryd.prog 79 1 3 1 from⟨_,_,Tryd.underlying79,rfl,rfl,by kernel_rfl,by decide⟩) b r o
theorem sZ(ps:List (Nat × AV)):Yd Tryd.prog 79 ps=(Lp (fun i=>([(0,3),(3,1)]:List (Nat × Nat))[i]?) (Af (.agg [.int .i64 0,.int .i64 0,.nils,.int .i64 0])) ps).map .agg:=by kernel_rfl
theorem Ze(b r o:Nat):fa Tryd.prog 73 (some (.ptr b r o)) 1=some (.ret (.ptr b r (o+1)),[]):=Gy (show Hr Tryd.prog 73 1 1 1 from⟨_,_,Tryd.underlying73,rfl,rfl,by kernel_rfl,by decide⟩) b r o
theorem Px(h:Aa)(b r o:Nat)(v:AV):vD Tryd.prog 28 h (some (.ptr b r o)) (some v)=sv 1 (h[b]?) b r o (Af v):=Qg (by kernel_rfl) h b r o v
theorem sJ(ps:List (Nat × AV)):Yd Tryd.prog 98 ps=(Lp (fun i=>([(0,1)]:List (Nat × Nat))[i]?) (Af (.agg [.nils])) ps).map .agg:=by kernel_rfl
theorem zO:Hq Tryd.prog 96=some (.nilp):=by kernel_rfl
theorem aaC(h:Aa)(b r o:Nat)(v:AV):vD Tryd.prog 96 h (some (.ptr b r o)) (some v)=sv 1 (h[b]?) b r o (Af v):=Qg (by kernel_rfl) h b r o v
theorem oQ(h:Aa)(b r o:Nat):ld Tryd.prog 96 h (some (.ptr b r o))=vK (Ny (h[b]?) r) o:=Wm ⟨by kernel_rfl,1,by kernel_rfl⟩ h b r o
theorem nI(h:Aa)(b r o:Nat):ld Tryd.prog 71 h (some (.ptr b r o))=vK (Ny (h[b]?) r) o:=Wm ⟨by kernel_rfl,1,by kernel_rfl⟩ h b r o
theorem Vi(h:Aa)(b r o:Nat):ld Tryd.prog 68 h (some (.ptr b r o))=vK (Ny (h[b]?) r) o:=Wm ⟨by kernel_rfl,1,by kernel_rfl⟩ h b r o
theorem tA(base:Nat)(l c:Option AV):msO Tryd.prog 41 base l c=msK 1 (.bool false) base l c:=agV (e:=4) (n:=1) (b:=1) (by kernel_rfl) (by kernel_rfl) (by kernel_rfl) (by kernel_rfl) (by decide+kernel) base l c
theorem wX:Hq Tryd.prog 41=some (.nils):=by kernel_rfl
theorem aa8(h:Aa)(b r o:Nat)(v:AV):vD Tryd.prog 41 h (some (.ptr b r o)) (some v)=sv 1 (h[b]?) b r o (Af v):=Qg (by kernel_rfl) h b r o v
theorem uX:Hq Tryd.prog 105=some (.nilf):=by kernel_rfl
theorem tK(h:Aa)(b r o:Nat)(v:AV):vD Tryd.prog 105 h (some (.ptr b r o)) (some v)=sv 1 (h[b]?) b r o (Af v):=Qg (by kernel_rfl) h b r o v
theorem Zd(h:Aa)(b r o:Nat):ld Tryd.prog 105 h (some (.ptr b r o))=vK (Ny (h[b]?) r) o:=Wm ⟨by kernel_rfl,1,by kernel_rfl⟩ h b r o
theorem Ss(b r o:Nat):fa Tryd.prog 98 (some (.ptr b r o)) 0=some (.ret (.ptr b r (o+0)),[]):=Gy (show Hr Tryd.prog 98 0 0 1 from⟨_,_,Tryd.underlying98,rfl,rfl,by kernel_rfl,by decide⟩) b r o
theorem nS(h:Aa)(b r o:Nat):ld Tryd.prog 41 h (some (.ptr b r o))=vK (Ny (h[b]?) r) o:=Wm ⟨by kernel_rfl,1,by kernel_rfl⟩ h b r o
def qX:=PLift.up (ab8 @Ii (ab8 @tP (ab8 @sV (ab8 @eH (ab8 @sK @Ie)))))
def TY9:=PLift.up (ab8 @Dq (ab8 @Ef @Ej))
def Vy:=PLift.up (ab8 @Ii (ab8 @jJ (ab8 @mL (ab8 @Qu (ab8 @Ip (ab8 @Di (ab8 @It (ab8 @Dq (ab8 @Ef (ab8 @Ej (ab8 @Hi (ab8 @Il (ab8 @Xi (ab8 @Wb (ab8 @Jz (ab8 @Ks (ab8 @Vq (ab8 @Iq (ab8 @Ff (ab8 @Jr (ab8 @fQ (ab8 @Uw @eQ))))))))))))))))))))))
def lL:=PLift.up (ab8 @Ix (ab8 @Di (ab8 @aB (ab8 @Dq (ab8 @Ef (ab8 @Ej (ab8 @Hi (ab8 @Il (ab8 @Xi (ab8 @Wb (ab8 @Jz (ab8 @Ks (ab8 @Rl (ab8 @Jp (ab8 @Zk (ab8 @Oa (ab8 @Ol (ab8 @Zz @aE))))))))))))))))))
def agZ:=PLift.up (ab8 @Ii (ab8 @Xz @Iq))
def aH:=PLift.up (ab8 @Ii (ab8 @Dq (ab8 @Ef (ab8 @Ej (ab8 @Hi (ab8 @Zp (ab8 @Di (ab8 @Qa (ab8 @Ip (ab8 @Zi (ab8 @fD (ab8 @Jp (ab8 @Iq (ab8 @Ff (ab8 @Jr (ab8 @fQ (ab8 @Uw @eQ)))))))))))))))))
def aeI:=PLift.up (ab8 @Yq (ab8 @Yb @Qa))
def wS:=PLift.up (ab8 @Dq (ab8 @Ef (ab8 @Ej (ab8 @Hi (ab8 @Il (ab8 @kB (ab8 @Yt (ab8 @uW (ab8 @dN @uT)))))))))
def uZ:=PLift.up (ab8 @Yq (ab8 @Yb @Qa))
def amH:=PLift.up (ab8 @Ii (ab8 @Xz @sZ))
def ad9:=PLift.up (ab8 @Qu (ab8 @jJ (ab8 @It (ab8 @Dq (ab8 @Ef (ab8 @Ej (ab8 @Hi (ab8 @Il (ab8 @Xi (ab8 @Wb (ab8 @Rl (ab8 @Jp (ab8 @Ze (ab8 @rG (ab8 @Yy (ab8 @Zj (ab8 @vU (ab8 @mU (ab8 @Di (ab8 @Oa (ab8 @Ol @mL)))))))))))))))))))))
def Ri:=PLift.up (ab8 @It (ab8 @Ix (ab8 @Di (ab8 @af2 (ab8 @tL (ab8 @kS (ab8 @Px (ab8 @Ie (ab8 @Yn (ab8 @Ip (ab8 @rW (ab8 @sJ (ab8 @zO (ab8 @aaC (ab8 @oQ @Vq)))))))))))))))
def ao6:=PLift.up (ab8 @Zj (ab8 @nI (ab8 @Ze @Jp)))
def aoS:=PLift.up (ab8 @Vi (ab8 @Qu (ab8 @kS (ab8 @Px (ab8 @It (ab8 @Ix (ab8 @Di (ab8 @tA (ab8 @wX (ab8 @aa8 (ab8 @uX (ab8 @tK (ab8 @Zd @Ie)))))))))))))
def Nz:=PLift.up (ab8 @Yq (ab8 @Yb (ab8 @Qa (ab8 @Dq (ab8 @Ef (ab8 @Ej (ab8 @Hi (ab8 @Il (ab8 @eP (ab8 @Yt (ab8 @Ii (ab8 @Xz (ab8 @Ff (ab8 @Jr (ab8 @tX (ab8 @eN @Iq))))))))))))))))
def an0:=PLift.up (ab8 @Ii (ab8 @Ip (ab8 @Di (ab8 @Dq (ab8 @Ef @Ej)))))
def bD:=PLift.up (ab8 @Iq (ab8 @Ix (ab8 @Di (ab8 @Qa (ab8 @Ff (ab8 @Jr (ab8 @Dq (ab8 @Ef (ab8 @Ej (ab8 @Hi (ab8 @Zp (ab8 @Zi (ab8 @eP (ab8 @Yt (ab8 @Ip @rW)))))))))))))))
def amW:=PLift.up (ab8 @Qu (ab8 @Ip (ab8 @Di (ab8 @It (ab8 @Dq (ab8 @Ef @Ej))))))
def ag1:=PLift.up (ab8 @Jz (ab8 @Di @Ks))
def apI:=PLift.up (ab8 @Yy (ab8 @Jp (ab8 @Oa (ab8 @Di @Ol))))
def ao3:=PLift.up (ab8 @Ix (ab8 @Di (ab8 @aB (ab8 @Dq (ab8 @Ef @Ej)))))
def acV:=PLift.up (ab8 @Ss (ab8 @Ie (ab8 @Iq (ab8 @Ff (ab8 @Jr @Px)))))
def afG:=PLift.up (ab8 @Ss (ab8 @Ie (ab8 @Yn (ab8 @eH (ab8 @Ip (ab8 @Di @Px))))))
def tV:=PLift.up (ab8 @Iq (ab8 @Ss (ab8 @Ie (ab8 @Ff (ab8 @Jr (ab8 @eN @Px))))))
def Xn:=PLift.up (ab8 @Jp (ab8 @adV (ab8 @rG (ab8 @nS (ab8 @fD (ab8 @Vi (ab8 @Di (ab8 @Vq (ab8 @Ie (ab8 @Ip (ab8 @Iq (ab8 @Ff (ab8 @Jr (ab8 @Px (ab8 @Zd @Yn)))))))))))))))
def aoN:=PLift.up (ab8 @oD (ab8 @Ix @Di))
def ao7:=PLift.up (ab8 @Jz (ab8 @Di (ab8 @Ks (ab8 @Zk (ab8 @Jp (ab8 @Rl (ab8 @Oa (ab8 @Ol (ab8 @Zz @aE)))))))))
def Vp:=PLift.up (ab8 @Vi (ab8 @It (ab8 @Dq (ab8 @Ef (ab8 @Ej (ab8 @Hi (ab8 @Il (ab8 @Xi (ab8 @Wb (ab8 @Di (ab8 @Jz @Ks)))))))))))
def yH:=PLift.up (ab8 @Ej (ab8 @Hi @Il))
end Go.Proofs.YtckfcfcmfjfchaaDoor
namespace Go.Proofs.YtckfcfcmfjfchaaDoor
open Go Go.Ev Go.ChangeShapes Go.WideShapes Go.ChangeAt Go.RowKit
set_option maxRecDepth 100000
set_option maxHeartbeats 16000000
def mdL:List Nat:=[46,56,60,57,61]
def pr:Kv:=gP 54 68 46 (mdL.contains ·)
noncomputable def Fe:Do:=om Tryd.prog pr
theorem anB(f:Nat):Fe.md f=([46,56,60,57,61]:List Nat).contains f:=Eq.trans rfl rfl
def Va:=PLift.up (ab8 EE.down EVu.down)
def Vc:=PLift.up (ab8 EG.down (ab8 EVu.down @anB))
theorem own:ownKnob Tryd.prog.godebug=none:=by kernel_rfl
theorem afN:uO Tryd.prog:=fun f fn hf=>by
 have h:(Tryd.prog.funcs.toList.all fun fn=> !(fn.name== "runtime.NumGoroutine"))=true:=by kernel_rfl
 have:=agR.1 h fn (by rw[Array.mem_toList_iff];exact Array.mem_of_getElem? hf)
 simpa using this
theorem mixed:Tryd.prog.follows .mixedOrders=true:=by kernel_rfl
theorem adH:laidOutB Tryd.prog=true:=by kernel_rfl
def laid:List (String × DataW Unit):=[("math/bits.deBruijn32tab",Rows.laid_math_bits_deBruijn32tab),("math/bits.deBruijn64tab",Rows.laid_math_bits_deBruijn64tab),("internal/strconv.uint64pow10",Rows.laid_internal_strconv_uint64pow10)]
theorem alY:Tryd.prog.globalNamed "internal/strconv.uint64pow10" =some 0:=by kernel_rfl
theorem tab{W:World}(h:laidMetH Tryd.prog laid W):Lib.TabIs Tryd.prog W "internal/strconv.uint64pow10" .u64 Lib.pow10Tab:=by
 rw[MakeChecks.laidMetH_plain _ _ _ (by kernel_rfl)]at h
 obtain⟨ps,h,_⟩:=h
 exact Wq (t:=160) (e:=126) (n:=20) alY (by kernel_rfl) (by kernel_rfl) (by kernel_rfl) (by kernel_rfl) (by kernel_rfl) h (by
  have e:(Lib.tabData .u64 Lib.pow10Tab:DataW Unit)=Rows.laid_internal_strconv_uint64pow10:=rfl
  rw[e];simp[laid])
theorem abS{W:World}(h:laidMetH Tryd.prog laid W):Fb Tryd.prog (yE W 0) Fe:=
 alT afN (sM (af1 (bH afN Tryd.func54 rfl) (aaB alY (tab h)) (fun n w h0 h1 ht=>Tryd.strconv_Itoa n h0 h1 w ht)) (adK (bH afN Tryd.func68 rfl) Tryd.strings_Join_none Tryd.strings_Join) (afI (bH afN Tryd.func46 rfl) Tryd.slices_Sort_int)) mixed
theorem xB(os:Os)(args:Array Value):laidMetH Tryd.prog laid ((World.doorLaid Tryd.prog 400 os).forCall (fun _ _=>0) ⟨#[],args,[]⟩).memory:=
 laidMetH_of_parts3 (fuel:=8) (laidMet_of_run' 8 (by kernel_rfl) (by kernel_rfl)) (by kernel_rfl) (by kernel_rfl)
theorem pF{f:Nat}{fn:Func}{c:Code}{args:List AV}{h:Aa}{Q:Db→Aa→Prop}(hp:pr f=none)(hf:Tryd.prog.funcs[f]?=some fn)(hb:fn.body=some c)(hl:afD args.length fn.ntmps=true)
 (he:FnE Tryd.prog h.length fn.results.toList Q (Bq Fe Tryd.prog 5000 c [] ⟨mk fn.ntmps (Ph args),h⟩)):vL Fe f args h Q:=vL.start (pr:=pr) hp hf hb hl he
theorem pE{f:Nat}{fn:Func}{c:Code}{args:List AV}{h:Aa}{Q:Db→Aa→Prop}(hp:pr f=none)(hf:Tryd.prog.funcs[f]?=some fn)(hb:fn.body=some c)(hl:afD args.length fn.ntmps=true)
 (he:FnS Tryd.prog fn.results.toList Q (Bq Fe Tryd.prog 5000 c [] ⟨mk fn.ntmps (Ph args),h⟩))  (hs:pr.sh f=none:=by exact rfl):oM Fe f args h Q:=oM.start (pr:=pr) hp hf hb hl he hs
theorem ce{f:Nat}{fn:Func}{c:Code}{args:List AV}{h:Aa}{o:Db}{h':Aa}(hf:Tryd.prog.funcs[f]?=some fn)(he:FnE Tryd.prog h.length fn.results.toList (fun o1 h1=>(o1,h1)=(o,h')) (Bq Fe Tryd.prog 5000 c [] ⟨mk fn.ntmps (Ph args),h⟩))(hp:pr f=none:=by exact rfl)(hb:fn.body=some c:=by exact rfl)(hl:afD args.length fn.ntmps=true:=by exact rfl):Fe.call (.fn f) args h=some (o,h'):=(pF hp hf hb hl he).eq
theorem csh{f:Nat}{fn:Func}{c:Code}{args:List AV}{h:Aa}{o:Db}{h':Aa}(hf:Tryd.prog.funcs[f]?=some fn)(he:FnS Tryd.prog fn.results.toList (fun o1 h1=>(o1,h1)=(o,h')) (Bq Fe Tryd.prog 5000 c [] ⟨mk fn.ntmps (Ph args),h⟩))(hp:pr f=none:=by exact rfl)(hb:fn.body=some c:=by exact rfl)(hl:afD args.length fn.ntmps=true:=by exact rfl)(hs:pr.sh f=none:=by exact rfl):Fe.call (.sh f) args h=some (o,h'):=(pE hp hf hb hl he hs).eq
theorem aQ{α σ ρ:Type}{c:Code}(N:Nat)(l:List α)(E:Nat→σ→Tm→Aa→Prop)(F:List α→σ→ρ)(Q:ρ→Ex→Tm→Aa→Prop)
 (stop:∀s t h Q',(∀e t h,Q (F [] s) e t h→Q' e ⟨mk N t,h⟩)→E l.length s t h→iH N (fun _ _=>False) Q' (Bq Fe Tryd.prog 5000 c [] ⟨mk N t,h⟩))
 (go:∀x rest i s t h J Q',(∀t' h' s',E (i+1) s' t' h'→F rest s'=F (x::rest) s→J t' h')→(∀e t h,Q (F (x::rest) s) e t h→Q' e ⟨mk N t,h⟩)→l[i]?=some x→i<l.length→E i s t h→
   iH N J Q' (Bq Fe Tryd.prog 5000 c [] ⟨mk N t,h⟩)):
 ∀s t h,E 0 s t h→vR Fe c ⟨mk N t,h⟩ (Ot N (Q (F l s))):=uJ (pr:=pr) rfl N l E F Q stop go
theorem cnt{σ ρ:Type}{c:Code}(N:Nat)(E:Nat→σ→Tm→Aa→Prop)(F:Nat→σ→ρ)(Q:ρ→Ex→Tm→Aa→Prop)
 (stop:∀s t h Q',(∀e t h,Q (F 0 s) e t h→Q' e ⟨mk N t,h⟩)→E 0 s t h→iH N (fun _ _=>False) Q' (Bq Fe Tryd.prog 5000 c [] ⟨mk N t,h⟩))
 (go:∀n s t h J Q',(∀t' h' s',E n s' t' h'→F n s'=F (n+1) s→J t' h')→(∀e t h,Q (F (n+1) s) e t h→Q' e ⟨mk N t,h⟩)→E (n+1) s t h→iH N J Q' (Bq Fe Tryd.prog 5000 c [] ⟨mk N t,h⟩)):
 ∀n s t h,E n s t h→vR Fe c ⟨mk N t,h⟩ (Ot N (Q (F n s))):=aa2 (pr:=pr) rfl N E F Q stop go
def iv(x:Int):List AV:=[.int .i64 x]
theorem Ai{h:Aa}{b:Nat}{c:CB}(h0:h[b]?=some c)(l:Aa):(h++l)[b]?=some c:=by
 rw[acF (acB.1 h0).1];exact h0
end Go.Proofs.YtckfcfcmfjfchaaDoor
namespace Go.Proofs.YtckfcfcmfjfchaaDoor
open Go.Ev Go
set_option maxRecDepth 100000
set_option maxHeartbeats 16000000
structure Ae where
 one:Int
 other:Int
 valve:Bool
 opn:Bool
 tested:Int
 valid:Int
 bad:Bool
 test:Int
 change:Int
def Ae.cells(p:Ae):List AV:=[.int .i64 p.one,.int .i64 p.other,.bool p.valve,.bool p.opn,.int .i64 p.tested,.int .i64 p.valid,.bool p.bad,.int .i64 p.test,.int .i64 p.change]
structure Au where
 rooms:Int
 need:Int
 nn:Bool
 parts:List Ae
abbrev Au.cells(w:Au):List AV:=[.int .i64 w.rooms,.int .i64 w.need,Bv 9 true w.nn (w.parts.map Ae.cells)]
theorem pY{α:Type}{f:α→List AV}{p:List AV→Prop}{q:α→Prop}(hf:∀r,p r→∃x,r=f x∧q x):∀{rows:List (List AV)},(∀r∈rows,p r)→∃l:List α,rows=l.map f∧∀x∈l,q x
 | [],_=>⟨[],rfl,fun x hx=>by simp at hx⟩
 |r::rows,h=>by
  obtain⟨x,rfl,hx⟩:=hf r (h r (List.mem_cons_self ..))
  obtain⟨l,rfl,hl⟩:=pY hf (fun r hr=>h r (List.mem_cons_of_mem _ hr))
  exact⟨x::l,rfl,fun y hy=>by
   rcases List.mem_cons.1 hy with rfl|hy
   ·exact hx
   ·exact hl y hy⟩
def i64(n:Int):Prop:= -9223372036854775808≤n∧n≤9223372036854775807
theorem Qs{n:Nat}{r:List AV}(h:Ty Tryd.prog (n+1) 3 r):∃x,r=[.int .i64 x]∧i64 x:=by
 simp only[Ty,Tryd.underlying3]at h
 obtain⟨x,rfl,h1,h2⟩:=h
 exact⟨x,rfl,h1,h2⟩
theorem fW{n:Nat}{r:List AV}(h:Ty Tryd.prog (n+1) 4 r):∃x,r=[.bool x]:=by
 simp only[Ty,Tryd.underlying4]at h
 exact h
def Ae.fits(p:Ae):Prop:=i64 p.one∧i64 p.other∧i64 p.tested∧i64 p.valid∧i64 p.test∧i64 p.change
theorem adU{n:Nat}{r:List AV}(h:Ty Tryd.prog (n+2) 62 r):∃x:Ae,r=x.cells∧x.fits:=by
 unfold Ty at h
 simp only[Tryd.underlying62,aaW]at h
 obtain⟨a0,b0,rfl,h0,a1,b1,rfl,h1,a2,b2,rfl,h2,a3,b3,rfl,h3,a4,b4,rfl,h4,a5,b5,rfl,h5,a6,b6,rfl,h6,a7,b7,rfl,h7,a8,b8,rfl,h8,rfl⟩:=h
 obtain⟨x0,rfl,k0⟩:=Qs h0
 obtain⟨x1,rfl,k1⟩:=Qs h1
 obtain⟨x2,rfl⟩:=fW h2
 obtain⟨x3,rfl⟩:=fW h3
 obtain⟨x4,rfl,k4⟩:=Qs h4
 obtain⟨x5,rfl,k5⟩:=Qs h5
 obtain⟨x6,rfl⟩:=fW h6
 obtain⟨x7,rfl,k7⟩:=Qs h7
 obtain⟨x8,rfl,k8⟩:=Qs h8
 exact⟨⟨x0,x1,x2,x3,x4,x5,x6,x7,x8⟩,rfl,k0,k1,k4,k5,k7,k8⟩
structure Au.small(w:Au):Prop where
 parts:w.parts.length≤maxLen
 fits:∀p∈w.parts,p.fits
 rooms:i64 w.rooms
 need:i64 w.need
theorem ad4{n:Nat}{r:List AV}(h:Ty Tryd.prog (n+4) 24 r):∃w:Au,r=w.cells∧w.small:=by
 unfold Ty at h
 simp only[Tryd.underlying24,aaW]at h
 obtain⟨a0,b0,rfl,h0,a1,b1,rfl,h1,a2,b2,rfl,h2,rfl⟩:=h
 obtain⟨x0,rfl,k0⟩:=Qs h0
 obtain⟨x1,rfl,k1⟩:=Qs h1
 unfold Ty at h2
 simp only[Tryd.underlying22]at h2
 obtain⟨n2,rows2,rfl,hl2,hrows2⟩:=h2
 obtain⟨l2,rfl,hm⟩:=pY (fun r hr=>adU hr) hrows2
 have e2:Tryd.prog.cellsOf 62=9:=by kernel_rfl
 have f2:mY Tryd.prog (n+2) 62=true:=by
  simp only[mY,Tryd.underlying62,Tryd.underlying3,Tryd.underlying4];rfl
 rw[e2,f2]
 exact⟨⟨x0,x1,n2,l2⟩,rfl,by simpa using hl2,hm,k0,k1⟩
theorem aeK{av:AV}(h:pX Tryd.prog 7 24 av):∃w:Au,av=.agg w.cells∧w.small:=by
 unfold pX at h
 simp only[Tryd.underlying24]at h
 obtain⟨cs,rfl,h⟩:=h
 obtain⟨s,rfl,hs⟩:=ad4 h
 exact⟨s,rfl,hs⟩
theorem ag6{av:AV}(h:pX Tryd.prog 7 3 av):∃x,av=.int .i64 x∧i64 x:=by
 unfold pX at h
 simp only[Tryd.underlying3]at h
 obtain⟨x,hx,hi⟩:=Qs h
 simp only[List.cons.injEq,and_true]at hx
 exact⟨x,hx,hi⟩
end Go.Proofs.YtckfcfcmfjfchaaDoor
namespace Go.Proofs.YtckfcfcmfjfchaaDoor
open Go.Ev Go Go.Ev.Net
set_option maxRecDepth 100000
set_option maxHeartbeats 16000000
def Ns(x lo hi:Int):Bool:=decide (lo≤x)&&decide (x≤hi)
theorem kG(x lo hi:Int):Fe.call (.fn 39) [.int .i64 x,.int .i64 lo,.int .i64 hi] []=some (.ret (.bool (Ns x lo hi)),[]):=by
 (refine ce Tryd.func39 ?_;simp only[Tryd.f39];(have hb:=trivial;with_reducible repeat' (first|simp only[hb,Va.down,seval]|refine Be ?_ ?_<;>intro hb|refine fd ?_|fail)))
 all_goals simp[Ns, *]
theorem dR(x lo hi:Int):Fe.call (.fn 48) [.int .i64 x,.int .i64 lo,.int .i64 hi] []=some (.ret (.bool (Ns x lo hi)),[]):=by
 (refine ce Tryd.func48 ?_;simp only[Tryd.f48];(have hb:=trivial;with_reducible repeat' (first|simp only[hb,Va.down,seval]|refine Be ?_ ?_<;>intro hb|refine fd ?_|fail)))
 all_goals simp[Ns, *]
def Xk(d:Int):Bool:=Ns d 0 5000
theorem yS(d:Int):Fe.call (.fn 13) [.int .i64 d] []=some (.ret (.bool (Xk d)),[]):=by
 (refine ce Tryd.func13 ?_;simp only[Tryd.f13];(have hb:=trivial;with_reducible repeat' (first|simp only[hb,Va.down,seval,kG]|refine Be ?_ ?_<;>intro hb|refine fd ?_|fail)))
 rfl
def Jj(p:Ae)(d:Int):Int:=if p.bad=true then 2 else if IntKind.i64.wrap (p.tested+p.valid)<d then 1 else 0
def Ou(p:Ae)(d:Int):Bool:=Jj p d==0&& !p.opn
theorem jF(p:Ae)(d:Int):Fe.call (.fn 45) [.agg [.int .i64 p.one,.int .i64 p.other,.bool p.valve,.bool p.opn,.int .i64 p.tested,.int .i64 p.valid,.bool p.bad,.int .i64 p.test,.int .i64 p.change],.int .i64 d] []=some (.ret (.int .i64 (Jj p d)),[]):=by
 (refine ce Tryd.func45 ?_;simp only[Tryd.f45];(have hb:=trivial;with_reducible repeat' (first|simp only[hb,Va.down,seval,apI.down]|refine Be ?_ ?_<;>intro hb|refine fd ?_|fail)))
 all_goals simp_all[Jj]
def Hu(b:Bool):List AV:=[.bool b]
def Ci(n:Nat):List AV:=[.int .i64 (n:Int)]
def Ax(w:Au)(d:Int):List Bool:=w.parts.map fun p=>Ou p d
theorem Gu{h:Aa}{b:Nat}(hb:b<h.length)(l:Aa)(c:CB):(h++l).set b c=h.set b c++l:=List.set_append_left _ _ hb
theorem Ac{h:Aa}{b:Nat}{c:CB}(e:h[b]?=some c):b<h.length:=(acB.1 e).1
theorem Gx{h:Aa}{b:Nat}(c:CB)(l:Aa):(h.set b c++l)[h.length]?=l[0]?:=by
 rw[agT (by simp)];simp
theorem En{h:Aa}{b:Nat}(c:CB)(l:Aa)(k:Nat):(h.set b c++l)[h.length+k]?=l[k]?:=by
 rw[agT (by simp)];simp
theorem pV{h:Aa}{b b':Nat}{x:CB}(c:CB)(hne:b≠b')(hb:h[b']?=some x)(l:Aa):(h.set b c++l)[b']?=some x:=by
 have hlt:b'<h.length:=(acB.1 hb).1
 rw[acF (by simpa using hlt),acC hne];exact hb
def agF(v:AV)(i:Nat)(rows:List (List AV))(h:Aa):Prop:=(i=0∧v=.nils)∨(0<i∧∃b,0<b∧v=.slr 1 b 0 i∧h[b]?=some (.live 1 true false rows))
theorem pU(w:Au)(d:Int)(hs:w.parts.length≤1000)(hne:w.parts≠[]):Fe.call (.fn 19) [.agg [.int .i64 w.rooms,.int .i64 w.need,Bv 9 true w.nn (w.parts.map Ae.cells)],.int .i64 d] []=some (.ret (.slr 1 0 0 w.parts.length),[.live 1 true false ((Ax w d).map Hu)]):=by
 (refine ce Tryd.func19 ?_;simp only[Tryd.f19];(have hb:=trivial;with_reducible repeat' (first|simp only[hb,Va.down,seval,wS.down,ab9]|refine Be ?_ ?_<;>intro hb|refine fd ?_|fail)))
 refine Iy (aQ 35 w.parts (fun i (zz:List Bool) t h=>t 1=.int .i64 d∧t 2=.ptr 0 0 0∧t 6=.int .i64 i∧(h[0]?=some (.live 3 false false [[.int .i64 w.rooms,.int .i64 w.need,Bv 9 true w.nn (w.parts.map Ae.cells)]])∧zz.length=i∧agF (t 5) i (zz.map Hu) h)) (fun rest zz=>zz++rest.map (fun p=>Ou p d)) (fun r e t h=>e=.exit 0∧agF (t 5) w.parts.length (r.map Hu) h) ?_ ?_ ([]) _ _ ?_) (fun e t h hk=>?_)
 ·rintro a t h Q' kQ ⟨h1,h2,h6,⟨hA,hp,hc⟩⟩
  (have hb:=trivial;with_reducible repeat' (first|simp only[hb,Va.down,seval,wS.down,h1,h2,h6,acD,decide_false,hA,ab9]|refine Be ?_ ?_<;>intro hb|refine fd ?_|fail))
  exact kQ _ _ _ ⟨rfl,by simpa [up]using hc⟩
 ·rintro x rest i a t h J Q' kJ kQ hx hi ⟨h1,h2,h6,⟨hA,hp,hc⟩⟩
  have hd:decide ((i:Int)<(w.parts.length:Int))=true:=decide_eq_true (by omega)
  have hw:=Ew hi (by unfold maxLen;omega)
  have hV:=jF x d
  have htb:Ou x d=(Jj x d==0&& !x.opn):=rfl
  have hA1:=Ai hA
  have h0l:0<h.length:=(acB.1 hA).1
  generalize Jj x d=cx at *
  rcases hc with⟨rfl,ho⟩|⟨h0,b,hb0,ho,hb⟩
  ·simp only[Int.natCast_zero]at hd
   obtain rfl:a=[]:=ajU.1 hp
   cases hq:(cx==0)
   all_goals (have hb:=trivial;with_reducible repeat' (first|simp only[hb,Va.down,seval,wS.down,h1,h2,h6,ho,hd,hw,hx,hA,hA1,hV,hq,Ae.cells,ab9]|refine Be ?_ ?_<;>intro hb|refine fd ?_|fail))
   all_goals (refine Bc (kJ _ _ [Ou x d] ⟨?_,?_,?_,⟨hA1 _,rfl,.inr ⟨by omega,h.length+1,by omega,by simp[up],by rw[rK];simp[Hu,htb,hq]⟩⟩⟩ ?_);(simp[up,h1]);(simp[up,h2]);(simp[up]);(simp))
  ·have hbl:b<h.length:=(acB.1 hb).1
   have hB:=Ai hb
   have hS:=Gu hbl
   have hi39:(i+1≤549755813888)=True:=eq_true (by omega)
   cases hq:(cx==0)
   all_goals (have hb:=trivial;with_reducible repeat' (first|simp only[hb,Va.down,seval,wS.down,h1,h2,h6,ho,hd,hw,hx,hA,hA1,hV,hq,Ae.cells,ab9,hB,hS,Gx,En,agU,hp,hi39]|refine Be ?_ ?_<;>intro hb|refine fd ?_|fail))
   all_goals (refine Bc (kJ _ _ (a++[Ou x d]) ⟨?_,?_,?_,⟨pV _ (by omega) hA _,by simp[hp],.inr ⟨by omega,h.length+1,by omega,by simp[up],by rw[En];simp[Hu,htb,hq]⟩⟩⟩ ?_);(simp[up,h1]);(simp[up,h2]);(simp[up]);(simp))
 ·exact⟨by simp[up,Ph],by simp[up,Ph],by simp[up],⟨rfl,rfl,.inl ⟨rfl,by simp[up]⟩⟩⟩
 obtain⟨rfl,⟨hn,ho⟩|⟨hn,b,hb0,ho,hb⟩⟩:=hk
 ·exact(hne (ajU.1 hn)).elim
 ·(with_reducible repeat' (first|simp only[hb,Va.down,seval,wS.down,ho,hb]|refine Be ?_ ?_<;>intro hb|refine fd ?_|fail))
  rfl
def Fz(w:Au)(ts:List Bool):List Net.Edge:=List.zipWith (fun p t=>(p.one.toNat,p.other.toNat,if t=true then 1 else 0)) w.parts ts
structure mI(w:Au)(N:Nat):Prop where
 rooms:w.rooms=(N:Int)
 n2:2≤N
 n8:N≤8
 len:w.parts.length≤1000
 ne:w.parts≠[]
 part:∀p∈w.parts,(0≤p.one∧p.one<(N:Int))∧(0≤p.other∧p.other<(N:Int))∧p.one≠p.other
theorem pT{w:Au}{ts:List Bool}{i:Nat}{e:Net.Edge}(h:(Fz w ts)[i]?=some e):∃p t,w.parts[i]?=some p∧ts[i]?=some t∧e=(p.one.toNat,p.other.toNat,if t=true then 1 else 0):=by
 unfold Fz at h
 rw[List.getElem?_zipWith]at h
 cases h1:w.parts[i]? with
 |none=>simp[h1]at h
 |some p=>
  cases h2:ts[i]? with
  |none=>simp[h1,h2]at h
  |some t=>simp[h1,h2]at h;exact⟨p,t,rfl,rfl,h.symm⟩
theorem Ll{w:Au}{N:Nat}(hw:mI w N)(ts:List Bool):Zs (Fz w ts) N:=fun a b c h=>by
 obtain⟨i,hi⟩:=List.getElem?_of_mem h
 obtain⟨p,t,h1,_,he⟩:=pT hi
 cases he
 have:=hw.part p (agW h1)
 refine⟨by omega,by omega,by omega,?_⟩
 split<;>omega
theorem qB{w:Au}{ts:List Bool}(h:ts.length=w.parts.length):(Fz w ts).length=w.parts.length:=by simp[Fz,h]
theorem aN{d:List Nat}{a:Nat}(h:a<d.length):(d.map Ci)[a]?=some [.int .i64 (d.getD a 0:Nat)]:=by
 rw[ajX,acG h,af4,acG h];rfl
theorem xF{N:Nat}(h:2≤N):Eh N 0 1000=0::acA (N-1) 1000:=by
 obtain⟨n,rfl⟩:∃n,N=n+1:=⟨N-1,by omega⟩
 simp[Eh,akU]
theorem aaF(x y:Nat):(if(x:Int)<(y:Int)then(x:Int)else(y:Int))=((min y x:Nat):Int):=by split<;>omega
theorem Zc{w:Au}{N:Nat}(hw:mI w N){ts:List Bool}{nn:Bool}(ht:ts.length=w.parts.length):
 ∃f,Fe.call (.fn 42) [.agg [.int .i64 w.rooms,.int .i64 w.need,Bv 9 true w.nn (w.parts.map Ae.cells)],Bv 1 true nn (ts.map Hu)] []=some (.ret (.slr 1 0 0 N),[.live 1 true f ((Lj (Fz w ts) N (Eh N 0 1000)).map Ci)]):=by
 have key:vL Fe 42 [.agg [.int .i64 w.rooms,.int .i64 w.need,Bv 9 true w.nn (w.parts.map Ae.cells)],Bv 1 true nn (ts.map Hu)] [] fun o h'=>∃f,(o,h')=(.ret (.slr 1 0 0 N),[.live 1 true f ((Lj (Fz w ts) N (Eh N 0 1000)).map Ci)]):=by
  have hr:=hw.rooms
  have n2:=hw.n2
  have n8:=hw.n8
  have hE:=Ll hw ts
  have hEl:=qB ht
  generalize hEE:Fz w ts=E at *
  refine pF rfl Tryd.func42 rfl rfl ?_
  simp only[Tryd.f42]
  simp only[hr]
  (have hb:=trivial;with_reducible repeat' (first|simp only[hb,Va.down,seval,bD.down,ab9]|refine Be ?_ ?_<;>intro hb|refine fd ?_|fail))
  refine Iy (aQ 80 (acA (N-1) ()) (fun i (_:Unit) t h=>t 1=Bv 1 true nn (ts.map Hu)∧t 2=.ptr 0 0 0∧t 6=.int .i64 ((i+1:Nat):Int)∧h[0]?=some (.live 3 false false [[.int .i64 (N:Int),.int .i64 w.need,Bv 9 true w.nn (w.parts.map Ae.cells)]])∧∃b,0<b∧t 5=.slr 1 b 0 (i+1)∧h[b]?=some (.live 1 true false ((0::acA i 1000).map Ci))) (fun _ _=>())
   (fun _ e t h=>e=.exit 0∧t 1=Bv 1 true nn (ts.map Hu)∧t 2=.ptr 0 0 0∧h[0]?=some (.live 3 false false [[.int .i64 (N:Int),.int .i64 w.need,Bv 9 true w.nn (w.parts.map Ae.cells)]])∧∃b,0<b∧t 5=.slr 1 b 0 N∧h[b]?=some (.live 1 true false ((Eh N 0 1000).map Ci))) ?_ ?_ () _ _ ?_) (fun e t h hk=>?_)
  ·rintro _ t h Q' kQ ⟨h1,h2,h6,h0,b,hb0,h5,hvb⟩
   rw[acH,show N-1+1=N by omega]at h6 h5
   rw[acH]at hvb
   (have hb:=trivial;with_reducible repeat' (first|simp only[hb,Va.down,seval,bD.down,h1,h2,h6,h0,h5,acD,decide_false]|refine Be ?_ ?_<;>intro hb|refine fd ?_|fail))
   exact kQ _ _ _ ⟨rfl,by simp[up,h1],by simp[up,h2],h0,b,hb0,by simp[up,h5],by rw[xF n2];exact hvb⟩
  ·rintro x rest i _ t h J Q' kJ kQ hx hi ⟨h1,h2,h6,h0,b,hb0,h5,hvb⟩
   rw[acH]at hi
   have hdd:decide (((i+1:Nat):Int)<(N:Int))=true:=decide_eq_true (by omega)
   have hww:IntKind.i64.wrap (((i+1:Nat):Int)+1)=((i+1+1:Nat):Int):=by rw[Ee (by omega) (by omega)];omega
   have hbl:=Ac hvb
   have hB:=Ai hvb
   have hS:=Gu hbl
   have hA1:=Ai h0
   have hi39:(i+1+1≤549755813888)=True:=eq_true (by omega)
   have hlr:((0::acA i 1000).map Ci).length=i+1:=by simp
   (have hb:=trivial;with_reducible repeat' (first|simp only[hb,Va.down,seval,bD.down,h1,h2,h6,h0,h5,hvb,hdd,hww,hB,hS,hA1,hi39,hlr,Gx,En,agU]|refine Be ?_ ?_<;>intro hb|refine fd ?_|fail))
   exact Bc (kJ _ _ () ⟨by simp[up,h1],by simp[up,h2],by simp[up];omega,pV _ (by omega) h0 _,h.length+1,by omega,by simp[up],by rw[En];simp[Ci,List.replicate_succ']⟩ rfl)
  ·exact⟨by simp[up,Ph],by simp[up],by simp[up],rfl,1,by omega,by simp[up],rfl⟩
  obtain⟨rfl,h1,h2,h0,b,hb0,h5,hvb⟩:=hk
  (have hb:=trivial;with_reducible repeat' (first|simp only[hb,Va.down,seval,bD.down,h1,h2,h5]|refine Be ?_ ?_<;>intro hb|refine fd ?_|fail))
  refine Iy (aQ 80 (acA N ()) (fun k (_:Unit) t h=>t 1=Bv 1 true nn (ts.map Hu)∧t 2=.ptr 0 0 0∧t 5=.slr 1 b 0 N∧t 7=.int .i64 (k:Int)∧h[0]?=some (.live 3 false false [[.int .i64 (N:Int),.int .i64 w.need,Bv 9 true w.nn (w.parts.map Ae.cells)]])∧∃f,h[b]?=some (.live 1 true f ((Lj E k (Eh N 0 1000)).map Ci))) (fun _ _=>())
   (fun _ e t h=>e=.exit 2∧t 5=.slr 1 b 0 N∧∃f,h[b]?=some (.live 1 true f ((Lj E N (Eh N 0 1000)).map Ci))) ?_ ?_ () _ _ ?_) (fun e t h hk=>?_)
  ·rintro _ t h Q' kQ ⟨h1,h2,h5,h7,h0,f,hvb⟩
   rw[acH]at h7 hvb
   (have hb:=trivial;with_reducible repeat' (first|simp only[hb,Va.down,seval,bD.down,h1,h2,h5,h7,h0,acD,decide_false]|refine Be ?_ ?_<;>intro hb|refine fd ?_|fail))
   exact kQ _ _ _ ⟨rfl,by simp[up,h5],f,hvb⟩
  ·rintro x rest k _ t h J Q' kJ kQ hx hi ⟨h1,h2,h5,h7,h0,f,hvb⟩
   rw[acH]at hi
   have hdk:decide ((k:Int)<(N:Int))=true:=decide_eq_true (by omega)
   have hwk:IntKind.i64.wrap ((k:Int)+1)=((k+1:Nat):Int):=by rw[Ee (by omega) (by omega)];omega
   have hIk:=Ys (far:=1000) hE k (bY (E:=E) (N:=N) (s:=0) (far:=1000) (by omega))
   generalize hdk0:Lj E k (Eh N 0 1000)=d0 at *
   (have hb:=trivial;with_reducible repeat' (first|simp only[hb,Va.down,seval,bD.down,h1,h2,h5,h7,h0,hdk]|refine Be ?_ ?_<;>intro hb|refine fd ?_|fail))
   refine Iy (aQ 80 E (fun i (_:Unit) t h=>t 1=Bv 1 true nn (ts.map Hu)∧t 2=.ptr 0 0 0∧t 5=.slr 1 b 0 N∧t 7=.int .i64 (k:Int)∧t 8=.int .i64 (i:Int)∧h[0]?=some (.live 3 false false [[.int .i64 (N:Int),.int .i64 w.need,Bv 9 true w.nn (w.parts.map Ae.cells)]])∧∃f,h[b]?=some (.live 1 true f (((E.take i).foldl Qh d0).map Ci))) (fun _ _=>())
    (fun _ e t h=>e=.exit 4∧t 1=Bv 1 true nn (ts.map Hu)∧t 2=.ptr 0 0 0∧t 5=.slr 1 b 0 N∧t 7=.int .i64 (k:Int)∧h[0]?=some (.live 3 false false [[.int .i64 (N:Int),.int .i64 w.need,Bv 9 true w.nn (w.parts.map Ae.cells)]])∧∃f,h[b]?=some (.live 1 true f ((acU E d0).map Ci))) ?_ ?_ () _ _ ?_) (fun e t h hk=>?_)
   ·rintro _ t h Q'' kQ ⟨h1,h2,h5,h7,h8,h0,f,hvb⟩
    rw[hEl]at h8
    rw[acI (Nat.le_refl _)]at hvb
    (have hb:=trivial;with_reducible repeat' (first|simp only[hb,Va.down,seval,bD.down,h1,h2,h5,h8,h0,acD,decide_false,ab9]|refine Be ?_ ?_<;>intro hb|refine fd ?_|fail))
    exact kQ _ _ _ ⟨rfl,by simp[up,h1],by simp[up,h2],by simp[up,h5],by simp[up,h7],h0,f,hvb⟩
   ·rintro e rest i _ t h J' Q'' kJ kQ hx hi ⟨h1,h2,h5,h7,h8,h0,f,hvb⟩
    rw[hEl]at hi
    obtain⟨p,tt,hp,htt,he⟩:=pT (w:=w) (ts:=ts) (by rw[hEE];exact hx)
    have hpo:=hw.part p (agW hp)
    have hdi:decide ((i:Int)<(w.parts.length:Int))=true:=decide_eq_true (by omega)
    have hlen:=hw.len
    have hwi:IntKind.i64.wrap ((i:Int)+1)=((i+1:Nat):Int):=by rw[Ee (by omega) (by omega)];omega
    have hI:=nY (L:=E.take i) (fun e hm=>List.mem_of_mem_take hm) hE hIk
    have htk:(E.take (i+1)).foldl Qh d0=Qh ((E.take i).foldl Qh d0) e:=by rw[akV,hx];simp[List.foldl_append]
    generalize hdd0:(E.take i).foldl Qh d0=d at *
    have hdl:=hI.len
    have hra:d[p.one.toNat]?=some (d.getD p.one.toNat 0):=by rw[af4,acG (by omega)];rfl
    have hrb:d[p.other.toNat]?=some (d.getD p.other.toNat 0):=by rw[af4,acG (by omega)];rfl
    have o1:(0≤p.one)=True:=eq_true hpo.1.1
    have o2:(p.one<(N:Int))=True:=eq_true hpo.1.2
    have o3:(0≤p.other)=True:=eq_true hpo.2.1.1
    have o4:(p.other<(N:Int))=True:=eq_true hpo.2.1.2
    have la:=hI.le p.one.toNat (by omega)
    have lb:=hI.le p.other.toNat (by omega)
    have hab:p.one.toNat≠p.other.toNat:=by have:=hpo.2.2;omega
    have htk2:(E.take (i+1)).foldl Qh d0=(d.set p.other.toNat (min (d.getD p.other.toNat 0) (d.getD p.one.toNat 0+if tt=true then 1 else 0))).set p.one.toNat (min (d.getD p.one.toNat 0) (d.getD p.other.toNat 0+if tt=true then 1 else 0)):=by rw[htk,he];rfl
    clear htk
    generalize d.getD p.one.toNat 0=da at *
    generalize d.getD p.other.toNat 0=db at *
    have hrr:∀r,((d.map Ci).set p.other.toNat r)[p.one.toNat]?=some [.int .i64 (da:Nat)]:=fun r=>by rw[acC (fun e=>hab e.symm),ajX,hra];rfl
    have hbl:=Ac hvb
    have hsb:∀c,(h.set b c)[b]?=some c:=fun c=>acE hbl
    have hss:∀c c',(h.set b c).set b c'=h.set b c':=fun c c'=>agY ..
    have w0:∀n:Nat,n≤1000→IntKind.i64.wrap ((n:Int)+0)=(n:Int):=fun n hn=>by rw[Ee (by omega) (by omega)];omega
    have w1:∀n:Nat,n≤1000→IntKind.i64.wrap ((n:Int)+1)=((n+1:Nat):Int):=fun n hn=>by rw[Ee (by omega) (by omega)];omega
    have w0a:=w0 da la
    have w0b:=w0 db lb
    have w1a:=w1 da la
    have w1b:=w1 db lb
    cases tt with
    |false=>
     (have hb:=trivial;with_reducible repeat' (first|simp only[hb,Va.down,seval,bD.down,h1,h2,h5,h8,h0,hvb,hdi,hwi,hp,htt,hra,hrb,hrr,o1,o2,o3,o4,hsb,hss,w0a,w0b,Hu,Ci,Ae.cells,ab9]|refine Be ?_ ?_<;>intro hb|refine fd ?_|fail))
     refine Bc (kJ _ _ () ⟨by simp[up,h1],by simp[up,h2],by simp[up,h5],by simp[up,h7],by simp[up],by rw[acC (by omega)];exact h0,true,?_⟩ rfl)
     rw[acE hbl,htk2,agD,agD]
     simp only[Ci,aaF,akW,if_false,if_true,Nat.add_zero]
    |true=>
     (have hb:=trivial;with_reducible repeat' (first|simp only[hb,Va.down,seval,bD.down,h1,h2,h5,h8,h0,hvb,hdi,hwi,hp,htt,hra,hrb,hrr,o1,o2,o3,o4,hsb,hss,w1a,w1b,Hu,Ci,Ae.cells,ab9]|refine Be ?_ ?_<;>intro hb|refine fd ?_|fail))
     refine Bc (kJ _ _ () ⟨by simp[up,h1],by simp[up,h2],by simp[up,h5],by simp[up,h7],by simp[up],by rw[acC (by omega)];exact h0,true,?_⟩ rfl)
     rw[acE hbl,htk2,agD,agD]
     simp only[Ci,aaF,akW,if_false,if_true,Nat.add_zero]
   ·exact⟨by simp[up,h1],by simp[up,h2],by simp[up,h5],by simp[up,h7],by simp[up],h0,f,hvb⟩
   obtain⟨rfl,h1,h2,h5,h7,h0,f,hvb⟩:=hk
   (have hb:=trivial;with_reducible repeat' (first|simp only[hb,Va.down,seval,bD.down,h1,h2,h5,h7,hwk]|refine Be ?_ ?_<;>intro hb|refine fd ?_|fail))
   exact Bc (kJ _ _ () ⟨by simp[up,h1],by simp[up,h2],by simp[up,h5],by simp[up],h0,f,by rw[Xf,hdk0];exact hvb⟩ rfl)
  ·exact⟨by simp[up,h1],by simp[up,h2],by simp[up,h5],by simp[up],h0,false,hvb⟩
  obtain⟨rfl,h5,f,hvb⟩:=hk
  have hlr:((Lj E N (Eh N 0 1000)).map Ci).length=N:=by simp[cT,Eh]
  (have hb:=trivial;with_reducible repeat' (first|simp only[hb,Va.down,seval,bD.down,h5,hvb]|refine Be ?_ ?_<;>intro hb|refine fd ?_|fail))
  exact⟨f,rfl⟩
 obtain⟨o,h',hc,f,e⟩:=key
 cases e
 exact⟨f,hc⟩
theorem sD{w:Au}{N:Nat}(hw:mI w N)(E:List Net.Edge):(Lj E N (Eh N 0 1000)).length=N:=by rw[cT];simp[Eh]
theorem qK{w:Au}{N:Nat}(hw:mI w N){ts:List Bool}{nn:Bool}(ht:ts.length=w.parts.length):
 Fe.call (.fn 41) [.agg [.int .i64 w.rooms,.int .i64 w.need,Bv 9 true w.nn (w.parts.map Ae.cells)],Bv 1 true nn (ts.map Hu)] []=some (.ret (.int .i64 (Yh (Fz w ts) N w.parts.length:Nat)),[]):=by
 obtain⟨f,hD⟩:=Zc hw (nn:=nn) ht
 have hl:=sD hw (Fz w ts)
 have n2:=hw.n2
 have hlen:=hw.len
 unfold Yh
 generalize Lj (Fz w ts) N (Eh N 0 1000)=d at *
 have hd:d[1]?=some (d.getD 1 0):=by rw[af4,acG (by omega)];rfl
 generalize d.getD 1 0=x at *
 have h1N:((1:Int)<(N:Int))=True:=eq_true (by omega)
 have hwl:IntKind.i64.wrap ((w.parts.length:Int)+1)=((w.parts.length+1:Nat):Int):=by rw[Ee (by omega) (by omega)];omega
 have hln:((d.map Ci).length=N):=by simp[hl]
 by_cases hx:1000≤x
 ·have hge:decide ((1000:Int)≤(x:Int))=true:=decide_eq_true (by omega)
  rw[if_pos hx]
  (refine ce Tryd.func41 ?_;simp only[Tryd.f41];(have hb:=trivial;with_reducible repeat' (first|simp only[hb,Va.down,seval,an0.down,hD,hd,h1N,hge,hwl,Ci,ab9]|refine Be ?_ ?_<;>intro hb|refine fd ?_|fail)))
 ·have hge:decide ((1000:Int)≤(x:Int))=false:=decide_eq_false (by omega)
  rw[if_neg hx]
  (refine ce Tryd.func41 ?_;simp only[Tryd.f41];(have hb:=trivial;with_reducible repeat' (first|simp only[hb,Va.down,seval,an0.down,hD,hd,h1N,hge,hwl,Ci,ab9]|refine Be ?_ ?_<;>intro hb|refine fd ?_|fail)))
theorem Js(w:Au)(d:Int):(Ax w d).length=w.parts.length:=by simp[Ax]
def Rj(w:Au)(N:Nat)(d:Int):Nat:=Yh (Fz w (Ax w d)) N w.parts.length
theorem agN(b:Bool):Fe.call (.fn 59) [.bool b] []=some (.ret (.int .i64 (if b=true then 1 else 0)),[]):=by
 cases b<;>(refine ce Tryd.func59 ?_;simp only[Tryd.f59];(have hb:=trivial;with_reducible repeat' (first|simp only[hb,Va.down,seval]|refine Be ?_ ?_<;>intro hb|refine fd ?_|fail)))
theorem gR(c:Int)(o:Bool):Fe.call (.fn 37) [.agg [.int .i64 c,.bool o]] []=some (.ret (.bool (c==0&& !o)),[]):=by
 cases hc:(c==0)<;>(refine ce Tryd.func37 ?_;simp only[Tryd.f37];(have hb:=trivial;with_reducible repeat' (first|simp only[hb,Va.down,seval,ao6.down,hc]|refine Be ?_ ?_<;>intro hb|refine fd ?_|fail)))
theorem Iz(b r o:Nat)(i:Int):ia Tryd.prog 75 (some (.ptr b r o)) (some (.int .i64 i))=if 0≤i∧i<12 then some (.ret (.ptr b r (o+i.toNat*2)),[])else none:=by
 have h:Gi Tryd.prog 75 (.ptr b r o) (.int .i64 i)=if 0≤i∧i<12 then some (.ptr b r (o+i.toNat*2))else none:=by
  unfold Gi
  simp only[Tryd.underlying75]
  have hz:Nu Tryd.prog 73=some 2:=by kernel_rfl
  rw[hz]
  simp
 simp only[ia,Option.bind_some,h]
 split<;>rfl
def Df(w:Au)(d:Int):List (Int × Bool):=w.parts.map (fun p=>(Jj p d,p.opn))++acA (12-w.parts.length) (0,false)
def Hn(l:List (Int × Bool)):List AV:=l.flatMap fun x=>[.int .i64 x.1,.bool x.2]
theorem Me(l:List (Int × Bool)):(Hn l).length=2*l.length:=by
 induction l with
 |nil=>rfl
 |cons x l ih=>simp[Hn]at ih ⊢;omega
theorem kK:∀(L:List (Int × Bool)) (i:Nat) (a:Int) (b b':Bool),L[i]?=some (a,b)→adL (i*2+1) (Hn L)++([.bool b']++ag5 (i*2+2) (Hn L))=Hn (L.set i (a,b'))
 | [],i,a,b,b',h=>by simp at h
 |x::L,0,a,b,b',h=>by simp at h;subst h;simp[Hn]
 |x::L,i+1,a,b,b',h=>by
  have ih:=kK L i a b b' (by simpa using h)
  rw[show(i+1)*2+1=(i*2+1)+1+1 by omega,show(i+1)*2+2=(i*2+2)+1+1 by omega]
  simp only[Hn,ahG,ajN,ajS,akX,akY,akZ]at ih ⊢
  rw[←ih]
theorem lH:∀(L:List (Int × Bool)) (i:Nat) (a a':Int) (b:Bool),L[i]?=some (a,b)→adL (i*2) (Hn L)++([.int .i64 a']++ag5 (i*2+1) (Hn L))=Hn (L.set i (a',b))
 | [],i,a,a',b,h=>by simp at h
 |x::L,0,a,a',b,h=>by simp at h;subst h;simp[Hn]
 |x::L,i+1,a,a',b,h=>by
  have ih:=lH L i a a' b (by simpa using h)
  rw[show(i+1)*2=(i*2)+1+1 by omega,show(i*2)+1+1+1=(i*2+1)+1+1 by omega]
  simp only[Hn,ahG,ajN,ajS,akX,akY,akZ]at ih ⊢
  rw[←ih]
def vN(w:Au)(d:Int)(i:Nat):List (Int × Bool):=(w.parts.take i).map (fun p=>(Jj p d,p.opn))++acA (12-i) (0,false)
theorem ahV{w:Au}{d:Int}{i:Nat}(hi:i<w.parts.length)(h12:w.parts.length≤12):(vN w d i)[i]?=some (0,false):=by
 have hl:((w.parts.take i).map fun p=>(Jj p d,p.opn)).length=i:=by rw[ab9,ak0];omega
 unfold vN
 rw[agT (by omega),hl,Nat.sub_self,List.getElem?_replicate,if_pos (by omega)]
theorem zT{w:Au}{d:Int}{i:Nat}{p:Ae}(hx:w.parts[i]?=some p)(h12:w.parts.length≤12):(vN w d i).set i (Jj p d,p.opn)=vN w d (i+1):=by
 have hi:i<w.parts.length:=(acB.1 hx).1
 have hl:((w.parts.take i).map fun p=>(Jj p d,p.opn)).length=i:=by rw[ab9,ak0];omega
 unfold vN
 rw[List.set_append_right _ _ (by omega),hl,Nat.sub_self,akV,hx]
 have e:12-i=(12-(i+1))+1:=by omega
 rw[e,akU]
 simp
theorem vW(w:Au)(d:Int)(wf:Bool)(h12:w.parts.length≤12):Fe.call (.fn 35) [.ptr 0 0 0] [.live 4 false wf [[.int .i64 w.rooms,.int .i64 w.need,Bv 9 true w.nn (w.parts.map Ae.cells),.int .i64 d]]]=some (.ret (.agg (Hn (Df w d))),[.live 4 false wf [[.int .i64 w.rooms,.int .i64 w.need,Bv 9 true w.nn (w.parts.map Ae.cells),.int .i64 d]]]):=by
 refine ce Tryd.func35 ?_
 simp only[Tryd.f35]
 (have hb:=trivial;with_reducible repeat' (first|simp only[hb,Va.down,seval,ad9.down,ab9]|refine Be ?_ ?_<;>intro hb|refine fd ?_|fail))
 refine Iy (aQ 44 w.parts (fun i (_:Unit) t h=>t 0=.ptr 0 0 0∧t 2=.ptr 1 0 0∧t 3=.ptr 2 0 0∧t 10=Bv 9 true w.nn (w.parts.map Ae.cells)∧t 11=.int .i64 (w.parts.length:Nat)∧t 12=.int .i64 (i:Int)∧h[0]?=some (.live 4 false wf [[.int .i64 w.rooms,.int .i64 w.need,Bv 9 true w.nn (w.parts.map Ae.cells),.int .i64 d]])∧h[1]?=some (.live 24 true false [Hn (acA 12 (0,false))])∧∃f,h[2]?=some (.live 24 true f [Hn (vN w d i)])) (fun _ _=>())
  (fun _ e t h=>e=.exit 0∧t 2=.ptr 1 0 0∧t 3=.ptr 2 0 0∧h[0]?=some (.live 4 false wf [[.int .i64 w.rooms,.int .i64 w.need,Bv 9 true w.nn (w.parts.map Ae.cells),.int .i64 d]])∧h[1]?=some (.live 24 true false [Hn (acA 12 (0,false))])∧∃f,h[2]?=some (.live 24 true f [Hn (vN w d w.parts.length)])) ?_ ?_ () _ _ ?_) (fun e t h hk=>?_)
 ·rintro _ t h Q' kQ ⟨h0,h2,h3,h10,h11,h12',hA,hB,f,hC⟩
  (have hb:=trivial;with_reducible repeat' (first|simp only[hb,Va.down,seval,ad9.down,h11,h12',acD,decide_false]|refine Be ?_ ?_<;>intro hb|refine fd ?_|fail))
  exact kQ _ _ _ ⟨rfl,by simp[up,h2],by simp[up,h3],hA,hB,f,hC⟩
 ·rintro p rest i _ t h J Q' kJ kQ hx hi ⟨h0,h2,h3,h10,h11,h12',hA,hB,f,hC⟩
  have hdd:decide ((i:Int)<(w.parts.length:Int))=true:=decide_eq_true (by omega)
  have hww:=Ew hi (by unfold maxLen;omega)
  have hA1:=Ai hA
  have hC1:=Ai hC
  have hl2:=Ac hC
  have i1:((i:Int)<12)=True:=eq_true (by omega)
  have hpl:(Hn (vN w d i)).length=24:=by rw[Me];simp[vN];omega
  have hS:=Gu hl2
  have i2:(i*2≤22)=True:=eq_true (by omega)
  have i3:(i*2≤23)=True:=eq_true (by omega)
  have hat:=ahV (d:=d) hi h12
  have hnx:=zT (d:=d) hx h12
  generalize hL:vN w d i=L at *
  have s1:=kK L i 0 false p.opn hat
  have tk1:adL (23-i*2) [AV.bool p.opn]=[AV.bool p.opn]:=acI (by simp;omega)
  have hat2:(L.set i (0,p.opn))[i]?=some (0,p.opn):=acE (by have:=(acB.1 hat).1;exact this)
  have s2:=fun v=>lH (L.set i (0,p.opn)) i 0 v p.opn hat2
  have tk2:∀v,adL (24-i*2) [AV.int .i64 v]=[AV.int .i64 v]:=fun v=>acI (by simp;omega)
  simp only[ajN,ajS]at s1 s2
  have hpl2:(Hn (L.set i (0,p.opn))).length=24:=by rw[Me]at hpl ⊢;simpa using hpl
  have hg2:∀c l,(h.set 2 c++l)[2]?=some c:=fun c l=>by rw[acF (by simpa using hl2),acE hl2]
  have hg0:∀c l,(h.set 2 c++l)[0]?=h[0]?:=fun c l=>by rw[acF (by simp;omega),acC (by omega)]
  have hg1:∀c l,(h.set 2 c++l)[1]?=h[1]?:=fun c l=>by rw[acF (by simp;omega),acC (by omega)]
  have hgs:∀c l c',(h.set 2 c++l).set 2 c'=h.set 2 c'++l:=fun c l c'=>by rw[Gu (by simpa using hl2),agY]
  have ss2:∀v:Int,(L.set i (0,p.opn)).set i (v,p.opn)=L.set i (v,p.opn):=fun v=>agY ..
  have nx:∀(v:Int) (t':Tm) (l':Aa),Jj p d=v→t' 0=.ptr 0 0 0∧t' 2=.ptr 1 0 0∧t' 3=.ptr 2 0 0∧t' 10=Bv 9 true w.nn (w.parts.map Ae.cells)∧t' 11=.int .i64 (w.parts.length:Nat)∧t' 12=.int .i64 ((i+1:Nat):Int)→J t' (h.set 2 (.live 24 true true [Hn (L.set i (v,p.opn))])++l'):=fun v t' l' hv ht=>by
   rw[←hv,hnx]
   exact kJ _ _ () ⟨ht.1,ht.2.1,ht.2.2.1,ht.2.2.2.1,ht.2.2.2.2.1,ht.2.2.2.2.2,by rw[hg0];exact hA,by rw[hg1];exact hB,true,hg2 _ _⟩ rfl
  (have hb:=trivial;with_reducible repeat' (first|simp only[hb,Va.down,seval,ad9.down,h0,h2,h3,h10,h11,h12',hdd,hww,hx,hA,hA1,hC,hC1,hS,Iz,i1,i2,i3,hpl,hpl2,s1,s2,tk1,tk2,ss2,hg2,hg0,hg1,hgs,Gx,En,agU,Ae.cells]|refine Be ?_ ?_<;>intro hb|refine fd ?_|fail))
  ·refine Bc (nx 2 _ _ (by simp[Jj, *]) ⟨by simp[up,h0],by simp[up,h2],by simp[up,h3],by simp[up,h10],by simp[up,h11],by simp[up]⟩)
  ·refine Bc (nx 1 _ _ (by simp[Jj];simp_all) ⟨by simp[up,h0],by simp[up,h2],by simp[up,h3],by simp[up,h10],by simp[up,h11],by simp[up]⟩)
  ·refine Bc (nx 0 _ _ (by simp[Jj];simp_all) ⟨by simp[up,h0],by simp[up,h2],by simp[up,h3],by simp[up,h10],by simp[up,h11],by simp[up]⟩)
 ·exact⟨by simp[up,Ph],by simp[up],by simp[up],by simp[up],by simp[up],by simp[up],rfl,rfl,false,rfl⟩
 obtain⟨rfl,h2,h3,hA,hB,f,hC⟩:=hk
 have hL:vN w d w.parts.length=Df w d:=by unfold vN Df;rw[acI (Nat.le_refl _)]
 rw[hL]at hC
 have hpl:(Hn (Df w d)).length=24:=by rw[Me];simp[Df];omega
 have hpz:(Hn (acA 12 (0,false))).length=24:=by rw[Me];simp
 have htk:adL 24 (Hn (Df w d))=Hn (Df w d):=acI (by omega)
 have hl1:=Ac hB
 generalize Hn (acA 12 (0,false))=zs at *
 have hdz:ag5 24 zs=[]:=List.drop_eq_nil_iff.2 (by omega)
 have hcell:(Hn (Df w d)).all AV.isCell=true:=by
  have:∀l:List (Int × Bool),(Hn l).all AV.isCell=true:=fun l=>by
   induction l with
   |nil=>rfl
   |cons x l ih=>simp only[Hn,ahG,List.all_append]at ih ⊢;rw[ih];rfl
  exact this _
 have hform:∀x∈Hn (Df w d),(∃n,x=.int .i64 n)∨∃b,x=.bool b:=fun x hx=>by
  simp only[Hn,List.mem_flatMap,List.mem_cons,List.not_mem_nil,or_false]at hx
  obtain⟨y,_,rfl|rfl⟩:=hx
  ·exact .inl ⟨_,rfl⟩
  ·exact .inr ⟨_,rfl⟩
 have hflat:(Hn (Df w d)).all AV.flat=true:=agR.2 fun x hx=>by rcases hform x hx with⟨n,rfl⟩|⟨b,rfl⟩<;>rfl
 have hrf:Bz.refL (Bz 7) [0] (Hn (Df w d))=some (Hn (Df w d),[0]):=Gn fun x hx=>by rcases hform x hx with⟨n,rfl⟩|⟨b,rfl⟩<;>rfl
 have hg1:∀c,(h.set 1 c)[1]?=some c:=fun c=>acE hl1
 have hg0:∀c,(h.set 1 c)[0]?=h[0]?:=fun c=>acC (by omega)
 generalize Hn (Df w d)=ps at *
 (have hb:=trivial;with_reducible repeat' (first|simp only[hb,Va.down,seval,ad9.down,h2,h3,hA,hB,hC,hpl,hpz,htk,hdz,hcell,hflat,hrf,hg1,hg0]|refine Be ?_ ?_<;>intro hb|refine fd ?_|fail))
def Rx(N:Int)(p:Ae):Bool:=Ns p.one 0 (IntKind.i64.wrap (N-1))&&Ns p.other 0 (IntKind.i64.wrap (N-1))&& !(p.one==p.other)&& !(p.opn&& !p.valve)&&Xk p.tested&&Xk p.valid&&Ns p.test 1 1000&&Ns p.change 1 1000
def rR(w:Au):Bool:=Ns w.rooms 2 8&&Ns w.need 0 12&&Ns (w.parts.length:Int) 1 12
def Pq(w:Au):Bool:=rR w&&w.parts.all (Rx w.rooms)
theorem ahZ(w:Au)(hs:w.small):Fe.call (.fn 12) [.agg [.int .i64 w.rooms,.int .i64 w.need,Bv 9 true w.nn (w.parts.map Ae.cells)]] []=some (.ret (.bool (Pq w)),[]):=by
 have k1:=kG w.rooms 2 8
 have k2:=kG w.need 0 12
 have k3:=kG (w.parts.length:Int) 1 12
 have hh:rR w=(Ns w.rooms 2 8&&Ns w.need 0 12&&Ns (w.parts.length:Int) 1 12):=rfl
 unfold Pq
 generalize Ns w.rooms 2 8=c1 at *
 generalize Ns w.need 0 12=c2 at *
 generalize Ns (w.parts.length:Int) 1 12=c3 at *
 cases c1
 ·rw[hh]
  (refine ce Tryd.func12 ?_;simp only[Tryd.f12];(have hb:=trivial;with_reducible repeat' (first|simp only[hb,Va.down,seval,lL.down,k1,k2,k3,ab9]|refine Be ?_ ?_<;>intro hb|refine fd ?_|fail)))
 cases c2
 ·rw[hh]
  (refine ce Tryd.func12 ?_;simp only[Tryd.f12];(have hb:=trivial;with_reducible repeat' (first|simp only[hb,Va.down,seval,lL.down,k1,k2,k3,ab9]|refine Be ?_ ?_<;>intro hb|refine fd ?_|fail)))
 cases c3
 ·rw[hh]
  (refine ce Tryd.func12 ?_;simp only[Tryd.f12];(have hb:=trivial;with_reducible repeat' (first|simp only[hb,Va.down,seval,lL.down,k1,k2,k3,ab9]|refine Be ?_ ?_<;>intro hb|refine fd ?_|fail)))
 rw[hh]
 simp only[Bool.and_self,Bool.true_and]
 (refine ce Tryd.func12 ?_;simp only[Tryd.f12];(have hb:=trivial;with_reducible repeat' (first|simp only[hb,Va.down,seval,lL.down,k1,k2,k3,ab9]|refine Be ?_ ?_<;>intro hb|refine fd ?_|fail)))
 refine Iy (aQ 90 w.parts (fun i (zz:Unit) t h=>t 1=.ptr 0 0 0∧t 3=.int .i64 i∧(h[0]?=some (.live 3 false false [[.int .i64 w.rooms,.int .i64 w.need,Bv 9 true w.nn (w.parts.map Ae.cells)]]))) (fun rest zz=>rest.all (Rx w.rooms)) (fun r e t h=>(e=.exit 0∧r=true)∨(e=.ret∧t 2=.bool false∧r=false)) ?_ ?_ () _ _ ?_) (fun e t h hk=>?_)
 ·rintro _ t h Q' kQ ⟨h1,h3,hA⟩
  (have hb:=trivial;with_reducible repeat' (first|simp only[hb,Va.down,seval,lL.down,h1,h3,acD,decide_false,hA,ab9]|refine Be ?_ ?_<;>intro hb|refine fd ?_|fail))
  exact kQ _ _ _ (.inl ⟨rfl,rfl⟩)
 ·rintro x rest i _ t h J Q' kJ kQ hx hi ⟨h1,h3,hA⟩
  have hd:decide ((i:Int)<(w.parts.length:Int))=true:=decide_eq_true (by omega)
  have hw:=Ew hi hs.parts
  have q1:=kG x.one 0 (IntKind.i64.wrap (w.rooms-1))
  have q2:=kG x.other 0 (IntKind.i64.wrap (w.rooms-1))
  have q4:=yS x.tested
  have q5:=yS x.valid
  have q6:=kG x.test 1 1000
  have q7:=kG x.change 1 1000
  have hp:Rx w.rooms x=(Ns x.one 0 (IntKind.i64.wrap (w.rooms-1))&&Ns x.other 0 (IntKind.i64.wrap (w.rooms-1))&& !(x.one==x.other)&& !(x.opn&& !x.valve)&&Xk x.tested&&Xk x.valid&&Ns x.test 1 1000&&Ns x.change 1 1000):=rfl
  have hA1:=Ai hA
  generalize Ns x.one 0 (IntKind.i64.wrap (w.rooms-1))=d1 at *
  generalize Ns x.other 0 (IntKind.i64.wrap (w.rooms-1))=d2 at *
  cases hq3:(x.one==x.other)
  all_goals rw[hq3]at hp
  all_goals generalize Xk x.tested=d4 at *
  all_goals generalize Xk x.valid=d5 at *
  all_goals generalize Ns x.test 1 1000=d6 at *
  all_goals generalize Ns x.change 1 1000=d7 at *
  all_goals (have hb:=trivial;with_reducible repeat' (first|simp only[hb,Va.down,seval,lL.down,h1,h3,hd,hx,hw,hA,hA1,q1,q2,hq3,q4,q5,q6,q7,Ae.cells,ab9]|refine Be ?_ ?_<;>intro hb|refine fd ?_|fail))
  all_goals first|(refine kQ _ _ _ (.inr ⟨rfl,by simp[up],?_⟩);simp_all;done)|(refine Bc (kJ _ _ () ⟨?_,?_,hA1 _⟩ ?_);(simp[up,h1]);(simp[up]);(simp_all))
 ·exact⟨by simp[up,Ph],by simp[up],rfl⟩
 rcases hk with⟨rfl,hr⟩|⟨rfl,h2,hr⟩
 ·rw[hr]
  (have hb:=trivial;with_reducible repeat' (first|simp only[hb,Va.down,seval,lL.down]|refine Be ?_ ?_<;>intro hb|refine fd ?_|fail))
 ·rw[hr]
  (have hb:=trivial;with_reducible repeat' (first|simp only[hb,Va.down,seval,lL.down,h2]|refine Be ?_ ?_<;>intro hb|refine fd ?_|fail))
theorem qZ{w:Au}(h:Pq w=true):∃N,mI w N∧w.parts.length≤12:=by
 simp only[Pq,rR,Ns,ak1,decide_eq_true_eq,agR]at h
 obtain⟨⟨⟨⟨h1,h2⟩,h3,h4⟩,h5,h6⟩,h7⟩:=h
 refine⟨w.rooms.toNat,⟨by omega,by omega,by omega,by omega,fun e=>by rw[e]at h5;simp at h5,fun p hp=>?_⟩,by omega⟩
 have:=h7 p hp
 simp only[Rx,Ns,ak1,decide_eq_true_eq,Bool.not_eq_true',beq_eq_false_iff_ne]at this
 obtain⟨⟨⟨⟨⟨⟨⟨a1,a2⟩,a3⟩,_⟩,_⟩,_⟩,_⟩,_⟩:=this
 rw[Ee (by omega) (by omega)]at a1 a2
 refine⟨by omega,by omega,a3⟩
def idx{α:Type}(p:α→Bool):List α→Int→Int
 | [],_=> -1
 |x::l,i=>if p x=true then i else idx p l (i+1)
theorem pZ{α:Type}(p:α→Bool):∀(l:List α) (i:Int),0≤i→decide (0≤idx p l i)=l.any p
 | [],i,_=>rfl
 |x::l,i,h=>by
  unfold idx
  split
  ·rename_i hp;simp[h,hp]
  ·rename_i hp;rw[pZ p l (i+1) (by omega)];simp[hp]
theorem ah3(p:Ae)(N:Int):Fe.call (.fn 66) [.agg [.int .i64 p.one,.int .i64 p.other,.bool p.valve,.bool p.opn,.int .i64 p.tested,.int .i64 p.valid,.bool p.bad,.int .i64 p.test,.int .i64 p.change],.int .i64 N] []=some (.ret (.bool (Rx N p)),[]):=by
 have q1:=dR p.one 0 (IntKind.i64.wrap (N-1))
 have q2:=dR p.other 0 (IntKind.i64.wrap (N-1))
 have q4:=dR p.tested 0 5000
 have q5:=dR p.valid 0 5000
 have q6:=dR p.test 1 1000
 have q7:=dR p.change 1 1000
 have hp:Rx N p=(Ns p.one 0 (IntKind.i64.wrap (N-1))&&Ns p.other 0 (IntKind.i64.wrap (N-1))&& !(p.one==p.other)&& !(p.opn&& !p.valve)&&Ns p.tested 0 5000&&Ns p.valid 0 5000&&Ns p.test 1 1000&&Ns p.change 1 1000):=rfl
 generalize Ns p.one 0 (IntKind.i64.wrap (N-1))=d1 at *
 generalize Ns p.other 0 (IntKind.i64.wrap (N-1))=d2 at *
 generalize Ns p.tested 0 5000=d4 at *
 generalize Ns p.valid 0 5000=d5 at *
 generalize Ns p.test 1 1000=d6 at *
 generalize Ns p.change 1 1000=d7 at *
 cases hq3:(p.one==p.other)
 all_goals rw[hq3]at hp
 all_goals rw[hp]
 all_goals (refine ce Tryd.func66 ?_;simp only[Tryd.f66];(have hb:=trivial;with_reducible repeat' (first|simp only[hb,Va.down,seval,ao7.down,q1,q2,hq3,q4,q5,q6,q7]|refine Be ?_ ?_<;>intro hb|refine fd ?_|fail)))
 all_goals simp_all
theorem af5(w:Au)(x:Ae):Fe.call (.fn 65) [.agg [.int .i64 x.one,.int .i64 x.other,.bool x.valve,.bool x.opn,.int .i64 x.tested,.int .i64 x.valid,.bool x.bad,.int .i64 x.test,.int .i64 x.change],.ptr 0 0 0] [.live 3 false false [[.int .i64 w.rooms,.int .i64 w.need,Bv 9 true w.nn (w.parts.map Ae.cells)]]]=some (.ret (.bool (!Rx w.rooms x)),[.live 3 false false [[.int .i64 w.rooms,.int .i64 w.need,Bv 9 true w.nn (w.parts.map Ae.cells)]]]):=by
 have h:=ah3 x w.rooms
 (refine ce Tryd.func65 ?_;simp only[Tryd.f65];(have hb:=trivial;with_reducible repeat' (first|simp only[hb,Va.down,seval,aoN.down,h]|refine Be ?_ ?_<;>intro hb|refine fd ?_|fail)))
theorem tH{l:List Ae}{nn:Bool}{g:Nat}{mm:Au}{p:Ae→Bool}(hp:∀x∈l,Fe.call (.fn g) (.agg [.int .i64 x.one,.int .i64 x.other,.bool x.valve,.bool x.opn,.int .i64 x.tested,.int .i64 x.valid,.bool x.bad,.int .i64 x.test,.int .i64 x.change]::[.ptr 0 0 0]) [.live 3 false false [[.int .i64 mm.rooms,.int .i64 mm.need,Bv 9 true mm.nn (mm.parts.map Ae.cells)]]]=some (.ret (.bool (p x)),[.live 3 false false [[.int .i64 mm.rooms,.int .i64 mm.need,Bv 9 true mm.nn (mm.parts.map Ae.cells)]]]))(hl:l.length≤maxLen):
 Fe.call (.fn 83) [Bv 9 true nn (l.map Ae.cells),.func (.func g) [] [.ptr 0 0 0]] [.live 3 false false [[.int .i64 mm.rooms,.int .i64 mm.need,Bv 9 true mm.nn (mm.parts.map Ae.cells)]]]=some (.ret (.int .i64 (idx p l 0)),[.live 3 false false [[.int .i64 mm.rooms,.int .i64 mm.need,Bv 9 true mm.nn (mm.parts.map Ae.cells)]]]):=by
 (refine ce Tryd.func83 ?_;simp only[Tryd.f83];(have hb:=trivial;with_reducible repeat' (first|simp only[hb,Va.down,seval,yH.down,ab9]|refine Be ?_ ?_<;>intro hb|refine fd ?_|fail)))
 refine Iy (aQ 19 l (fun i (s:Int) t h=>s=i∧h=[.live 3 false false [[.int .i64 mm.rooms,.int .i64 mm.need,Bv 9 true mm.nn (mm.parts.map Ae.cells)]]]∧t 0=Bv 9 true nn (l.map Ae.cells)∧t 1=.func (.func g) [] [.ptr 0 0 0]∧t 7=.int .i64 l.length∧t 8=.int .i64 i)
  (fun rest s=>idx p rest s) (fun r e t h=>h=[.live 3 false false [[.int .i64 mm.rooms,.int .i64 mm.need,Bv 9 true mm.nn (mm.parts.map Ae.cells)]]]∧((e=.exit 0∧r= -1)∨(e=.ret∧t 4=.int .i64 r))) ?_ ?_ 0 _ _ ?_) (fun e t h hk=>?_)
 ·rintro s t h Q' kQ ⟨rfl,rfl,h0,h1,h7,h8⟩
  (have hb:=trivial;with_reducible repeat' (first|simp only[hb,Va.down,seval,yH.down,h0,h1,h7,h8,acD,decide_false]|refine Be ?_ ?_<;>intro hb|refine fd ?_|fail))
  exact kQ _ _ _ ⟨rfl,.inl ⟨rfl,rfl⟩⟩
 ·rintro x rest i s t h J Q' kJ kQ hx hi ⟨rfl,rfl,h0,h1,h7,h8⟩
  have hpx:=hp x (agW hx)
  have hd:decide ((i:Int)<(l.length:Int))=true:=by simpa using hi
  (have hb:=trivial;with_reducible repeat' (first|simp only[hb,Va.down,seval,yH.down,h0,h1,h7,h8,hd,hx,Ae.cells,hpx,Ew hi hl]|refine Be ?_ ?_<;>intro hb|refine fd ?_|fail))
  ·exact kQ _ _ _ ⟨rfl,.inr ⟨rfl,by simp[up,idx,hb]⟩⟩
  ·exact Bc (kJ _ _ (i+1) ⟨by simp,rfl,by simp[up,h0],by simp[up,h1],by simp[up,h7],by simp[up]⟩ (by simp[idx,hb]))
 ·exact⟨rfl,rfl,by simp[up,Ph],by simp[up,Ph],by simp[up],by simp[up]⟩
 ·obtain⟨rfl,⟨rfl,hi⟩|⟨rfl,hi⟩⟩:=hk
  ·(have hb:=trivial;with_reducible repeat' (first|simp only[hb,Va.down,seval,yH.down]|refine Be ?_ ?_<;>intro hb|refine fd ?_|fail))
   rw[hi]
  ·(have hb:=trivial;with_reducible repeat' (first|simp only[hb,Va.down,seval,yH.down,hi]|refine Be ?_ ?_<;>intro hb|refine fd ?_|fail))
theorem oO{l:List Ae}{nn:Bool}{g:Nat}{mm:Au}{p:Ae→Bool}(hp:∀x∈l,Fe.call (.fn g) (.agg [.int .i64 x.one,.int .i64 x.other,.bool x.valve,.bool x.opn,.int .i64 x.tested,.int .i64 x.valid,.bool x.bad,.int .i64 x.test,.int .i64 x.change]::[.ptr 0 0 0]) [.live 3 false false [[.int .i64 mm.rooms,.int .i64 mm.need,Bv 9 true mm.nn (mm.parts.map Ae.cells)]]]=some (.ret (.bool (p x)),[.live 3 false false [[.int .i64 mm.rooms,.int .i64 mm.need,Bv 9 true mm.nn (mm.parts.map Ae.cells)]]]))(hl:l.length≤maxLen):
 Fe.call (.fn 64) [Bv 9 true nn (l.map Ae.cells),.func (.func g) [] [.ptr 0 0 0]] [.live 3 false false [[.int .i64 mm.rooms,.int .i64 mm.need,Bv 9 true mm.nn (mm.parts.map Ae.cells)]]]=some (.ret (.bool (l.any p)),[.live 3 false false [[.int .i64 mm.rooms,.int .i64 mm.need,Bv 9 true mm.nn (mm.parts.map Ae.cells)]]]):=by
 (refine ce Tryd.func64 ?_;simp only[Tryd.f64];(have hb:=trivial;with_reducible repeat' (first|simp only[hb,Va.down,seval,tH hp hl,pZ p l 0 (Int.le_refl 0)]|refine Be ?_ ?_<;>intro hb|refine fd ?_|fail)))
theorem ajZ(w:Au)(hs:w.small):Fe.call (.fn 47) [.agg [.int .i64 w.rooms,.int .i64 w.need,Bv 9 true w.nn (w.parts.map Ae.cells)]] []=some (.ret (.bool (Pq w)),[]):=by
 have k1:=dR w.rooms 2 8
 have k2:=dR w.need 0 12
 have k3:=dR (w.parts.length:Int) 1 12
 have hcM:=oO (mm:=w) (l:=w.parts) (nn:=w.nn) (g:=65) (p:=fun x=> !Rx w.rooms x) (fun x _=>af5 w x) hs.parts
 have q1:w.parts.all (Rx w.rooms)= !(w.parts.any fun x=> !Rx w.rooms x):=List.all_eq_not_any_not
 have hh:rR w=(Ns w.rooms 2 8&&Ns w.need 0 12&&Ns (w.parts.length:Int) 1 12):=rfl
 unfold Pq
 rw[hh,q1]
 generalize Ns w.rooms 2 8=c1 at *
 generalize Ns w.need 0 12=c2 at *
 generalize Ns (w.parts.length:Int) 1 12=c3 at *
 generalize(w.parts.any fun x=> !Rx w.rooms x)=c4 at *
 cases c1<;>cases c2<;>cases c3
 all_goals (refine ce Tryd.func47 ?_;simp only[Tryd.f47];(have hb:=trivial;with_reducible repeat' (first|simp only[hb,Va.down,seval,ao3.down,k1,k2,k3,hcM,ab9]|refine Be ?_ ?_<;>intro hb|refine fd ?_|fail)))
 all_goals simp
theorem qU(w:Au)(hs:w.small)(d:Int):Fe.call (.fn 34) [.agg [.int .i64 w.rooms,.int .i64 w.need,Bv 9 true w.nn (w.parts.map Ae.cells)],.int .i64 d] []=some (.ret (.tup [.ptr 0 0 0,.bool (Pq w&&Xk d)]),[.live 4 false false [[.int .i64 w.rooms,.int .i64 w.need,Bv 9 true w.nn (w.parts.map Ae.cells),.int .i64 d]]]):=by
 have h:=ajZ w hs
 have hd:=dR d 0 5000
 rw[show Ns d 0 5000=Xk d from rfl]at hd
 generalize Pq w=c at *
 generalize Xk d=e at *
 cases c
 ·(refine ce Tryd.func34 ?_;simp only[Tryd.f34];(have hb:=trivial;with_reducible repeat' (first|simp only[hb,Va.down,seval,amH.down,h,hd]|refine Be ?_ ?_<;>intro hb|refine fd ?_|fail)))
 ·(refine ce Tryd.func34 ?_;simp only[Tryd.f34];(have hb:=trivial;with_reducible repeat' (first|simp only[hb,Va.down,seval,amH.down,h,hd]|refine Be ?_ ?_<;>intro hb|refine fd ?_|fail)))
end Go.Proofs.YtckfcfcmfjfchaaDoor
