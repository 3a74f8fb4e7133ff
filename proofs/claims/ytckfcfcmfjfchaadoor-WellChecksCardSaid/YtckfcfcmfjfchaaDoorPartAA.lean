/- The functions of the layer, walked. -/
import Derived.Test.YtckfcfcmfjfchaaDoorLibE
import Derived.Test.YtckfcfcmfjfchaaDoorChecked
import Derived.Test.YtckfcfcmfjfchaaDoorLibD
import Derived.Test.YtckfcfcmfjfchaaDoorRows
import Derived.Test.YtckfcfcmfjfchaaDoorTie
import Derived.Test.YtckfcfcmfjfchaaDoorCards
import Derived.Test.YtckfcfcmfjfchaaDoorShelf
import Derived.ProofKit
import Derived.LaidMore
import Derived.OpenShut
import Derived.Stop.Joined
open And renaming intro→an9
open List renaming length_map→aoC,replicate→aoD,getElem?_eq_some_iff→ap7,getElem?_set_ne→ap8,take_of_length_le→ar8,getElem?_set_self→asO,take→as0,getElem?_append_left→atN,getElem?_eq_getElem→at6,length_replicate→awB,getD_eq_getElem?_getD→awT,map_set→awW,all_eq_true→axS,getElem?_append_right→ax9,length_set→ayD,mem_of_getElem?→azU,set_set→azX,drop→aAS,flatMap_cons→aAT,cons_append→aAU,nil_append→aAV,length_eq_zero_iff→aBG,getElem?_map→aE5,replicate_succ→aFG,take_add_one→aFH,take_succ_cons→aFJ,drop_succ_cons→aFK,set_cons_succ→aFL,length_take→aFM
open Int renaming lt_irrefl→arW
open Nat renaming ble→awE
open Bool renaming false_eq_true→aFI,and_eq_true→aFN
set_option linter.unusedSimpArgs false
set_option linter.unusedVariables false
namespace Go.Proofs.YtckfcfcmfjfchaaDoor
open Go.Ev
set_option maxRecDepth 100000
theorem Eu(h:Aa)(b r o:Nat):ld Tryd.prog 24 h (some (.ptr b r o))=ldR (Oc (h[b]?) r) o 3:=ayL ⟨by kernel_rfl,by kernel_rfl⟩ h b r o
theorem asT(b r o:Nat):ftL Tryd.prog 24 (some (.ptr b r o))=some [.cells b o 3]:=aIS (isA:=true) (n:=3) (by kernel_rfl) (by kernel_rfl) b r o
theorem as1(st b r len:Nat):ln Tryd.prog 28 (some (.slr st b r len))=some (.ret (.int .i64 len),[]):=aKG (n:=1) ⟨_,Tryd.underlying28,by kernel_rfl⟩ st b r len
theorem aAL:ln Tryd.prog 28 (some .nils)=some (.ret (.int .i64 0),[]):=ayG (n:=1) ⟨_,Tryd.underlying28,by kernel_rfl⟩
theorem Np(h:Aa)(b r o:Nat):ld Tryd.prog 28 h (some (.ptr b r o))=ldC (Oc (h[b]?) r) o:=arL ⟨by kernel_rfl,1,by kernel_rfl⟩ h b r o
theorem Dx(b r o:Nat):fa Tryd.prog 24 (some (.ptr b r o)) 2=some (.ret (.ptr b r (o+2)),[]):=Ft (show Gh Tryd.prog 24 2 2 1 from⟨_,_,Tryd.underlying24,rfl,rfl,by kernel_rfl,by decide⟩) b r o
theorem Ep(h:Aa)(b r o:Nat):ld Tryd.prog 22 h (some (.ptr b r o))=ldC (Oc (h[b]?) r) o:=arL ⟨by kernel_rfl,1,by kernel_rfl⟩ h b r o
theorem Ey(fl nn:Bool)(rows:List (List AV)):ln Tryd.prog 22 (some (Eg 9 fl nn rows))=some (.ret (.int .i64 rows.length),[]):=aLJ ⟨_,Tryd.underlying22,by kernel_rfl⟩ fl nn rows
theorem aF6:Hn Tryd.prog 3=some (.int .i64 0):=by kernel_rfl
theorem aAN(base:Nat)(l c:Option AV):msO Tryd.prog 28 base l c=msK 1 (.int .i64 0) base l c:=aO2 (e:=3) (n:=1) (b:=8) (by kernel_rfl) (by kernel_rfl) (by kernel_rfl) (by kernel_rfl) (by decide+kernel) base l c
theorem Lx(b r len:Nat)(k:IntKind)(i:Int):ia Tryd.prog 28 (some (.slr 1 b r len)) (some (.int k i))=if 0≤i∧i<len then some (.ret (.ptr b (r+i.toNat) 0),[])else none:=aKY ⟨_,Tryd.underlying28,by kernel_rfl⟩ b r len k i
theorem Dt(h:Aa)(b r o:Nat):ld Tryd.prog 3 h (some (.ptr b r o))=ldC (Oc (h[b]?) r) o:=arL ⟨by kernel_rfl,1,by kernel_rfl⟩ h b r o
theorem az1(h:Aa)(c:AV)(cs:List AV):ld Tryd.prog 3 h (some (.iptr (c::cs)))=some (.ret c,[]):=aIW ⟨by kernel_rfl,1,by kernel_rfl⟩ h c cs
theorem azN(fl nn:Bool)(rows:List (List AV))(k:IntKind)(i:Int):ia Tryd.prog 41 (some (Eg 1 fl nn rows)) (some (.int k i))=if 0≤i then r1 ((rows[i.toNat]?).map .iptr)else none:=aEK ⟨_,Tryd.underlying41,by kernel_rfl⟩ fl nn rows k i
theorem Ls(h:Aa)(b r o:Nat):ld Tryd.prog 4 h (some (.ptr b r o))=ldC (Oc (h[b]?) r) o:=arL ⟨by kernel_rfl,1,by kernel_rfl⟩ h b r o
theorem asZ(h:Aa)(c:AV)(cs:List AV):ld Tryd.prog 4 h (some (.iptr (c::cs)))=some (.ret c,[]):=aIW ⟨by kernel_rfl,1,by kernel_rfl⟩ h c cs
theorem axT(h:Aa)(b r o:Nat)(v:AV):st_ Tryd.prog 3 h (some (.ptr b r o)) (some v)=sv 1 (h[b]?) b r o (Ae v):=ak6 (by kernel_rfl) h b r o v
theorem apL(b r o:Nat):fa Tryd.prog 24 (some (.ptr b r o)) 1=some (.ret (.ptr b r (o+1)),[]):=Ft (show Gh Tryd.prog 24 1 1 1 from⟨_,_,Tryd.underlying24,rfl,rfl,by kernel_rfl,by decide⟩) b r o
theorem Jb(fl nn:Bool)(rows:List (List AV))(k:IntKind)(i:Int):ia Tryd.prog 22 (some (Eg 9 fl nn rows)) (some (.int k i))=if 0≤i then r1 ((rows[i.toNat]?).map .iptr)else none:=aEK ⟨_,Tryd.underlying22,by kernel_rfl⟩ fl nn rows k i
theorem awF(h:Aa)(b r o:Nat):ld Tryd.prog 62 h (some (.ptr b r o))=ldR (Oc (h[b]?) r) o 9:=ayL ⟨by kernel_rfl,by kernel_rfl⟩ h b r o
theorem Jo(h:Aa)(cs:List AV):ld Tryd.prog 62 h (some (.iptr cs))=if 9≤cs.length then some (.ret (.agg (cs.take 9)),[])else none:=aO7 ⟨by kernel_rfl,by kernel_rfl⟩ h cs
theorem aqZ:Hn Tryd.prog 62=some (.agg [.int .i64 0,.int .i64 0,.bool false,.bool false,.int .i64 0,.int .i64 0,.bool false,.int .i64 0,.int .i64 0]):=by kernel_rfl
theorem aq3(h:Aa)(b r o:Nat)(v:AV):st_ Tryd.prog 62 h (some (.ptr b r o)) (some v)=sv 9 (h[b]?) b r o (Ae v):=ak6 (by kernel_rfl) h b r o v
theorem Po(b r o:Nat):fa Tryd.prog 62 (some (.ptr b r o)) 3=some (.ret (.ptr b r (o+3)),[]):=Ft (show Gh Tryd.prog 62 3 3 1 from⟨_,_,Tryd.underlying62,rfl,rfl,by kernel_rfl,by decide⟩) b r o
theorem auP(cs:List AV):fa Tryd.prog 62 (some (.iptr cs)) 3=if 3+1≤cs.length then some (.ret (.iptr (cs.drop 3)),[])else none:=as9 (show Gh Tryd.prog 62 3 3 1 from⟨_,_,Tryd.underlying62,rfl,rfl,by kernel_rfl,by decide⟩) cs
theorem aGO(h:Aa)(b r o:Nat)(v:AV):st_ Tryd.prog 4 h (some (.ptr b r o)) (some v)=sv 1 (h[b]?) b r o (Ae v):=ak6 (by kernel_rfl) h b r o v
theorem apA(b r o:Nat):fa Tryd.prog 62 (some (.ptr b r o)) 6=some (.ret (.ptr b r (o+6)),[]):=Ft (show Gh Tryd.prog 62 6 6 1 from⟨_,_,Tryd.underlying62,rfl,rfl,by kernel_rfl,by decide⟩) b r o
theorem aoP(base len:Nat)(ps:List (Nat × AV)):rD (Bf Tryd.prog base 28 len ps)=bsK 1 (.int .i64 0) base len ps:=aNK (e:=3) (by kernel_rfl) (by kernel_rfl) (by kernel_rfl) base len ps
theorem aB6:Hn Tryd.prog 75=some (.agg [.int .i64 0,.bool false,.int .i64 0,.bool false,.int .i64 0,.bool false,.int .i64 0,.bool false,.int .i64 0,.bool false,.int .i64 0,.bool false,.int .i64 0,.bool false,.int .i64 0,.bool false,.int .i64 0,.bool false,.int .i64 0,.bool false,.int .i64 0,.bool false,.int .i64 0,.bool false]):=by kernel_rfl
theorem aBV(h:Aa)(b r o:Nat)(v:AV):st_ Tryd.prog 75 h (some (.ptr b r o)) (some v)=sv 24 (h[b]?) b r o (Ae v):=ak6 (by kernel_rfl) h b r o v
theorem arH(h:Aa)(b r o:Nat):ld Tryd.prog 75 h (some (.ptr b r o))=ldR (Oc (h[b]?) r) o 24:=ayL ⟨by kernel_rfl,by kernel_rfl⟩ h b r o
theorem Ks(b r o:Nat):fa Tryd.prog 79 (some (.ptr b r o)) 0=some (.ret (.ptr b r (o+0)),[]):=Ft (show Gh Tryd.prog 79 0 0 3 from⟨_,_,Tryd.underlying79,rfl,rfl,by kernel_rfl,by decide⟩) b r o
theorem Oh(b r o:Nat):fa Tryd.prog 62 (some (.ptr b r o)) 0=some (.ret (.ptr b r (o+0)),[]):=Ft (show Gh Tryd.prog 62 0 0 1 from⟨_,_,Tryd.underlying62,rfl,rfl,by kernel_rfl,by decide⟩) b r o
theorem av3(cs:List AV):fa Tryd.prog 62 (some (.iptr cs)) 0=if 0+1≤cs.length then some (.ret (.iptr (cs.drop 0)),[])else none:=as9 (show Gh Tryd.prog 62 0 0 1 from⟨_,_,Tryd.underlying62,rfl,rfl,by kernel_rfl,by decide⟩) cs
theorem Ol(b r o:Nat):fa Tryd.prog 62 (some (.ptr b r o)) 1=some (.ret (.ptr b r (o+1)),[]):=Ft (show Gh Tryd.prog 62 1 1 1 from⟨_,_,Tryd.underlying62,rfl,rfl,by kernel_rfl,by decide⟩) b r o
theorem auN(cs:List AV):fa Tryd.prog 62 (some (.iptr cs)) 1=if 1+1≤cs.length then some (.ret (.iptr (cs.drop 1)),[])else none:=as9 (show Gh Tryd.prog 62 1 1 1 from⟨_,_,Tryd.underlying62,rfl,rfl,by kernel_rfl,by decide⟩) cs
theorem axA(h:Aa)(b r o:Nat):ld Tryd.prog 73 h (some (.ptr b r o))=ldR (Oc (h[b]?) r) o 2:=ayL ⟨by kernel_rfl,by kernel_rfl⟩ h b r o
theorem Lc{O:Db}(t:List AV)(h:Aa)(s x:Operand):Cd O Tryd.prog t h (.call ⟨.builtin .append,#[s,x],#[28,28]⟩)=apO Tryd.prog 28 h (Ac t s) (Ac t x):=aI6 t h s x 28 28 _ Tryd.underlying28
theorem aoO(h:Aa)(s:AV)(a b r l:Nat):apO Tryd.prog 28 h (some s) (some (.slr a b r l))=apK 1 h (some s) (srK 1 h (some (.slr a b r l))):=aB3 (e:=3) (b:=8) (z:=.int .i64 0) (by kernel_rfl) (by kernel_rfl) (by kernel_rfl) (by kernel_rfl) (by decide+kernel) h s _ (fun q e=>by cases e)
theorem ayX(h:Aa)(s:AV)  :apO Tryd.prog 28 h (some s) (some .nils)=apK 1 h (some s) (srK 1 h (some .nils)):=aB3 (e:=3) (b:=8) (z:=.int .i64 0) (by kernel_rfl) (by kernel_rfl) (by kernel_rfl) (by kernel_rfl) (by decide+kernel) h s _ (fun q e=>by cases e)
theorem aE8:Hn Tryd.prog 28=some (.nils):=by kernel_rfl
theorem Ic(b r o:Nat):fa Tryd.prog 24 (some (.ptr b r o)) 0=some (.ret (.ptr b r (o+0)),[]):=Ft (show Gh Tryd.prog 24 0 0 1 from⟨_,_,Tryd.underlying24,rfl,rfl,by kernel_rfl,by decide⟩) b r o
theorem apJ(b r o:Nat):fa Tryd.prog 62 (some (.ptr b r o)) 2=some (.ret (.ptr b r (o+2)),[]):=Ft (show Gh Tryd.prog 62 2 2 1 from⟨_,_,Tryd.underlying62,rfl,rfl,by kernel_rfl,by decide⟩) b r o
theorem Kt(b r o:Nat):fa Tryd.prog 62 (some (.ptr b r o)) 4=some (.ret (.ptr b r (o+4)),[]):=Ft (show Gh Tryd.prog 62 4 4 1 from⟨_,_,Tryd.underlying62,rfl,rfl,by kernel_rfl,by decide⟩) b r o
theorem Ku(b r o:Nat):fa Tryd.prog 62 (some (.ptr b r o)) 5=some (.ret (.ptr b r (o+5)),[]):=Ft (show Gh Tryd.prog 62 5 5 1 from⟨_,_,Tryd.underlying62,rfl,rfl,by kernel_rfl,by decide⟩) b r o
theorem ao9(b r o:Nat):fa Tryd.prog 62 (some (.ptr b r o)) 7=some (.ret (.ptr b r (o+7)),[]):=Ft (show Gh Tryd.prog 62 7 7 1 from⟨_,_,Tryd.underlying62,rfl,rfl,by kernel_rfl,by decide⟩) b r o
theorem apI(b r o:Nat):fa Tryd.prog 62 (some (.ptr b r o)) 8=some (.ret (.ptr b r (o+8)),[]):=Ft (show Gh Tryd.prog 62 8 8 1 from⟨_,_,Tryd.underlying62,rfl,rfl,by kernel_rfl,by decide⟩) b r o
theorem az3(base len:Nat)(ps:List (Nat × AV)):rD (Bf Tryd.prog base 41 len ps)=bsK 1 (.bool false) base len ps:=aNK (e:=4) (by kernel_rfl) (by kernel_rfl) (by kernel_rfl) base len ps
theorem arZ{O:Db}(t:List AV)(h:Aa)(s x:Operand):Cd O Tryd.prog t h (.call ⟨.builtin .append,#[s,x],#[41,41]⟩)=apO Tryd.prog 41 h (Ac t s) (Ac t x):=aI6 t h s x 41 41 _ Tryd.underlying41
theorem azM(h:Aa)(s:AV)(a b r l:Nat):apO Tryd.prog 41 h (some s) (some (.slr a b r l))=apK 1 h (some s) (srK 1 h (some (.slr a b r l))):=aB3 (e:=4) (b:=1) (z:=.bool false) (by kernel_rfl) (by kernel_rfl) (by kernel_rfl) (by kernel_rfl) (by decide+kernel) h s _ (fun q e=>by cases e)
theorem apN(b r o:Nat):fa Tryd.prog 73 (some (.ptr b r o)) 0=some (.ret (.ptr b r (o+0)),[]):=Ft (show Gh Tryd.prog 73 0 0 1 from⟨_,_,Tryd.underlying73,rfl,rfl,by kernel_rfl,by decide⟩) b r o
theorem aEI(h:Aa)(b r o:Nat)(v:AV):st_ Tryd.prog 71 h (some (.ptr b r o)) (some v)=sv 1 (h[b]?) b r o (Ae v):=ak6 (by kernel_rfl) h b r o v
theorem auD(b r o:Nat):fa Tryd.prog 79 (some (.ptr b r o)) 1=some (.ret (.ptr b r (o+3)),[]):=Ft (show Gh Tryd.prog 79 1 3 1 from⟨_,_,Tryd.underlying79,rfl,rfl,by kernel_rfl,by decide⟩) b r o
theorem aAM(ps:List (Nat × AV)):ao0 Tryd.prog 79 ps=(Io (fun i=>([(0,3),(3,1)]:List (Nat × Nat))[i]?) (Ae (.agg [.int .i64 0,.int .i64 0,.nils,.int .i64 0])) ps).map .agg:=by kernel_rfl
theorem apR(b r o:Nat):fa Tryd.prog 73 (some (.ptr b r o)) 1=some (.ret (.ptr b r (o+1)),[]):=Ft (show Gh Tryd.prog 73 1 1 1 from⟨_,_,Tryd.underlying73,rfl,rfl,by kernel_rfl,by decide⟩) b r o
theorem an1(h:Aa)(b r o:Nat)(v:AV):st_ Tryd.prog 28 h (some (.ptr b r o)) (some v)=sv 1 (h[b]?) b r o (Ae v):=ak6 (by kernel_rfl) h b r o v
theorem aAE(ps:List (Nat × AV)):ao0 Tryd.prog 98 ps=(Io (fun i=>([(0,1)]:List (Nat × Nat))[i]?) (Ae (.agg [.nils])) ps).map .agg:=by kernel_rfl
theorem aC6:Hn Tryd.prog 96=some (.nilp):=by kernel_rfl
theorem aDB(h:Aa)(b r o:Nat)(v:AV):st_ Tryd.prog 96 h (some (.ptr b r o)) (some v)=sv 1 (h[b]?) b r o (Ae v):=ak6 (by kernel_rfl) h b r o v
theorem axD(h:Aa)(b r o:Nat):ld Tryd.prog 96 h (some (.ptr b r o))=ldC (Oc (h[b]?) r) o:=arL ⟨by kernel_rfl,1,by kernel_rfl⟩ h b r o
theorem awK(h:Aa)(b r o:Nat):ld Tryd.prog 71 h (some (.ptr b r o))=ldC (Oc (h[b]?) r) o:=arL ⟨by kernel_rfl,1,by kernel_rfl⟩ h b r o
theorem awJ(h:Aa)(b r o:Nat):ld Tryd.prog 68 h (some (.ptr b r o))=ldC (Oc (h[b]?) r) o:=arL ⟨by kernel_rfl,1,by kernel_rfl⟩ h b r o
theorem Pm(b r o:Nat):fa Tryd.prog 98 (some (.ptr b r o)) 0=some (.ret (.ptr b r (o+0)),[]):=Ft (show Gh Tryd.prog 98 0 0 1 from⟨_,_,Tryd.underlying98,rfl,rfl,by kernel_rfl,by decide⟩) b r o
def TY7:=PLift.up (an9 @Eu @Eu)
def TY9:=PLift.up (an9 @Dx (an9 @Ep @Ey))
def auR:=PLift.up (an9 @Ic (an9 @Dt (an9 @apL (an9 @Dx (an9 @Ep (an9 @Ey (an9 @Jb (an9 @Jo (an9 @aqZ (an9 @aq3 (an9 @Oh (an9 @Ol (an9 @Po (an9 @Ls (an9 @apJ (an9 @Kt (an9 @Ku (an9 @ao9 @apI))))))))))))))))))
def aNA:=PLift.up (an9 @Eu @Eu)
def aBD:=PLift.up (an9 @Dx (an9 @Ep (an9 @Ey (an9 @Jb (an9 @Jo (an9 @auP (an9 @asZ (an9 @az3 (an9 @arZ @azM)))))))))
def aQA:=PLift.up (an9 @Eu @Eu)
def aP4:=PLift.up (an9 @Eu @asT)
def aO6:=PLift.up (an9 @Eu (an9 @asT @aAM))
def aH1:=PLift.up (an9 @arH (an9 @aB6 (an9 @Ks (an9 @Dx (an9 @Ep (an9 @Ey (an9 @Jb (an9 @Jo (an9 @aqZ (an9 @aq3 (an9 @Po (an9 @Ls (an9 @apR (an9 @aGO (an9 @apA (an9 @apN (an9 @aEI (an9 @auD (an9 @Dt (an9 @Kt (an9 @Ku @aBV)))))))))))))))))))))
def Ob:=PLift.up (an9 @Ks (an9 @Ic (an9 @Dt (an9 @aF6 (an9 @aAN (an9 @aE8 (an9 @an1 (an9 @Np (an9 @as1 (an9 @Lx (an9 @axT (an9 @aAE (an9 @aC6 (an9 @aDB (an9 @axD @axA)))))))))))))))
def aP5:=PLift.up (an9 @apN (an9 @awK (an9 @apR @Ls)))
def aNW:=PLift.up (an9 @Eu (an9 @Lx (an9 @Dt (an9 @Dx (an9 @Ep @Ey)))))
def aqR:=PLift.up (an9 @aoP (an9 @Ic (an9 @Dt (an9 @az1 (an9 @Lc (an9 @aoO (an9 @Dx (an9 @Ep (an9 @Ey (an9 @Jb (an9 @av3 (an9 @auN (an9 @azN (an9 @asZ (an9 @Lx @axT)))))))))))))))
def aN0:=PLift.up (an9 @arH (an9 @Lx (an9 @Dt (an9 @Ks (an9 @Dx (an9 @Ep @Ey))))))
def aQG:=PLift.up (an9 @apA (an9 @Ls (an9 @Kt (an9 @Dt @Ku))))
def aQK:=PLift.up (an9 @Ic (an9 @Dt (an9 @apL (an9 @Dx (an9 @Ep @Ey)))))
def aGZ:=PLift.up (an9 @Pm (an9 @Np (an9 @aoP (an9 @Lc (an9 @aoO @an1)))))
def aIQ:=PLift.up (an9 @Pm (an9 @Np (an9 @as1 (an9 @aAL (an9 @Lx (an9 @Dt @an1))))))
def azI:=PLift.up (an9 @aoP (an9 @Pm (an9 @Np (an9 @Lc (an9 @aoO (an9 @ayX @an1))))))
def aP6:=PLift.up (an9 @awF (an9 @Ic @Dt))
def aQQ:=PLift.up (an9 @Oh (an9 @Dt (an9 @Ol (an9 @apJ (an9 @Ls (an9 @Po (an9 @Kt (an9 @Ku (an9 @ao9 @apI)))))))))
def ayV:=PLift.up (an9 @awJ (an9 @Ks (an9 @Dx (an9 @Ep (an9 @Ey (an9 @Jb (an9 @Jo (an9 @aqZ (an9 @aq3 (an9 @Dt (an9 @Oh @Ol)))))))))))
def aEV:=PLift.up (an9 @Ey (an9 @Jb @Jo))
end Go.Proofs.YtckfcfcmfjfchaaDoor
namespace Go.Proofs.YtckfcfcmfjfchaaDoor
open Go Go.Ev Go.ChangeShapes Go.WideShapes Go.ChangeAt Go.RowKit
set_option maxRecDepth 100000
set_option maxHeartbeats 16000000
def mdL:List Nat:=[46,62,72,56,60,57]
def pr:Ht:=aCS 54 68 (mdL.contains ·)
noncomputable def Fo:Db:=om Tryd.prog pr
theorem aM9(f:Nat):Fo.md f=([46,62,72,56,60,57]:List Nat).contains f:=Eq.trans rfl rfl
def Va:=PLift.up (an9 EE.down EVu.down)
def Vc:=PLift.up (an9 EG.down @aM9)
theorem aJL{C:R→Prop}[NoN C]{n:Nat}{k:List Ah}{c:Code}{s:St}(h:Un Fo Tryd.prog n k c C (Az Fo Tryd.prog 5000 c [] s)):C (lpK Fo Tryd.prog n k (Fo.loop c s)):=aNR (pr:=pr) h
theorem own:ownKnob Tryd.prog.godebug=none:=by kernel_rfl
theorem aL8:azC Tryd.prog:=fun f fn hf=>by
 have h:(Tryd.prog.funcs.toList.all fun fn=> !(fn.name== "runtime.NumGoroutine"))=true:=by kernel_rfl
 have:=axS.1 h fn (by rw[Array.mem_toList_iff];exact Array.mem_of_getElem? hf)
 simpa using this
theorem mixed:Tryd.prog.follows .mixedOrders=true:=by kernel_rfl
theorem aH4:laidOutB Tryd.prog=true:=by kernel_rfl
def laid:List (String × DataW Unit):=[("math/bits.deBruijn32tab",Rows.laid_math_bits_deBruijn32tab),("math/bits.deBruijn64tab",Rows.laid_math_bits_deBruijn64tab),("internal/strconv.uint64pow10",Rows.laid_internal_strconv_uint64pow10)]
theorem aNX:Tryd.prog.globalNamed "internal/strconv.uint64pow10" =some 0:=by kernel_rfl
theorem tab{W:World}(h:laidMetH Tryd.prog laid W):Lib.TabIs Tryd.prog W "internal/strconv.uint64pow10" .u64 Lib.pow10Tab:=by
 rw[MakeChecks.laidMetH_plain _ _ _ (by kernel_rfl)]at h
 obtain⟨ps,h,_⟩:=h
 exact alA (t:=160) (e:=126) (n:=20) aNX (by kernel_rfl) (by kernel_rfl) (by kernel_rfl) (by kernel_rfl) (by kernel_rfl) h (by
  have e:(Lib.tabData .u64 Lib.pow10Tab:DataW Unit)=Rows.laid_internal_strconv_uint64pow10:=rfl
  rw[e];simp[laid])
theorem aFA{W:World}(h:laidMetH Tryd.prog laid W):Dz Tryd.prog (aAZ W 0) Fo:=
 aOU aL8 (aCV (aFR (atB aL8 Tryd.func54 rfl) (aFE aNX (tab h)) (fun n w h0 h1 ht=>Tryd.strconv_Itoa n h0 h1 w ht)) (aH8 (atB aL8 Tryd.func68 rfl) Tryd.strings_Join_none Tryd.strings_Join)) mixed
theorem aD9(os:Os)(args:Array Value):laidMetH Tryd.prog laid ((World.doorLaid Tryd.prog 400 os).forCall (fun _ _=>0) ⟨#[],args,[]⟩).memory:=
 laidMetH_of_parts3 (fuel:=8) (laidMet_of_run' 8 (by kernel_rfl) (by kernel_rfl)) (by kernel_rfl) (by kernel_rfl)
theorem aJR{f:Nat}{fn:Func}{c:Code}{args:List AV}{h:Aa}{Q:Cb→Aa→Prop}(hp:pr f=none)(hf:Tryd.prog.funcs[f]?=some fn)(hb:fn.body=some c)(hl:awE args.length fn.ntmps=true)
 (he:FnE Tryd.prog h.length fn.results.toList Q (Az Fo Tryd.prog 5000 c [] ⟨mk fn.ntmps (ent args),h⟩)):ClQ Fo f args h Q:=ClQ.start (pr:=pr) hp hf hb hl he
theorem aCW{f:Nat}{fn:Func}{c:Code}{args:List AV}{h:Aa}{Q:Cb→Aa→Prop}(hp:pr f=none)(hf:Tryd.prog.funcs[f]?=some fn)(hb:fn.body=some c)(hl:awE args.length fn.ntmps=true)
 (he:FnS Tryd.prog fn.results.toList Q (Az Fo Tryd.prog 5000 c [] ⟨mk fn.ntmps (ent args),h⟩)):ShQ Fo f args h Q:=ShQ.start (pr:=pr) hp hf hb hl he
theorem ce{f:Nat}{fn:Func}{c:Code}{args:List AV}{h:Aa}{o:Cb}{h':Aa}(hf:Tryd.prog.funcs[f]?=some fn)(he:FnE Tryd.prog h.length fn.results.toList (fun o1 h1=>(o1,h1)=(o,h')) (Az Fo Tryd.prog 5000 c [] ⟨mk fn.ntmps (ent args),h⟩))(hp:pr f=none:=by exact rfl)(hb:fn.body=some c:=by exact rfl)(hl:awE args.length fn.ntmps=true:=by exact rfl):Fo.call (.fn f) args h=some (o,h'):=(aJR hp hf hb hl he).eq
theorem csh{f:Nat}{fn:Func}{c:Code}{args:List AV}{h:Aa}{o:Cb}{h':Aa}(hf:Tryd.prog.funcs[f]?=some fn)(he:FnS Tryd.prog fn.results.toList (fun o1 h1=>(o1,h1)=(o,h')) (Az Fo Tryd.prog 5000 c [] ⟨mk fn.ntmps (ent args),h⟩))(hp:pr f=none:=by exact rfl)(hb:fn.body=some c:=by exact rfl)(hl:awE args.length fn.ntmps=true:=by exact rfl):Fo.call (.sh f) args h=some (o,h'):=(aCW hp hf hb hl he).eq
theorem lst{α σ ρ:Type}{c:Code}(N:Nat)(l:List α)(E:Nat→σ→Tm→Aa→Prop)(F:List α→σ→ρ)(Q:ρ→Ex→Tm→Aa→Prop)
 (stop:∀s t h Q',(∀e t h,Q (F [] s) e t h→Q' e ⟨mk N t,h⟩)→E l.length s t h→Rnd N (fun _ _=>False) Q' (Az Fo Tryd.prog 5000 c [] ⟨mk N t,h⟩))
 (go:∀x rest i s t h J Q',(∀t' h' s',E (i+1) s' t' h'→F rest s'=F (x::rest) s→J t' h')→(∀e t h,Q (F (x::rest) s) e t h→Q' e ⟨mk N t,h⟩)→l[i]?=some x→i<l.length→E i s t h→
   Rnd N J Q' (Az Fo Tryd.prog 5000 c [] ⟨mk N t,h⟩)):
 ∀s t h,E 0 s t h→LpQ Fo c ⟨mk N t,h⟩ (Ot N (Q (F l s))):=ayZ (pr:=pr) rfl N l E F Q stop go
theorem cnt{σ ρ:Type}{c:Code}(N:Nat)(E:Nat→σ→Tm→Aa→Prop)(F:Nat→σ→ρ)(Q:ρ→Ex→Tm→Aa→Prop)
 (stop:∀s t h Q',(∀e t h,Q (F 0 s) e t h→Q' e ⟨mk N t,h⟩)→E 0 s t h→Rnd N (fun _ _=>False) Q' (Az Fo Tryd.prog 5000 c [] ⟨mk N t,h⟩))
 (go:∀n s t h J Q',(∀t' h' s',E n s' t' h'→F n s'=F (n+1) s→J t' h')→(∀e t h,Q (F (n+1) s) e t h→Q' e ⟨mk N t,h⟩)→E (n+1) s t h→Rnd N J Q' (Az Fo Tryd.prog 5000 c [] ⟨mk N t,h⟩)):
 ∀n s t h,E n s t h→LpQ Fo c ⟨mk N t,h⟩ (Ot N (Q (F n s))):=aCE (pr:=pr) rfl N E F Q stop go
theorem An{h:Aa}{b:Nat}{c:CB}(h0:h[b]?=some c)(l:Aa):(h++l)[b]?=some c:=by
 rw[atN (ap7.1 h0).1];exact h0
end Go.Proofs.YtckfcfcmfjfchaaDoor
namespace Go.Proofs.YtckfcfcmfjfchaaDoor
open Go.Ev Go
set_option maxRecDepth 100000
set_option maxHeartbeats 16000000
structure Aj where
 one:Int
 other:Int
 valve:Bool
 opn:Bool
 tested:Int
 valid:Int
 bad:Bool
 test:Int
 change:Int
def Aj.cells(p:Aj):List AV:=[.int .i64 p.one,.int .i64 p.other,.bool p.valve,.bool p.opn,.int .i64 p.tested,.int .i64 p.valid,.bool p.bad,.int .i64 p.test,.int .i64 p.change]
structure Bd where
 rooms:Int
 need:Int
 nn:Bool
 parts:List Aj
abbrev Bd.cells(w:Bd):List AV:=[.int .i64 w.rooms,.int .i64 w.need,Eg 9 true w.nn (w.parts.map Aj.cells)]
theorem ax6{α:Type}{f:α→List AV}{p:List AV→Prop}{q:α→Prop}(hf:∀r,p r→∃x,r=f x∧q x):∀{rows:List (List AV)},(∀r∈rows,p r)→∃l:List α,rows=l.map f∧∀x∈l,q x
 | [],_=>⟨[],rfl,fun x hx=>by simp at hx⟩
 |r::rows,h=>by
  obtain⟨x,rfl,hx⟩:=hf r (h r (List.mem_cons_self ..))
  obtain⟨l,rfl,hl⟩:=ax6 hf (fun r hr=>h r (List.mem_cons_of_mem _ hr))
  exact⟨x::l,rfl,fun y hy=>by
   rcases List.mem_cons.1 hy with rfl|hy
   ·exact hx
   ·exact hl y hy⟩
def i64(n:Int):Prop:= -9223372036854775808≤n∧n≤9223372036854775807
theorem Nb{n:Nat}{r:List AV}(h:Ty Tryd.prog (n+1) 3 r):∃x,r=[.int .i64 x]∧i64 x:=by
 simp only[Ty,Tryd.underlying3]at h
 obtain⟨x,rfl,h1,h2⟩:=h
 exact⟨x,rfl,h1,h2⟩
theorem atD{n:Nat}{r:List AV}(h:Ty Tryd.prog (n+1) 4 r):∃x,r=[.bool x]:=by
 simp only[Ty,Tryd.underlying4]at h
 exact h
def Aj.fits(p:Aj):Prop:=i64 p.one∧i64 p.other∧i64 p.tested∧i64 p.valid∧i64 p.test∧i64 p.change
theorem aHE{n:Nat}{r:List AV}(h:Ty Tryd.prog (n+2) 62 r):∃x:Aj,r=x.cells∧x.fits:=by
 unfold Ty at h
 simp only[Tryd.underlying62,aCG]at h
 obtain⟨a0,b0,rfl,h0,a1,b1,rfl,h1,a2,b2,rfl,h2,a3,b3,rfl,h3,a4,b4,rfl,h4,a5,b5,rfl,h5,a6,b6,rfl,h6,a7,b7,rfl,h7,a8,b8,rfl,h8,rfl⟩:=h
 obtain⟨x0,rfl,k0⟩:=Nb h0
 obtain⟨x1,rfl,k1⟩:=Nb h1
 obtain⟨x2,rfl⟩:=atD h2
 obtain⟨x3,rfl⟩:=atD h3
 obtain⟨x4,rfl,k4⟩:=Nb h4
 obtain⟨x5,rfl,k5⟩:=Nb h5
 obtain⟨x6,rfl⟩:=atD h6
 obtain⟨x7,rfl,k7⟩:=Nb h7
 obtain⟨x8,rfl,k8⟩:=Nb h8
 exact⟨⟨x0,x1,x2,x3,x4,x5,x6,x7,x8⟩,rfl,k0,k1,k4,k5,k7,k8⟩
structure Bd.small(w:Bd):Prop where
 parts:w.parts.length≤maxLen
 fits:∀p∈w.parts,p.fits
 rooms:i64 w.rooms
 need:i64 w.need
theorem aGC{n:Nat}{r:List AV}(h:Ty Tryd.prog (n+4) 24 r):∃w:Bd,r=w.cells∧w.small:=by
 unfold Ty at h
 simp only[Tryd.underlying24,aCG]at h
 obtain⟨a0,b0,rfl,h0,a1,b1,rfl,h1,a2,b2,rfl,h2,rfl⟩:=h
 obtain⟨x0,rfl,k0⟩:=Nb h0
 obtain⟨x1,rfl,k1⟩:=Nb h1
 unfold Ty at h2
 simp only[Tryd.underlying22]at h2
 obtain⟨n2,rows2,rfl,hl2,hrows2⟩:=h2
 obtain⟨l2,rfl,hm⟩:=ax6 (fun r hr=>aHE hr) hrows2
 have e2:Tryd.prog.cellsOf 62=9:=by kernel_rfl
 have f2:flT Tryd.prog (n+2) 62=true:=by
  simp only[flT,Tryd.underlying62,Tryd.underlying3,Tryd.underlying4];rfl
 rw[e2,f2]
 exact⟨⟨x0,x1,n2,l2⟩,rfl,by simpa using hl2,hm,k0,k1⟩
theorem aHF{av:AV}(h:TyV Tryd.prog 7 24 av):∃w:Bd,av=.agg w.cells∧w.small:=by
 unfold TyV at h
 simp only[Tryd.underlying24]at h
 obtain⟨cs,rfl,h⟩:=h
 obtain⟨s,rfl,hs⟩:=aGC h
 exact⟨s,rfl,hs⟩
theorem aJO{av:AV}(h:TyV Tryd.prog 7 3 av):∃x,av=.int .i64 x∧i64 x:=by
 unfold TyV at h
 simp only[Tryd.underlying3]at h
 obtain⟨x,hx,hi⟩:=Nb h
 simp only[List.cons.injEq,and_true]at hx
 exact⟨x,hx,hi⟩
end Go.Proofs.YtckfcfcmfjfchaaDoor
namespace Go.Proofs.YtckfcfcmfjfchaaDoor
open Go.Ev Go Go.Ev.Net
set_option maxRecDepth 100000
set_option maxHeartbeats 16000000
def Jj(x lo hi:Int):Bool:=decide (lo≤x)&&decide (x≤hi)
theorem auF(x lo hi:Int):Fo.call (.fn 39) [.int .i64 x,.int .i64 lo,.int .i64 hi] []=some (.ret (.bool (Jj x lo hi)),[]):=by
 (refine ce Tryd.func39 ?_;simp only[Tryd.f39];(have hb:=trivial;with_reducible repeat' (first|simp only[hb,Va.down,seval]|refine Dp ?_ ?_<;>intro hb|refine fd ?_|fail)))
 all_goals simp[Jj, *]
theorem asA(x lo hi:Int):Fo.call (.fn 48) [.int .i64 x,.int .i64 lo,.int .i64 hi] []=some (.ret (.bool (Jj x lo hi)),[]):=by
 (refine ce Tryd.func48 ?_;simp only[Tryd.f48];(have hb:=trivial;with_reducible repeat' (first|simp only[hb,Va.down,seval]|refine Dp ?_ ?_<;>intro hb|refine fd ?_|fail)))
 all_goals simp[Jj, *]
def aoK(d:Int):Bool:=Jj d 0 5000
theorem aBW(d:Int):Fo.call (.fn 13) [.int .i64 d] []=some (.ret (.bool (aoK d)),[]):=by
 (refine ce Tryd.func13 ?_;simp only[Tryd.f13];(have hb:=trivial;with_reducible repeat' (first|simp only[hb,Va.down,seval,auF]|refine Dp ?_ ?_<;>intro hb|refine fd ?_|fail)))
 rfl
def Jv(p:Aj)(d:Int):Int:=if p.bad=true then 2 else if IntKind.i64.wrap (p.tested+p.valid)<d then 1 else 0
def ak2(p:Aj)(d:Int):Bool:=Jv p d==0&& !p.opn
theorem av0(p:Aj)(d:Int):Fo.call (.fn 45) [.agg [.int .i64 p.one,.int .i64 p.other,.bool p.valve,.bool p.opn,.int .i64 p.tested,.int .i64 p.valid,.bool p.bad,.int .i64 p.test,.int .i64 p.change],.int .i64 d] []=some (.ret (.int .i64 (Jv p d)),[]):=by
 (refine ce Tryd.func45 ?_;simp only[Tryd.f45];(have hb:=trivial;with_reducible repeat' (first|simp only[hb,Va.down,seval,aQG.down]|refine Dp ?_ ?_<;>intro hb|refine fd ?_|fail)))
 all_goals simp_all[Jv]
def bvv(b:Bool):List AV:=[.bool b]
def Ho(n:Nat):List AV:=[.int .i64 (n:Int)]
def Oy(w:Bd)(d:Int):List Bool:=w.parts.map fun p=>ak2 p d
theorem Jx{h:Aa}{b:Nat}(hb:b<h.length)(l:Aa)(c:CB):(h++l).set b c=h.set b c++l:=List.set_append_left _ _ hb
theorem Am{h:Aa}{b:Nat}{c:CB}(e:h[b]?=some c):b<h.length:=(ap7.1 e).1
theorem Ji{h:Aa}{b:Nat}(c:CB)(l:Aa):(h.set b c++l)[h.length]?=l[0]?:=by
 rw[ax9 (by simp)];simp
theorem Hf{h:Aa}{b:Nat}(c:CB)(l:Aa)(k:Nat):(h.set b c++l)[h.length+k]?=l[k]?:=by
 rw[ax9 (by simp)];simp
theorem ayE{h:Aa}{b b':Nat}{x:CB}(c:CB)(hne:b≠b')(hb:h[b']?=some x)(l:Aa):(h.set b c++l)[b']?=some x:=by
 have hlt:b'<h.length:=(ap7.1 hb).1
 rw[atN (by simpa using hlt),ap8 hne];exact hb
def aIV(v:AV)(i:Nat)(rows:List (List AV))(h:Aa):Prop:=(i=0∧v=.nils)∨(0<i∧∃b,0<b∧v=.slr 1 b 0 i∧h[b]?=some (.live 1 true false rows))
theorem aFU(w:Bd)(d:Int)(hs:w.parts.length≤1000)(hne:w.parts≠[]):Fo.call (.fn 19) [.agg [.int .i64 w.rooms,.int .i64 w.need,Eg 9 true w.nn (w.parts.map Aj.cells)],.int .i64 d] []=some (.ret (.slr 1 0 0 w.parts.length),[.live 1 true false ((Oy w d).map bvv)]):=by
 (refine ce Tryd.func19 ?_;simp only[Tryd.f19];(have hb:=trivial;with_reducible repeat' (first|simp only[hb,Va.down,seval,aBD.down,aoC]|refine Dp ?_ ?_<;>intro hb|refine fd ?_|fail)))
 refine ai2 (lst 35 w.parts (fun i (zz:List Bool) t h=>t 1=.int .i64 d∧t 2=.ptr 0 0 0∧t 6=.int .i64 i∧(h[0]?=some (.live 3 false false [[.int .i64 w.rooms,.int .i64 w.need,Eg 9 true w.nn (w.parts.map Aj.cells)]])∧zz.length=i∧aIV (t 5) i (zz.map bvv) h)) (fun rest zz=>zz++rest.map (fun p=>ak2 p d)) (fun r e t h=>e=.exit 0∧aIV (t 5) w.parts.length (r.map bvv) h) ?_ ?_ ([]) _ _ ?_) (fun e t h hk=>?_)
 ·rintro a t h Q' kQ ⟨h1,h2,h6,⟨hA,hp,hc⟩⟩
  (have hb:=trivial;with_reducible repeat' (first|simp only[hb,Va.down,seval,aBD.down,h1,h2,h6,arW,decide_false,hA,aoC]|refine Dp ?_ ?_<;>intro hb|refine fd ?_|fail))
  exact kQ _ _ _ ⟨rfl,by simpa [up]using hc⟩
 ·rintro x rest i a t h J Q' kJ kQ hx hi ⟨h1,h2,h6,⟨hA,hp,hc⟩⟩
  have hd:decide ((i:Int)<(w.parts.length:Int))=true:=decide_eq_true (by omega)
  have hw:=Iy hi (by unfold maxLen;omega)
  have hV:=av0 x d
  have htb:ak2 x d=(Jv x d==0&& !x.opn):=rfl
  have hA1:=An hA
  have h0l:0<h.length:=(ap7.1 hA).1
  generalize Jv x d=cx at *
  rcases hc with⟨rfl,ho⟩|⟨h0,b,hb0,ho,hb⟩
  ·simp only[Int.natCast_zero]at hd
   obtain rfl:a=[]:=aBG.1 hp
   cases hq:(cx==0)
   all_goals (have hb:=trivial;with_reducible repeat' (first|simp only[hb,Va.down,seval,aBD.down,h1,h2,h6,ho,hd,hw,hx,hA,hA1,hV,hq,Aj.cells,aoC]|refine Dp ?_ ?_<;>intro hb|refine fd ?_|fail))
   all_goals (refine Fg (kJ _ _ [ak2 x d] ⟨?_,?_,?_,⟨hA1 _,rfl,.inr ⟨by omega,h.length+1,by omega,by simp[up],by rw[aFS];simp[bvv,htb,hq]⟩⟩⟩ ?_);(simp[up,h1]);(simp[up,h2]);(simp[up]);(simp))
  ·have hbl:b<h.length:=(ap7.1 hb).1
   have hB:=An hb
   have hS:=Jx hbl
   have hi39:(i+1≤549755813888)=True:=eq_true (by omega)
   cases hq:(cx==0)
   all_goals (have hb:=trivial;with_reducible repeat' (first|simp only[hb,Va.down,seval,aBD.down,h1,h2,h6,ho,hd,hw,hx,hA,hA1,hV,hq,Aj.cells,aoC,hB,hS,Ji,Hf,ayD,hp,hi39]|refine Dp ?_ ?_<;>intro hb|refine fd ?_|fail))
   all_goals (refine Fg (kJ _ _ (a++[ak2 x d]) ⟨?_,?_,?_,⟨ayE _ (by omega) hA _,by simp[hp],.inr ⟨by omega,h.length+1,by omega,by simp[up],by rw[Hf];simp[bvv,htb,hq]⟩⟩⟩ ?_);(simp[up,h1]);(simp[up,h2]);(simp[up]);(simp))
 ·exact⟨by simp[up,ent],by simp[up,ent],by simp[up],⟨rfl,rfl,.inl ⟨rfl,by simp[up]⟩⟩⟩
 obtain⟨rfl,⟨hn,ho⟩|⟨hn,b,hb0,ho,hb⟩⟩:=hk
 ·exact(hne (aBG.1 hn)).elim
 ·(with_reducible repeat' (first|simp only[hb,Va.down,seval,aBD.down,ho,hb]|refine Dp ?_ ?_<;>intro hb|refine fd ?_|fail))
  rfl
def edg(w:Bd)(ts:List Bool):List Net.Edge:=List.zipWith (fun p t=>(p.one.toNat,p.other.toNat,if t=true then 1 else 0)) w.parts ts
structure WOk(w:Bd)(N:Nat):Prop where
 rooms:w.rooms=(N:Int)
 n2:2≤N
 n8:N≤8
 len:w.parts.length≤1000
 ne:w.parts≠[]
 part:∀p∈w.parts,(0≤p.one∧p.one<(N:Int))∧(0≤p.other∧p.other<(N:Int))∧p.one≠p.other
theorem ayA{w:Bd}{ts:List Bool}{i:Nat}{e:Net.Edge}(h:(edg w ts)[i]?=some e):∃p t,w.parts[i]?=some p∧ts[i]?=some t∧e=(p.one.toNat,p.other.toNat,if t=true then 1 else 0):=by
 unfold edg at h
 rw[List.getElem?_zipWith]at h
 cases h1:w.parts[i]? with
 |none=>simp[h1]at h
 |some p=>
  cases h2:ts[i]? with
  |none=>simp[h1,h2]at h
  |some t=>simp[h1,h2]at h;exact⟨p,t,rfl,rfl,h.symm⟩
theorem atM{w:Bd}{N:Nat}(hw:WOk w N)(ts:List Bool):EOk (edg w ts) N:=fun a b c h=>by
 obtain⟨i,hi⟩:=List.getElem?_of_mem h
 obtain⟨p,t,h1,_,he⟩:=ayA hi
 cases he
 have:=hw.part p (azU h1)
 refine⟨by omega,by omega,by omega,?_⟩
 split<;>omega
theorem aG2{w:Bd}{ts:List Bool}(h:ts.length=w.parts.length):(edg w ts).length=w.parts.length:=by simp[edg,h]
theorem atA{d:List Nat}{a:Nat}(h:a<d.length):(d.map Ho)[a]?=some [.int .i64 (d.getD a 0:Nat)]:=by
 rw[aE5,at6 h,awT,at6 h];rfl
theorem aFC{N:Nat}(h:2≤N):Do N 0 1000=0::aoD (N-1) 1000:=by
 obtain⟨n,rfl⟩:∃n,N=n+1:=⟨N-1,by omega⟩
 simp[Do,aFG]
theorem aA6(x y:Nat):(if(x:Int)<(y:Int)then(x:Int)else(y:Int))=((min y x:Nat):Int):=by split<;>omega
theorem avT{w:Bd}{N:Nat}(hw:WOk w N){ts:List Bool}{nn:Bool}(ht:ts.length=w.parts.length):
 ∃f,Fo.call (.fn 42) [.agg [.int .i64 w.rooms,.int .i64 w.need,Eg 9 true w.nn (w.parts.map Aj.cells)],Eg 1 true nn (ts.map bvv)] []=some (.ret (.slr 1 0 0 N),[.live 1 true f ((Ju (edg w ts) N (Do N 0 1000)).map Ho)]):=by
 have key:ClQ Fo 42 [.agg [.int .i64 w.rooms,.int .i64 w.need,Eg 9 true w.nn (w.parts.map Aj.cells)],Eg 1 true nn (ts.map bvv)] [] fun o h'=>∃f,(o,h')=(.ret (.slr 1 0 0 N),[.live 1 true f ((Ju (edg w ts) N (Do N 0 1000)).map Ho)]):=by
  have hr:=hw.rooms
  have n2:=hw.n2
  have n8:=hw.n8
  have hE:=atM hw ts
  have hEl:=aG2 ht
  generalize hEE:edg w ts=E at *
  refine aJR rfl Tryd.func42 rfl rfl ?_
  simp only[Tryd.f42]
  simp only[hr]
  (have hb:=trivial;with_reducible repeat' (first|simp only[hb,Va.down,seval,aqR.down,aoC]|refine Dp ?_ ?_<;>intro hb|refine fd ?_|fail))
  refine ai2 (lst 80 (aoD (N-1) ()) (fun i (_:Unit) t h=>t 1=Eg 1 true nn (ts.map bvv)∧t 2=.ptr 0 0 0∧t 6=.int .i64 ((i+1:Nat):Int)∧h[0]?=some (.live 3 false false [[.int .i64 (N:Int),.int .i64 w.need,Eg 9 true w.nn (w.parts.map Aj.cells)]])∧∃b,0<b∧t 5=.slr 1 b 0 (i+1)∧h[b]?=some (.live 1 true false ((0::aoD i 1000).map Ho))) (fun _ _=>())
   (fun _ e t h=>e=.exit 0∧t 1=Eg 1 true nn (ts.map bvv)∧t 2=.ptr 0 0 0∧h[0]?=some (.live 3 false false [[.int .i64 (N:Int),.int .i64 w.need,Eg 9 true w.nn (w.parts.map Aj.cells)]])∧∃b,0<b∧t 5=.slr 1 b 0 N∧h[b]?=some (.live 1 true false ((Do N 0 1000).map Ho))) ?_ ?_ () _ _ ?_) (fun e t h hk=>?_)
  ·rintro _ t h Q' kQ ⟨h1,h2,h6,h0,b,hb0,h5,hvb⟩
   rw[awB,show N-1+1=N by omega]at h6 h5
   rw[awB]at hvb
   (have hb:=trivial;with_reducible repeat' (first|simp only[hb,Va.down,seval,aqR.down,h1,h2,h6,h0,h5,arW,decide_false]|refine Dp ?_ ?_<;>intro hb|refine fd ?_|fail))
   exact kQ _ _ _ ⟨rfl,by simp[up,h1],by simp[up,h2],h0,b,hb0,by simp[up,h5],by rw[aFC n2];exact hvb⟩
  ·rintro x rest i _ t h J Q' kJ kQ hx hi ⟨h1,h2,h6,h0,b,hb0,h5,hvb⟩
   rw[awB]at hi
   have hdd:decide (((i+1:Nat):Int)<(N:Int))=true:=decide_eq_true (by omega)
   have hww:IntKind.i64.wrap (((i+1:Nat):Int)+1)=((i+1+1:Nat):Int):=by rw[Ia (by omega) (by omega)];omega
   have hbl:=Am hvb
   have hB:=An hvb
   have hS:=Jx hbl
   have hA1:=An h0
   have hi39:(i+1+1≤549755813888)=True:=eq_true (by omega)
   have hlr:((0::aoD i 1000).map Ho).length=i+1:=by simp
   (have hb:=trivial;with_reducible repeat' (first|simp only[hb,Va.down,seval,aqR.down,h1,h2,h6,h0,h5,hvb,hdd,hww,hB,hS,hA1,hi39,hlr,Ji,Hf,ayD]|refine Dp ?_ ?_<;>intro hb|refine fd ?_|fail))
   exact Fg (kJ _ _ () ⟨by simp[up,h1],by simp[up,h2],by simp[up];omega,ayE _ (by omega) h0 _,h.length+1,by omega,by simp[up],by rw[Hf];simp[Ho,List.replicate_succ']⟩ rfl)
  ·exact⟨by simp[up,ent],by simp[up],by simp[up],rfl,1,by omega,by simp[up],rfl⟩
  obtain⟨rfl,h1,h2,h0,b,hb0,h5,hvb⟩:=hk
  (have hb:=trivial;with_reducible repeat' (first|simp only[hb,Va.down,seval,aqR.down,h1,h2,h5]|refine Dp ?_ ?_<;>intro hb|refine fd ?_|fail))
  refine ai2 (lst 80 (aoD N ()) (fun k (_:Unit) t h=>t 1=Eg 1 true nn (ts.map bvv)∧t 2=.ptr 0 0 0∧t 5=.slr 1 b 0 N∧t 7=.int .i64 (k:Int)∧h[0]?=some (.live 3 false false [[.int .i64 (N:Int),.int .i64 w.need,Eg 9 true w.nn (w.parts.map Aj.cells)]])∧∃f,h[b]?=some (.live 1 true f ((Ju E k (Do N 0 1000)).map Ho))) (fun _ _=>())
   (fun _ e t h=>e=.exit 2∧t 5=.slr 1 b 0 N∧∃f,h[b]?=some (.live 1 true f ((Ju E N (Do N 0 1000)).map Ho))) ?_ ?_ () _ _ ?_) (fun e t h hk=>?_)
  ·rintro _ t h Q' kQ ⟨h1,h2,h5,h7,h0,f,hvb⟩
   rw[awB]at h7 hvb
   (have hb:=trivial;with_reducible repeat' (first|simp only[hb,Va.down,seval,aqR.down,h1,h2,h5,h7,h0,arW,decide_false]|refine Dp ?_ ?_<;>intro hb|refine fd ?_|fail))
   exact kQ _ _ _ ⟨rfl,by simp[up,h5],f,hvb⟩
  ·rintro x rest k _ t h J Q' kJ kQ hx hi ⟨h1,h2,h5,h7,h0,f,hvb⟩
   rw[awB]at hi
   have hdk:decide ((k:Int)<(N:Int))=true:=decide_eq_true (by omega)
   have hwk:IntKind.i64.wrap ((k:Int)+1)=((k+1:Nat):Int):=by rw[Ia (by omega) (by omega)];omega
   have hIk:=aqM (far:=1000) hE k (atI (E:=E) (N:=N) (s:=0) (far:=1000) (by omega))
   generalize hdk0:Ju E k (Do N 0 1000)=d0 at *
   (have hb:=trivial;with_reducible repeat' (first|simp only[hb,Va.down,seval,aqR.down,h1,h2,h5,h7,h0,hdk]|refine Dp ?_ ?_<;>intro hb|refine fd ?_|fail))
   refine ai2 (lst 80 E (fun i (_:Unit) t h=>t 1=Eg 1 true nn (ts.map bvv)∧t 2=.ptr 0 0 0∧t 5=.slr 1 b 0 N∧t 7=.int .i64 (k:Int)∧t 8=.int .i64 (i:Int)∧h[0]?=some (.live 3 false false [[.int .i64 (N:Int),.int .i64 w.need,Eg 9 true w.nn (w.parts.map Aj.cells)]])∧∃f,h[b]?=some (.live 1 true f (((E.take i).foldl Nn d0).map Ho))) (fun _ _=>())
    (fun _ e t h=>e=.exit 4∧t 1=Eg 1 true nn (ts.map bvv)∧t 2=.ptr 0 0 0∧t 5=.slr 1 b 0 N∧t 7=.int .i64 (k:Int)∧h[0]?=some (.live 3 false false [[.int .i64 (N:Int),.int .i64 w.need,Eg 9 true w.nn (w.parts.map Aj.cells)]])∧∃f,h[b]?=some (.live 1 true f ((aG8 E d0).map Ho))) ?_ ?_ () _ _ ?_) (fun e t h hk=>?_)
   ·rintro _ t h Q'' kQ ⟨h1,h2,h5,h7,h8,h0,f,hvb⟩
    rw[hEl]at h8
    rw[ar8 (Nat.le_refl _)]at hvb
    (have hb:=trivial;with_reducible repeat' (first|simp only[hb,Va.down,seval,aqR.down,h1,h2,h5,h8,h0,arW,decide_false,aoC]|refine Dp ?_ ?_<;>intro hb|refine fd ?_|fail))
    exact kQ _ _ _ ⟨rfl,by simp[up,h1],by simp[up,h2],by simp[up,h5],by simp[up,h7],h0,f,hvb⟩
   ·rintro e rest i _ t h J' Q'' kJ kQ hx hi ⟨h1,h2,h5,h7,h8,h0,f,hvb⟩
    rw[hEl]at hi
    obtain⟨p,tt,hp,htt,he⟩:=ayA (w:=w) (ts:=ts) (by rw[hEE];exact hx)
    have hpo:=hw.part p (azU hp)
    have hdi:decide ((i:Int)<(w.parts.length:Int))=true:=decide_eq_true (by omega)
    have hlen:=hw.len
    have hwi:IntKind.i64.wrap ((i:Int)+1)=((i+1:Nat):Int):=by rw[Ia (by omega) (by omega)];omega
    have hI:=axM (L:=E.take i) (fun e hm=>List.mem_of_mem_take hm) hE hIk
    have htk:(E.take (i+1)).foldl Nn d0=Nn ((E.take i).foldl Nn d0) e:=by rw[aFH,hx];simp[List.foldl_append]
    generalize hdd0:(E.take i).foldl Nn d0=d at *
    have hdl:=hI.len
    have hra:d[p.one.toNat]?=some (d.getD p.one.toNat 0):=by rw[awT,at6 (by omega)];rfl
    have hrb:d[p.other.toNat]?=some (d.getD p.other.toNat 0):=by rw[awT,at6 (by omega)];rfl
    have o1:(0≤p.one)=True:=eq_true hpo.1.1
    have o2:(p.one<(N:Int))=True:=eq_true hpo.1.2
    have o3:(0≤p.other)=True:=eq_true hpo.2.1.1
    have o4:(p.other<(N:Int))=True:=eq_true hpo.2.1.2
    have la:=hI.le p.one.toNat (by omega)
    have lb:=hI.le p.other.toNat (by omega)
    have hab:p.one.toNat≠p.other.toNat:=by have:=hpo.2.2;omega
    have htk2:(E.take (i+1)).foldl Nn d0=(d.set p.other.toNat (min (d.getD p.other.toNat 0) (d.getD p.one.toNat 0+if tt=true then 1 else 0))).set p.one.toNat (min (d.getD p.one.toNat 0) (d.getD p.other.toNat 0+if tt=true then 1 else 0)):=by rw[htk,he];rfl
    clear htk
    generalize d.getD p.one.toNat 0=da at *
    generalize d.getD p.other.toNat 0=db at *
    have hrr:∀r,((d.map Ho).set p.other.toNat r)[p.one.toNat]?=some [.int .i64 (da:Nat)]:=fun r=>by rw[ap8 (fun e=>hab e.symm),aE5,hra];rfl
    have hbl:=Am hvb
    have hsb:∀c,(h.set b c)[b]?=some c:=fun c=>asO hbl
    have hss:∀c c',(h.set b c).set b c'=h.set b c':=fun c c'=>azX ..
    have w0:∀n:Nat,n≤1000→IntKind.i64.wrap ((n:Int)+0)=(n:Int):=fun n hn=>by rw[Ia (by omega) (by omega)];omega
    have w1:∀n:Nat,n≤1000→IntKind.i64.wrap ((n:Int)+1)=((n+1:Nat):Int):=fun n hn=>by rw[Ia (by omega) (by omega)];omega
    have w0a:=w0 da la
    have w0b:=w0 db lb
    have w1a:=w1 da la
    have w1b:=w1 db lb
    cases tt with
    |false=>
     (have hb:=trivial;with_reducible repeat' (first|simp only[hb,Va.down,seval,aqR.down,h1,h2,h5,h8,h0,hvb,hdi,hwi,hp,htt,hra,hrb,hrr,o1,o2,o3,o4,hsb,hss,w0a,w0b,bvv,Ho,Aj.cells,aoC]|refine Dp ?_ ?_<;>intro hb|refine fd ?_|fail))
     refine Fg (kJ _ _ () ⟨by simp[up,h1],by simp[up,h2],by simp[up,h5],by simp[up,h7],by simp[up],by rw[ap8 (by omega)];exact h0,true,?_⟩ rfl)
     rw[asO hbl,htk2,awW,awW]
     simp only[Ho,aA6,aFI,if_false,if_true,Nat.add_zero]
    |true=>
     (have hb:=trivial;with_reducible repeat' (first|simp only[hb,Va.down,seval,aqR.down,h1,h2,h5,h8,h0,hvb,hdi,hwi,hp,htt,hra,hrb,hrr,o1,o2,o3,o4,hsb,hss,w1a,w1b,bvv,Ho,Aj.cells,aoC]|refine Dp ?_ ?_<;>intro hb|refine fd ?_|fail))
     refine Fg (kJ _ _ () ⟨by simp[up,h1],by simp[up,h2],by simp[up,h5],by simp[up,h7],by simp[up],by rw[ap8 (by omega)];exact h0,true,?_⟩ rfl)
     rw[asO hbl,htk2,awW,awW]
     simp only[Ho,aA6,aFI,if_false,if_true,Nat.add_zero]
   ·exact⟨by simp[up,h1],by simp[up,h2],by simp[up,h5],by simp[up,h7],by simp[up],h0,f,hvb⟩
   obtain⟨rfl,h1,h2,h5,h7,h0,f,hvb⟩:=hk
   (have hb:=trivial;with_reducible repeat' (first|simp only[hb,Va.down,seval,aqR.down,h1,h2,h5,h7,hwk]|refine Dp ?_ ?_<;>intro hb|refine fd ?_|fail))
   exact Fg (kJ _ _ () ⟨by simp[up,h1],by simp[up,h2],by simp[up,h5],by simp[up],h0,f,by rw[anY,hdk0];exact hvb⟩ rfl)
  ·exact⟨by simp[up,h1],by simp[up,h2],by simp[up,h5],by simp[up],h0,false,hvb⟩
  obtain⟨rfl,h5,f,hvb⟩:=hk
  have hlr:((Ju E N (Do N 0 1000)).map Ho).length=N:=by simp[aqF,Do]
  (have hb:=trivial;with_reducible repeat' (first|simp only[hb,Va.down,seval,aqR.down,h5,hvb]|refine Dp ?_ ?_<;>intro hb|refine fd ?_|fail))
  exact⟨f,rfl⟩
 obtain⟨o,h',hc,f,e⟩:=key
 cases e
 exact⟨f,hc⟩
theorem aIT{w:Bd}{N:Nat}(hw:WOk w N)(E:List Net.Edge):(Ju E N (Do N 0 1000)).length=N:=by rw[aqF];simp[Do]
theorem aGS{w:Bd}{N:Nat}(hw:WOk w N){ts:List Bool}{nn:Bool}(ht:ts.length=w.parts.length):
 Fo.call (.fn 41) [.agg [.int .i64 w.rooms,.int .i64 w.need,Eg 9 true w.nn (w.parts.map Aj.cells)],Eg 1 true nn (ts.map bvv)] []=some (.ret (.int .i64 (az6 (edg w ts) N w.parts.length:Nat)),[]):=by
 obtain⟨f,hD⟩:=avT hw (nn:=nn) ht
 have hl:=aIT hw (edg w ts)
 have n2:=hw.n2
 have hlen:=hw.len
 unfold az6
 generalize Ju (edg w ts) N (Do N 0 1000)=d at *
 have hd:d[1]?=some (d.getD 1 0):=by rw[awT,at6 (by omega)];rfl
 generalize d.getD 1 0=x at *
 have h1N:((1:Int)<(N:Int))=True:=eq_true (by omega)
 have hwl:IntKind.i64.wrap ((w.parts.length:Int)+1)=((w.parts.length+1:Nat):Int):=by rw[Ia (by omega) (by omega)];omega
 have hln:((d.map Ho).length=N):=by simp[hl]
 by_cases hx:1000≤x
 ·have hge:decide ((1000:Int)≤(x:Int))=true:=decide_eq_true (by omega)
  rw[if_pos hx]
  (refine ce Tryd.func41 ?_;simp only[Tryd.f41];(have hb:=trivial;with_reducible repeat' (first|simp only[hb,Va.down,seval,aNW.down,hD,hd,h1N,hge,hwl,Ho,aoC]|refine Dp ?_ ?_<;>intro hb|refine fd ?_|fail)))
 ·have hge:decide ((1000:Int)≤(x:Int))=false:=decide_eq_false (by omega)
  rw[if_neg hx]
  (refine ce Tryd.func41 ?_;simp only[Tryd.f41];(have hb:=trivial;with_reducible repeat' (first|simp only[hb,Va.down,seval,aNW.down,hD,hd,h1N,hge,hwl,Ho,aoC]|refine Dp ?_ ?_<;>intro hb|refine fd ?_|fail)))
theorem aqO(w:Bd)(d:Int):(Oy w d).length=w.parts.length:=by simp[Oy]
def ay3(w:Bd)(N:Nat)(d:Int):Nat:=az6 (edg w (Oy w d)) N w.parts.length
theorem aBX{w:Bd}{N:Nat}(hw:WOk w N)(d:Int):
 Fo.call (.fn 27) [.agg [.int .i64 w.rooms,.int .i64 w.need,Eg 9 true w.nn (w.parts.map Aj.cells)],.int .i64 d] []=some (.ret (.int .i64 (ay3 w N d:Nat)),[]):=by
 have h1:=aFU w d hw.len hw.ne
 have h2:=aGS hw (nn:=true) (aqO w d)
 rw[aD5]at h2
 have hl:=aqO w d
 have htk:as0 w.parts.length ((Oy w d).map bvv)=(Oy w d).map bvv:=ar8 (by simp[hl])
 (refine ce Tryd.func27 ?_;simp only[Tryd.f27];(have hb:=trivial;with_reducible repeat' (first|simp only[hb,Va.down,seval,aP4.down,h1,h2,hl,htk]|refine Dp ?_ ?_<;>intro hb|refine fdl ?_|fail)))
 rfl
theorem aOI(b:Bool):Fo.call (.fn 59) [.bool b] []=some (.ret (.int .i64 (if b=true then 1 else 0)),[]):=by
 cases b<;>(refine ce Tryd.func59 ?_;simp only[Tryd.f59];(have hb:=trivial;with_reducible repeat' (first|simp only[hb,Va.down,seval]|refine Dp ?_ ?_<;>intro hb|refine fd ?_|fail)))
theorem aHA(c:Int)(o:Bool):Fo.call (.fn 37) [.agg [.int .i64 c,.bool o]] []=some (.ret (.bool (c==0&& !o)),[]):=by
 cases hc:(c==0)<;>(refine ce Tryd.func37 ?_;simp only[Tryd.f37];(have hb:=trivial;with_reducible repeat' (first|simp only[hb,Va.down,seval,aP5.down,hc]|refine Dp ?_ ?_<;>intro hb|refine fd ?_|fail)))
theorem aq1(b r o:Nat)(i:Int):ia Tryd.prog 75 (some (.ptr b r o)) (some (.int .i64 i))=if 0≤i∧i<12 then some (.ret (.ptr b r (o+i.toNat*2)),[])else none:=by
 have h:Et Tryd.prog 75 (.ptr b r o) (.int .i64 i)=if 0≤i∧i<12 then some (.ptr b r (o+i.toNat*2))else none:=by
  unfold Et
  simp only[Tryd.underlying75]
  have hz:Js Tryd.prog 73=some 2:=by kernel_rfl
  rw[hz]
  simp
 simp only[ia,Option.bind_some,h]
 split<;>rfl
def Cm(w:Bd)(d:Int):List (Int × Bool):=w.parts.map (fun p=>(Jv p d,p.opn))++aoD (12-w.parts.length) (0,false)
def Hq(l:List (Int × Bool)):List AV:=l.flatMap fun x=>[.int .i64 x.1,.bool x.2]
theorem adS(l:List (Int × Bool)):(Hq l).length=2*l.length:=by
 induction l with
 |nil=>rfl
 |cons x l ih=>simp[Hq]at ih ⊢;omega
theorem avX:∀(L:List (Int × Bool)) (i:Nat) (a:Int) (b b':Bool),L[i]?=some (a,b)→as0 (i*2+1) (Hq L)++([.bool b']++aAS (i*2+2) (Hq L))=Hq (L.set i (a,b'))
 | [],i,a,b,b',h=>by simp at h
 |x::L,0,a,b,b',h=>by simp at h;subst h;simp[Hq]
 |x::L,i+1,a,b,b',h=>by
  have ih:=avX L i a b b' (by simpa using h)
  rw[show(i+1)*2+1=(i*2+1)+1+1 by omega,show(i+1)*2+2=(i*2+2)+1+1 by omega]
  simp only[Hq,aAT,aAU,aAV,aFJ,aFK,aFL]at ih ⊢
  rw[←ih]
theorem avM:∀(L:List (Int × Bool)) (i:Nat) (a a':Int) (b:Bool),L[i]?=some (a,b)→as0 (i*2) (Hq L)++([.int .i64 a']++aAS (i*2+1) (Hq L))=Hq (L.set i (a',b))
 | [],i,a,a',b,h=>by simp at h
 |x::L,0,a,a',b,h=>by simp at h;subst h;simp[Hq]
 |x::L,i+1,a,a',b,h=>by
  have ih:=avM L i a a' b (by simpa using h)
  rw[show(i+1)*2=(i*2)+1+1 by omega,show(i*2)+1+1+1=(i*2+1)+1+1 by omega]
  simp only[Hq,aAT,aAU,aAV,aFJ,aFK,aFL]at ih ⊢
  rw[←ih]
def pcI(w:Bd)(d:Int)(i:Nat):List (Int × Bool):=(w.parts.take i).map (fun p=>(Jv p d,p.opn))++aoD (12-i) (0,false)
theorem aK5{w:Bd}{d:Int}{i:Nat}(hi:i<w.parts.length)(h12:w.parts.length≤12):(pcI w d i)[i]?=some (0,false):=by
 have hl:((w.parts.take i).map fun p=>(Jv p d,p.opn)).length=i:=by rw[aoC,aFM];omega
 unfold pcI
 rw[ax9 (by omega),hl,Nat.sub_self,List.getElem?_replicate,if_pos (by omega)]
theorem aA7{w:Bd}{d:Int}{i:Nat}{p:Aj}(hx:w.parts[i]?=some p)(h12:w.parts.length≤12):(pcI w d i).set i (Jv p d,p.opn)=pcI w d (i+1):=by
 have hi:i<w.parts.length:=(ap7.1 hx).1
 have hl:((w.parts.take i).map fun p=>(Jv p d,p.opn)).length=i:=by rw[aoC,aFM];omega
 unfold pcI
 rw[List.set_append_right _ _ (by omega),hl,Nat.sub_self,aFH,hx]
 have e:12-i=(12-(i+1))+1:=by omega
 rw[e,aFG]
 simp
theorem aDL(w:Bd)(d:Int)(wf:Bool)(h12:w.parts.length≤12):Fo.call (.fn 35) [.ptr 0 0 0] [.live 4 false wf [[.int .i64 w.rooms,.int .i64 w.need,Eg 9 true w.nn (w.parts.map Aj.cells),.int .i64 d]]]=some (.ret (.agg (Hq (Cm w d))),[.live 4 false wf [[.int .i64 w.rooms,.int .i64 w.need,Eg 9 true w.nn (w.parts.map Aj.cells),.int .i64 d]]]):=by
 refine ce Tryd.func35 ?_
 simp only[Tryd.f35]
 (have hb:=trivial;with_reducible repeat' (first|simp only[hb,Va.down,seval,aH1.down,aoC]|refine Dp ?_ ?_<;>intro hb|refine fd ?_|fail))
 refine ai2 (lst 44 w.parts (fun i (_:Unit) t h=>t 0=.ptr 0 0 0∧t 2=.ptr 1 0 0∧t 3=.ptr 2 0 0∧t 10=Eg 9 true w.nn (w.parts.map Aj.cells)∧t 11=.int .i64 (w.parts.length:Nat)∧t 12=.int .i64 (i:Int)∧h[0]?=some (.live 4 false wf [[.int .i64 w.rooms,.int .i64 w.need,Eg 9 true w.nn (w.parts.map Aj.cells),.int .i64 d]])∧h[1]?=some (.live 24 true false [Hq (aoD 12 (0,false))])∧∃f,h[2]?=some (.live 24 true f [Hq (pcI w d i)])) (fun _ _=>())
  (fun _ e t h=>e=.exit 0∧t 2=.ptr 1 0 0∧t 3=.ptr 2 0 0∧h[0]?=some (.live 4 false wf [[.int .i64 w.rooms,.int .i64 w.need,Eg 9 true w.nn (w.parts.map Aj.cells),.int .i64 d]])∧h[1]?=some (.live 24 true false [Hq (aoD 12 (0,false))])∧∃f,h[2]?=some (.live 24 true f [Hq (pcI w d w.parts.length)])) ?_ ?_ () _ _ ?_) (fun e t h hk=>?_)
 ·rintro _ t h Q' kQ ⟨h0,h2,h3,h10,h11,h12',hA,hB,f,hC⟩
  (have hb:=trivial;with_reducible repeat' (first|simp only[hb,Va.down,seval,aH1.down,h11,h12',arW,decide_false]|refine Dp ?_ ?_<;>intro hb|refine fd ?_|fail))
  exact kQ _ _ _ ⟨rfl,by simp[up,h2],by simp[up,h3],hA,hB,f,hC⟩
 ·rintro p rest i _ t h J Q' kJ kQ hx hi ⟨h0,h2,h3,h10,h11,h12',hA,hB,f,hC⟩
  have hdd:decide ((i:Int)<(w.parts.length:Int))=true:=decide_eq_true (by omega)
  have hww:=Iy hi (by unfold maxLen;omega)
  have hA1:=An hA
  have hC1:=An hC
  have hl2:=Am hC
  have i1:((i:Int)<12)=True:=eq_true (by omega)
  have hpl:(Hq (pcI w d i)).length=24:=by rw[adS];simp[pcI];omega
  have hS:=Jx hl2
  have i2:(i*2≤22)=True:=eq_true (by omega)
  have i3:(i*2≤23)=True:=eq_true (by omega)
  have hat:=aK5 (d:=d) hi h12
  have hnx:=aA7 (d:=d) hx h12
  generalize hL:pcI w d i=L at *
  have s1:=avX L i 0 false p.opn hat
  have tk1:as0 (23-i*2) [AV.bool p.opn]=[AV.bool p.opn]:=ar8 (by simp;omega)
  have hat2:(L.set i (0,p.opn))[i]?=some (0,p.opn):=asO (by have:=(ap7.1 hat).1;exact this)
  have s2:=fun v=>avM (L.set i (0,p.opn)) i 0 v p.opn hat2
  have tk2:∀v,as0 (24-i*2) [AV.int .i64 v]=[AV.int .i64 v]:=fun v=>ar8 (by simp;omega)
  simp only[aAU,aAV]at s1 s2
  have hpl2:(Hq (L.set i (0,p.opn))).length=24:=by rw[adS]at hpl ⊢;simpa using hpl
  have hg2:∀c l,(h.set 2 c++l)[2]?=some c:=fun c l=>by rw[atN (by simpa using hl2),asO hl2]
  have hg0:∀c l,(h.set 2 c++l)[0]?=h[0]?:=fun c l=>by rw[atN (by simp;omega),ap8 (by omega)]
  have hg1:∀c l,(h.set 2 c++l)[1]?=h[1]?:=fun c l=>by rw[atN (by simp;omega),ap8 (by omega)]
  have hgs:∀c l c',(h.set 2 c++l).set 2 c'=h.set 2 c'++l:=fun c l c'=>by rw[Jx (by simpa using hl2),azX]
  have ss2:∀v:Int,(L.set i (0,p.opn)).set i (v,p.opn)=L.set i (v,p.opn):=fun v=>azX ..
  have nx:∀(v:Int) (t':Tm) (l':Aa),Jv p d=v→t' 0=.ptr 0 0 0∧t' 2=.ptr 1 0 0∧t' 3=.ptr 2 0 0∧t' 10=Eg 9 true w.nn (w.parts.map Aj.cells)∧t' 11=.int .i64 (w.parts.length:Nat)∧t' 12=.int .i64 ((i+1:Nat):Int)→J t' (h.set 2 (.live 24 true true [Hq (L.set i (v,p.opn))])++l'):=fun v t' l' hv ht=>by
   rw[←hv,hnx]
   exact kJ _ _ () ⟨ht.1,ht.2.1,ht.2.2.1,ht.2.2.2.1,ht.2.2.2.2.1,ht.2.2.2.2.2,by rw[hg0];exact hA,by rw[hg1];exact hB,true,hg2 _ _⟩ rfl
  (have hb:=trivial;with_reducible repeat' (first|simp only[hb,Va.down,seval,aH1.down,h0,h2,h3,h10,h11,h12',hdd,hww,hx,hA,hA1,hC,hC1,hS,aq1,i1,i2,i3,hpl,hpl2,s1,s2,tk1,tk2,ss2,hg2,hg0,hg1,hgs,Ji,Hf,ayD,Aj.cells]|refine Dp ?_ ?_<;>intro hb|refine fd ?_|fail))
  ·refine Fg (nx 2 _ _ (by simp[Jv, *]) ⟨by simp[up,h0],by simp[up,h2],by simp[up,h3],by simp[up,h10],by simp[up,h11],by simp[up]⟩)
  ·refine Fg (nx 1 _ _ (by simp[Jv];simp_all) ⟨by simp[up,h0],by simp[up,h2],by simp[up,h3],by simp[up,h10],by simp[up,h11],by simp[up]⟩)
  ·refine Fg (nx 0 _ _ (by simp[Jv];simp_all) ⟨by simp[up,h0],by simp[up,h2],by simp[up,h3],by simp[up,h10],by simp[up,h11],by simp[up]⟩)
 ·exact⟨by simp[up,ent],by simp[up],by simp[up],by simp[up],by simp[up],by simp[up],rfl,rfl,false,rfl⟩
 obtain⟨rfl,h2,h3,hA,hB,f,hC⟩:=hk
 have hL:pcI w d w.parts.length=Cm w d:=by unfold pcI Cm;rw[ar8 (Nat.le_refl _)]
 rw[hL]at hC
 have hpl:(Hq (Cm w d)).length=24:=by rw[adS];simp[Cm];omega
 have hpz:(Hq (aoD 12 (0,false))).length=24:=by rw[adS];simp
 have htk:as0 24 (Hq (Cm w d))=Hq (Cm w d):=ar8 (by omega)
 have hl1:=Am hB
 generalize Hq (aoD 12 (0,false))=zs at *
 have hdz:aAS 24 zs=[]:=List.drop_eq_nil_iff.2 (by omega)
 have hcell:(Hq (Cm w d)).all AV.isCell=true:=by
  have:∀l:List (Int × Bool),(Hq l).all AV.isCell=true:=fun l=>by
   induction l with
   |nil=>rfl
   |cons x l ih=>simp only[Hq,aAT,List.all_append]at ih ⊢;rw[ih];rfl
  exact this _
 have hform:∀x∈Hq (Cm w d),(∃n,x=.int .i64 n)∨∃b,x=.bool b:=fun x hx=>by
  simp only[Hq,List.mem_flatMap,List.mem_cons,List.not_mem_nil,or_false]at hx
  obtain⟨y,_,rfl|rfl⟩:=hx
  ·exact .inl ⟨_,rfl⟩
  ·exact .inr ⟨_,rfl⟩
 have hflat:(Hq (Cm w d)).all AV.flat=true:=axS.2 fun x hx=>by rcases hform x hx with⟨n,rfl⟩|⟨b,rfl⟩<;>rfl
 have hrf:Bn.refL (Bn 7) [0] (Hq (Cm w d))=some (Hq (Cm w d),[0]):=Ez fun x hx=>by rcases hform x hx with⟨n,rfl⟩|⟨b,rfl⟩<;>rfl
 have hg1:∀c,(h.set 1 c)[1]?=some c:=fun c=>asO hl1
 have hg0:∀c,(h.set 1 c)[0]?=h[0]?:=fun c=>ap8 (by omega)
 generalize Hq (Cm w d)=ps at *
 (have hb:=trivial;with_reducible repeat' (first|simp only[hb,Va.down,seval,aH1.down,h2,h3,hA,hB,hC,hpl,hpz,htk,hdz,hcell,hflat,hrf,hg1,hg0]|refine Dp ?_ ?_<;>intro hb|refine fd ?_|fail))
def Pj(N:Int)(p:Aj):Bool:=Jj p.one 0 (IntKind.i64.wrap (N-1))&&Jj p.other 0 (IntKind.i64.wrap (N-1))&& !(p.one==p.other)&& !(p.opn&& !p.valve)&&aoK p.tested&&aoK p.valid&&Jj p.test 1 1000&&Jj p.change 1 1000
def ax5(w:Bd):Bool:=Jj w.rooms 2 8&&Jj w.need 0 12&&Jj (w.parts.length:Int) 1 12
def Jz(w:Bd):Bool:=ax5 w&&w.parts.all (Pj w.rooms)
theorem aJD(w:Bd)(hs:w.small):Fo.call (.fn 12) [.agg [.int .i64 w.rooms,.int .i64 w.need,Eg 9 true w.nn (w.parts.map Aj.cells)]] []=some (.ret (.bool (Jz w)),[]):=by
 have k1:=auF w.rooms 2 8
 have k2:=auF w.need 0 12
 have k3:=auF (w.parts.length:Int) 1 12
 have hh:ax5 w=(Jj w.rooms 2 8&&Jj w.need 0 12&&Jj (w.parts.length:Int) 1 12):=rfl
 unfold Jz
 generalize Jj w.rooms 2 8=c1 at *
 generalize Jj w.need 0 12=c2 at *
 generalize Jj (w.parts.length:Int) 1 12=c3 at *
 cases c1
 ·rw[hh]
  (refine ce Tryd.func12 ?_;simp only[Tryd.f12];(have hb:=trivial;with_reducible repeat' (first|simp only[hb,Va.down,seval,auR.down,k1,k2,k3,aoC]|refine Dp ?_ ?_<;>intro hb|refine fd ?_|fail)))
 cases c2
 ·rw[hh]
  (refine ce Tryd.func12 ?_;simp only[Tryd.f12];(have hb:=trivial;with_reducible repeat' (first|simp only[hb,Va.down,seval,auR.down,k1,k2,k3,aoC]|refine Dp ?_ ?_<;>intro hb|refine fd ?_|fail)))
 cases c3
 ·rw[hh]
  (refine ce Tryd.func12 ?_;simp only[Tryd.f12];(have hb:=trivial;with_reducible repeat' (first|simp only[hb,Va.down,seval,auR.down,k1,k2,k3,aoC]|refine Dp ?_ ?_<;>intro hb|refine fd ?_|fail)))
 rw[hh]
 simp only[Bool.and_self,Bool.true_and]
 (refine ce Tryd.func12 ?_;simp only[Tryd.f12];(have hb:=trivial;with_reducible repeat' (first|simp only[hb,Va.down,seval,auR.down,k1,k2,k3,aoC]|refine Dp ?_ ?_<;>intro hb|refine fd ?_|fail)))
 refine ai2 (lst 90 w.parts (fun i (zz:Unit) t h=>t 1=.ptr 0 0 0∧t 3=.int .i64 i∧(h[0]?=some (.live 3 false false [[.int .i64 w.rooms,.int .i64 w.need,Eg 9 true w.nn (w.parts.map Aj.cells)]]))) (fun rest zz=>rest.all (Pj w.rooms)) (fun r e t h=>(e=.exit 0∧r=true)∨(e=.ret∧t 2=.bool false∧r=false)) ?_ ?_ () _ _ ?_) (fun e t h hk=>?_)
 ·rintro _ t h Q' kQ ⟨h1,h3,hA⟩
  (have hb:=trivial;with_reducible repeat' (first|simp only[hb,Va.down,seval,auR.down,h1,h3,arW,decide_false,hA,aoC]|refine Dp ?_ ?_<;>intro hb|refine fd ?_|fail))
  exact kQ _ _ _ (.inl ⟨rfl,rfl⟩)
 ·rintro x rest i _ t h J Q' kJ kQ hx hi ⟨h1,h3,hA⟩
  have hd:decide ((i:Int)<(w.parts.length:Int))=true:=decide_eq_true (by omega)
  have hw:=Iy hi hs.parts
  have q1:=auF x.one 0 (IntKind.i64.wrap (w.rooms-1))
  have q2:=auF x.other 0 (IntKind.i64.wrap (w.rooms-1))
  have q4:=aBW x.tested
  have q5:=aBW x.valid
  have q6:=auF x.test 1 1000
  have q7:=auF x.change 1 1000
  have hp:Pj w.rooms x=(Jj x.one 0 (IntKind.i64.wrap (w.rooms-1))&&Jj x.other 0 (IntKind.i64.wrap (w.rooms-1))&& !(x.one==x.other)&& !(x.opn&& !x.valve)&&aoK x.tested&&aoK x.valid&&Jj x.test 1 1000&&Jj x.change 1 1000):=rfl
  have hA1:=An hA
  generalize Jj x.one 0 (IntKind.i64.wrap (w.rooms-1))=d1 at *
  generalize Jj x.other 0 (IntKind.i64.wrap (w.rooms-1))=d2 at *
  cases hq3:(x.one==x.other)
  all_goals rw[hq3]at hp
  all_goals generalize aoK x.tested=d4 at *
  all_goals generalize aoK x.valid=d5 at *
  all_goals generalize Jj x.test 1 1000=d6 at *
  all_goals generalize Jj x.change 1 1000=d7 at *
  all_goals (have hb:=trivial;with_reducible repeat' (first|simp only[hb,Va.down,seval,auR.down,h1,h3,hd,hx,hw,hA,hA1,q1,q2,hq3,q4,q5,q6,q7,Aj.cells,aoC]|refine Dp ?_ ?_<;>intro hb|refine fd ?_|fail))
  all_goals first|(refine kQ _ _ _ (.inr ⟨rfl,by simp[up],?_⟩);simp_all;done)|(refine Fg (kJ _ _ () ⟨?_,?_,hA1 _⟩ ?_);(simp[up,h1]);(simp[up]);(simp_all))
 ·exact⟨by simp[up,ent],by simp[up],rfl⟩
 rcases hk with⟨rfl,hr⟩|⟨rfl,h2,hr⟩
 ·rw[hr]
  (have hb:=trivial;with_reducible repeat' (first|simp only[hb,Va.down,seval,auR.down]|refine Dp ?_ ?_<;>intro hb|refine fd ?_|fail))
 ·rw[hr]
  (have hb:=trivial;with_reducible repeat' (first|simp only[hb,Va.down,seval,auR.down,h2]|refine Dp ?_ ?_<;>intro hb|refine fd ?_|fail))
theorem ayM{w:Bd}(h:Jz w=true):∃N,WOk w N∧w.parts.length≤12:=by
 simp only[Jz,ax5,Jj,aFN,decide_eq_true_eq,axS]at h
 obtain⟨⟨⟨⟨h1,h2⟩,h3,h4⟩,h5,h6⟩,h7⟩:=h
 refine⟨w.rooms.toNat,⟨by omega,by omega,by omega,by omega,fun e=>by rw[e]at h5;simp at h5,fun p hp=>?_⟩,by omega⟩
 have:=h7 p hp
 simp only[Pj,Jj,aFN,decide_eq_true_eq,Bool.not_eq_true',beq_eq_false_iff_ne]at this
 obtain⟨⟨⟨⟨⟨⟨⟨a1,a2⟩,a3⟩,_⟩,_⟩,_⟩,_⟩,_⟩:=this
 rw[Ia (by omega) (by omega)]at a1 a2
 refine⟨by omega,by omega,a3⟩
def idx{α:Type}(p:α→Bool):List α→Int→Int
 | [],_=> -1
 |x::l,i=>if p x=true then i else idx p l (i+1)
theorem ax1{α:Type}(p:α→Bool):∀(l:List α) (i:Int),0≤i→decide (0≤idx p l i)=l.any p
 | [],i,_=>rfl
 |x::l,i,h=>by
  unfold idx
  split
  ·rename_i hp;simp[h,hp]
  ·rename_i hp;rw[ax1 p l (i+1) (by omega)];simp[hp]
theorem aK0(p:Aj)(N:Int):Fo.call (.fn 66) [.agg [.int .i64 p.one,.int .i64 p.other,.bool p.valve,.bool p.opn,.int .i64 p.tested,.int .i64 p.valid,.bool p.bad,.int .i64 p.test,.int .i64 p.change],.int .i64 N] []=some (.ret (.bool (Pj N p)),[]):=by
 have q1:=asA p.one 0 (IntKind.i64.wrap (N-1))
 have q2:=asA p.other 0 (IntKind.i64.wrap (N-1))
 have q4:=asA p.tested 0 5000
 have q5:=asA p.valid 0 5000
 have q6:=asA p.test 1 1000
 have q7:=asA p.change 1 1000
 have hp:Pj N p=(Jj p.one 0 (IntKind.i64.wrap (N-1))&&Jj p.other 0 (IntKind.i64.wrap (N-1))&& !(p.one==p.other)&& !(p.opn&& !p.valve)&&Jj p.tested 0 5000&&Jj p.valid 0 5000&&Jj p.test 1 1000&&Jj p.change 1 1000):=rfl
 generalize Jj p.one 0 (IntKind.i64.wrap (N-1))=d1 at *
 generalize Jj p.other 0 (IntKind.i64.wrap (N-1))=d2 at *
 generalize Jj p.tested 0 5000=d4 at *
 generalize Jj p.valid 0 5000=d5 at *
 generalize Jj p.test 1 1000=d6 at *
 generalize Jj p.change 1 1000=d7 at *
 cases hq3:(p.one==p.other)
 all_goals rw[hq3]at hp
 all_goals rw[hp]
 all_goals (refine ce Tryd.func66 ?_;simp only[Tryd.f66];(have hb:=trivial;with_reducible repeat' (first|simp only[hb,Va.down,seval,aQQ.down,q1,q2,hq3,q4,q5,q6,q7]|refine Dp ?_ ?_<;>intro hb|refine fd ?_|fail)))
 all_goals simp_all
theorem aGE(w:Bd)(x:Aj):Fo.call (.fn 65) [.agg [.int .i64 x.one,.int .i64 x.other,.bool x.valve,.bool x.opn,.int .i64 x.tested,.int .i64 x.valid,.bool x.bad,.int .i64 x.test,.int .i64 x.change],.ptr 0 0 0] [.live 3 false false [[.int .i64 w.rooms,.int .i64 w.need,Eg 9 true w.nn (w.parts.map Aj.cells)]]]=some (.ret (.bool (!Pj w.rooms x)),[.live 3 false false [[.int .i64 w.rooms,.int .i64 w.need,Eg 9 true w.nn (w.parts.map Aj.cells)]]]):=by
 have h:=aK0 x w.rooms
 (refine ce Tryd.func65 ?_;simp only[Tryd.f65];(have hb:=trivial;with_reducible repeat' (first|simp only[hb,Va.down,seval,aP6.down,h]|refine Dp ?_ ?_<;>intro hb|refine fd ?_|fail)))
theorem az7{l:List Aj}{nn:Bool}{g:Nat}{mm:Bd}{p:Aj→Bool}(hp:∀x∈l,Fo.call (.fn g) (.agg [.int .i64 x.one,.int .i64 x.other,.bool x.valve,.bool x.opn,.int .i64 x.tested,.int .i64 x.valid,.bool x.bad,.int .i64 x.test,.int .i64 x.change]::[.ptr 0 0 0]) [.live 3 false false [[.int .i64 mm.rooms,.int .i64 mm.need,Eg 9 true mm.nn (mm.parts.map Aj.cells)]]]=some (.ret (.bool (p x)),[.live 3 false false [[.int .i64 mm.rooms,.int .i64 mm.need,Eg 9 true mm.nn (mm.parts.map Aj.cells)]]]))(hl:l.length≤maxLen):
 Fo.call (.fn 83) [Eg 9 true nn (l.map Aj.cells),.func (.func g) [] [.ptr 0 0 0]] [.live 3 false false [[.int .i64 mm.rooms,.int .i64 mm.need,Eg 9 true mm.nn (mm.parts.map Aj.cells)]]]=some (.ret (.int .i64 (idx p l 0)),[.live 3 false false [[.int .i64 mm.rooms,.int .i64 mm.need,Eg 9 true mm.nn (mm.parts.map Aj.cells)]]]):=by
 (refine ce Tryd.func83 ?_;simp only[Tryd.f83];(have hb:=trivial;with_reducible repeat' (first|simp only[hb,Va.down,seval,aEV.down,aoC]|refine Dp ?_ ?_<;>intro hb|refine fd ?_|fail)))
 refine ai2 (lst 19 l (fun i (s:Int) t h=>s=i∧h=[.live 3 false false [[.int .i64 mm.rooms,.int .i64 mm.need,Eg 9 true mm.nn (mm.parts.map Aj.cells)]]]∧t 0=Eg 9 true nn (l.map Aj.cells)∧t 1=.func (.func g) [] [.ptr 0 0 0]∧t 7=.int .i64 l.length∧t 8=.int .i64 i)
  (fun rest s=>idx p rest s) (fun r e t h=>h=[.live 3 false false [[.int .i64 mm.rooms,.int .i64 mm.need,Eg 9 true mm.nn (mm.parts.map Aj.cells)]]]∧((e=.exit 0∧r= -1)∨(e=.ret∧t 4=.int .i64 r))) ?_ ?_ 0 _ _ ?_) (fun e t h hk=>?_)
 ·rintro s t h Q' kQ ⟨rfl,rfl,h0,h1,h7,h8⟩
  (have hb:=trivial;with_reducible repeat' (first|simp only[hb,Va.down,seval,aEV.down,h0,h1,h7,h8,arW,decide_false]|refine Dp ?_ ?_<;>intro hb|refine fd ?_|fail))
  exact kQ _ _ _ ⟨rfl,.inl ⟨rfl,rfl⟩⟩
 ·rintro x rest i s t h J Q' kJ kQ hx hi ⟨rfl,rfl,h0,h1,h7,h8⟩
  have hpx:=hp x (azU hx)
  have hd:decide ((i:Int)<(l.length:Int))=true:=by simpa using hi
  (have hb:=trivial;with_reducible repeat' (first|simp only[hb,Va.down,seval,aEV.down,h0,h1,h7,h8,hd,hx,Aj.cells,hpx,Iy hi hl]|refine Dp ?_ ?_<;>intro hb|refine fd ?_|fail))
  ·exact kQ _ _ _ ⟨rfl,.inr ⟨rfl,by simp[up,idx,hb]⟩⟩
  ·exact Fg (kJ _ _ (i+1) ⟨by simp,rfl,by simp[up,h0],by simp[up,h1],by simp[up,h7],by simp[up]⟩ (by simp[idx,hb]))
 ·exact⟨rfl,rfl,by simp[up,ent],by simp[up,ent],by simp[up],by simp[up]⟩
 ·obtain⟨rfl,⟨rfl,hi⟩|⟨rfl,hi⟩⟩:=hk
  ·(have hb:=trivial;with_reducible repeat' (first|simp only[hb,Va.down,seval,aEV.down]|refine Dp ?_ ?_<;>intro hb|refine fd ?_|fail))
   rw[hi]
  ·(have hb:=trivial;with_reducible repeat' (first|simp only[hb,Va.down,seval,aEV.down,hi]|refine Dp ?_ ?_<;>intro hb|refine fd ?_|fail))
theorem awV{l:List Aj}{nn:Bool}{g:Nat}{mm:Bd}{p:Aj→Bool}(hp:∀x∈l,Fo.call (.fn g) (.agg [.int .i64 x.one,.int .i64 x.other,.bool x.valve,.bool x.opn,.int .i64 x.tested,.int .i64 x.valid,.bool x.bad,.int .i64 x.test,.int .i64 x.change]::[.ptr 0 0 0]) [.live 3 false false [[.int .i64 mm.rooms,.int .i64 mm.need,Eg 9 true mm.nn (mm.parts.map Aj.cells)]]]=some (.ret (.bool (p x)),[.live 3 false false [[.int .i64 mm.rooms,.int .i64 mm.need,Eg 9 true mm.nn (mm.parts.map Aj.cells)]]]))(hl:l.length≤maxLen):
 Fo.call (.fn 64) [Eg 9 true nn (l.map Aj.cells),.func (.func g) [] [.ptr 0 0 0]] [.live 3 false false [[.int .i64 mm.rooms,.int .i64 mm.need,Eg 9 true mm.nn (mm.parts.map Aj.cells)]]]=some (.ret (.bool (l.any p)),[.live 3 false false [[.int .i64 mm.rooms,.int .i64 mm.need,Eg 9 true mm.nn (mm.parts.map Aj.cells)]]]):=by
 (refine ce Tryd.func64 ?_;simp only[Tryd.f64];(have hb:=trivial;with_reducible repeat' (first|simp only[hb,Va.down,seval,az7 hp hl,ax1 p l 0 (Int.le_refl 0)]|refine Dp ?_ ?_<;>intro hb|refine fd ?_|fail)))
theorem aCY(w:Bd)(hs:w.small):Fo.call (.fn 47) [.agg [.int .i64 w.rooms,.int .i64 w.need,Eg 9 true w.nn (w.parts.map Aj.cells)]] []=some (.ret (.bool (Jz w)),[]):=by
 have k1:=asA w.rooms 2 8
 have k2:=asA w.need 0 12
 have k3:=asA (w.parts.length:Int) 1 12
 have hcM:=awV (mm:=w) (l:=w.parts) (nn:=w.nn) (g:=65) (p:=fun x=> !Pj w.rooms x) (fun x _=>aGE w x) hs.parts
 have q1:w.parts.all (Pj w.rooms)= !(w.parts.any fun x=> !Pj w.rooms x):=List.all_eq_not_any_not
 have hh:ax5 w=(Jj w.rooms 2 8&&Jj w.need 0 12&&Jj (w.parts.length:Int) 1 12):=rfl
 unfold Jz
 rw[hh,q1]
 generalize Jj w.rooms 2 8=c1 at *
 generalize Jj w.need 0 12=c2 at *
 generalize Jj (w.parts.length:Int) 1 12=c3 at *
 generalize(w.parts.any fun x=> !Pj w.rooms x)=c4 at *
 cases c1<;>cases c2<;>cases c3
 all_goals (refine ce Tryd.func47 ?_;simp only[Tryd.f47];(have hb:=trivial;with_reducible repeat' (first|simp only[hb,Va.down,seval,aQK.down,k1,k2,k3,hcM,aoC]|refine Dp ?_ ?_<;>intro hb|refine fd ?_|fail)))
 all_goals simp
theorem aGT(w:Bd)(hs:w.small):Fo.call (.fn 26) [.agg [.int .i64 w.rooms,.int .i64 w.need,Eg 9 true w.nn (w.parts.map Aj.cells)]] []=some (.ret (.int .i64 (if Jz w=true then 0 else 2)),[]):=by
 have h:=aCY w hs
 generalize Jz w=c at *
 cases c<;>(refine ce Tryd.func26 ?_;simp only[Tryd.f26];(have hb:=trivial;with_reducible repeat' (first|simp only[hb,Va.down,seval,aQA.down,h]|refine Dp ?_ ?_<;>intro hb|refine fd ?_|fail)))
theorem ax4(w:Bd)(hs:w.small)(d:Int):Fo.call (.fn 34) [.agg [.int .i64 w.rooms,.int .i64 w.need,Eg 9 true w.nn (w.parts.map Aj.cells)],.int .i64 d] []=some (.ret (.tup [.ptr 0 0 0,.bool (Jz w&&aoK d)]),[.live 4 false false [[.int .i64 w.rooms,.int .i64 w.need,Eg 9 true w.nn (w.parts.map Aj.cells),.int .i64 d]]]):=by
 have h:=aCY w hs
 have hd:=asA d 0 5000
 rw[show Jj d 0 5000=aoK d from rfl]at hd
 generalize Jz w=c at *
 generalize aoK d=e at *
 cases c
 ·(refine ce Tryd.func34 ?_;simp only[Tryd.f34];(have hb:=trivial;with_reducible repeat' (first|simp only[hb,Va.down,seval,aO6.down,h,hd]|refine Dp ?_ ?_<;>intro hb|refine fd ?_|fail)))
 ·(refine ce Tryd.func34 ?_;simp only[Tryd.f34];(have hb:=trivial;with_reducible repeat' (first|simp only[hb,Va.down,seval,aO6.down,h,hd]|refine Dp ?_ ?_<;>intro hb|refine fd ?_|fail)))
theorem azP(w:Bd)(hs:w.small)(d:Int)(hb0:(Jz w&&aoK d)=false):Fo.call (.fn 17) [.agg [.int .i64 w.rooms,.int .i64 w.need,Eg 9 true w.nn (w.parts.map Aj.cells)],.int .i64 d] []=some (.ret (.tup [.int .i64 0,.int .i64 2]),[]):=by
 have h:=ax4 w hs d
 rw[hb0]at h
 (refine ce Tryd.func17 ?_;simp only[Tryd.f17];(have hb:=trivial;with_reducible repeat' (first|simp only[hb,Va.down,seval,aNA.down,h]|refine Dp ?_ ?_<;>intro hb|refine fd ?_|fail)))
end Go.Proofs.YtckfcfcmfjfchaaDoor
