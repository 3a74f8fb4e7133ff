/- The functions of the layer, walked. -/
import Derived.Test.YtckfcfcmfjfchaaGreatDoorLibE
import Derived.Test.YtckfcfcmfjfchaaGreatDoorChecked
import Derived.Test.YtckfcfcmfjfchaaGreatDoorLibD
import Derived.Test.YtckfcfcmfjfchaaGreatDoorRows
import Derived.Test.YtckfcfcmfjfchaaGreatDoorTie
import Derived.Test.YtckfcfcmfjfchaaGreatDoorCards
import Derived.Test.YtckfcfcmfjfchaaGreatDoorShelf
import Derived.ProofKit
import Derived.LaidMore
import Derived.OpenShut
import Derived.Stop.Joined
open And renaming intro→abY
open List renaming length_map→abZ,replicate→ab1,getElem?_eq_some_iff→ah0,getElem?_set_ne→alG,take_of_length_le→ao7,getElem?_set_self→ao9,take→aqG,getElem?_append_left→aqM,getElem?_eq_getElem→aq1,length_replicate→asR,getD_eq_getElem?_getD→atQ,map_set→auH,all_eq_true→avE,getElem?_append_right→avO,length_set→avQ,mem_of_getElem?→avT,set_set→ax1,drop→ax2,flatMap_cons→ax3,cons_append→ax4,nil_append→ax5,length_eq_zero_iff→azH,getElem?_map→aAM,replicate_succ→aCD,take_add_one→aCP,take_succ_cons→aC2,drop_succ_cons→aC3,set_cons_succ→aC4,length_take→aC8
open Int renaming lt_irrefl→ao5
open Nat renaming ble→as2
open Bool renaming false_eq_true→aC1,and_eq_true→aDH
set_option linter.unusedSimpArgs false
set_option linter.unusedVariables false
namespace Go.Proofs.YtckfcfcmfjfchaaGreatDoor
open Go.Ev
set_option maxRecDepth 100000
theorem Fo(h:Aa)(b r o:Nat):ld Tryz.prog 24 h (some (.ptr b r o))=ldR (Nr (h[b]?) r) o 3:=axA ⟨by kernel_rfl,by kernel_rfl⟩ h b r o
theorem ai6(b r o:Nat):ftL Tryz.prog 24 (some (.ptr b r o))=some [.cells b o 3]:=ai0 (isA:=true) (n:=3) (by kernel_rfl) (by kernel_rfl) b r o
theorem Pl(h:Aa)(b r o:Nat):ld Tryz.prog 27 h (some (.ptr b r o))=ldR (Nr (h[b]?) r) o 2:=axA ⟨by kernel_rfl,by kernel_rfl⟩ h b r o
theorem aBK(b r o:Nat):ftL Tryz.prog 27 (some (.ptr b r o))=some [.cells b o 2]:=ai0 (isA:=true) (n:=2) (by kernel_rfl) (by kernel_rfl) b r o
theorem aoN:Gv Tryz.prog 24=some (.agg [.int .i64 0,.int .i64 0,.nils]):=by kernel_rfl
theorem an6(h:Aa)(b r o:Nat)(v:AV):st_ Tryz.prog 24 h (some (.ptr b r o)) (some v)=sv 3 (h[b]?) b r o (Af v):=Nn (by kernel_rfl) h b r o v
theorem aA7(b r o:Nat):ftS Tryz.prog 24 (some (.ptr b r o))=some [.cells b o 3]:=azR (by kernel_rfl) b r o
theorem atJ(ps:List (Nat × AV)):adW Tryz.prog 24 ps=(Iq (fun i=>([(0,1),(1,1),(2,1)]:List (Nat × Nat))[i]?) (Af (.agg [.int .i64 0,.int .i64 0,.nils])) ps).map .agg:=by kernel_rfl
theorem Bd(b r o:Nat):fa Tryz.prog 24 (some (.ptr b r o)) 2=some (.ret (.ptr b r (o+2)),[]):=Ff (show Fb Tryz.prog 24 2 2 1 from⟨_,_,Tryz.underlying24,rfl,rfl,by kernel_rfl,by decide⟩) b r o
theorem Bl(h:Aa)(b r o:Nat):ld Tryz.prog 22 h (some (.ptr b r o))=ldC (Nr (h[b]?) r) o:=ap2 ⟨by kernel_rfl,1,by kernel_rfl⟩ h b r o
theorem Dx(fl nn:Bool)(rows:List (List AV)):ln Tryz.prog 22 (some (Dn 9 fl nn rows))=some (.ret (.int .i64 rows.length),[]):=aPJ ⟨_,Tryz.underlying22,by kernel_rfl⟩ fl nn rows
theorem Ol(h:Aa)(b r o:Nat):ld Tryz.prog 44 h (some (.ptr b r o))=ldC (Nr (h[b]?) r) o:=ap2 ⟨by kernel_rfl,1,by kernel_rfl⟩ h b r o
theorem aJ7:Gv Tryz.prog 3=some (.int .i64 0):=by kernel_rfl
theorem apP(base len:Nat)(ps:List (Nat × AV)):rD (Bh Tryz.prog base 44 len ps)=bsK 1 (.int .i64 0) base len ps:=aOV (e:=3) (by kernel_rfl) (by kernel_rfl) (by kernel_rfl) base len ps
theorem Ez(b r o:Nat):fa Tryz.prog 27 (some (.ptr b r o)) 0=some (.ret (.ptr b r (o+0)),[]):=Ff (show Fb Tryz.prog 27 0 0 1 from⟨_,_,Tryz.underlying27,rfl,rfl,by kernel_rfl,by decide⟩) b r o
theorem Gh(h:Aa)(b r o:Nat):ld Tryz.prog 25 h (some (.ptr b r o))=ldC (Nr (h[b]?) r) o:=ap2 ⟨by kernel_rfl,1,by kernel_rfl⟩ h b r o
theorem atE(b r o:Nat):ftL Tryz.prog 25 (some (.ptr b r o))=some [.cells b o 1]:=ai0 (isA:=false) (n:=1) (by kernel_rfl) (by kernel_rfl) b r o
theorem Ew(b r o:Nat):fa Tryz.prog 27 (some (.ptr b r o)) 1=some (.ret (.ptr b r (o+1)),[]):=Ff (show Fb Tryz.prog 27 1 1 1 from⟨_,_,Tryz.underlying27,rfl,rfl,by kernel_rfl,by decide⟩) b r o
theorem Be(h:Aa)(b r o:Nat):ld Tryz.prog 3 h (some (.ptr b r o))=ldC (Nr (h[b]?) r) o:=ap2 ⟨by kernel_rfl,1,by kernel_rfl⟩ h b r o
theorem at0(h:Aa)(c:AV)(cs:List AV):ld Tryz.prog 3 h (some (.iptr (c::cs)))=some (.ret c,[]):=aMB ⟨by kernel_rfl,1,by kernel_rfl⟩ h c cs
theorem aFS(b r o:Nat):ftL Tryz.prog 3 (some (.ptr b r o))=some [.cells b o 1]:=ai0 (isA:=false) (n:=1) (by kernel_rfl) (by kernel_rfl) b r o
theorem am4:Gv Tryz.prog 60=some (.agg [.int .i64 0,.bool false,.int .i64 0,.bool false,.int .i64 0,.bool false,.int .i64 0,.bool false,.int .i64 0,.bool false,.int .i64 0,.bool false,.int .i64 0,.bool false,.int .i64 0,.bool false,.int .i64 0,.bool false,.int .i64 0,.bool false,.int .i64 0,.bool false,.int .i64 0,.bool false]):=by kernel_rfl
theorem anX(h:Aa)(b r o:Nat)(v:AV):st_ Tryz.prog 60 h (some (.ptr b r o)) (some v)=sv 24 (h[b]?) b r o (Af v):=Nn (by kernel_rfl) h b r o v
theorem aBS(fl:Bool)(rows:List (List AV))(k:IntKind)(i:Int):ia Tryz.prog 22 (some (.imm 9 fl rows)) (some (.int k i))=if 0≤i then r1 ((rows[i.toNat]?).map .iptr)else none:=ayG ⟨_,Tryz.underlying22,by kernel_rfl⟩ fl rows k i
theorem atH(b r len:Nat)(k:IntKind)(i:Int):ia Tryz.prog 22 (some (.slr 9 b r len)) (some (.int k i))=if 0≤i∧i<len then some (.ret (.ptr b (r+i.toNat) 0),[])else none:=aGT ⟨_,Tryz.underlying22,by kernel_rfl⟩ b r len k i
theorem Es(fl nn:Bool)(rows:List (List AV))(k:IntKind)(i:Int):ia Tryz.prog 22 (some (Dn 9 fl nn rows)) (some (.int k i))=if 0≤i then r1 ((rows[i.toNat]?).map .iptr)else none:=aF6 ⟨_,Tryz.underlying22,by kernel_rfl⟩ fl nn rows k i
theorem Iu(h:Aa)(b r o:Nat):ld Tryz.prog 64 h (some (.ptr b r o))=ldR (Nr (h[b]?) r) o 9:=axA ⟨by kernel_rfl,by kernel_rfl⟩ h b r o
theorem Eg(h:Aa)(cs:List AV):ld Tryz.prog 64 h (some (.iptr cs))=if 9≤cs.length then some (.ret (.agg (cs.take 9)),[])else none:=aVA ⟨by kernel_rfl,by kernel_rfl⟩ h cs
theorem aBF(b r o:Nat):ftL Tryz.prog 64 (some (.ptr b r o))=some [.cells b o 9]:=ai0 (isA:=true) (n:=9) (by kernel_rfl) (by kernel_rfl) b r o
theorem Hi(h:Aa)(b r o:Nat):ld Tryz.prog 58 h (some (.ptr b r o))=ldR (Nr (h[b]?) r) o 2:=axA ⟨by kernel_rfl,by kernel_rfl⟩ h b r o
theorem aBO(b r o:Nat):ftL Tryz.prog 58 (some (.ptr b r o))=some [.cells b o 2]:=ai0 (isA:=true) (n:=2) (by kernel_rfl) (by kernel_rfl) b r o
theorem Ky(h:Aa)(b r o:Nat):ld Tryz.prog 60 h (some (.ptr b r o))=ldR (Nr (h[b]?) r) o 24:=axA ⟨by kernel_rfl,by kernel_rfl⟩ h b r o
theorem avG(h:Aa)(b r o:Nat)(v:AV):st_ Tryz.prog 22 h (some (.ptr b r o)) (some v)=sv 1 (h[b]?) b r o (Af v):=Nn (by kernel_rfl) h b r o v
theorem Ho(b r o:Nat):fa Tryz.prog 64 (some (.ptr b r o)) 3=some (.ret (.ptr b r (o+3)),[]):=Ff (show Fb Tryz.prog 64 3 3 1 from⟨_,_,Tryz.underlying64,rfl,rfl,by kernel_rfl,by decide⟩) b r o
theorem avH(cs:List AV):fa Tryz.prog 64 (some (.iptr cs)) 3=if 3+1≤cs.length then some (.ret (.iptr (cs.drop 3)),[])else none:=aoP (show Fb Tryz.prog 64 3 3 1 from⟨_,_,Tryz.underlying64,rfl,rfl,by kernel_rfl,by decide⟩) cs
theorem aq3(h:Aa)(b r o:Nat)(v:AV):st_ Tryz.prog 4 h (some (.ptr b r o)) (some v)=sv 1 (h[b]?) b r o (Af v):=Nn (by kernel_rfl) h b r o v
theorem Jf(b r o:Nat):fa Tryz.prog 64 (some (.ptr b r o)) 6=some (.ret (.ptr b r (o+6)),[]):=Ff (show Fb Tryz.prog 64 6 6 1 from⟨_,_,Tryz.underlying64,rfl,rfl,by kernel_rfl,by decide⟩) b r o
theorem Hy(b r o:Nat):fa Tryz.prog 64 (some (.ptr b r o)) 4=some (.ret (.ptr b r (o+4)),[]):=Ff (show Fb Tryz.prog 64 4 4 1 from⟨_,_,Tryz.underlying64,rfl,rfl,by kernel_rfl,by decide⟩) b r o
theorem aqW(h:Aa)(b r o:Nat)(v:AV):st_ Tryz.prog 3 h (some (.ptr b r o)) (some v)=sv 1 (h[b]?) b r o (Af v):=Nn (by kernel_rfl) h b r o v
theorem Hv(b r o:Nat):fa Tryz.prog 24 (some (.ptr b r o)) 0=some (.ret (.ptr b r (o+0)),[]):=Ff (show Fb Tryz.prog 24 0 0 1 from⟨_,_,Tryz.underlying24,rfl,rfl,by kernel_rfl,by decide⟩) b r o
theorem Jg(b r o:Nat):fa Tryz.prog 24 (some (.ptr b r o)) 1=some (.ret (.ptr b r (o+1)),[]):=Ff (show Fb Tryz.prog 24 1 1 1 from⟨_,_,Tryz.underlying24,rfl,rfl,by kernel_rfl,by decide⟩) b r o
theorem Nz:Gv Tryz.prog 64=some (.agg [.int .i64 0,.int .i64 0,.bool false,.bool false,.int .i64 0,.int .i64 0,.bool false,.int .i64 0,.int .i64 0]):=by kernel_rfl
theorem Lc(h:Aa)(b r o:Nat)(v:AV):st_ Tryz.prog 64 h (some (.ptr b r o)) (some v)=sv 9 (h[b]?) b r o (Af v):=Nn (by kernel_rfl) h b r o v
theorem ab3(b r o:Nat):fa Tryz.prog 64 (some (.ptr b r o)) 0=some (.ret (.ptr b r (o+0)),[]):=Ff (show Fb Tryz.prog 64 0 0 1 from⟨_,_,Tryz.underlying64,rfl,rfl,by kernel_rfl,by decide⟩) b r o
theorem awU(cs:List AV):fa Tryz.prog 64 (some (.iptr cs)) 0=if 0+1≤cs.length then some (.ret (.iptr (cs.drop 0)),[])else none:=aoP (show Fb Tryz.prog 64 0 0 1 from⟨_,_,Tryz.underlying64,rfl,rfl,by kernel_rfl,by decide⟩) cs
theorem adP(b r o:Nat):fa Tryz.prog 64 (some (.ptr b r o)) 1=some (.ret (.ptr b r (o+1)),[]):=Ff (show Fb Tryz.prog 64 1 1 1 from⟨_,_,Tryz.underlying64,rfl,rfl,by kernel_rfl,by decide⟩) b r o
theorem awR(cs:List AV):fa Tryz.prog 64 (some (.iptr cs)) 1=if 1+1≤cs.length then some (.ret (.iptr (cs.drop 1)),[])else none:=aoP (show Fb Tryz.prog 64 1 1 1 from⟨_,_,Tryz.underlying64,rfl,rfl,by kernel_rfl,by decide⟩) cs
theorem Gn(h:Aa)(b r o:Nat):ld Tryz.prog 4 h (some (.ptr b r o))=ldC (Nr (h[b]?) r) o:=ap2 ⟨by kernel_rfl,1,by kernel_rfl⟩ h b r o
theorem auG(h:Aa)(c:AV)(cs:List AV):ld Tryz.prog 4 h (some (.iptr (c::cs)))=some (.ret c,[]):=aMB ⟨by kernel_rfl,1,by kernel_rfl⟩ h c cs
theorem Me(b r o:Nat):fa Tryz.prog 64 (some (.ptr b r o)) 2=some (.ret (.ptr b r (o+2)),[]):=Ff (show Fb Tryz.prog 64 2 2 1 from⟨_,_,Tryz.underlying64,rfl,rfl,by kernel_rfl,by decide⟩) b r o
theorem Mc(b r o:Nat):fa Tryz.prog 64 (some (.ptr b r o)) 5=some (.ret (.ptr b r (o+5)),[]):=Ff (show Fb Tryz.prog 64 5 5 1 from⟨_,_,Tryz.underlying64,rfl,rfl,by kernel_rfl,by decide⟩) b r o
theorem adX(b r o:Nat):fa Tryz.prog 64 (some (.ptr b r o)) 7=some (.ret (.ptr b r (o+7)),[]):=Ff (show Fb Tryz.prog 64 7 7 1 from⟨_,_,Tryz.underlying64,rfl,rfl,by kernel_rfl,by decide⟩) b r o
theorem awJ(cs:List AV):fa Tryz.prog 64 (some (.iptr cs)) 7=if 7+1≤cs.length then some (.ret (.iptr (cs.drop 7)),[])else none:=aoP (show Fb Tryz.prog 64 7 7 1 from⟨_,_,Tryz.underlying64,rfl,rfl,by kernel_rfl,by decide⟩) cs
theorem adC(b r o:Nat):fa Tryz.prog 64 (some (.ptr b r o)) 8=some (.ret (.ptr b r (o+8)),[]):=Ff (show Fb Tryz.prog 64 8 8 1 from⟨_,_,Tryz.underlying64,rfl,rfl,by kernel_rfl,by decide⟩) b r o
theorem aw0(cs:List AV):fa Tryz.prog 64 (some (.iptr cs)) 8=if 8+1≤cs.length then some (.ret (.iptr (cs.drop 8)),[])else none:=aoP (show Fb Tryz.prog 64 8 8 1 from⟨_,_,Tryz.underlying64,rfl,rfl,by kernel_rfl,by decide⟩) cs
theorem aCW(a0 b0:Int)(a1 b1:Int)(a2 b2:Bool)(a3 b3:Bool)(a4 b4:Int)(a5 b5:Int)(a6 b6:Bool)(a7 b7:Int)(a8 b8:Int):Jj Tryz.prog .neq 64 (.agg [.int .i64 a0,.int .i64 a1,.bool a2,.bool a3,.int .i64 a4,.int .i64 a5,.bool a6,.int .i64 a7,.int .i64 a8]) (.agg [.int .i64 b0,.int .i64 b1,.bool b2,.bool b3,.int .i64 b4,.int .i64 b5,.bool b6,.int .i64 b7,.int .i64 b8])=some (.bool (!((a0==b0)&&(a1==b1)&&(a2==b2)&&(a3==b3)&&(a4==b4)&&(a5==b5)&&(a6==b6)&&(a7==b7)&&(a8==b8)))):=by
 have e:Jj Tryz.prog .neq 64 (.agg [.int .i64 a0,.int .i64 a1,.bool a2,.bool a3,.int .i64 a4,.int .i64 a5,.bool a6,.int .i64 a7,.int .i64 a8]) (.agg [.int .i64 b0,.int .i64 b1,.bool b2,.bool b3,.int .i64 b4,.int .i64 b5,.bool b6,.int .i64 b7,.int .i64 b8])=Option.map (fun r=>AV.bool !r) (if(a0==b0)=true then(if(a1==b1)=true then(if(a2==b2)=true then(if(a3==b3)=true then(if(a4==b4)=true then(if(a5==b5)=true then(if(a6==b6)=true then(if(a7==b7)=true then(if(a8==b8)=true then some true else some false)else some false)else some false)else some false)else some false)else some false)else some false)else some false)else some false):=by kernel_rfl
 rw[e]
 cases(a0==b0)<;>cases(a1==b1)<;>cases(a2==b2)<;>cases(a3==b3)<;>cases(a4==b4)<;>cases(a5==b5)<;>cases(a6==b6)<;>cases(a7==b7)<;>cases(a8==b8)<;>rfl
theorem aBD(base len:Nat)(ps:List (Nat × AV)):rD (Bh Tryz.prog base 22 len ps)=bsK 9 (.agg [.int .i64 0,.int .i64 0,.bool false,.bool false,.int .i64 0,.int .i64 0,.bool false,.int .i64 0,.int .i64 0]) base len ps:=aOV (e:=64) (by kernel_rfl) (by kernel_rfl) (by kernel_rfl) base len ps
theorem Nv(b r len:Nat)(k:IntKind)(i:Int):ia Tryz.prog 44 (some (.slr 1 b r len)) (some (.int k i))=if 0≤i∧i<len then some (.ret (.ptr b (r+i.toNat) 0),[])else none:=aGT ⟨_,Tryz.underlying44,by kernel_rfl⟩ b r len k i
theorem Jk(b r o:Nat):fa Tryz.prog 76 (some (.ptr b r o)) 0=some (.ret (.ptr b r (o+0)),[]):=Ff (show Fb Tryz.prog 76 0 0 3 from⟨_,_,Tryz.underlying76,rfl,rfl,by kernel_rfl,by decide⟩) b r o
theorem Nb{O:Dh}(t:List AV)(h:Aa)(s x:Operand):Ci O Tryz.prog t h (.call ⟨.builtin .append,#[s,x],#[44,44]⟩)=apO Tryz.prog 44 h (Ad t s) (Ad t x):=aH3 t h s x 44 44 _ Tryz.underlying44
theorem apJ(h:Aa)(s:AV)(a b r l:Nat):apO Tryz.prog 44 h (some s) (some (.slr a b r l))=apK 1 h (some s) (srK 1 h (some (.slr a b r l))):=azZ (e:=3) (b:=8) (z:=.int .i64 0) (by kernel_rfl) (by kernel_rfl) (by kernel_rfl) (by kernel_rfl) (by decide+kernel) h s _ (fun q e=>by cases e)
theorem aBV(h:Aa)(s:AV)  :apO Tryz.prog 44 h (some s) (some .nils)=apK 1 h (some s) (srK 1 h (some .nils)):=azZ (e:=3) (b:=8) (z:=.int .i64 0) (by kernel_rfl) (by kernel_rfl) (by kernel_rfl) (by kernel_rfl) (by decide+kernel) h s _ (fun q e=>by cases e)
theorem aDL:Gv Tryz.prog 44=some (.nils):=by kernel_rfl
theorem Hu(b r o:Nat):fa Tryz.prog 58 (some (.ptr b r o)) 0=some (.ret (.ptr b r (o+0)),[]):=Ff (show Fb Tryz.prog 58 0 0 1 from⟨_,_,Tryz.underlying58,rfl,rfl,by kernel_rfl,by decide⟩) b r o
theorem awM(h:Aa)(b r o:Nat)(v:AV):st_ Tryz.prog 56 h (some (.ptr b r o)) (some v)=sv 1 (h[b]?) b r o (Af v):=Nn (by kernel_rfl) h b r o v
theorem atD(st b r len:Nat):ln Tryz.prog 44 (some (.slr st b r len))=some (.ret (.int .i64 len),[]):=aN2 (n:=1) ⟨_,Tryz.underlying44,by kernel_rfl⟩ st b r len
theorem aAZ:ln Tryz.prog 44 (some .nils)=some (.ret (.int .i64 0),[]):=azJ (n:=1) ⟨_,Tryz.underlying44,by kernel_rfl⟩
theorem axN(b r o:Nat):fa Tryz.prog 76 (some (.ptr b r o)) 1=some (.ret (.ptr b r (o+3)),[]):=Ff (show Fb Tryz.prog 76 1 3 1 from⟨_,_,Tryz.underlying76,rfl,rfl,by kernel_rfl,by decide⟩) b r o
theorem aCO(ps:List (Nat × AV)):adW Tryz.prog 76 ps=(Iq (fun i=>([(0,3),(3,1)]:List (Nat × Nat))[i]?) (Af (.agg [.int .i64 0,.int .i64 0,.nils,.int .i64 0])) ps).map .agg:=by kernel_rfl
theorem Je(b r o:Nat):fa Tryz.prog 58 (some (.ptr b r o)) 1=some (.ret (.ptr b r (o+1)),[]):=Ff (show Fb Tryz.prog 58 1 1 1 from⟨_,_,Tryz.underlying58,rfl,rfl,by kernel_rfl,by decide⟩) b r o
theorem Oq(h:Aa)(b r o:Nat):ld Tryz.prog 56 h (some (.ptr b r o))=ldC (Nr (h[b]?) r) o:=ap2 ⟨by kernel_rfl,1,by kernel_rfl⟩ h b r o
theorem aBI(n:Nat)(fl:Bool)(rows:List (List AV)):Jj Tryz.prog .eql 22 (.imm n fl rows) .nils=some (.bool false):=awO Tryz.underlying22 n fl rows
theorem ak3{O:Dh}(t:List AV)(h:Aa)(s x:Operand):Ci O Tryz.prog t h (.call ⟨.builtin .append,#[s,x],#[22,22]⟩)=apO Tryz.prog 22 h (Ad t s) (Ad t x):=aH3 t h s x 22 22 _ Tryz.underlying22
theorem atV(h:Aa)(s:AV)(st:Nat)(fl:Bool)(rows:List (List AV)):apO Tryz.prog 22 h (some s) (some (.imm st fl rows))=apK 9 h (some s) (srK 9 h (some (.imm st fl rows))):=azZ (e:=64) (b:=64) (z:=.agg [.int .i64 0,.int .i64 0,.bool false,.bool false,.int .i64 0,.int .i64 0,.bool false,.int .i64 0,.int .i64 0]) (by kernel_rfl) (by kernel_rfl) (by kernel_rfl) (by kernel_rfl) (by decide+kernel) h s _ (fun q e=>by cases e)
theorem aB3(base:Nat)(l c:Option AV):msO Tryz.prog 44 base l c=msK 1 (.int .i64 0) base l c:=aVL (e:=3) (n:=1) (b:=8) (by kernel_rfl) (by kernel_rfl) (by kernel_rfl) (by kernel_rfl) (by decide+kernel) base l c
theorem aoK(h:Aa)(b r o:Nat)(v:AV):st_ Tryz.prog 44 h (some (.ptr b r o)) (some v)=sv 1 (h[b]?) b r o (Af v):=Nn (by kernel_rfl) h b r o v
theorem aBE(ps:List (Nat × AV)):adW Tryz.prog 88 ps=(Iq (fun i=>([(0,1)]:List (Nat × Nat))[i]?) (Af (.agg [.nils])) ps).map .agg:=by kernel_rfl
theorem aEW:Gv Tryz.prog 86=some (.nilp):=by kernel_rfl
theorem aHT(h:Aa)(b r o:Nat)(v:AV):st_ Tryz.prog 86 h (some (.ptr b r o)) (some v)=sv 1 (h[b]?) b r o (Af v):=Nn (by kernel_rfl) h b r o v
theorem ayO(h:Aa)(b r o:Nat):ld Tryz.prog 86 h (some (.ptr b r o))=ldC (Nr (h[b]?) r) o:=ap2 ⟨by kernel_rfl,1,by kernel_rfl⟩ h b r o
theorem ayS(h:Aa)(b r o:Nat):ld Tryz.prog 52 h (some (.ptr b r o))=ldC (Nr (h[b]?) r) o:=ap2 ⟨by kernel_rfl,1,by kernel_rfl⟩ h b r o
theorem ahD(h:Aa)(b r o:Nat)(v:AV):st_ Tryz.prog 58 h (some (.ptr b r o)) (some v)=sv 2 (h[b]?) b r o (Af v):=Nn (by kernel_rfl) h b r o v
theorem aCQ(b r o:Nat):ftS Tryz.prog 58 (some (.ptr b r o))=some [.cells b o 2]:=azR (by kernel_rfl) b r o
theorem aA5(base len:Nat)(ps:List (Nat × AV)):rD (Bh Tryz.prog base 84 len ps)=bsK 1 (.bool false) base len ps:=aOV (e:=4) (by kernel_rfl) (by kernel_rfl) (by kernel_rfl) base len ps
theorem as4{O:Dh}(t:List AV)(h:Aa)(s x:Operand):Ci O Tryz.prog t h (.call ⟨.builtin .append,#[s,x],#[84,84]⟩)=apO Tryz.prog 84 h (Ad t s) (Ad t x):=aH3 t h s x 84 84 _ Tryz.underlying84
theorem aCN(h:Aa)(s:AV)(a b r l:Nat):apO Tryz.prog 84 h (some s) (some (.slr a b r l))=apK 1 h (some s) (srK 1 h (some (.slr a b r l))):=azZ (e:=4) (b:=1) (z:=.bool false) (by kernel_rfl) (by kernel_rfl) (by kernel_rfl) (by kernel_rfl) (by decide+kernel) h s _ (fun q e=>by cases e)
theorem adV(b r o:Nat):fa Tryz.prog 88 (some (.ptr b r o)) 0=some (.ret (.ptr b r (o+0)),[]):=Ff (show Fb Tryz.prog 88 0 0 1 from⟨_,_,Tryz.underlying88,rfl,rfl,by kernel_rfl,by decide⟩) b r o
theorem aAY(fl nn:Bool)(rows:List (List AV))(k:IntKind)(i:Int):ia Tryz.prog 84 (some (Dn 1 fl nn rows)) (some (.int k i))=if 0≤i then r1 ((rows[i.toNat]?).map .iptr)else none:=aF6 ⟨_,Tryz.underlying84,by kernel_rfl⟩ fl nn rows k i
theorem an8:Gv Tryz.prog 58=some (.agg [.int .i64 0,.bool false]):=by kernel_rfl
theorem ahL(ps:List (Nat × AV)):adW Tryz.prog 58 ps=(Iq (fun i=>([(0,1),(1,1)]:List (Nat × Nat))[i]?) (Af (.agg [.int .i64 0,.bool false])) ps).map .agg:=by kernel_rfl
def TY3:=PLift.up (abY @Fo (abY @ai6 (abY @Pl (abY @aBK (abY @aoN (abY @an6 @atJ))))))
def TY4:=PLift.up (abY @Bd (abY @Bl @Dx))
def TY6:=PLift.up (abY @Fo (abY @ai6 (abY @aoN (abY @Ez (abY @Gh (abY @atE (abY @Ew (abY @Be (abY @Bd (abY @Bl (abY @Dx (abY @atJ (abY @an6 (abY @aA7 (abY @am4 (abY @anX (abY @atH (abY @Es (abY @Iu (abY @Eg (abY @aBF (abY @Hi (abY @Ky (abY @Pl (abY @avG (abY @Ho (abY @aq3 (abY @Jf (abY @Hy @aqW)))))))))))))))))))))))))))))
def TY7:=PLift.up (abY @Hv (abY @Be (abY @Jg (abY @Bd (abY @Bl (abY @Dx (abY @Es (abY @Eg (abY @Nz (abY @Lc (abY @ab3 (abY @adP (abY @Ho (abY @Gn (abY @Me (abY @Hy (abY @Mc (abY @adX @adC))))))))))))))))))
def TY9:=PLift.up (abY @Fo (abY @Ew (abY @Be (abY @Ez @Gh))))
def aL4:=PLift.up (abY @Bd (abY @Bl (abY @Ew (abY @Be (abY @Es (abY @Iu (abY @Eg (abY @Nz (abY @Lc (abY @Ez (abY @Gh (abY @Me (abY @Gn @Ho)))))))))))))
def aE6:=PLift.up (abY @Jg (abY @Be (abY @Fo (abY @Ez (abY @Gh (abY @Bd (abY @Bl (abY @Ew (abY @aBS (abY @Iu (abY @Eg (abY @Nz (abY @Lc (abY @Jf (abY @aq3 @Pl)))))))))))))))
def aK4:=PLift.up (abY @Hv (abY @Be (abY @Jg (abY @Bd (abY @Bl (abY @Dx (abY @Es (abY @Eg @aCW))))))))
def aF0:=PLift.up (abY @Fo (abY @aoN (abY @Bd (abY @Bl (abY @Ew (abY @Be (abY @Es (abY @Iu (abY @Eg (abY @Nz (abY @Lc (abY @Ez (abY @Gh (abY @Ho (abY @aq3 (abY @Hy (abY @aqW (abY @Jf @an6))))))))))))))))))
def aXR:=PLift.up (abY @Ez (abY @Gh (abY @Bd (abY @Bl (abY @Ew (abY @Be (abY @at0 (abY @Es (abY @awJ @aw0)))))))))
def aUU:=PLift.up (abY @Fo (abY @ai6 @aCO))
def aJ4:=PLift.up (abY @Ky (abY @am4 (abY @Jk (abY @Bd (abY @Bl (abY @Dx (abY @Es (abY @Eg (abY @Nz (abY @Lc (abY @Ho (abY @Gn (abY @Je (abY @aq3 (abY @Jf (abY @Hu (abY @awM (abY @axN (abY @Be (abY @Hy (abY @Mc @anX)))))))))))))))))))))
def aI6:=PLift.up (abY @Me (abY @Gn (abY @Je (abY @Hu @Oq))))
def aP2:=PLift.up (abY @Jk (abY @Jg (abY @Be (abY @Ky (abY @Ez (abY @Gh (abY @am4 (abY @anX (abY @Ew (abY @Hu (abY @awM @Pl)))))))))))
def aW8:=PLift.up (abY @aBI (abY @aBD (abY @ak3 @atV)))
def aXI:=PLift.up (abY @adX (abY @Be @adC))
def aX0:=PLift.up (abY @Bd (abY @Bl @Dx))
def aXS:=PLift.up (abY @Jf (abY @Gn (abY @Hy (abY @Be @Mc))))
def aXU:=PLift.up (abY @Fo @ai6)
def aXF:=PLift.up (abY @Fo (abY @aoN (abY @an6 (abY @Bd (abY @Bl (abY @ak3 (abY @atV (abY @avG (abY @Iu (abY @atH @Lc))))))))))
def aU1:=PLift.up (abY @Ky (abY @Nv (abY @Be (abY @Jk (abY @Bd (abY @Bl @Dx))))))
def ab0:=PLift.up (abY @Jk (abY @Hv (abY @Be (abY @aJ7 (abY @aB3 (abY @aDL (abY @aoK (abY @Ol (abY @atD (abY @Nv (abY @aqW (abY @aBE (abY @aEW (abY @aHT (abY @ayO @Hi)))))))))))))))
def aXA:=PLift.up (abY @Hu (abY @Oq (abY @Je @Gn)))
def aXH:=PLift.up (abY @Hv (abY @Be (abY @Jg (abY @Bd (abY @Bl @Dx)))))
def aLQ:=PLift.up (abY @Ky (abY @am4 (abY @Ew (abY @Be (abY @aFS (abY @Ez (abY @Gh (abY @atE (abY @Hi (abY @aBO (abY @ahD (abY @aCQ @anX))))))))))))
def aWA:=PLift.up (abY @Fo (abY @Nv (abY @Be (abY @Bd (abY @Bl @Dx)))))
def aDP:=PLift.up (abY @Bd (abY @Bl (abY @Dx (abY @Es (abY @Eg (abY @avH (abY @auG (abY @aA5 (abY @as4 @aCN)))))))))
def aKL:=PLift.up (abY @adV (abY @Ol (abY @apP (abY @Nb (abY @apJ @aoK)))))
def aI4:=PLift.up (abY @adV (abY @Ol (abY @atD (abY @aAZ (abY @Nv (abY @Be @aoK))))))
def aB9:=PLift.up (abY @apP (abY @adV (abY @Ol (abY @Nb (abY @apJ (abY @aBV @aoK))))))
def aXO:=PLift.up (abY @Iu (abY @Hv @Be))
def aXC:=PLift.up (abY @ab3 (abY @Be (abY @adP (abY @Me (abY @Gn (abY @Ho (abY @Hy (abY @Mc (abY @adX @adC)))))))))
def arF:=PLift.up (abY @apP (abY @Hv (abY @Be (abY @at0 (abY @Nb (abY @apJ (abY @Bd (abY @Bl (abY @Dx (abY @Es (abY @awU (abY @awR (abY @aAY (abY @auG (abY @Nv @aqW)))))))))))))))
def aCC:=PLift.up (abY @ayS (abY @Jk (abY @Bd (abY @Bl (abY @Dx (abY @Es (abY @Eg (abY @Nz (abY @Lc (abY @Be (abY @ab3 @adP)))))))))))
def aF8:=PLift.up (abY @Dx (abY @Es @Eg))
def aW0:=PLift.up (abY @Hi (abY @an8 (abY @Hu (abY @Oq (abY @ahL @ahD)))))
def aWZ:=PLift.up (abY @Hi (abY @an8 (abY @Hu (abY @Oq (abY @ahL @ahD)))))
def aXL:=PLift.up (abY @Hi (abY @an8 (abY @Je (abY @Gn (abY @ahL @ahD)))))
def aXX:=PLift.up (abY @Hi (abY @an8 (abY @Je (abY @Gn (abY @ahL @ahD)))))
end Go.Proofs.YtckfcfcmfjfchaaGreatDoor
namespace Go.Proofs.YtckfcfcmfjfchaaGreatDoor
open Go Go.Ev Go.ChangeShapes Go.WideShapes Go.ChangeAt Go.RowKit
set_option maxRecDepth 100000
set_option maxHeartbeats 16000000
def mdL:List Nat:=[38,52,63,46,50,47]
def pr:Jl:=aFB 41 57 (mdL.contains ·)
noncomputable def Eb:Dh:=om Tryz.prog pr
theorem aVC(f:Nat):Eb.md f=([38,52,63,46,50,47]:List Nat).contains f:=Eq.trans rfl rfl
def Va:=PLift.up (abY EE.down EVu.down)
def Vc:=PLift.up (abY EG.down (abY EVu.down @aVC))
theorem own:ownKnob Tryz.prog.godebug=none:=by kernel_rfl
theorem aOW:aA9 Tryz.prog:=fun f fn hf=>by
 have h:(Tryz.prog.funcs.toList.all fun fn=> !(fn.name== "runtime.NumGoroutine"))=true:=by kernel_rfl
 have:=avE.1 h fn (by rw[Array.mem_toList_iff];exact Array.mem_of_getElem? hf)
 simpa using this
theorem mixed:Tryz.prog.follows .mixedOrders=true:=by kernel_rfl
theorem aLZ:laidOutB Tryz.prog=true:=by kernel_rfl
def laid:List (String × DataW Unit):=[("math/bits.deBruijn32tab",Rows.laid_math_bits_deBruijn32tab),("math/bits.deBruijn64tab",Rows.laid_math_bits_deBruijn64tab),("internal/strconv.uint64pow10",Rows.laid_internal_strconv_uint64pow10)]
theorem aTS:Tryz.prog.globalNamed "internal/strconv.uint64pow10" =some 0:=by kernel_rfl
theorem tab{W:World}(h:laidMetH Tryz.prog laid W):Lib.TabIs Tryz.prog W "internal/strconv.uint64pow10" .u64 Lib.pow10Tab:=by
 rw[MakeChecks.laidMetH_plain _ _ _ (by kernel_rfl)]at h
 obtain⟨ps,h,_⟩:=h
 exact aoS (t:=150) (e:=119) (n:=20) aTS (by kernel_rfl) (by kernel_rfl) (by kernel_rfl) (by kernel_rfl) (by kernel_rfl) h (by
  have e:(Lib.tabData .u64 Lib.pow10Tab:DataW Unit)=Rows.laid_internal_strconv_uint64pow10:=rfl
  rw[e];simp[laid])
theorem aG6{W:World}(h:laidMetH Tryz.prog laid W):Ee Tryz.prog (aEY W 0) Eb:=
 aUI aOW (aG8 (aKC (auK aOW Tryz.func41 rfl) (aDV aTS (tab h)) (fun n w h0 h1 ht=>Tryz.strconv_Itoa n h0 h1 w ht)) (aJ2 (auK aOW Tryz.func57 rfl) Tryz.strings_Join_none Tryz.strings_Join)) mixed
theorem aGS(os:Os)(args:Array Value):laidMetH Tryz.prog laid ((World.doorLaid Tryz.prog 400 os).forCall (fun _ _=>0) ⟨#[],args,[]⟩).memory:=
 laidMetH_of_parts3 (fuel:=8) (laidMet_of_run' 8 (by kernel_rfl) (by kernel_rfl)) (by kernel_rfl) (by kernel_rfl)
theorem aS0{f:Nat}{fn:Func}{c:Code}{args:List AV}{h:Aa}{Q:Cm→Aa→Prop}(hp:pr f=none)(hf:Tryz.prog.funcs[f]?=some fn)(hb:fn.body=some c)(hl:as2 args.length fn.ntmps=true)
 (he:FnE Tryz.prog h.length fn.results.toList Q (Bf Eb Tryz.prog 5000 c [] ⟨mk fn.ntmps (ent args),h⟩)):ClQ Eb f args h Q:=ClQ.start (pr:=pr) hp hf hb hl he
theorem aGP{f:Nat}{fn:Func}{c:Code}{args:List AV}{h:Aa}{Q:Cm→Aa→Prop}(hp:pr f=none)(hf:Tryz.prog.funcs[f]?=some fn)(hb:fn.body=some c)(hl:as2 args.length fn.ntmps=true)
 (he:FnS Tryz.prog fn.results.toList Q (Bf Eb Tryz.prog 5000 c [] ⟨mk fn.ntmps (ent args),h⟩)):ShQ Eb f args h Q:=ShQ.start (pr:=pr) hp hf hb hl he
theorem ce{f:Nat}{fn:Func}{c:Code}{args:List AV}{h:Aa}{o:Cm}{h':Aa}(hf:Tryz.prog.funcs[f]?=some fn)(he:FnE Tryz.prog h.length fn.results.toList (fun o1 h1=>(o1,h1)=(o,h')) (Bf Eb Tryz.prog 5000 c [] ⟨mk fn.ntmps (ent args),h⟩))(hp:pr f=none:=by exact rfl)(hb:fn.body=some c:=by exact rfl)(hl:as2 args.length fn.ntmps=true:=by exact rfl):Eb.call (.fn f) args h=some (o,h'):=(aS0 hp hf hb hl he).eq
theorem csh{f:Nat}{fn:Func}{c:Code}{args:List AV}{h:Aa}{o:Cm}{h':Aa}(hf:Tryz.prog.funcs[f]?=some fn)(he:FnS Tryz.prog fn.results.toList (fun o1 h1=>(o1,h1)=(o,h')) (Bf Eb Tryz.prog 5000 c [] ⟨mk fn.ntmps (ent args),h⟩))(hp:pr f=none:=by exact rfl)(hb:fn.body=some c:=by exact rfl)(hl:as2 args.length fn.ntmps=true:=by exact rfl):Eb.call (.sh f) args h=some (o,h'):=(aGP hp hf hb hl he).eq
theorem lst{α σ ρ:Type}{c:Code}(N:Nat)(l:List α)(E:Nat→σ→Tm→Aa→Prop)(F:List α→σ→ρ)(Q:ρ→Ex→Tm→Aa→Prop)
 (stop:∀s t h Q',(∀e t h,Q (F [] s) e t h→Q' e ⟨mk N t,h⟩)→E l.length s t h→Rnd N (fun _ _=>False) Q' (Bf Eb Tryz.prog 5000 c [] ⟨mk N t,h⟩))
 (go:∀x rest i s t h J Q',(∀t' h' s',E (i+1) s' t' h'→F rest s'=F (x::rest) s→J t' h')→(∀e t h,Q (F (x::rest) s) e t h→Q' e ⟨mk N t,h⟩)→l[i]?=some x→i<l.length→E i s t h→
   Rnd N J Q' (Bf Eb Tryz.prog 5000 c [] ⟨mk N t,h⟩)):
 ∀s t h,E 0 s t h→LpQ Eb c ⟨mk N t,h⟩ (Ot N (Q (F l s))):=aCT (pr:=pr) rfl N l E F Q stop go
theorem cnt{σ ρ:Type}{c:Code}(N:Nat)(E:Nat→σ→Tm→Aa→Prop)(F:Nat→σ→ρ)(Q:ρ→Ex→Tm→Aa→Prop)
 (stop:∀s t h Q',(∀e t h,Q (F 0 s) e t h→Q' e ⟨mk N t,h⟩)→E 0 s t h→Rnd N (fun _ _=>False) Q' (Bf Eb Tryz.prog 5000 c [] ⟨mk N t,h⟩))
 (go:∀n s t h J Q',(∀t' h' s',E n s' t' h'→F n s'=F (n+1) s→J t' h')→(∀e t h,Q (F (n+1) s) e t h→Q' e ⟨mk N t,h⟩)→E (n+1) s t h→Rnd N J Q' (Bf Eb Tryz.prog 5000 c [] ⟨mk N t,h⟩)):
 ∀n s t h,E n s t h→LpQ Eb c ⟨mk N t,h⟩ (Ot N (Q (F n s))):=aED (pr:=pr) rfl N E F Q stop go
theorem Ar{h:Aa}{b:Nat}{c:CB}(h0:h[b]?=some c)(l:Aa):(h++l)[b]?=some c:=by
 rw[aqM (ah0.1 h0).1];exact h0
end Go.Proofs.YtckfcfcmfjfchaaGreatDoor
namespace Go.Proofs.YtckfcfcmfjfchaaGreatDoor
open Go.Ev Go
set_option maxRecDepth 100000
set_option maxHeartbeats 16000000
structure Ab where
 one:Int
 other:Int
 valve:Bool
 opn:Bool
 tested:Int
 valid:Int
 bad:Bool
 test:Int
 change:Int
def Ab.cells(p:Ab):List AV:=[.int .i64 p.one,.int .i64 p.other,.bool p.valve,.bool p.opn,.int .i64 p.tested,.int .i64 p.valid,.bool p.bad,.int .i64 p.test,.int .i64 p.change]
structure Ao where
 rooms:Int
 need:Int
 nn:Bool
 parts:List Ab
abbrev Ao.cells(w:Ao):List AV:=[.int .i64 w.rooms,.int .i64 w.need,Dn 9 true w.nn (w.parts.map Ab.cells)]
theorem aAG{α:Type}{f:α→List AV}{p:List AV→Prop}{q:α→Prop}(hf:∀r,p r→∃x,r=f x∧q x):∀{rows:List (List AV)},(∀r∈rows,p r)→∃l:List α,rows=l.map f∧∀x∈l,q x
 | [],_=>⟨[],rfl,fun x hx=>by simp at hx⟩
 |r::rows,h=>by
  obtain⟨x,rfl,hx⟩:=hf r (h r (List.mem_cons_self ..))
  obtain⟨l,rfl,hl⟩:=aAG hf (fun r hr=>h r (List.mem_cons_of_mem _ hr))
  exact⟨x::l,rfl,fun y hy=>by
   rcases List.mem_cons.1 hy with rfl|hy
   ·exact hx
   ·exact hl y hy⟩
def i64(n:Int):Prop:= -9223372036854775808≤n∧n≤9223372036854775807
theorem Ni{n:Nat}{r:List AV}(h:Ty Tryz.prog (n+1) 3 r):∃x,r=[.int .i64 x]∧i64 x:=by
 simp only[Ty,Tryz.underlying3]at h
 obtain⟨x,rfl,h1,h2⟩:=h
 exact⟨x,rfl,h1,h2⟩
theorem aqX{n:Nat}{r:List AV}(h:Ty Tryz.prog (n+1) 4 r):∃x,r=[.bool x]:=by
 simp only[Ty,Tryz.underlying4]at h
 exact h
def Ab.fits(p:Ab):Prop:=i64 p.one∧i64 p.other∧i64 p.tested∧i64 p.valid∧i64 p.test∧i64 p.change
theorem aLK{n:Nat}{r:List AV}(h:Ty Tryz.prog (n+2) 64 r):∃x:Ab,r=x.cells∧x.fits:=by
 unfold Ty at h
 simp only[Tryz.underlying64,aBB]at h
 obtain⟨a0,b0,rfl,h0,a1,b1,rfl,h1,a2,b2,rfl,h2,a3,b3,rfl,h3,a4,b4,rfl,h4,a5,b5,rfl,h5,a6,b6,rfl,h6,a7,b7,rfl,h7,a8,b8,rfl,h8,rfl⟩:=h
 obtain⟨x0,rfl,k0⟩:=Ni h0
 obtain⟨x1,rfl,k1⟩:=Ni h1
 obtain⟨x2,rfl⟩:=aqX h2
 obtain⟨x3,rfl⟩:=aqX h3
 obtain⟨x4,rfl,k4⟩:=Ni h4
 obtain⟨x5,rfl,k5⟩:=Ni h5
 obtain⟨x6,rfl⟩:=aqX h6
 obtain⟨x7,rfl,k7⟩:=Ni h7
 obtain⟨x8,rfl,k8⟩:=Ni h8
 exact⟨⟨x0,x1,x2,x3,x4,x5,x6,x7,x8⟩,rfl,k0,k1,k4,k5,k7,k8⟩
structure Ao.small(w:Ao):Prop where
 parts:w.parts.length≤maxLen
 fits:∀p∈w.parts,p.fits
 rooms:i64 w.rooms
 need:i64 w.need
theorem aJR{n:Nat}{r:List AV}(h:Ty Tryz.prog (n+4) 24 r):∃w:Ao,r=w.cells∧w.small:=by
 unfold Ty at h
 simp only[Tryz.underlying24,aBB]at h
 obtain⟨a0,b0,rfl,h0,a1,b1,rfl,h1,a2,b2,rfl,h2,rfl⟩:=h
 obtain⟨x0,rfl,k0⟩:=Ni h0
 obtain⟨x1,rfl,k1⟩:=Ni h1
 unfold Ty at h2
 simp only[Tryz.underlying22]at h2
 obtain⟨n2,rows2,rfl,hl2,hrows2⟩:=h2
 obtain⟨l2,rfl,hm⟩:=aAG (fun r hr=>aLK hr) hrows2
 have e2:Tryz.prog.cellsOf 64=9:=by kernel_rfl
 have f2:flT Tryz.prog (n+2) 64=true:=by
  simp only[flT,Tryz.underlying64,Tryz.underlying3,Tryz.underlying4];rfl
 rw[e2,f2]
 exact⟨⟨x0,x1,n2,l2⟩,rfl,by simpa using hl2,hm,k0,k1⟩
theorem aL2{av:AV}(h:TyV Tryz.prog 7 24 av):∃w:Ao,av=.agg w.cells∧w.small:=by
 unfold TyV at h
 simp only[Tryz.underlying24]at h
 obtain⟨cs,rfl,h⟩:=h
 obtain⟨s,rfl,hs⟩:=aJR h
 exact⟨s,rfl,hs⟩
theorem aPA{av:AV}(h:TyV Tryz.prog 7 3 av):∃x,av=.int .i64 x∧i64 x:=by
 unfold TyV at h
 simp only[Tryz.underlying3]at h
 obtain⟨x,hx,hi⟩:=Ni h
 simp only[List.cons.injEq,and_true]at hx
 exact⟨x,hx,hi⟩
theorem aKK{av:AV}(h:TyV Tryz.prog 7 4 av):∃x,av=.bool x:=by
 unfold TyV at h
 simp only[Tryz.underlying4]at h
 obtain⟨x,hx⟩:=aqX h
 simp only[List.cons.injEq,and_true]at hx
 exact⟨x,hx⟩
end Go.Proofs.YtckfcfcmfjfchaaGreatDoor
namespace Go.Proofs.YtckfcfcmfjfchaaGreatDoor
open Go.Ev Go Go.Ev.Net
set_option maxRecDepth 100000
set_option maxHeartbeats 16000000
def Io(x lo hi:Int):Bool:=decide (lo≤x)&&decide (x≤hi)
theorem auL(x lo hi:Int):Eb.call (.fn 29) [.int .i64 x,.int .i64 lo,.int .i64 hi] []=some (.ret (.bool (Io x lo hi)),[]):=by
 (refine ce Tryz.func29 ?_;simp only[Tryz.f29];(have hb:=trivial;with_reducible repeat' (first|simp only[hb,Va.down,seval]|refine Bj ?_ ?_<;>intro hb|refine fd ?_|fail)))
 all_goals simp[Io, *]
theorem aqU(x lo hi:Int):Eb.call (.fn 23) [.int .i64 x,.int .i64 lo,.int .i64 hi] []=some (.ret (.bool (Io x lo hi)),[]):=by
 (refine ce Tryz.func23 ?_;simp only[Tryz.f23];(have hb:=trivial;with_reducible repeat' (first|simp only[hb,Va.down,seval]|refine Bj ?_ ?_<;>intro hb|refine fd ?_|fail)))
 all_goals simp[Io, *]
def Na(d:Int):Bool:=Io d 0 5000
theorem aC9(d:Int):Eb.call (.fn 8) [.int .i64 d] []=some (.ret (.bool (Na d)),[]):=by
 (refine ce Tryz.func8 ?_;simp only[Tryz.f8];(have hb:=trivial;with_reducible repeat' (first|simp only[hb,Va.down,seval,auL]|refine Bj ?_ ?_<;>intro hb|refine fd ?_|fail)))
 rfl
def Au(p:Ab)(d:Int):Int:=if p.bad=true then 2 else if IntKind.i64.wrap (p.tested+p.valid)<d then 1 else 0
def amW(p:Ab)(d:Int):Bool:=Au p d==0&& !p.opn
theorem ap5(p:Ab)(d:Int):Eb.call (.fn 31) [.agg [.int .i64 p.one,.int .i64 p.other,.bool p.valve,.bool p.opn,.int .i64 p.tested,.int .i64 p.valid,.bool p.bad,.int .i64 p.test,.int .i64 p.change],.int .i64 d] []=some (.ret (.int .i64 (Au p d)),[]):=by
 (refine ce Tryz.func31 ?_;simp only[Tryz.f31];(have hb:=trivial;with_reducible repeat' (first|simp only[hb,Va.down,seval,aXS.down]|refine Bj ?_ ?_<;>intro hb|refine fd ?_|fail)))
 all_goals simp_all[Au]
def bvv(b:Bool):List AV:=[.bool b]
def Im(n:Nat):List AV:=[.int .i64 (n:Int)]
def ahC(w:Ao)(d:Int):List Bool:=w.parts.map fun p=>amW p d
theorem Lx{h:Aa}{b:Nat}(hb:b<h.length)(l:Aa)(c:CB):(h++l).set b c=h.set b c++l:=List.set_append_left _ _ hb
theorem An{h:Aa}{b:Nat}{c:CB}(e:h[b]?=some c):b<h.length:=(ah0.1 e).1
theorem Kr{h:Aa}{b:Nat}(c:CB)(l:Aa):(h.set b c++l)[h.length]?=l[0]?:=by
 rw[avO (by simp)];simp
theorem Hz{h:Aa}{b:Nat}(c:CB)(l:Aa)(k:Nat):(h.set b c++l)[h.length+k]?=l[k]?:=by
 rw[avO (by simp)];simp
theorem azQ{h:Aa}{b b':Nat}{x:CB}(c:CB)(hne:b≠b')(hb:h[b']?=some x)(l:Aa):(h.set b c++l)[b']?=some x:=by
 have hlt:b'<h.length:=(ah0.1 hb).1
 rw[aqM (by simpa using hlt),alG hne];exact hb
def aMJ(v:AV)(i:Nat)(rows:List (List AV))(h:Aa):Prop:=(i=0∧v=.nils)∨(0<i∧∃b,0<b∧v=.slr 1 b 0 i∧h[b]?=some (.live 1 true false rows))
theorem aK0(w:Ao)(d:Int)(hs:w.parts.length≤1000)(hne:w.parts≠[]):Eb.call (.fn 45) [.agg [.int .i64 w.rooms,.int .i64 w.need,Dn 9 true w.nn (w.parts.map Ab.cells)],.int .i64 d] []=some (.ret (.slr 1 0 0 w.parts.length),[.live 1 true false ((ahC w d).map bvv)]):=by
 (refine ce Tryz.func45 ?_;simp only[Tryz.f45];(have hb:=trivial;with_reducible repeat' (first|simp only[hb,Va.down,seval,aDP.down,abZ]|refine Bj ?_ ?_<;>intro hb|refine fd ?_|fail)))
 refine ahA (lst 35 w.parts (fun i (zz:List Bool) t h=>t 1=.int .i64 d∧t 2=.ptr 0 0 0∧t 6=.int .i64 i∧(h[0]?=some (.live 3 false false [[.int .i64 w.rooms,.int .i64 w.need,Dn 9 true w.nn (w.parts.map Ab.cells)]])∧zz.length=i∧aMJ (t 5) i (zz.map bvv) h)) (fun rest zz=>zz++rest.map (fun p=>amW p d)) (fun r e t h=>e=.exit 0∧aMJ (t 5) w.parts.length (r.map bvv) h) ?_ ?_ ([]) _ _ ?_) (fun e t h hk=>?_)
 ·rintro a t h Q' kQ ⟨h1,h2,h6,⟨hA,hp,hc⟩⟩
  (have hb:=trivial;with_reducible repeat' (first|simp only[hb,Va.down,seval,aDP.down,h1,h2,h6,ao5,decide_false,hA,abZ]|refine Bj ?_ ?_<;>intro hb|refine fd ?_|fail))
  exact kQ _ _ _ ⟨rfl,by simpa [up]using hc⟩
 ·rintro x rest i a t h J Q' kJ kQ hx hi ⟨h1,h2,h6,⟨hA,hp,hc⟩⟩
  have hd:decide ((i:Int)<(w.parts.length:Int))=true:=decide_eq_true (by omega)
  have hw:=Iw hi (by unfold maxLen;omega)
  have hV:=ap5 x d
  have htb:amW x d=(Au x d==0&& !x.opn):=rfl
  have hA1:=Ar hA
  have h0l:0<h.length:=(ah0.1 hA).1
  generalize Au x d=cx at *
  rcases hc with⟨rfl,ho⟩|⟨h0,b,hb0,ho,hb⟩
  ·simp only[Int.natCast_zero]at hd
   obtain rfl:a=[]:=azH.1 hp
   cases hq:(cx==0)
   all_goals (have hb:=trivial;with_reducible repeat' (first|simp only[hb,Va.down,seval,aDP.down,h1,h2,h6,ho,hd,hw,hx,hA,hA1,hV,hq,Ab.cells,abZ]|refine Bj ?_ ?_<;>intro hb|refine fd ?_|fail))
   all_goals (refine Fv (kJ _ _ [amW x d] ⟨?_,?_,?_,⟨hA1 _,rfl,.inr ⟨by omega,h.length+1,by omega,by simp[up],by rw[aJD];simp[bvv,htb,hq]⟩⟩⟩ ?_);(simp[up,h1]);(simp[up,h2]);(simp[up]);(simp))
  ·have hbl:b<h.length:=(ah0.1 hb).1
   have hB:=Ar hb
   have hS:=Lx hbl
   have hi39:(i+1≤549755813888)=True:=eq_true (by omega)
   cases hq:(cx==0)
   all_goals (have hb:=trivial;with_reducible repeat' (first|simp only[hb,Va.down,seval,aDP.down,h1,h2,h6,ho,hd,hw,hx,hA,hA1,hV,hq,Ab.cells,abZ,hB,hS,Kr,Hz,avQ,hp,hi39]|refine Bj ?_ ?_<;>intro hb|refine fd ?_|fail))
   all_goals (refine Fv (kJ _ _ (a++[amW x d]) ⟨?_,?_,?_,⟨azQ _ (by omega) hA _,by simp[hp],.inr ⟨by omega,h.length+1,by omega,by simp[up],by rw[Hz];simp[bvv,htb,hq]⟩⟩⟩ ?_);(simp[up,h1]);(simp[up,h2]);(simp[up]);(simp))
 ·exact⟨by simp[up,ent],by simp[up,ent],by simp[up],⟨rfl,rfl,.inl ⟨rfl,by simp[up]⟩⟩⟩
 obtain⟨rfl,⟨hn,ho⟩|⟨hn,b,hb0,ho,hb⟩⟩:=hk
 ·exact(hne (azH.1 hn)).elim
 ·(with_reducible repeat' (first|simp only[hb,Va.down,seval,aDP.down,ho,hb]|refine Bj ?_ ?_<;>intro hb|refine fd ?_|fail))
  rfl
def edg(w:Ao)(ts:List Bool):List Net.Edge:=List.zipWith (fun p t=>(p.one.toNat,p.other.toNat,if t=true then 1 else 0)) w.parts ts
structure WOk(w:Ao)(N:Nat):Prop where
 rooms:w.rooms=(N:Int)
 n2:2≤N
 n8:N≤8
 len:w.parts.length≤1000
 ne:w.parts≠[]
 part:∀p∈w.parts,(0≤p.one∧p.one<(N:Int))∧(0≤p.other∧p.other<(N:Int))∧p.one≠p.other
theorem azO{w:Ao}{ts:List Bool}{i:Nat}{e:Net.Edge}(h:(edg w ts)[i]?=some e):∃p t,w.parts[i]?=some p∧ts[i]?=some t∧e=(p.one.toNat,p.other.toNat,if t=true then 1 else 0):=by
 unfold edg at h
 rw[List.getElem?_zipWith]at h
 cases h1:w.parts[i]? with
 |none=>simp[h1]at h
 |some p=>
  cases h2:ts[i]? with
  |none=>simp[h1,h2]at h
  |some t=>simp[h1,h2]at h;exact⟨p,t,rfl,rfl,h.symm⟩
theorem apA{w:Ao}{N:Nat}(hw:WOk w N)(ts:List Bool):EOk (edg w ts) N:=fun a b c h=>by
 obtain⟨i,hi⟩:=List.getElem?_of_mem h
 obtain⟨p,t,h1,_,he⟩:=azO hi
 cases he
 have:=hw.part p (avT h1)
 refine⟨by omega,by omega,by omega,?_⟩
 split<;>omega
theorem aK7{w:Ao}{ts:List Bool}(h:ts.length=w.parts.length):(edg w ts).length=w.parts.length:=by simp[edg,h]
theorem au3{d:List Nat}{a:Nat}(h:a<d.length):(d.map Im)[a]?=some [.int .i64 (d.getD a 0:Nat)]:=by
 rw[aAM,aq1 h,atQ,aq1 h];rfl
theorem aD3{N:Nat}(h:2≤N):Dy N 0 1000=0::ab1 (N-1) 1000:=by
 obtain⟨n,rfl⟩:∃n,N=n+1:=⟨N-1,by omega⟩
 simp[Dy,aCD]
theorem aDB(x y:Nat):(if(x:Int)<(y:Int)then(x:Int)else(y:Int))=((min y x:Nat):Int):=by split<;>omega
theorem av1{w:Ao}{N:Nat}(hw:WOk w N){ts:List Bool}{nn:Bool}(ht:ts.length=w.parts.length):
 ∃f,Eb.call (.fn 61) [.agg [.int .i64 w.rooms,.int .i64 w.need,Dn 9 true w.nn (w.parts.map Ab.cells)],Dn 1 true nn (ts.map bvv)] []=some (.ret (.slr 1 0 0 N),[.live 1 true f ((Lq (edg w ts) N (Dy N 0 1000)).map Im)]):=by
 have key:ClQ Eb 61 [.agg [.int .i64 w.rooms,.int .i64 w.need,Dn 9 true w.nn (w.parts.map Ab.cells)],Dn 1 true nn (ts.map bvv)] [] fun o h'=>∃f,(o,h')=(.ret (.slr 1 0 0 N),[.live 1 true f ((Lq (edg w ts) N (Dy N 0 1000)).map Im)]):=by
  have hr:=hw.rooms
  have n2:=hw.n2
  have n8:=hw.n8
  have hE:=apA hw ts
  have hEl:=aK7 ht
  generalize hEE:edg w ts=E at *
  refine aS0 rfl Tryz.func61 rfl rfl ?_
  simp only[Tryz.f61]
  simp only[hr]
  (have hb:=trivial;with_reducible repeat' (first|simp only[hb,Va.down,seval,arF.down,abZ]|refine Bj ?_ ?_<;>intro hb|refine fd ?_|fail))
  refine ahA (lst 80 (ab1 (N-1) ()) (fun i (_:Unit) t h=>t 1=Dn 1 true nn (ts.map bvv)∧t 2=.ptr 0 0 0∧t 6=.int .i64 ((i+1:Nat):Int)∧h[0]?=some (.live 3 false false [[.int .i64 (N:Int),.int .i64 w.need,Dn 9 true w.nn (w.parts.map Ab.cells)]])∧∃b,0<b∧t 5=.slr 1 b 0 (i+1)∧h[b]?=some (.live 1 true false ((0::ab1 i 1000).map Im))) (fun _ _=>())
   (fun _ e t h=>e=.exit 0∧t 1=Dn 1 true nn (ts.map bvv)∧t 2=.ptr 0 0 0∧h[0]?=some (.live 3 false false [[.int .i64 (N:Int),.int .i64 w.need,Dn 9 true w.nn (w.parts.map Ab.cells)]])∧∃b,0<b∧t 5=.slr 1 b 0 N∧h[b]?=some (.live 1 true false ((Dy N 0 1000).map Im))) ?_ ?_ () _ _ ?_) (fun e t h hk=>?_)
  ·rintro _ t h Q' kQ ⟨h1,h2,h6,h0,b,hb0,h5,hvb⟩
   rw[asR,show N-1+1=N by omega]at h6 h5
   rw[asR]at hvb
   (have hb:=trivial;with_reducible repeat' (first|simp only[hb,Va.down,seval,arF.down,h1,h2,h6,h0,h5,ao5,decide_false]|refine Bj ?_ ?_<;>intro hb|refine fd ?_|fail))
   exact kQ _ _ _ ⟨rfl,by simp[up,h1],by simp[up,h2],h0,b,hb0,by simp[up,h5],by rw[aD3 n2];exact hvb⟩
  ·rintro x rest i _ t h J Q' kJ kQ hx hi ⟨h1,h2,h6,h0,b,hb0,h5,hvb⟩
   rw[asR]at hi
   have hdd:decide (((i+1:Nat):Int)<(N:Int))=true:=decide_eq_true (by omega)
   have hww:IntKind.i64.wrap (((i+1:Nat):Int)+1)=((i+1+1:Nat):Int):=by rw[Gt (by omega) (by omega)];omega
   have hbl:=An hvb
   have hB:=Ar hvb
   have hS:=Lx hbl
   have hA1:=Ar h0
   have hi39:(i+1+1≤549755813888)=True:=eq_true (by omega)
   have hlr:((0::ab1 i 1000).map Im).length=i+1:=by simp
   (have hb:=trivial;with_reducible repeat' (first|simp only[hb,Va.down,seval,arF.down,h1,h2,h6,h0,h5,hvb,hdd,hww,hB,hS,hA1,hi39,hlr,Kr,Hz,avQ]|refine Bj ?_ ?_<;>intro hb|refine fd ?_|fail))
   exact Fv (kJ _ _ () ⟨by simp[up,h1],by simp[up,h2],by simp[up];omega,azQ _ (by omega) h0 _,h.length+1,by omega,by simp[up],by rw[Hz];simp[Im,List.replicate_succ']⟩ rfl)
  ·exact⟨by simp[up,ent],by simp[up],by simp[up],rfl,1,by omega,by simp[up],rfl⟩
  obtain⟨rfl,h1,h2,h0,b,hb0,h5,hvb⟩:=hk
  (have hb:=trivial;with_reducible repeat' (first|simp only[hb,Va.down,seval,arF.down,h1,h2,h5]|refine Bj ?_ ?_<;>intro hb|refine fd ?_|fail))
  refine ahA (lst 80 (ab1 N ()) (fun k (_:Unit) t h=>t 1=Dn 1 true nn (ts.map bvv)∧t 2=.ptr 0 0 0∧t 5=.slr 1 b 0 N∧t 7=.int .i64 (k:Int)∧h[0]?=some (.live 3 false false [[.int .i64 (N:Int),.int .i64 w.need,Dn 9 true w.nn (w.parts.map Ab.cells)]])∧∃f,h[b]?=some (.live 1 true f ((Lq E k (Dy N 0 1000)).map Im))) (fun _ _=>())
   (fun _ e t h=>e=.exit 2∧t 5=.slr 1 b 0 N∧∃f,h[b]?=some (.live 1 true f ((Lq E N (Dy N 0 1000)).map Im))) ?_ ?_ () _ _ ?_) (fun e t h hk=>?_)
  ·rintro _ t h Q' kQ ⟨h1,h2,h5,h7,h0,f,hvb⟩
   rw[asR]at h7 hvb
   (have hb:=trivial;with_reducible repeat' (first|simp only[hb,Va.down,seval,arF.down,h1,h2,h5,h7,h0,ao5,decide_false]|refine Bj ?_ ?_<;>intro hb|refine fd ?_|fail))
   exact kQ _ _ _ ⟨rfl,by simp[up,h5],f,hvb⟩
  ·rintro x rest k _ t h J Q' kJ kQ hx hi ⟨h1,h2,h5,h7,h0,f,hvb⟩
   rw[asR]at hi
   have hdk:decide ((k:Int)<(N:Int))=true:=decide_eq_true (by omega)
   have hwk:IntKind.i64.wrap ((k:Int)+1)=((k+1:Nat):Int):=by rw[Gt (by omega) (by omega)];omega
   have hIk:=asN (far:=1000) hE k (avD (E:=E) (N:=N) (s:=0) (far:=1000) (by omega))
   generalize hdk0:Lq E k (Dy N 0 1000)=d0 at *
   (have hb:=trivial;with_reducible repeat' (first|simp only[hb,Va.down,seval,arF.down,h1,h2,h5,h7,h0,hdk]|refine Bj ?_ ?_<;>intro hb|refine fd ?_|fail))
   refine ahA (lst 80 E (fun i (_:Unit) t h=>t 1=Dn 1 true nn (ts.map bvv)∧t 2=.ptr 0 0 0∧t 5=.slr 1 b 0 N∧t 7=.int .i64 (k:Int)∧t 8=.int .i64 (i:Int)∧h[0]?=some (.live 3 false false [[.int .i64 (N:Int),.int .i64 w.need,Dn 9 true w.nn (w.parts.map Ab.cells)]])∧∃f,h[b]?=some (.live 1 true f (((E.take i).foldl Ou d0).map Im))) (fun _ _=>())
    (fun _ e t h=>e=.exit 4∧t 1=Dn 1 true nn (ts.map bvv)∧t 2=.ptr 0 0 0∧t 5=.slr 1 b 0 N∧t 7=.int .i64 (k:Int)∧h[0]?=some (.live 3 false false [[.int .i64 (N:Int),.int .i64 w.need,Dn 9 true w.nn (w.parts.map Ab.cells)]])∧∃f,h[b]?=some (.live 1 true f ((aIH E d0).map Im))) ?_ ?_ () _ _ ?_) (fun e t h hk=>?_)
   ·rintro _ t h Q'' kQ ⟨h1,h2,h5,h7,h8,h0,f,hvb⟩
    rw[hEl]at h8
    rw[ao7 (Nat.le_refl _)]at hvb
    (have hb:=trivial;with_reducible repeat' (first|simp only[hb,Va.down,seval,arF.down,h1,h2,h5,h8,h0,ao5,decide_false,abZ]|refine Bj ?_ ?_<;>intro hb|refine fd ?_|fail))
    exact kQ _ _ _ ⟨rfl,by simp[up,h1],by simp[up,h2],by simp[up,h5],by simp[up,h7],h0,f,hvb⟩
   ·rintro e rest i _ t h J' Q'' kJ kQ hx hi ⟨h1,h2,h5,h7,h8,h0,f,hvb⟩
    rw[hEl]at hi
    obtain⟨p,tt,hp,htt,he⟩:=azO (w:=w) (ts:=ts) (by rw[hEE];exact hx)
    have hpo:=hw.part p (avT hp)
    have hdi:decide ((i:Int)<(w.parts.length:Int))=true:=decide_eq_true (by omega)
    have hlen:=hw.len
    have hwi:IntKind.i64.wrap ((i:Int)+1)=((i+1:Nat):Int):=by rw[Gt (by omega) (by omega)];omega
    have hI:=azD (L:=E.take i) (fun e hm=>List.mem_of_mem_take hm) hE hIk
    have htk:(E.take (i+1)).foldl Ou d0=Ou ((E.take i).foldl Ou d0) e:=by rw[aCP,hx];simp[List.foldl_append]
    generalize hdd0:(E.take i).foldl Ou d0=d at *
    have hdl:=hI.len
    have hra:d[p.one.toNat]?=some (d.getD p.one.toNat 0):=by rw[atQ,aq1 (by omega)];rfl
    have hrb:d[p.other.toNat]?=some (d.getD p.other.toNat 0):=by rw[atQ,aq1 (by omega)];rfl
    have o1:(0≤p.one)=True:=eq_true hpo.1.1
    have o2:(p.one<(N:Int))=True:=eq_true hpo.1.2
    have o3:(0≤p.other)=True:=eq_true hpo.2.1.1
    have o4:(p.other<(N:Int))=True:=eq_true hpo.2.1.2
    have la:=hI.le p.one.toNat (by omega)
    have lb:=hI.le p.other.toNat (by omega)
    have hab:p.one.toNat≠p.other.toNat:=by have:=hpo.2.2;omega
    have htk2:(E.take (i+1)).foldl Ou d0=(d.set p.other.toNat (min (d.getD p.other.toNat 0) (d.getD p.one.toNat 0+if tt=true then 1 else 0))).set p.one.toNat (min (d.getD p.one.toNat 0) (d.getD p.other.toNat 0+if tt=true then 1 else 0)):=by rw[htk,he];rfl
    clear htk
    generalize d.getD p.one.toNat 0=da at *
    generalize d.getD p.other.toNat 0=db at *
    have hrr:∀r,((d.map Im).set p.other.toNat r)[p.one.toNat]?=some [.int .i64 (da:Nat)]:=fun r=>by rw[alG (fun e=>hab e.symm),aAM,hra];rfl
    have hbl:=An hvb
    have hsb:∀c,(h.set b c)[b]?=some c:=fun c=>ao9 hbl
    have hss:∀c c',(h.set b c).set b c'=h.set b c':=fun c c'=>ax1 ..
    have w0:∀n:Nat,n≤1000→IntKind.i64.wrap ((n:Int)+0)=(n:Int):=fun n hn=>by rw[Gt (by omega) (by omega)];omega
    have w1:∀n:Nat,n≤1000→IntKind.i64.wrap ((n:Int)+1)=((n+1:Nat):Int):=fun n hn=>by rw[Gt (by omega) (by omega)];omega
    have w0a:=w0 da la
    have w0b:=w0 db lb
    have w1a:=w1 da la
    have w1b:=w1 db lb
    cases tt with
    |false=>
     (have hb:=trivial;with_reducible repeat' (first|simp only[hb,Va.down,seval,arF.down,h1,h2,h5,h8,h0,hvb,hdi,hwi,hp,htt,hra,hrb,hrr,o1,o2,o3,o4,hsb,hss,w0a,w0b,bvv,Im,Ab.cells,abZ]|refine Bj ?_ ?_<;>intro hb|refine fd ?_|fail))
     refine Fv (kJ _ _ () ⟨by simp[up,h1],by simp[up,h2],by simp[up,h5],by simp[up,h7],by simp[up],by rw[alG (by omega)];exact h0,true,?_⟩ rfl)
     rw[ao9 hbl,htk2,auH,auH]
     simp only[Im,aDB,aC1,if_false,if_true,Nat.add_zero]
    |true=>
     (have hb:=trivial;with_reducible repeat' (first|simp only[hb,Va.down,seval,arF.down,h1,h2,h5,h8,h0,hvb,hdi,hwi,hp,htt,hra,hrb,hrr,o1,o2,o3,o4,hsb,hss,w1a,w1b,bvv,Im,Ab.cells,abZ]|refine Bj ?_ ?_<;>intro hb|refine fd ?_|fail))
     refine Fv (kJ _ _ () ⟨by simp[up,h1],by simp[up,h2],by simp[up,h5],by simp[up,h7],by simp[up],by rw[alG (by omega)];exact h0,true,?_⟩ rfl)
     rw[ao9 hbl,htk2,auH,auH]
     simp only[Im,aDB,aC1,if_false,if_true,Nat.add_zero]
   ·exact⟨by simp[up,h1],by simp[up,h2],by simp[up,h5],by simp[up,h7],by simp[up],h0,f,hvb⟩
   obtain⟨rfl,h1,h2,h5,h7,h0,f,hvb⟩:=hk
   (have hb:=trivial;with_reducible repeat' (first|simp only[hb,Va.down,seval,arF.down,h1,h2,h5,h7,hwk]|refine Bj ?_ ?_<;>intro hb|refine fd ?_|fail))
   exact Fv (kJ _ _ () ⟨by simp[up,h1],by simp[up,h2],by simp[up,h5],by simp[up],h0,f,by rw[aoQ,hdk0];exact hvb⟩ rfl)
  ·exact⟨by simp[up,h1],by simp[up,h2],by simp[up,h5],by simp[up],h0,false,hvb⟩
  obtain⟨rfl,h5,f,hvb⟩:=hk
  have hlr:((Lq E N (Dy N 0 1000)).map Im).length=N:=by simp[ar9,Dy]
  (have hb:=trivial;with_reducible repeat' (first|simp only[hb,Va.down,seval,arF.down,h5,hvb]|refine Bj ?_ ?_<;>intro hb|refine fd ?_|fail))
  exact⟨f,rfl⟩
 obtain⟨o,h',hc,f,e⟩:=key
 cases e
 exact⟨f,hc⟩
theorem aLY{w:Ao}{N:Nat}(hw:WOk w N)(E:List Net.Edge):(Lq E N (Dy N 0 1000)).length=N:=by rw[ar9];simp[Dy]
theorem aIR{w:Ao}{N:Nat}(hw:WOk w N){ts:List Bool}{nn:Bool}(ht:ts.length=w.parts.length):
 Eb.call (.fn 44) [.agg [.int .i64 w.rooms,.int .i64 w.need,Dn 9 true w.nn (w.parts.map Ab.cells)],Dn 1 true nn (ts.map bvv)] []=some (.ret (.int .i64 (aqQ (edg w ts) N w.parts.length:Nat)),[]):=by
 obtain⟨f,hD⟩:=av1 hw (nn:=nn) ht
 have hl:=aLY hw (edg w ts)
 have n2:=hw.n2
 have hlen:=hw.len
 unfold aqQ
 generalize Lq (edg w ts) N (Dy N 0 1000)=d at *
 have hd:d[1]?=some (d.getD 1 0):=by rw[atQ,aq1 (by omega)];rfl
 generalize d.getD 1 0=x at *
 have h1N:((1:Int)<(N:Int))=True:=eq_true (by omega)
 have hwl:IntKind.i64.wrap ((w.parts.length:Int)+1)=((w.parts.length+1:Nat):Int):=by rw[Gt (by omega) (by omega)];omega
 have hln:((d.map Im).length=N):=by simp[hl]
 by_cases hx:1000≤x
 ·have hge:decide ((1000:Int)≤(x:Int))=true:=decide_eq_true (by omega)
  rw[if_pos hx]
  (refine ce Tryz.func44 ?_;simp only[Tryz.f44];(have hb:=trivial;with_reducible repeat' (first|simp only[hb,Va.down,seval,aWA.down,hD,hd,h1N,hge,hwl,Im,abZ]|refine Bj ?_ ?_<;>intro hb|refine fd ?_|fail)))
 ·have hge:decide ((1000:Int)≤(x:Int))=false:=decide_eq_false (by omega)
  rw[if_neg hx]
  (refine ce Tryz.func44 ?_;simp only[Tryz.f44];(have hb:=trivial;with_reducible repeat' (first|simp only[hb,Va.down,seval,aWA.down,hD,hd,h1N,hge,hwl,Im,abZ]|refine Bj ?_ ?_<;>intro hb|refine fd ?_|fail)))
theorem asM(w:Ao)(d:Int):(ahC w d).length=w.parts.length:=by simp[ahC]
def Nk(w:Ao)(N:Nat)(d:Int):Nat:=aqQ (edg w (ahC w d)) N w.parts.length
theorem av6{w:Ao}{N:Nat}(hw:WOk w N)(d:Int):
 Eb.call (.fn 32) [.agg [.int .i64 w.rooms,.int .i64 w.need,Dn 9 true w.nn (w.parts.map Ab.cells)],.int .i64 d] []=some (.ret (.int .i64 (Nk w N d:Nat)),[]):=by
 have h1:=aK0 w d hw.len hw.ne
 have h2:=aIR hw (nn:=true) (asM w d)
 rw[asQ]at h2
 have hl:=asM w d
 have htk:aqG w.parts.length ((ahC w d).map bvv)=(ahC w d).map bvv:=ao7 (by simp[hl])
 (refine ce Tryz.func32 ?_;simp only[Tryz.f32];(have hb:=trivial;with_reducible repeat' (first|simp only[hb,Va.down,seval,aXU.down,h1,h2,hl,htk]|refine Bj ?_ ?_<;>intro hb|refine fdl ?_|fail)))
 rfl
theorem aUF(b:Bool):Eb.call (.fn 49) [.bool b] []=some (.ret (.int .i64 (if b=true then 1 else 0)),[]):=by
 cases b<;>(refine ce Tryz.func49 ?_;simp only[Tryz.f49];(have hb:=trivial;with_reducible repeat' (first|simp only[hb,Va.down,seval]|refine Bj ?_ ?_<;>intro hb|refine fd ?_|fail)))
theorem aKD(c:Int)(o:Bool):Eb.call (.fn 36) [.agg [.int .i64 c,.bool o]] []=some (.ret (.bool (c==0&& !o)),[]):=by
 cases hc:(c==0)<;>(refine ce Tryz.func36 ?_;simp only[Tryz.f36];(have hb:=trivial;with_reducible repeat' (first|simp only[hb,Va.down,seval,aXA.down,hc]|refine Bj ?_ ?_<;>intro hb|refine fd ?_|fail)))
theorem Ft(b r o:Nat)(i:Int):ia Tryz.prog 60 (some (.ptr b r o)) (some (.int .i64 i))=if 0≤i∧i<12 then some (.ret (.ptr b r (o+i.toNat*2)),[])else none:=by
 have h:Fg Tryz.prog 60 (.ptr b r o) (.int .i64 i)=if 0≤i∧i<12 then some (.ptr b r (o+i.toNat*2))else none:=by
  unfold Fg
  simp only[Tryz.underlying60]
  have hz:Ll Tryz.prog 58=some 2:=by kernel_rfl
  rw[hz]
  simp
 simp only[ia,Option.bind_some,h]
 split<;>rfl
def Ak(w:Ao)(d:Int):List (Int × Bool):=w.parts.map (fun p=>(Au p d,p.opn))++ab1 (12-w.parts.length) (0,false)
def Et(l:List (Int × Bool)):List AV:=l.flatMap fun x=>[.int .i64 x.1,.bool x.2]
theorem Ia(l:List (Int × Bool)):(Et l).length=2*l.length:=by
 induction l with
 |nil=>rfl
 |cons x l ih=>simp[Et]at ih ⊢;omega
theorem axE:∀(L:List (Int × Bool)) (i:Nat) (a:Int) (b b':Bool),L[i]?=some (a,b)→aqG (i*2+1) (Et L)++([.bool b']++ax2 (i*2+2) (Et L))=Et (L.set i (a,b'))
 | [],i,a,b,b',h=>by simp at h
 |x::L,0,a,b,b',h=>by simp at h;subst h;simp[Et]
 |x::L,i+1,a,b,b',h=>by
  have ih:=axE L i a b b' (by simpa using h)
  rw[show(i+1)*2+1=(i*2+1)+1+1 by omega,show(i+1)*2+2=(i*2+2)+1+1 by omega]
  simp only[Et,ax3,ax4,ax5,aC2,aC3,aC4]at ih ⊢
  rw[←ih]
theorem asL:∀(L:List (Int × Bool)) (i:Nat) (a a':Int) (b:Bool),L[i]?=some (a,b)→aqG (i*2) (Et L)++([.int .i64 a']++ax2 (i*2+1) (Et L))=Et (L.set i (a',b))
 | [],i,a,a',b,h=>by simp at h
 |x::L,0,a,a',b,h=>by simp at h;subst h;simp[Et]
 |x::L,i+1,a,a',b,h=>by
  have ih:=asL L i a a' b (by simpa using h)
  rw[show(i+1)*2=(i*2)+1+1 by omega,show(i*2)+1+1+1=(i*2+1)+1+1 by omega]
  simp only[Et,ax3,ax4,ax5,aC2,aC3,aC4]at ih ⊢
  rw[←ih]
def pcI(w:Ao)(d:Int)(i:Nat):List (Int × Bool):=(w.parts.take i).map (fun p=>(Au p d,p.opn))++ab1 (12-i) (0,false)
theorem aM6{w:Ao}{d:Int}{i:Nat}(hi:i<w.parts.length)(h12:w.parts.length≤12):(pcI w d i)[i]?=some (0,false):=by
 have hl:((w.parts.take i).map fun p=>(Au p d,p.opn)).length=i:=by rw[abZ,aC8];omega
 unfold pcI
 rw[avO (by omega),hl,Nat.sub_self,List.getElem?_replicate,if_pos (by omega)]
theorem aF2{w:Ao}{d:Int}{i:Nat}{p:Ab}(hx:w.parts[i]?=some p)(h12:w.parts.length≤12):(pcI w d i).set i (Au p d,p.opn)=pcI w d (i+1):=by
 have hi:i<w.parts.length:=(ah0.1 hx).1
 have hl:((w.parts.take i).map fun p=>(Au p d,p.opn)).length=i:=by rw[abZ,aC8];omega
 unfold pcI
 rw[List.set_append_right _ _ (by omega),hl,Nat.sub_self,aCP,hx]
 have e:12-i=(12-(i+1))+1:=by omega
 rw[e,aCD]
 simp
theorem aF3(w:Ao)(d:Int)(wf:Bool)(h12:w.parts.length≤12):Eb.call (.fn 24) [.ptr 0 0 0] [.live 4 false wf [[.int .i64 w.rooms,.int .i64 w.need,Dn 9 true w.nn (w.parts.map Ab.cells),.int .i64 d]]]=some (.ret (.agg (Et (Ak w d))),[.live 4 false wf [[.int .i64 w.rooms,.int .i64 w.need,Dn 9 true w.nn (w.parts.map Ab.cells),.int .i64 d]]]):=by
 refine ce Tryz.func24 ?_
 simp only[Tryz.f24]
 (have hb:=trivial;with_reducible repeat' (first|simp only[hb,Va.down,seval,aJ4.down,abZ]|refine Bj ?_ ?_<;>intro hb|refine fd ?_|fail))
 refine ahA (lst 44 w.parts (fun i (_:Unit) t h=>t 0=.ptr 0 0 0∧t 2=.ptr 1 0 0∧t 3=.ptr 2 0 0∧t 10=Dn 9 true w.nn (w.parts.map Ab.cells)∧t 11=.int .i64 (w.parts.length:Nat)∧t 12=.int .i64 (i:Int)∧h[0]?=some (.live 4 false wf [[.int .i64 w.rooms,.int .i64 w.need,Dn 9 true w.nn (w.parts.map Ab.cells),.int .i64 d]])∧h[1]?=some (.live 24 true false [Et (ab1 12 (0,false))])∧∃f,h[2]?=some (.live 24 true f [Et (pcI w d i)])) (fun _ _=>())
  (fun _ e t h=>e=.exit 0∧t 2=.ptr 1 0 0∧t 3=.ptr 2 0 0∧h[0]?=some (.live 4 false wf [[.int .i64 w.rooms,.int .i64 w.need,Dn 9 true w.nn (w.parts.map Ab.cells),.int .i64 d]])∧h[1]?=some (.live 24 true false [Et (ab1 12 (0,false))])∧∃f,h[2]?=some (.live 24 true f [Et (pcI w d w.parts.length)])) ?_ ?_ () _ _ ?_) (fun e t h hk=>?_)
 ·rintro _ t h Q' kQ ⟨h0,h2,h3,h10,h11,h12',hA,hB,f,hC⟩
  (have hb:=trivial;with_reducible repeat' (first|simp only[hb,Va.down,seval,aJ4.down,h11,h12',ao5,decide_false]|refine Bj ?_ ?_<;>intro hb|refine fd ?_|fail))
  exact kQ _ _ _ ⟨rfl,by simp[up,h2],by simp[up,h3],hA,hB,f,hC⟩
 ·rintro p rest i _ t h J Q' kJ kQ hx hi ⟨h0,h2,h3,h10,h11,h12',hA,hB,f,hC⟩
  have hdd:decide ((i:Int)<(w.parts.length:Int))=true:=decide_eq_true (by omega)
  have hww:=Iw hi (by unfold maxLen;omega)
  have hA1:=Ar hA
  have hC1:=Ar hC
  have hl2:=An hC
  have i1:((i:Int)<12)=True:=eq_true (by omega)
  have hpl:(Et (pcI w d i)).length=24:=by rw[Ia];simp[pcI];omega
  have hS:=Lx hl2
  have i2:(i*2≤22)=True:=eq_true (by omega)
  have i3:(i*2≤23)=True:=eq_true (by omega)
  have hat:=aM6 (d:=d) hi h12
  have hnx:=aF2 (d:=d) hx h12
  generalize hL:pcI w d i=L at *
  have s1:=axE L i 0 false p.opn hat
  have tk1:aqG (23-i*2) [AV.bool p.opn]=[AV.bool p.opn]:=ao7 (by simp;omega)
  have hat2:(L.set i (0,p.opn))[i]?=some (0,p.opn):=ao9 (by have:=(ah0.1 hat).1;exact this)
  have s2:=fun v=>asL (L.set i (0,p.opn)) i 0 v p.opn hat2
  have tk2:∀v,aqG (24-i*2) [AV.int .i64 v]=[AV.int .i64 v]:=fun v=>ao7 (by simp;omega)
  simp only[ax4,ax5]at s1 s2
  have hpl2:(Et (L.set i (0,p.opn))).length=24:=by rw[Ia]at hpl ⊢;simpa using hpl
  have hg2:∀c l,(h.set 2 c++l)[2]?=some c:=fun c l=>by rw[aqM (by simpa using hl2),ao9 hl2]
  have hg0:∀c l,(h.set 2 c++l)[0]?=h[0]?:=fun c l=>by rw[aqM (by simp;omega),alG (by omega)]
  have hg1:∀c l,(h.set 2 c++l)[1]?=h[1]?:=fun c l=>by rw[aqM (by simp;omega),alG (by omega)]
  have hgs:∀c l c',(h.set 2 c++l).set 2 c'=h.set 2 c'++l:=fun c l c'=>by rw[Lx (by simpa using hl2),ax1]
  have ss2:∀v:Int,(L.set i (0,p.opn)).set i (v,p.opn)=L.set i (v,p.opn):=fun v=>ax1 ..
  have nx:∀(v:Int) (t':Tm) (l':Aa),Au p d=v→t' 0=.ptr 0 0 0∧t' 2=.ptr 1 0 0∧t' 3=.ptr 2 0 0∧t' 10=Dn 9 true w.nn (w.parts.map Ab.cells)∧t' 11=.int .i64 (w.parts.length:Nat)∧t' 12=.int .i64 ((i+1:Nat):Int)→J t' (h.set 2 (.live 24 true true [Et (L.set i (v,p.opn))])++l'):=fun v t' l' hv ht=>by
   rw[←hv,hnx]
   exact kJ _ _ () ⟨ht.1,ht.2.1,ht.2.2.1,ht.2.2.2.1,ht.2.2.2.2.1,ht.2.2.2.2.2,by rw[hg0];exact hA,by rw[hg1];exact hB,true,hg2 _ _⟩ rfl
  (have hb:=trivial;with_reducible repeat' (first|simp only[hb,Va.down,seval,aJ4.down,h0,h2,h3,h10,h11,h12',hdd,hww,hx,hA,hA1,hC,hC1,hS,Ft,i1,i2,i3,hpl,hpl2,s1,s2,tk1,tk2,ss2,hg2,hg0,hg1,hgs,Kr,Hz,avQ,Ab.cells]|refine Bj ?_ ?_<;>intro hb|refine fd ?_|fail))
  ·refine Fv (nx 2 _ _ (by simp[Au, *]) ⟨by simp[up,h0],by simp[up,h2],by simp[up,h3],by simp[up,h10],by simp[up,h11],by simp[up]⟩)
  ·refine Fv (nx 1 _ _ (by simp[Au];simp_all) ⟨by simp[up,h0],by simp[up,h2],by simp[up,h3],by simp[up,h10],by simp[up,h11],by simp[up]⟩)
  ·refine Fv (nx 0 _ _ (by simp[Au];simp_all) ⟨by simp[up,h0],by simp[up,h2],by simp[up,h3],by simp[up,h10],by simp[up,h11],by simp[up]⟩)
 ·exact⟨by simp[up,ent],by simp[up],by simp[up],by simp[up],by simp[up],by simp[up],rfl,rfl,false,rfl⟩
 obtain⟨rfl,h2,h3,hA,hB,f,hC⟩:=hk
 have hL:pcI w d w.parts.length=Ak w d:=by unfold pcI Ak;rw[ao7 (Nat.le_refl _)]
 rw[hL]at hC
 have hpl:(Et (Ak w d)).length=24:=by rw[Ia];simp[Ak];omega
 have hpz:(Et (ab1 12 (0,false))).length=24:=by rw[Ia];simp
 have htk:aqG 24 (Et (Ak w d))=Et (Ak w d):=ao7 (by omega)
 have hl1:=An hB
 generalize Et (ab1 12 (0,false))=zs at *
 have hdz:ax2 24 zs=[]:=List.drop_eq_nil_iff.2 (by omega)
 have hcell:(Et (Ak w d)).all AV.isCell=true:=by
  have:∀l:List (Int × Bool),(Et l).all AV.isCell=true:=fun l=>by
   induction l with
   |nil=>rfl
   |cons x l ih=>simp only[Et,ax3,List.all_append]at ih ⊢;rw[ih];rfl
  exact this _
 have hform:∀x∈Et (Ak w d),(∃n,x=.int .i64 n)∨∃b,x=.bool b:=fun x hx=>by
  simp only[Et,List.mem_flatMap,List.mem_cons,List.not_mem_nil,or_false]at hx
  obtain⟨y,_,rfl|rfl⟩:=hx
  ·exact .inl ⟨_,rfl⟩
  ·exact .inr ⟨_,rfl⟩
 have hflat:(Et (Ak w d)).all AV.flat=true:=avE.2 fun x hx=>by rcases hform x hx with⟨n,rfl⟩|⟨b,rfl⟩<;>rfl
 have hrf:Bw.refL (Bw 7) [0] (Et (Ak w d))=some (Et (Ak w d),[0]):=Fq fun x hx=>by rcases hform x hx with⟨n,rfl⟩|⟨b,rfl⟩<;>rfl
 have hg1:∀c,(h.set 1 c)[1]?=some c:=fun c=>ao9 hl1
 have hg0:∀c,(h.set 1 c)[0]?=h[0]?:=fun c=>alG (by omega)
 generalize Et (Ak w d)=ps at *
 (have hb:=trivial;with_reducible repeat' (first|simp only[hb,Va.down,seval,aJ4.down,h2,h3,hA,hB,hC,hpl,hpz,htk,hdz,hcell,hflat,hrf,hg1,hg0]|refine Bj ?_ ?_<;>intro hb|refine fd ?_|fail))
def Kw(N:Int)(p:Ab):Bool:=Io p.one 0 (IntKind.i64.wrap (N-1))&&Io p.other 0 (IntKind.i64.wrap (N-1))&& !(p.one==p.other)&& !(p.opn&& !p.valve)&&Na p.tested&&Na p.valid&&Io p.test 1 1000&&Io p.change 1 1000
def az9(w:Ao):Bool:=Io w.rooms 2 8&&Io w.need 0 12&&Io (w.parts.length:Int) 1 12
def Ie(w:Ao):Bool:=az9 w&&w.parts.all (Kw w.rooms)
theorem aPC(w:Ao)(hs:w.small):Eb.call (.fn 7) [.agg [.int .i64 w.rooms,.int .i64 w.need,Dn 9 true w.nn (w.parts.map Ab.cells)]] []=some (.ret (.bool (Ie w)),[]):=by
 have k1:=auL w.rooms 2 8
 have k2:=auL w.need 0 12
 have k3:=auL (w.parts.length:Int) 1 12
 have hh:az9 w=(Io w.rooms 2 8&&Io w.need 0 12&&Io (w.parts.length:Int) 1 12):=rfl
 unfold Ie
 generalize Io w.rooms 2 8=c1 at *
 generalize Io w.need 0 12=c2 at *
 generalize Io (w.parts.length:Int) 1 12=c3 at *
 cases c1
 ·rw[hh]
  (refine ce Tryz.func7 ?_;simp only[Tryz.f7];(have hb:=trivial;with_reducible repeat' (first|simp only[hb,Va.down,seval,TY7.down,k1,k2,k3,abZ]|refine Bj ?_ ?_<;>intro hb|refine fd ?_|fail)))
 cases c2
 ·rw[hh]
  (refine ce Tryz.func7 ?_;simp only[Tryz.f7];(have hb:=trivial;with_reducible repeat' (first|simp only[hb,Va.down,seval,TY7.down,k1,k2,k3,abZ]|refine Bj ?_ ?_<;>intro hb|refine fd ?_|fail)))
 cases c3
 ·rw[hh]
  (refine ce Tryz.func7 ?_;simp only[Tryz.f7];(have hb:=trivial;with_reducible repeat' (first|simp only[hb,Va.down,seval,TY7.down,k1,k2,k3,abZ]|refine Bj ?_ ?_<;>intro hb|refine fd ?_|fail)))
 rw[hh]
 simp only[Bool.and_self,Bool.true_and]
 (refine ce Tryz.func7 ?_;simp only[Tryz.f7];(have hb:=trivial;with_reducible repeat' (first|simp only[hb,Va.down,seval,TY7.down,k1,k2,k3,abZ]|refine Bj ?_ ?_<;>intro hb|refine fd ?_|fail)))
 refine ahA (lst 90 w.parts (fun i (zz:Unit) t h=>t 1=.ptr 0 0 0∧t 3=.int .i64 i∧(h[0]?=some (.live 3 false false [[.int .i64 w.rooms,.int .i64 w.need,Dn 9 true w.nn (w.parts.map Ab.cells)]]))) (fun rest zz=>rest.all (Kw w.rooms)) (fun r e t h=>(e=.exit 0∧r=true)∨(e=.ret∧t 2=.bool false∧r=false)) ?_ ?_ () _ _ ?_) (fun e t h hk=>?_)
 ·rintro _ t h Q' kQ ⟨h1,h3,hA⟩
  (have hb:=trivial;with_reducible repeat' (first|simp only[hb,Va.down,seval,TY7.down,h1,h3,ao5,decide_false,hA,abZ]|refine Bj ?_ ?_<;>intro hb|refine fd ?_|fail))
  exact kQ _ _ _ (.inl ⟨rfl,rfl⟩)
 ·rintro x rest i _ t h J Q' kJ kQ hx hi ⟨h1,h3,hA⟩
  have hd:decide ((i:Int)<(w.parts.length:Int))=true:=decide_eq_true (by omega)
  have hw:=Iw hi hs.parts
  have q1:=auL x.one 0 (IntKind.i64.wrap (w.rooms-1))
  have q2:=auL x.other 0 (IntKind.i64.wrap (w.rooms-1))
  have q4:=aC9 x.tested
  have q5:=aC9 x.valid
  have q6:=auL x.test 1 1000
  have q7:=auL x.change 1 1000
  have hp:Kw w.rooms x=(Io x.one 0 (IntKind.i64.wrap (w.rooms-1))&&Io x.other 0 (IntKind.i64.wrap (w.rooms-1))&& !(x.one==x.other)&& !(x.opn&& !x.valve)&&Na x.tested&&Na x.valid&&Io x.test 1 1000&&Io x.change 1 1000):=rfl
  have hA1:=Ar hA
  generalize Io x.one 0 (IntKind.i64.wrap (w.rooms-1))=d1 at *
  generalize Io x.other 0 (IntKind.i64.wrap (w.rooms-1))=d2 at *
  cases hq3:(x.one==x.other)
  all_goals rw[hq3]at hp
  all_goals generalize Na x.tested=d4 at *
  all_goals generalize Na x.valid=d5 at *
  all_goals generalize Io x.test 1 1000=d6 at *
  all_goals generalize Io x.change 1 1000=d7 at *
  all_goals (have hb:=trivial;with_reducible repeat' (first|simp only[hb,Va.down,seval,TY7.down,h1,h3,hd,hx,hw,hA,hA1,q1,q2,hq3,q4,q5,q6,q7,Ab.cells,abZ]|refine Bj ?_ ?_<;>intro hb|refine fd ?_|fail))
  all_goals first|(refine kQ _ _ _ (.inr ⟨rfl,by simp[up],?_⟩);simp_all;done)|(refine Fv (kJ _ _ () ⟨?_,?_,hA1 _⟩ ?_);(simp[up,h1]);(simp[up]);(simp_all))
 ·exact⟨by simp[up,ent],by simp[up],rfl⟩
 rcases hk with⟨rfl,hr⟩|⟨rfl,h2,hr⟩
 ·rw[hr]
  (have hb:=trivial;with_reducible repeat' (first|simp only[hb,Va.down,seval,TY7.down]|refine Bj ?_ ?_<;>intro hb|refine fd ?_|fail))
 ·rw[hr]
  (have hb:=trivial;with_reducible repeat' (first|simp only[hb,Va.down,seval,TY7.down,h2]|refine Bj ?_ ?_<;>intro hb|refine fd ?_|fail))
theorem aAE{w:Ao}(h:Ie w=true):∃N,WOk w N∧w.parts.length≤12:=by
 simp only[Ie,az9,Io,aDH,decide_eq_true_eq,avE]at h
 obtain⟨⟨⟨⟨h1,h2⟩,h3,h4⟩,h5,h6⟩,h7⟩:=h
 refine⟨w.rooms.toNat,⟨by omega,by omega,by omega,by omega,fun e=>by rw[e]at h5;simp at h5,fun p hp=>?_⟩,by omega⟩
 have:=h7 p hp
 simp only[Kw,Io,aDH,decide_eq_true_eq,Bool.not_eq_true',beq_eq_false_iff_ne]at this
 obtain⟨⟨⟨⟨⟨⟨⟨a1,a2⟩,a3⟩,_⟩,_⟩,_⟩,_⟩,_⟩:=this
 rw[Gt (by omega) (by omega)]at a1 a2
 refine⟨by omega,by omega,a3⟩
def idx{α:Type}(p:α→Bool):List α→Int→Int
 | [],_=> -1
 |x::l,i=>if p x=true then i else idx p l (i+1)
theorem aAJ{α:Type}(p:α→Bool):∀(l:List α) (i:Int),0≤i→decide (0≤idx p l i)=l.any p
 | [],i,_=>rfl
 |x::l,i,h=>by
  unfold idx
  split
  ·rename_i hp;simp[h,hp]
  ·rename_i hp;rw[aAJ p l (i+1) (by omega)];simp[hp]
theorem aO8(p:Ab)(N:Int):Eb.call (.fn 56) [.agg [.int .i64 p.one,.int .i64 p.other,.bool p.valve,.bool p.opn,.int .i64 p.tested,.int .i64 p.valid,.bool p.bad,.int .i64 p.test,.int .i64 p.change],.int .i64 N] []=some (.ret (.bool (Kw N p)),[]):=by
 have q1:=aqU p.one 0 (IntKind.i64.wrap (N-1))
 have q2:=aqU p.other 0 (IntKind.i64.wrap (N-1))
 have q4:=aqU p.tested 0 5000
 have q5:=aqU p.valid 0 5000
 have q6:=aqU p.test 1 1000
 have q7:=aqU p.change 1 1000
 have hp:Kw N p=(Io p.one 0 (IntKind.i64.wrap (N-1))&&Io p.other 0 (IntKind.i64.wrap (N-1))&& !(p.one==p.other)&& !(p.opn&& !p.valve)&&Io p.tested 0 5000&&Io p.valid 0 5000&&Io p.test 1 1000&&Io p.change 1 1000):=rfl
 generalize Io p.one 0 (IntKind.i64.wrap (N-1))=d1 at *
 generalize Io p.other 0 (IntKind.i64.wrap (N-1))=d2 at *
 generalize Io p.tested 0 5000=d4 at *
 generalize Io p.valid 0 5000=d5 at *
 generalize Io p.test 1 1000=d6 at *
 generalize Io p.change 1 1000=d7 at *
 cases hq3:(p.one==p.other)
 all_goals rw[hq3]at hp
 all_goals rw[hp]
 all_goals (refine ce Tryz.func56 ?_;simp only[Tryz.f56];(have hb:=trivial;with_reducible repeat' (first|simp only[hb,Va.down,seval,aXC.down,q1,q2,hq3,q4,q5,q6,q7]|refine Bj ?_ ?_<;>intro hb|refine fd ?_|fail)))
 all_goals simp_all
theorem aJ8(w:Ao)(x:Ab):Eb.call (.fn 55) [.agg [.int .i64 x.one,.int .i64 x.other,.bool x.valve,.bool x.opn,.int .i64 x.tested,.int .i64 x.valid,.bool x.bad,.int .i64 x.test,.int .i64 x.change],.ptr 0 0 0] [.live 3 false false [[.int .i64 w.rooms,.int .i64 w.need,Dn 9 true w.nn (w.parts.map Ab.cells)]]]=some (.ret (.bool (!Kw w.rooms x)),[.live 3 false false [[.int .i64 w.rooms,.int .i64 w.need,Dn 9 true w.nn (w.parts.map Ab.cells)]]]):=by
 have h:=aO8 x w.rooms
 (refine ce Tryz.func55 ?_;simp only[Tryz.f55];(have hb:=trivial;with_reducible repeat' (first|simp only[hb,Va.down,seval,aXO.down,h]|refine Bj ?_ ?_<;>intro hb|refine fd ?_|fail)))
theorem aBX{l:List Ab}{nn:Bool}{g:Nat}{mm:Ao}{p:Ab→Bool}(hp:∀x∈l,Eb.call (.fn g) (.agg [.int .i64 x.one,.int .i64 x.other,.bool x.valve,.bool x.opn,.int .i64 x.tested,.int .i64 x.valid,.bool x.bad,.int .i64 x.test,.int .i64 x.change]::[.ptr 0 0 0]) [.live 3 false false [[.int .i64 mm.rooms,.int .i64 mm.need,Dn 9 true mm.nn (mm.parts.map Ab.cells)]]]=some (.ret (.bool (p x)),[.live 3 false false [[.int .i64 mm.rooms,.int .i64 mm.need,Dn 9 true mm.nn (mm.parts.map Ab.cells)]]]))(hl:l.length≤maxLen):
 Eb.call (.fn 74) [Dn 9 true nn (l.map Ab.cells),.func (.func g) [] [.ptr 0 0 0]] [.live 3 false false [[.int .i64 mm.rooms,.int .i64 mm.need,Dn 9 true mm.nn (mm.parts.map Ab.cells)]]]=some (.ret (.int .i64 (idx p l 0)),[.live 3 false false [[.int .i64 mm.rooms,.int .i64 mm.need,Dn 9 true mm.nn (mm.parts.map Ab.cells)]]]):=by
 (refine ce Tryz.func74 ?_;simp only[Tryz.f74];(have hb:=trivial;with_reducible repeat' (first|simp only[hb,Va.down,seval,aF8.down,abZ]|refine Bj ?_ ?_<;>intro hb|refine fd ?_|fail)))
 refine ahA (lst 19 l (fun i (s:Int) t h=>s=i∧h=[.live 3 false false [[.int .i64 mm.rooms,.int .i64 mm.need,Dn 9 true mm.nn (mm.parts.map Ab.cells)]]]∧t 0=Dn 9 true nn (l.map Ab.cells)∧t 1=.func (.func g) [] [.ptr 0 0 0]∧t 7=.int .i64 l.length∧t 8=.int .i64 i)
  (fun rest s=>idx p rest s) (fun r e t h=>h=[.live 3 false false [[.int .i64 mm.rooms,.int .i64 mm.need,Dn 9 true mm.nn (mm.parts.map Ab.cells)]]]∧((e=.exit 0∧r= -1)∨(e=.ret∧t 4=.int .i64 r))) ?_ ?_ 0 _ _ ?_) (fun e t h hk=>?_)
 ·rintro s t h Q' kQ ⟨rfl,rfl,h0,h1,h7,h8⟩
  (have hb:=trivial;with_reducible repeat' (first|simp only[hb,Va.down,seval,aF8.down,h0,h1,h7,h8,ao5,decide_false]|refine Bj ?_ ?_<;>intro hb|refine fd ?_|fail))
  exact kQ _ _ _ ⟨rfl,.inl ⟨rfl,rfl⟩⟩
 ·rintro x rest i s t h J Q' kJ kQ hx hi ⟨rfl,rfl,h0,h1,h7,h8⟩
  have hpx:=hp x (avT hx)
  have hd:decide ((i:Int)<(l.length:Int))=true:=by simpa using hi
  (have hb:=trivial;with_reducible repeat' (first|simp only[hb,Va.down,seval,aF8.down,h0,h1,h7,h8,hd,hx,Ab.cells,hpx,Iw hi hl]|refine Bj ?_ ?_<;>intro hb|refine fd ?_|fail))
  ·exact kQ _ _ _ ⟨rfl,.inr ⟨rfl,by simp[up,idx,hb]⟩⟩
  ·exact Fv (kJ _ _ (i+1) ⟨by simp,rfl,by simp[up,h0],by simp[up,h1],by simp[up,h7],by simp[up]⟩ (by simp[idx,hb]))
 ·exact⟨rfl,rfl,by simp[up,ent],by simp[up,ent],by simp[up],by simp[up]⟩
 ·obtain⟨rfl,⟨rfl,hi⟩|⟨rfl,hi⟩⟩:=hk
  ·(have hb:=trivial;with_reducible repeat' (first|simp only[hb,Va.down,seval,aF8.down]|refine Bj ?_ ?_<;>intro hb|refine fd ?_|fail))
   rw[hi]
  ·(have hb:=trivial;with_reducible repeat' (first|simp only[hb,Va.down,seval,aF8.down,hi]|refine Bj ?_ ?_<;>intro hb|refine fd ?_|fail))
theorem ayZ{l:List Ab}{nn:Bool}{g:Nat}{mm:Ao}{p:Ab→Bool}(hp:∀x∈l,Eb.call (.fn g) (.agg [.int .i64 x.one,.int .i64 x.other,.bool x.valve,.bool x.opn,.int .i64 x.tested,.int .i64 x.valid,.bool x.bad,.int .i64 x.test,.int .i64 x.change]::[.ptr 0 0 0]) [.live 3 false false [[.int .i64 mm.rooms,.int .i64 mm.need,Dn 9 true mm.nn (mm.parts.map Ab.cells)]]]=some (.ret (.bool (p x)),[.live 3 false false [[.int .i64 mm.rooms,.int .i64 mm.need,Dn 9 true mm.nn (mm.parts.map Ab.cells)]]]))(hl:l.length≤maxLen):
 Eb.call (.fn 54) [Dn 9 true nn (l.map Ab.cells),.func (.func g) [] [.ptr 0 0 0]] [.live 3 false false [[.int .i64 mm.rooms,.int .i64 mm.need,Dn 9 true mm.nn (mm.parts.map Ab.cells)]]]=some (.ret (.bool (l.any p)),[.live 3 false false [[.int .i64 mm.rooms,.int .i64 mm.need,Dn 9 true mm.nn (mm.parts.map Ab.cells)]]]):=by
 (refine ce Tryz.func54 ?_;simp only[Tryz.f54];(have hb:=trivial;with_reducible repeat' (first|simp only[hb,Va.down,seval,aBX hp hl,aAJ p l 0 (Int.le_refl 0)]|refine Bj ?_ ?_<;>intro hb|refine fd ?_|fail)))
theorem aSF(w:Ao)(hs:w.small):Eb.call (.fn 39) [.agg [.int .i64 w.rooms,.int .i64 w.need,Dn 9 true w.nn (w.parts.map Ab.cells)]] []=some (.ret (.bool (Ie w)),[]):=by
 have k1:=aqU w.rooms 2 8
 have k2:=aqU w.need 0 12
 have k3:=aqU (w.parts.length:Int) 1 12
 have hcM:=ayZ (mm:=w) (l:=w.parts) (nn:=w.nn) (g:=55) (p:=fun x=> !Kw w.rooms x) (fun x _=>aJ8 w x) hs.parts
 have q1:w.parts.all (Kw w.rooms)= !(w.parts.any fun x=> !Kw w.rooms x):=List.all_eq_not_any_not
 have hh:az9 w=(Io w.rooms 2 8&&Io w.need 0 12&&Io (w.parts.length:Int) 1 12):=rfl
 unfold Ie
 rw[hh,q1]
 generalize Io w.rooms 2 8=c1 at *
 generalize Io w.need 0 12=c2 at *
 generalize Io (w.parts.length:Int) 1 12=c3 at *
 generalize(w.parts.any fun x=> !Kw w.rooms x)=c4 at *
 cases c1<;>cases c2<;>cases c3
 all_goals (refine ce Tryz.func39 ?_;simp only[Tryz.f39];(have hb:=trivial;with_reducible repeat' (first|simp only[hb,Va.down,seval,aXH.down,k1,k2,k3,hcM,abZ]|refine Bj ?_ ?_<;>intro hb|refine fd ?_|fail)))
 all_goals simp
end Go.Proofs.YtckfcfcmfjfchaaGreatDoor
