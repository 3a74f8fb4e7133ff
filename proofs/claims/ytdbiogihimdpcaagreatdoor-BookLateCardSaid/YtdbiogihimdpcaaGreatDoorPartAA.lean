/- The functions of the layer, walked. -/
import Derived.Test.YtdbiogihimdpcaaGreatDoorLibD
import Derived.Test.YtdbiogihimdpcaaGreatDoorChecked
import Derived.Test.YtdbiogihimdpcaaGreatDoorLibE
import Derived.Test.YtdbiogihimdpcaaGreatDoorRows
import Derived.Test.YtdbiogihimdpcaaGreatDoorTie
import Derived.Test.YtdbiogihimdpcaaGreatDoorCards
import Derived.Test.YtdbiogihimdpcaaGreatDoorShelf
import Derived.ProofKit
import Derived.LaidMore
import Derived.OpenShut
import Derived.Stop.Joined
open And renaming intro→aa9
open List renaming mem_append_right→abQ,mem_append_left→acI,mem_append→adL,length_map→adP,getElem?_eq_some_iff→aeY,mem_of_getElem?→ae4,all_eq_not_any_not→ajX
open Bool renaming and_eq_true→acL,or_eq_true→acQ,not_eq_true'→acR,and_eq_false_iff→acV,or_eq_false_iff→adG,not_true→adJ,not_false→adK,not_eq_eq_eq_not→adO,eq_false_iff→ajY
open Nat renaming ble→adM
open Int renaming lt_irrefl→adN,le_refl→adQ
set_option linter.unusedSimpArgs false
set_option linter.unusedVariables false
namespace Go.Proofs.YtdbiogihimdpcaaGreatDoor
open Go.Ev
set_option maxRecDepth 100000
theorem Fh(b r o:Nat):fa Tryz.prog 24 (some (.ptr b r o)) 5=some (.ret (.ptr b r (o+5)),[]):=Bf (show Bo Tryz.prog 24 5 5 1 from⟨_,_,Tryz.underlying24,rfl,rfl,by kernel_rfl,by decide⟩) b r o
theorem Gx(h:Aa)(b r o:Nat):ld Tryz.prog 22 h (some (.ptr b r o))=ldC (Nl (h[b]?) r) o:=aH ⟨by kernel_rfl,1,by kernel_rfl⟩ h b r o
theorem abW(b r o:Nat):pQ Tryz.prog 22 (some (.ptr b r o))=some [.cells b o 1]:=Jy (isA:=false) (n:=1) (by kernel_rfl) (by kernel_rfl) b r o
theorem mQ(st b r len:Nat):ln Tryz.prog 25 (some (.slr st b r len))=some (.ret (.int .i64 len),[]):=xG (n:=1) ⟨_,Tryz.underlying25,by kernel_rfl⟩ st b r len
theorem aaH:ln Tryz.prog 25 (some .nils)=some (.ret (.int .i64 0),[]):=iF (n:=1) ⟨_,Tryz.underlying25,by kernel_rfl⟩
theorem Oi(fl nn:Bool)(rows:List (List AV)):ln Tryz.prog 25 (some (Az 1 fl nn rows))=some (.ret (.int .i64 rows.length),[]):=dL ⟨_,Tryz.underlying25,by kernel_rfl⟩ fl nn rows
theorem Jm(h:Aa)(b r o:Nat):ld Tryz.prog 24 h (some (.ptr b r o))=yV (Nl (h[b]?) r) o 6:=Yd ⟨by kernel_rfl,by kernel_rfl⟩ h b r o
theorem abY(b r o:Nat):pQ Tryz.prog 24 (some (.ptr b r o))=some [.cells b o 6]:=Jy (isA:=true) (n:=6) (by kernel_rfl) (by kernel_rfl) b r o
theorem Lr(b r len:Nat)(k:IntKind)(i:Int):ia Tryz.prog 25 (some (.slr 1 b r len)) (some (.int k i))=if 0≤i∧i<len then some (.ret (.ptr b (r+i.toNat) 0),[])else none:=vJ ⟨_,Tryz.underlying25,by kernel_rfl⟩ b r len k i
theorem Md(fl nn:Bool)(rows:List (List AV))(k:IntKind)(i:Int):ia Tryz.prog 25 (some (Az 1 fl nn rows)) (some (.int k i))=if 0≤i then r1 ((rows[i.toNat]?).map .iptr)else none:=dZ ⟨_,Tryz.underlying25,by kernel_rfl⟩ fl nn rows k i
theorem Av(h:Aa)(b r o:Nat):ld Tryz.prog 3 h (some (.ptr b r o))=ldC (Nl (h[b]?) r) o:=aH ⟨by kernel_rfl,1,by kernel_rfl⟩ h b r o
theorem Eo(h:Aa)(c:AV)(cs:List AV):ld Tryz.prog 3 h (some (.iptr (c::cs)))=some (.ret c,[]):=ahB ⟨by kernel_rfl,1,by kernel_rfl⟩ h c cs
theorem cA(b r o:Nat):pQ Tryz.prog 3 (some (.ptr b r o))=some [.cells b o 1]:=Jy (isA:=false) (n:=1) (by kernel_rfl) (by kernel_rfl) b r o
theorem Ij(fl nn:Bool)(rows:List (List AV))(k:IntKind)(i:Int):ia Tryz.prog 22 (some (Az 11 fl nn rows)) (some (.int k i))=if 0≤i then r1 ((rows[i.toNat]?).map .iptr)else none:=dZ ⟨_,Tryz.underlying22,by kernel_rfl⟩ fl nn rows k i
theorem gB(b r o:Nat):fa Tryz.prog 42 (some (.ptr b r o)) 0=some (.ret (.ptr b r (o+0)),[]):=Bf (show Bo Tryz.prog 42 0 0 1 from⟨_,_,Tryz.underlying42,rfl,rfl,by kernel_rfl,by decide⟩) b r o
theorem gQ(cs:List AV):fa Tryz.prog 42 (some (.iptr cs)) 0=if 0+1≤cs.length then some (.ret (.iptr (cs.drop 0)),[])else none:=Qh (show Bo Tryz.prog 42 0 0 1 from⟨_,_,Tryz.underlying42,rfl,rfl,by kernel_rfl,by decide⟩) cs
theorem mR(h:Aa)(b r o:Nat):ld Tryz.prog 4 h (some (.ptr b r o))=ldC (Nl (h[b]?) r) o:=aH ⟨by kernel_rfl,1,by kernel_rfl⟩ h b r o
theorem nQ(h:Aa)(c:AV)(cs:List AV):ld Tryz.prog 4 h (some (.iptr (c::cs)))=some (.ret c,[]):=ahB ⟨by kernel_rfl,1,by kernel_rfl⟩ h c cs
theorem bF(h:Aa)(b r o:Nat):ld Tryz.prog 48 h (some (.ptr b r o))=yV (Nl (h[b]?) r) o 3:=Yd ⟨by kernel_rfl,by kernel_rfl⟩ h b r o
theorem Mc(b r o:Nat):fa Tryz.prog 48 (some (.ptr b r o)) 0=some (.ret (.ptr b r (o+0)),[]):=Bf (show Bo Tryz.prog 48 0 0 1 from⟨_,_,Tryz.underlying48,rfl,rfl,by kernel_rfl,by decide⟩) b r o
theorem Oy(h:Aa)(b r o:Nat):ld Tryz.prog 44 h (some (.ptr b r o))=ldC (Nl (h[b]?) r) o:=aH ⟨by kernel_rfl,1,by kernel_rfl⟩ h b r o
theorem Qs(fl nn:Bool)(rows:List (List AV)):ln Tryz.prog 44 (some (Az 4 fl nn rows))=some (.ret (.int .i64 rows.length),[]):=dL ⟨_,Tryz.underlying44,by kernel_rfl⟩ fl nn rows
theorem Gs(fl nn:Bool)(rows:List (List AV)):ln Tryz.prog 22 (some (Az 11 fl nn rows))=some (.ret (.int .i64 rows.length),[]):=dL ⟨_,Tryz.underlying22,by kernel_rfl⟩ fl nn rows
theorem bS:Jv Tryz.prog 52=some (.agg [.int .i64 0,.nils,.int .i64 0,.int .i64 0,.nils,.nils]):=by kernel_rfl
theorem bU(h:Aa)(b r o:Nat)(v:AV):qK Tryz.prog 52 h (some (.ptr b r o)) (some v)=sv 6 (h[b]?) b r o (acells v):=Oc (by kernel_rfl) h b r o v
theorem acN(b r o:Nat):ftS Tryz.prog 52 (some (.ptr b r o))=some [.cells b o 6]:=Xk (by kernel_rfl) b r o
theorem oL(st b r len:Nat):ln Tryz.prog 53 (some (.slr st b r len))=some (.ret (.int .i64 len),[]):=xG (n:=4) ⟨_,Tryz.underlying53,by kernel_rfl⟩ st b r len
theorem aaQ:ln Tryz.prog 53 (some .nils)=some (.ret (.int .i64 0),[]):=iF (n:=4) ⟨_,Tryz.underlying53,by kernel_rfl⟩
theorem Im(b r o:Nat):fa Tryz.prog 52 (some (.ptr b r o)) 1=some (.ret (.ptr b r (o+1)),[]):=Bf (show Bo Tryz.prog 52 1 1 1 from⟨_,_,Tryz.underlying52,rfl,rfl,by kernel_rfl,by decide⟩) b r o
theorem Eh(h:Aa)(b r o:Nat):ld Tryz.prog 25 h (some (.ptr b r o))=ldC (Nl (h[b]?) r) o:=aH ⟨by kernel_rfl,1,by kernel_rfl⟩ h b r o
theorem dJ(b r o:Nat):pQ Tryz.prog 25 (some (.ptr b r o))=some [.cells b o 1]:=Jy (isA:=false) (n:=1) (by kernel_rfl) (by kernel_rfl) b r o
theorem Qa(b r o:Nat):fa Tryz.prog 52 (some (.ptr b r o)) 4=some (.ret (.ptr b r (o+4)),[]):=Bf (show Bo Tryz.prog 52 4 4 1 from⟨_,_,Tryz.underlying52,rfl,rfl,by kernel_rfl,by decide⟩) b r o
theorem gP(b r o:Nat):fa Tryz.prog 52 (some (.ptr b r o)) 2=some (.ret (.ptr b r (o+2)),[]):=Bf (show Bo Tryz.prog 52 2 2 1 from⟨_,_,Tryz.underlying52,rfl,rfl,by kernel_rfl,by decide⟩) b r o
theorem eX(b r o:Nat):fa Tryz.prog 52 (some (.ptr b r o)) 3=some (.ret (.ptr b r (o+3)),[]):=Bf (show Bo Tryz.prog 52 3 3 1 from⟨_,_,Tryz.underlying52,rfl,rfl,by kernel_rfl,by decide⟩) b r o
theorem Yy(b r o:Nat):fa Tryz.prog 42 (some (.ptr b r o)) 4=some (.ret (.ptr b r (o+5)),[]):=Bf (show Bo Tryz.prog 42 4 5 1 from⟨_,_,Tryz.underlying42,rfl,rfl,by kernel_rfl,by decide⟩) b r o
theorem aaD(b r len:Nat)(k:IntKind)(i:Int):ia Tryz.prog 53 (some (.slr 4 b r len)) (some (.int k i))=if 0≤i∧i<len then some (.ret (.ptr b (r+i.toNat) 0),[])else none:=vJ ⟨_,Tryz.underlying53,by kernel_rfl⟩ b r len k i
theorem Ti(b r o:Nat):fa Tryz.prog 57 (some (.ptr b r o)) 0=some (.ret (.ptr b r (o+0)),[]):=Bf (show Bo Tryz.prog 57 0 0 1 from⟨_,_,Tryz.underlying57,rfl,rfl,by kernel_rfl,by decide⟩) b r o
theorem Tn(b r o:Nat):fa Tryz.prog 57 (some (.ptr b r o)) 1=some (.ret (.ptr b r (o+1)),[]):=Bf (show Bo Tryz.prog 57 1 1 1 from⟨_,_,Tryz.underlying57,rfl,rfl,by kernel_rfl,by decide⟩) b r o
theorem Tj(b r o:Nat):fa Tryz.prog 57 (some (.ptr b r o)) 2=some (.ret (.ptr b r (o+2)),[]):=Bf (show Bo Tryz.prog 57 2 2 1 from⟨_,_,Tryz.underlying57,rfl,rfl,by kernel_rfl,by decide⟩) b r o
theorem eE(fl nn:Bool)(rows:List (List AV))(k:IntKind)(i:Int):ia Tryz.prog 44 (some (Az 4 fl nn rows)) (some (.int k i))=if 0≤i then r1 ((rows[i.toNat]?).map .iptr)else none:=dZ ⟨_,Tryz.underlying44,by kernel_rfl⟩ fl nn rows k i
theorem Ym(b r o:Nat):fa Tryz.prog 59 (some (.ptr b r o)) 2=some (.ret (.ptr b r (o+2)),[]):=Bf (show Bo Tryz.prog 59 2 2 1 from⟨_,_,Tryz.underlying59,rfl,rfl,by kernel_rfl,by decide⟩) b r o
theorem Yl(b r o:Nat):fa Tryz.prog 59 (some (.ptr b r o)) 3=some (.ret (.ptr b r (o+3)),[]):=Bf (show Bo Tryz.prog 59 3 3 1 from⟨_,_,Tryz.underlying59,rfl,rfl,by kernel_rfl,by decide⟩) b r o
theorem Rw(h:Aa)(b r o:Nat):ld Tryz.prog 42 h (some (.ptr b r o))=yV (Nl (h[b]?) r) o 11:=Yd ⟨by kernel_rfl,by kernel_rfl⟩ h b r o
theorem Ln(h:Aa)(cs:List AV):ld Tryz.prog 42 h (some (.iptr cs))=if 11≤cs.length then some (.ret (.agg (cs.take 11)),[])else none:=tI ⟨by kernel_rfl,by kernel_rfl⟩ h cs
theorem aa1(b r o:Nat):pQ Tryz.prog 42 (some (.ptr b r o))=some [.cells b o 11]:=Jy (isA:=true) (n:=11) (by kernel_rfl) (by kernel_rfl) b r o
theorem Vn:Jv Tryz.prog 42=some (.agg [.bool false,.int .i64 0,.int .i64 0,.int .i64 0,.nils,.int .i64 0,.int .i64 0,.int .i64 0,.int .i64 0,.int .i64 0,.int .i64 0]):=by kernel_rfl
theorem Vs(h:Aa)(b r o:Nat)(v:AV):qK Tryz.prog 42 h (some (.ptr b r o)) (some v)=sv 11 (h[b]?) b r o (acells v):=Oc (by kernel_rfl) h b r o v
theorem Tt(b r o:Nat):fa Tryz.prog 42 (some (.ptr b r o)) 2=some (.ret (.ptr b r (o+2)),[]):=Bf (show Bo Tryz.prog 42 2 2 2 from⟨_,_,Tryz.underlying42,rfl,rfl,by kernel_rfl,by decide⟩) b r o
theorem Ta(b r o:Nat):fa Tryz.prog 39 (some (.ptr b r o)) 0=some (.ret (.ptr b r (o+0)),[]):=Bf (show Bo Tryz.prog 39 0 0 1 from⟨_,_,Tryz.underlying39,rfl,rfl,by kernel_rfl,by decide⟩) b r o
theorem Ua(b r o:Nat):fa Tryz.prog 39 (some (.ptr b r o)) 1=some (.ret (.ptr b r (o+1)),[]):=Bf (show Bo Tryz.prog 39 1 1 1 from⟨_,_,Tryz.underlying39,rfl,rfl,by kernel_rfl,by decide⟩) b r o
theorem Zk(b r o:Nat):fa Tryz.prog 42 (some (.ptr b r o)) 5=some (.ret (.ptr b r (o+6)),[]):=Bf (show Bo Tryz.prog 42 5 6 1 from⟨_,_,Tryz.underlying42,rfl,rfl,by kernel_rfl,by decide⟩) b r o
theorem Xw(b r o:Nat):fa Tryz.prog 42 (some (.ptr b r o)) 6=some (.ret (.ptr b r (o+7)),[]):=Bf (show Bo Tryz.prog 42 6 7 1 from⟨_,_,Tryz.underlying42,rfl,rfl,by kernel_rfl,by decide⟩) b r o
theorem Ze(b r o:Nat):fa Tryz.prog 42 (some (.ptr b r o)) 7=some (.ret (.ptr b r (o+8)),[]):=Bf (show Bo Tryz.prog 42 7 8 1 from⟨_,_,Tryz.underlying42,rfl,rfl,by kernel_rfl,by decide⟩) b r o
theorem Yb(b r o:Nat):fa Tryz.prog 42 (some (.ptr b r o)) 8=some (.ret (.ptr b r (o+9)),[]):=Bf (show Bo Tryz.prog 42 8 9 1 from⟨_,_,Tryz.underlying42,rfl,rfl,by kernel_rfl,by decide⟩) b r o
theorem Zj(b r o:Nat):fa Tryz.prog 59 (some (.ptr b r o)) 0=some (.ret (.ptr b r (o+0)),[]):=Bf (show Bo Tryz.prog 59 0 0 1 from⟨_,_,Tryz.underlying59,rfl,rfl,by kernel_rfl,by decide⟩) b r o
theorem Tu(b r o:Nat):fa Tryz.prog 24 (some (.ptr b r o)) 1=some (.ret (.ptr b r (o+1)),[]):=Bf (show Bo Tryz.prog 24 1 1 1 from⟨_,_,Tryz.underlying24,rfl,rfl,by kernel_rfl,by decide⟩) b r o
theorem Zf(b r o:Nat):fa Tryz.prog 59 (some (.ptr b r o)) 1=some (.ret (.ptr b r (o+1)),[]):=Bf (show Bo Tryz.prog 59 1 1 1 from⟨_,_,Tryz.underlying59,rfl,rfl,by kernel_rfl,by decide⟩) b r o
theorem Um(b r o:Nat):fa Tryz.prog 24 (some (.ptr b r o)) 2=some (.ret (.ptr b r (o+2)),[]):=Bf (show Bo Tryz.prog 24 2 2 1 from⟨_,_,Tryz.underlying24,rfl,rfl,by kernel_rfl,by decide⟩) b r o
theorem Px(b r o:Nat):fa Tryz.prog 48 (some (.ptr b r o)) 1=some (.ret (.ptr b r (o+1)),[]):=Bf (show Bo Tryz.prog 48 1 1 1 from⟨_,_,Tryz.underlying48,rfl,rfl,by kernel_rfl,by decide⟩) b r o
theorem Si(h:Aa)(b r o:Nat):ld Tryz.prog 45 h (some (.ptr b r o))=ldC (Nl (h[b]?) r) o:=aH ⟨by kernel_rfl,1,by kernel_rfl⟩ h b r o
theorem mT(b r o:Nat):pQ Tryz.prog 45 (some (.ptr b r o))=some [.cells b o 1]:=Jy (isA:=false) (n:=1) (by kernel_rfl) (by kernel_rfl) b r o
theorem Oh(fl nn:Bool)(rows:List (List AV)):ln Tryz.prog 45 (some (Az 4 fl nn rows))=some (.ret (.int .i64 rows.length),[]):=dL ⟨_,Tryz.underlying45,by kernel_rfl⟩ fl nn rows
theorem vU(h:Aa)(b r o:Nat):ld Tryz.prog 62 h (some (.ptr b r o))=yV (Nl (h[b]?) r) o 4:=Yd ⟨by kernel_rfl,by kernel_rfl⟩ h b r o
theorem bD(h:Aa)(cs:List AV):ld Tryz.prog 62 h (some (.iptr cs))=if 4≤cs.length then some (.ret (.agg (cs.take 4)),[])else none:=tI ⟨by kernel_rfl,by kernel_rfl⟩ h cs
theorem aaM(b r o:Nat):pQ Tryz.prog 62 (some (.ptr b r o))=some [.cells b o 4]:=Jy (isA:=true) (n:=4) (by kernel_rfl) (by kernel_rfl) b r o
theorem Ul(b r o:Nat):fa Tryz.prog 62 (some (.ptr b r o)) 2=some (.ret (.ptr b r (o+2)),[]):=Bf (show Bo Tryz.prog 62 2 2 1 from⟨_,_,Tryz.underlying62,rfl,rfl,by kernel_rfl,by decide⟩) b r o
theorem rA(cs:List AV):fa Tryz.prog 62 (some (.iptr cs)) 2=if 2+1≤cs.length then some (.ret (.iptr (cs.drop 2)),[])else none:=Qh (show Bo Tryz.prog 62 2 2 1 from⟨_,_,Tryz.underlying62,rfl,rfl,by kernel_rfl,by decide⟩) cs
theorem Sv(b r o:Nat):fa Tryz.prog 24 (some (.ptr b r o)) 3=some (.ret (.ptr b r (o+3)),[]):=Bf (show Bo Tryz.prog 24 3 3 1 from⟨_,_,Tryz.underlying24,rfl,rfl,by kernel_rfl,by decide⟩) b r o
theorem Su(b r o:Nat):fa Tryz.prog 62 (some (.ptr b r o)) 1=some (.ret (.ptr b r (o+1)),[]):=Bf (show Bo Tryz.prog 62 1 1 1 from⟨_,_,Tryz.underlying62,rfl,rfl,by kernel_rfl,by decide⟩) b r o
theorem ad8:Jv Tryz.prog 48=some (.agg [.nils,.nils,.nils]):=by kernel_rfl
theorem ahP(h:Aa)(b r o:Nat)(v:AV):qK Tryz.prog 48 h (some (.ptr b r o)) (some v)=sv 3 (h[b]?) b r o (acells v):=Oc (by kernel_rfl) h b r o v
theorem ajP:Jv Tryz.prog 62=some (.agg [.int .i64 0,.int .i64 0,.int .i64 0,.int .i64 0]):=by kernel_rfl
theorem mE{O:Ez}(t:List AV)(h:Aa)(s x:Operand):Ej O Tryz.prog t h (.call ⟨.builtin .append,#[s,x],#[45,45]⟩)=uZ Tryz.prog 45 h (Af t s) (Af t x):=zK t h s x 45 45 _ Tryz.underlying45
theorem abH(h:Aa)(s:AV)(a b r l:Nat):uZ Tryz.prog 45 h (some s) (some (.slr a b r l))=xJ 4 h (some s) (srK 4 h (some (.slr a b r l))):=fE (e:=62) (b:=32) (z:=.agg [.int .i64 0,.int .i64 0,.int .i64 0,.int .i64 0]) (by kernel_rfl) (by kernel_rfl) (by kernel_rfl) (by kernel_rfl) (by decide+kernel) h s _ (fun q e=>by cases e)
theorem acB(h:Aa)(s:AV)(st:Nat)(fl:Bool)(rows:List (List AV)):uZ Tryz.prog 45 h (some s) (some (.imm st fl rows))=xJ 4 h (some s) (srK 4 h (some (.imm st fl rows))):=fE (e:=62) (b:=32) (z:=.agg [.int .i64 0,.int .i64 0,.int .i64 0,.int .i64 0]) (by kernel_rfl) (by kernel_rfl) (by kernel_rfl) (by kernel_rfl) (by decide+kernel) h s _ (fun q e=>by cases e)
theorem aaK(h:Aa)(s:AV)  :uZ Tryz.prog 45 h (some s) (some .nils)=xJ 4 h (some s) (srK 4 h (some .nils)):=fE (e:=62) (b:=32) (z:=.agg [.int .i64 0,.int .i64 0,.int .i64 0,.int .i64 0]) (by kernel_rfl) (by kernel_rfl) (by kernel_rfl) (by kernel_rfl) (by decide+kernel) h s _ (fun q e=>by cases e)
theorem aaV(base len:Nat)(ps:List (Nat × AV)):rD (Cm Tryz.prog base 45 len ps)=bsK 4 (.agg [.int .i64 0,.int .i64 0,.int .i64 0,.int .i64 0]) base len ps:=akX (e:=62) (by kernel_rfl) (by kernel_rfl) (by kernel_rfl) base len ps
theorem ag2(h:Aa)(b r o:Nat)(v:AV):qK Tryz.prog 45 h (some (.ptr b r o)) (some v)=sv 1 (h[b]?) b r o (acells v):=Oc (by kernel_rfl) h b r o v
theorem ab7(b r o:Nat):ftS Tryz.prog 45 (some (.ptr b r o))=some [.cells b o 1]:=Xk (by kernel_rfl) b r o
theorem Wg(h:Aa)(b r o:Nat):ld Tryz.prog 52 h (some (.ptr b r o))=yV (Nl (h[b]?) r) o 6:=Yd ⟨by kernel_rfl,by kernel_rfl⟩ h b r o
theorem ab6(b r o:Nat):pQ Tryz.prog 52 (some (.ptr b r o))=some [.cells b o 6]:=Jy (isA:=true) (n:=6) (by kernel_rfl) (by kernel_rfl) b r o
theorem aP(h:Aa)(b r o:Nat):ld Tryz.prog 57 h (some (.ptr b r o))=yV (Nl (h[b]?) r) o 4:=Yd ⟨by kernel_rfl,by kernel_rfl⟩ h b r o
theorem ab2(b r o:Nat):pQ Tryz.prog 57 (some (.ptr b r o))=some [.cells b o 4]:=Jy (isA:=true) (n:=4) (by kernel_rfl) (by kernel_rfl) b r o
theorem jQ(h:Aa)(b r o:Nat):ld Tryz.prog 39 h (some (.ptr b r o))=yV (Nl (h[b]?) r) o 2:=Yd ⟨by kernel_rfl,by kernel_rfl⟩ h b r o
theorem tU:Jv Tryz.prog 69=some (.agg [.int .i64 0,.int .i64 0,.int .i64 0]):=by kernel_rfl
theorem rY(h:Aa)(b r o:Nat)(v:AV):qK Tryz.prog 69 h (some (.ptr b r o)) (some v)=sv 3 (h[b]?) b r o (acells v):=Oc (by kernel_rfl) h b r o v
theorem vV(h:Aa)(b r o:Nat):ld Tryz.prog 69 h (some (.ptr b r o))=yV (Nl (h[b]?) r) o 3:=Yd ⟨by kernel_rfl,by kernel_rfl⟩ h b r o
theorem Sr(b r o:Nat):fa Tryz.prog 52 (some (.ptr b r o)) 5=some (.ret (.ptr b r (o+5)),[]):=Bf (show Bo Tryz.prog 52 5 5 1 from⟨_,_,Tryz.underlying52,rfl,rfl,by kernel_rfl,by decide⟩) b r o
theorem Ll(h:Aa)(b r o:Nat):ld Tryz.prog 46 h (some (.ptr b r o))=ldC (Nl (h[b]?) r) o:=aH ⟨by kernel_rfl,1,by kernel_rfl⟩ h b r o
theorem oM(b r o:Nat):pQ Tryz.prog 46 (some (.ptr b r o))=some [.cells b o 1]:=Jy (isA:=false) (n:=1) (by kernel_rfl) (by kernel_rfl) b r o
theorem nX(st b r len:Nat):ln Tryz.prog 46 (some (.slr st b r len))=some (.ret (.int .i64 len),[]):=xG (n:=5) ⟨_,Tryz.underlying46,by kernel_rfl⟩ st b r len
theorem oN:ln Tryz.prog 46 (some .nils)=some (.ret (.int .i64 0),[]):=iF (n:=5) ⟨_,Tryz.underlying46,by kernel_rfl⟩
theorem Qr(fl nn:Bool)(rows:List (List AV)):ln Tryz.prog 46 (some (Az 5 fl nn rows))=some (.ret (.int .i64 rows.length),[]):=dL ⟨_,Tryz.underlying46,by kernel_rfl⟩ fl nn rows
theorem sB:Jv Tryz.prog 57=some (.agg [.nils,.nils,.nils,.nils]):=by kernel_rfl
theorem sL(h:Aa)(b r o:Nat)(v:AV):qK Tryz.prog 57 h (some (.ptr b r o)) (some v)=sv 4 (h[b]?) b r o (acells v):=Oc (by kernel_rfl) h b r o v
theorem acG(b r o:Nat):ftS Tryz.prog 57 (some (.ptr b r o))=some [.cells b o 4]:=Xk (by kernel_rfl) b r o
theorem Ju(b r o:Nat):fa Tryz.prog 52 (some (.ptr b r o)) 0=some (.ret (.ptr b r (o+0)),[]):=Bf (show Bo Tryz.prog 52 0 0 1 from⟨_,_,Tryz.underlying52,rfl,rfl,by kernel_rfl,by decide⟩) b r o
theorem wZ(h:Aa)(b r o:Nat):ld Tryz.prog 59 h (some (.ptr b r o))=yV (Nl (h[b]?) r) o 4:=Yd ⟨by kernel_rfl,by kernel_rfl⟩ h b r o
theorem aR(h:Aa)(cs:List AV):ld Tryz.prog 59 h (some (.iptr cs))=if 4≤cs.length then some (.ret (.agg (cs.take 4)),[])else none:=tI ⟨by kernel_rfl,by kernel_rfl⟩ h cs
theorem dA:Jv Tryz.prog 59=some (.agg [.int .i64 0,.int .i64 0,.int .i64 0,.int .i64 0]):=by kernel_rfl
theorem cF(h:Aa)(b r o:Nat)(v:AV):qK Tryz.prog 59 h (some (.ptr b r o)) (some v)=sv 4 (h[b]?) b r o (acells v):=Oc (by kernel_rfl) h b r o v
theorem Uo(b r o:Nat):fa Tryz.prog 42 (some (.ptr b r o)) 1=some (.ret (.ptr b r (o+1)),[]):=Bf (show Bo Tryz.prog 42 1 1 1 from⟨_,_,Tryz.underlying42,rfl,rfl,by kernel_rfl,by decide⟩) b r o
theorem eU(cs:List AV):fa Tryz.prog 42 (some (.iptr cs)) 1=if 1+1≤cs.length then some (.ret (.iptr (cs.drop 1)),[])else none:=Qh (show Bo Tryz.prog 42 1 1 1 from⟨_,_,Tryz.underlying42,rfl,rfl,by kernel_rfl,by decide⟩) cs
theorem Ub(b r o:Nat):fa Tryz.prog 42 (some (.ptr b r o)) 3=some (.ret (.ptr b r (o+4)),[]):=Bf (show Bo Tryz.prog 42 3 4 1 from⟨_,_,Tryz.underlying42,rfl,rfl,by kernel_rfl,by decide⟩) b r o
theorem fO(cs:List AV):fa Tryz.prog 42 (some (.iptr cs)) 3=if 4+1≤cs.length then some (.ret (.iptr (cs.drop 4)),[])else none:=Qh (show Bo Tryz.prog 42 3 4 1 from⟨_,_,Tryz.underlying42,rfl,rfl,by kernel_rfl,by decide⟩) cs
theorem Wv(h:Aa)(b r o:Nat):ld Tryz.prog 40 h (some (.ptr b r o))=ldC (Nl (h[b]?) r) o:=aH ⟨by kernel_rfl,1,by kernel_rfl⟩ h b r o
theorem jO(h:Aa)(c:AV)(cs:List AV):ld Tryz.prog 40 h (some (.iptr (c::cs)))=some (.ret c,[]):=ahB ⟨by kernel_rfl,1,by kernel_rfl⟩ h c cs
theorem Qu(fl nn:Bool)(rows:List (List AV)):ln Tryz.prog 40 (some (Az 3 fl nn rows))=some (.ret (.int .i64 rows.length),[]):=dL ⟨_,Tryz.underlying40,by kernel_rfl⟩ fl nn rows
theorem eY(b r o:Nat):fa Tryz.prog 69 (some (.ptr b r o)) 0=some (.ret (.ptr b r (o+0)),[]):=Bf (show Bo Tryz.prog 69 0 0 1 from⟨_,_,Tryz.underlying69,rfl,rfl,by kernel_rfl,by decide⟩) b r o
theorem Vu(fl nn:Bool)(rows:List (List AV))(k:IntKind)(i:Int):ia Tryz.prog 40 (some (Az 3 fl nn rows)) (some (.int k i))=if 0≤i then r1 ((rows[i.toNat]?).map .iptr)else none:=dZ ⟨_,Tryz.underlying40,by kernel_rfl⟩ fl nn rows k i
theorem Ye(b r o:Nat):fa Tryz.prog 94 (some (.ptr b r o)) 1=some (.ret (.ptr b r (o+1)),[]):=Bf (show Bo Tryz.prog 94 1 1 1 from⟨_,_,Tryz.underlying94,rfl,rfl,by kernel_rfl,by decide⟩) b r o
theorem Sl(cs:List AV):fa Tryz.prog 94 (some (.iptr cs)) 1=if 1+1≤cs.length then some (.ret (.iptr (cs.drop 1)),[])else none:=Qh (show Bo Tryz.prog 94 1 1 1 from⟨_,_,Tryz.underlying94,rfl,rfl,by kernel_rfl,by decide⟩) cs
theorem fK(b r o:Nat):fa Tryz.prog 69 (some (.ptr b r o)) 1=some (.ret (.ptr b r (o+1)),[]):=Bf (show Bo Tryz.prog 69 1 1 1 from⟨_,_,Tryz.underlying69,rfl,rfl,by kernel_rfl,by decide⟩) b r o
theorem Ya(b r o:Nat):fa Tryz.prog 94 (some (.ptr b r o)) 2=some (.ret (.ptr b r (o+2)),[]):=Bf (show Bo Tryz.prog 94 2 2 1 from⟨_,_,Tryz.underlying94,rfl,rfl,by kernel_rfl,by decide⟩) b r o
theorem Ug(cs:List AV):fa Tryz.prog 94 (some (.iptr cs)) 2=if 2+1≤cs.length then some (.ret (.iptr (cs.drop 2)),[])else none:=Qh (show Bo Tryz.prog 94 2 2 1 from⟨_,_,Tryz.underlying94,rfl,rfl,by kernel_rfl,by decide⟩) cs
theorem fG(b r o:Nat):fa Tryz.prog 69 (some (.ptr b r o)) 2=some (.ret (.ptr b r (o+2)),[]):=Bf (show Bo Tryz.prog 69 2 2 1 from⟨_,_,Tryz.underlying69,rfl,rfl,by kernel_rfl,by decide⟩) b r o
theorem Kq(base len:Nat)(ps:List (Nat × AV)):rD (Cm Tryz.prog base 25 len ps)=bsK 1 (.int .i64 0) base len ps:=akX (e:=3) (by kernel_rfl) (by kernel_rfl) (by kernel_rfl) base len ps
theorem Pe(h:Aa)(b r o:Nat)(v:AV):qK Tryz.prog 3 h (some (.ptr b r o)) (some v)=sv 1 (h[b]?) b r o (acells v):=Oc (by kernel_rfl) h b r o v
theorem jS(b r o:Nat):ftS Tryz.prog 3 (some (.ptr b r o))=some [.cells b o 1]:=Xk (by kernel_rfl) b r o
theorem Tz(b r o:Nat):fa Tryz.prog 24 (some (.ptr b r o)) 0=some (.ret (.ptr b r (o+0)),[]):=Bf (show Bo Tryz.prog 24 0 0 1 from⟨_,_,Tryz.underlying24,rfl,rfl,by kernel_rfl,by decide⟩) b r o
theorem Zg(b r o:Nat):fa Tryz.prog 24 (some (.ptr b r o)) 4=some (.ret (.ptr b r (o+4)),[]):=Bf (show Bo Tryz.prog 24 4 4 1 from⟨_,_,Tryz.underlying24,rfl,rfl,by kernel_rfl,by decide⟩) b r o
theorem Ui(b r o:Nat):fa Tryz.prog 48 (some (.ptr b r o)) 2=some (.ret (.ptr b r (o+2)),[]):=Bf (show Bo Tryz.prog 48 2 2 1 from⟨_,_,Tryz.underlying48,rfl,rfl,by kernel_rfl,by decide⟩) b r o
theorem abV(b r len:Nat)(k:IntKind)(i:Int):ia Tryz.prog 46 (some (.slr 5 b r len)) (some (.int k i))=if 0≤i∧i<len then some (.ret (.ptr b (r+i.toNat) 0),[])else none:=vJ ⟨_,Tryz.underlying46,by kernel_rfl⟩ b r len k i
theorem Zp(fl nn:Bool)(rows:List (List AV))(k:IntKind)(i:Int):ia Tryz.prog 46 (some (Az 5 fl nn rows)) (some (.int k i))=if 0≤i then r1 ((rows[i.toNat]?).map .iptr)else none:=dZ ⟨_,Tryz.underlying46,by kernel_rfl⟩ fl nn rows k i
theorem Xy(h:Aa)(b r o:Nat):ld Tryz.prog 111 h (some (.ptr b r o))=yV (Nl (h[b]?) r) o 5:=Yd ⟨by kernel_rfl,by kernel_rfl⟩ h b r o
theorem Sm(h:Aa)(cs:List AV):ld Tryz.prog 111 h (some (.iptr cs))=if 5≤cs.length then some (.ret (.agg (cs.take 5)),[])else none:=tI ⟨by kernel_rfl,by kernel_rfl⟩ h cs
theorem vS(b r o:Nat):pQ Tryz.prog 111 (some (.ptr b r o))=some [.cells b o 5]:=Jy (isA:=true) (n:=5) (by kernel_rfl) (by kernel_rfl) b r o
theorem adH(base len:Nat)(ps:List (Nat × AV)):rD (Cm Tryz.prog base 53 len ps)=bsK 4 (.agg [.nils,.nils,.nils,.nils]) base len ps:=akX (e:=57) (by kernel_rfl) (by kernel_rfl) (by kernel_rfl) base len ps
theorem mC{O:Ez}(t:List AV)(h:Aa)(s x:Operand):Ej O Tryz.prog t h (.call ⟨.builtin .append,#[s,x],#[53,53]⟩)=uZ Tryz.prog 53 h (Af t s) (Af t x):=zK t h s x 53 53 _ Tryz.underlying53
theorem aaU(h:Aa)(s:AV)(a b r l:Nat):uZ Tryz.prog 53 h (some s) (some (.slr a b r l))=xJ 4 h (some s) (srK 4 h (some (.slr a b r l))):=fE (e:=57) (b:=96) (z:=.agg [.nils,.nils,.nils,.nils]) (by kernel_rfl) (by kernel_rfl) (by kernel_rfl) (by kernel_rfl) (by decide+kernel) h s _ (fun q e=>by cases e)
theorem Yq(b r o:Nat):fa Tryz.prog 62 (some (.ptr b r o)) 0=some (.ret (.ptr b r (o+0)),[]):=Bf (show Bo Tryz.prog 62 0 0 1 from⟨_,_,Tryz.underlying62,rfl,rfl,by kernel_rfl,by decide⟩) b r o
theorem fN(b r o:Nat):fa Tryz.prog 62 (some (.ptr b r o)) 3=some (.ret (.ptr b r (o+3)),[]):=Bf (show Bo Tryz.prog 62 3 3 1 from⟨_,_,Tryz.underlying62,rfl,rfl,by kernel_rfl,by decide⟩) b r o
theorem sN(cs:List AV):fa Tryz.prog 62 (some (.iptr cs)) 3=if 3+1≤cs.length then some (.ret (.iptr (cs.drop 3)),[])else none:=Qh (show Bo Tryz.prog 62 3 3 1 from⟨_,_,Tryz.underlying62,rfl,rfl,by kernel_rfl,by decide⟩) cs
theorem fC(b r o:Nat):fa Tryz.prog 57 (some (.ptr b r o)) 3=some (.ret (.ptr b r (o+3)),[]):=Bf (show Bo Tryz.prog 57 3 3 1 from⟨_,_,Tryz.underlying57,rfl,rfl,by kernel_rfl,by decide⟩) b r o
theorem Iy{O:Ez}(t:List AV)(h:Aa)(s x:Operand):Ej O Tryz.prog t h (.call ⟨.builtin .append,#[s,x],#[25,25]⟩)=uZ Tryz.prog 25 h (Af t s) (Af t x):=zK t h s x 25 25 _ Tryz.underlying25
theorem Vz(h:Aa)(s:AV)(a b r l:Nat):uZ Tryz.prog 25 h (some s) (some (.slr a b r l))=xJ 1 h (some s) (srK 1 h (some (.slr a b r l))):=fE (e:=3) (b:=8) (z:=.int .i64 0) (by kernel_rfl) (by kernel_rfl) (by kernel_rfl) (by kernel_rfl) (by decide+kernel) h s _ (fun q e=>by cases e)
theorem ac4(h:Aa)(s:AV)(st:Nat)(fl:Bool)(rows:List (List AV)):uZ Tryz.prog 25 h (some s) (some (.imm st fl rows))=xJ 1 h (some s) (srK 1 h (some (.imm st fl rows))):=fE (e:=3) (b:=8) (z:=.int .i64 0) (by kernel_rfl) (by kernel_rfl) (by kernel_rfl) (by kernel_rfl) (by decide+kernel) h s _ (fun q e=>by cases e)
theorem Vj(h:Aa)(b r o:Nat)(v:AV):qK Tryz.prog 25 h (some (.ptr b r o)) (some v)=sv 1 (h[b]?) b r o (acells v):=Oc (by kernel_rfl) h b r o v
theorem dV(b r o:Nat):ftS Tryz.prog 25 (some (.ptr b r o))=some [.cells b o 1]:=Xk (by kernel_rfl) b r o
theorem Zm(fl nn:Bool)(rows:List (List AV))(k:IntKind)(i:Int):ia Tryz.prog 45 (some (Az 4 fl nn rows)) (some (.int k i))=if 0≤i then r1 ((rows[i.toNat]?).map .iptr)else none:=dZ ⟨_,Tryz.underlying45,by kernel_rfl⟩ fl nn rows k i
theorem ai1(h:Aa)(b r o:Nat)(v:AV):qK Tryz.prog 62 h (some (.ptr b r o)) (some v)=sv 4 (h[b]?) b r o (acells v):=Oc (by kernel_rfl) h b r o v
theorem Qp(b r o:Nat):fa Tryz.prog 111 (some (.ptr b r o)) 1=some (.ret (.ptr b r (o+1)),[]):=Bf (show Bo Tryz.prog 111 1 1 1 from⟨_,_,Tryz.underlying111,rfl,rfl,by kernel_rfl,by decide⟩) b r o
theorem nN:Jv Tryz.prog 111=some (.agg [.int .i64 0,.int .i64 0,.int .i64 0,.int .i64 0,.int .i64 0]):=by kernel_rfl
theorem oH(h:Aa)(b r o:Nat)(v:AV):qK Tryz.prog 111 h (some (.ptr b r o)) (some v)=sv 5 (h[b]?) b r o (acells v):=Oc (by kernel_rfl) h b r o v
theorem Wy(b r o:Nat):fa Tryz.prog 111 (some (.ptr b r o)) 0=some (.ret (.ptr b r (o+0)),[]):=Bf (show Bo Tryz.prog 111 0 0 1 from⟨_,_,Tryz.underlying111,rfl,rfl,by kernel_rfl,by decide⟩) b r o
theorem Qn(b r o:Nat):fa Tryz.prog 111 (some (.ptr b r o)) 2=some (.ret (.ptr b r (o+2)),[]):=Bf (show Bo Tryz.prog 111 2 2 1 from⟨_,_,Tryz.underlying111,rfl,rfl,by kernel_rfl,by decide⟩) b r o
theorem Qk(b r o:Nat):fa Tryz.prog 111 (some (.ptr b r o)) 3=some (.ret (.ptr b r (o+3)),[]):=Bf (show Bo Tryz.prog 111 3 3 1 from⟨_,_,Tryz.underlying111,rfl,rfl,by kernel_rfl,by decide⟩) b r o
theorem fW(b r o:Nat):fa Tryz.prog 42 (some (.ptr b r o)) 9=some (.ret (.ptr b r (o+10)),[]):=Bf (show Bo Tryz.prog 42 9 10 1 from⟨_,_,Tryz.underlying42,rfl,rfl,by kernel_rfl,by decide⟩) b r o
theorem uR(cs:List AV):fa Tryz.prog 42 (some (.iptr cs)) 9=if 10+1≤cs.length then some (.ret (.iptr (cs.drop 10)),[])else none:=Qh (show Bo Tryz.prog 42 9 10 1 from⟨_,_,Tryz.underlying42,rfl,rfl,by kernel_rfl,by decide⟩) cs
theorem vY(h:Aa)(b r o:Nat):ld Tryz.prog 94 h (some (.ptr b r o))=yV (Nl (h[b]?) r) o 3:=Yd ⟨by kernel_rfl,by kernel_rfl⟩ h b r o
theorem bE(h:Aa)(cs:List AV):ld Tryz.prog 94 h (some (.iptr cs))=if 3≤cs.length then some (.ret (.agg (cs.take 3)),[])else none:=tI ⟨by kernel_rfl,by kernel_rfl⟩ h cs
theorem bM:Jv Tryz.prog 94=some (.agg [.int .i64 0,.int .i64 0,.int .i64 0]):=by kernel_rfl
theorem bR(h:Aa)(b r o:Nat)(v:AV):qK Tryz.prog 94 h (some (.ptr b r o)) (some v)=sv 3 (h[b]?) b r o (acells v):=Oc (by kernel_rfl) h b r o v
theorem aa5(b r o:Nat):ftS Tryz.prog 94 (some (.ptr b r o))=some [.cells b o 3]:=Xk (by kernel_rfl) b r o
theorem Xz(b r o:Nat):fa Tryz.prog 94 (some (.ptr b r o)) 0=some (.ret (.ptr b r (o+0)),[]):=Bf (show Bo Tryz.prog 94 0 0 1 from⟨_,_,Tryz.underlying94,rfl,rfl,by kernel_rfl,by decide⟩) b r o
theorem eV(cs:List AV):fa Tryz.prog 94 (some (.iptr cs)) 0=if 0+1≤cs.length then some (.ret (.iptr (cs.drop 0)),[])else none:=Qh (show Bo Tryz.prog 94 0 0 1 from⟨_,_,Tryz.underlying94,rfl,rfl,by kernel_rfl,by decide⟩) cs
theorem Ql(b r o:Nat):fa Tryz.prog 111 (some (.ptr b r o)) 4=some (.ret (.ptr b r (o+4)),[]):=Bf (show Bo Tryz.prog 111 4 4 1 from⟨_,_,Tryz.underlying111,rfl,rfl,by kernel_rfl,by decide⟩) b r o
theorem nK(base:Nat)(l c:Option AV):msO Tryz.prog 25 base l c=msK 1 (.int .i64 0) base l c:=awD (e:=3) (n:=1) (b:=8) (by kernel_rfl) (by kernel_rfl) (by kernel_rfl) (by kernel_rfl) (by decide+kernel) base l c
theorem jK(h:Aa)(b r o:Nat)(v:AV):qK Tryz.prog 46 h (some (.ptr b r o)) (some v)=sv 1 (h[b]?) b r o (acells v):=Oc (by kernel_rfl) h b r o v
theorem oG(b r o:Nat):ftS Tryz.prog 46 (some (.ptr b r o))=some [.cells b o 1]:=Xk (by kernel_rfl) b r o
theorem wN(ps:List (Nat × AV)):eF Tryz.prog 144 ps=(Ri (fun i=>([(0,6),(6,3),(9,6),(15,4)]:List (Nat × Nat))[i]?) (acells (.agg [.int .i64 0,.int .i64 0,.int .i64 0,.int .i64 0,.int .i64 0,.nils,.nils,.nils,.nils,.int .i64 0,.nils,.int .i64 0,.int .i64 0,.nils,.nils,.nils,.nils,.nils,.nils])) ps).map .agg:=by kernel_rfl
theorem Ff(b r o:Nat):fa Tryz.prog 144 (some (.ptr b r o)) 2=some (.ret (.ptr b r (o+9)),[]):=Bf (show Bo Tryz.prog 144 2 9 6 from⟨_,_,Tryz.underlying144,rfl,rfl,by kernel_rfl,by decide⟩) b r o
theorem Ir(b r o:Nat):fa Tryz.prog 144 (some (.ptr b r o)) 3=some (.ret (.ptr b r (o+15)),[]):=Bf (show Bo Tryz.prog 144 3 15 4 from⟨_,_,Tryz.underlying144,rfl,rfl,by kernel_rfl,by decide⟩) b r o
theorem vW(a0 b0:Int)(a1 b1:Int)(a2 b2:Int)(a3 b3:Int)(a4 b4:Int):Js Tryz.prog .neq 111 (.agg [.int .i64 a0,.int .i64 a1,.int .i64 a2,.int .i64 a3,.int .i64 a4]) (.agg [.int .i64 b0,.int .i64 b1,.int .i64 b2,.int .i64 b3,.int .i64 b4])=some (.bool (!((a0==b0)&&(a1==b1)&&(a2==b2)&&(a3==b3)&&(a4==b4)))):=by
 have e:Js Tryz.prog .neq 111 (.agg [.int .i64 a0,.int .i64 a1,.int .i64 a2,.int .i64 a3,.int .i64 a4]) (.agg [.int .i64 b0,.int .i64 b1,.int .i64 b2,.int .i64 b3,.int .i64 b4])=Option.map (fun r=>AV.bool !r) (if(a0==b0)=true then(if(a1==b1)=true then(if(a2==b2)=true then(if(a3==b3)=true then(if(a4==b4)=true then some true else some false)else some false)else some false)else some false)else some false):=by kernel_rfl
 rw[e]
 cases(a0==b0)<;>cases(a1==b1)<;>cases(a2==b2)<;>cases(a3==b3)<;>cases(a4==b4)<;>rfl
theorem eO(base len:Nat)(ps:List (Nat × AV)):rD (Cm Tryz.prog base 46 len ps)=bsK 5 (.agg [.int .i64 0,.int .i64 0,.int .i64 0,.int .i64 0,.int .i64 0]) base len ps:=akX (e:=111) (by kernel_rfl) (by kernel_rfl) (by kernel_rfl) base len ps
theorem Uu{O:Ez}(t:List AV)(h:Aa)(s x:Operand):Ej O Tryz.prog t h (.call ⟨.builtin .append,#[s,x],#[46,46]⟩)=uZ Tryz.prog 46 h (Af t s) (Af t x):=zK t h s x 46 46 _ Tryz.underlying46
theorem mO(h:Aa)(s:AV)(a b r l:Nat):uZ Tryz.prog 46 h (some s) (some (.slr a b r l))=xJ 5 h (some s) (srK 5 h (some (.slr a b r l))):=fE (e:=111) (b:=40) (z:=.agg [.int .i64 0,.int .i64 0,.int .i64 0,.int .i64 0,.int .i64 0]) (by kernel_rfl) (by kernel_rfl) (by kernel_rfl) (by kernel_rfl) (by decide+kernel) h s _ (fun q e=>by cases e)
theorem abO(h:Aa)(s:AV)(st:Nat)(fl:Bool)(rows:List (List AV)):uZ Tryz.prog 46 h (some s) (some (.imm st fl rows))=xJ 5 h (some s) (srK 5 h (some (.imm st fl rows))):=fE (e:=111) (b:=40) (z:=.agg [.int .i64 0,.int .i64 0,.int .i64 0,.int .i64 0,.int .i64 0]) (by kernel_rfl) (by kernel_rfl) (by kernel_rfl) (by kernel_rfl) (by decide+kernel) h s _ (fun q e=>by cases e)
theorem acH:Jv Tryz.prog 163=some (.nilf):=by kernel_rfl
theorem ac9(h:Aa)(b r o:Nat)(v:AV):qK Tryz.prog 163 h (some (.ptr b r o)) (some v)=sv 1 (h[b]?) b r o (acells v):=Oc (by kernel_rfl) h b r o v
theorem eZ(h:Aa)(b r o:Nat):ld Tryz.prog 163 h (some (.ptr b r o))=ldC (Nl (h[b]?) r) o:=aH ⟨by kernel_rfl,1,by kernel_rfl⟩ h b r o
theorem vO(b r o:Nat):pQ Tryz.prog 163 (some (.ptr b r o))=some [.cells b o 1]:=Jy (isA:=false) (n:=1) (by kernel_rfl) (by kernel_rfl) b r o
theorem abS(n:Nat)(fl:Bool)(rows:List (List AV)):Js Tryz.prog .eql 25 (.imm n fl rows) .nils=some (.bool false):=fL Tryz.underlying25 n fl rows
theorem acD:Js Tryz.prog .eql 25 .nils .nils=some (.bool true):=cU Tryz.underlying25
theorem ab4(n:Nat)(fl:Bool)(rows:List (List AV)):Js Tryz.prog .eql 46 (.imm n fl rows) .nils=some (.bool false):=fL Tryz.underlying46 n fl rows
theorem adD:Js Tryz.prog .eql 46 .nils .nils=some (.bool true):=cU Tryz.underlying46
theorem Jz(b r o:Nat):fa Tryz.prog 144 (some (.ptr b r o)) 0=some (.ret (.ptr b r (o+0)),[]):=Bf (show Bo Tryz.prog 144 0 0 6 from⟨_,_,Tryz.underlying144,rfl,rfl,by kernel_rfl,by decide⟩) b r o
theorem Xa(b r o:Nat):fa Tryz.prog 144 (some (.ptr b r o)) 1=some (.ret (.ptr b r (o+6)),[]):=Bf (show Bo Tryz.prog 144 1 6 3 from⟨_,_,Tryz.underlying144,rfl,rfl,by kernel_rfl,by decide⟩) b r o
theorem fS(h:Aa)(b r o:Nat):ld Tryz.prog 142 h (some (.ptr b r o))=ldC (Nl (h[b]?) r) o:=aH ⟨by kernel_rfl,1,by kernel_rfl⟩ h b r o
theorem wC(b r o:Nat):pQ Tryz.prog 142 (some (.ptr b r o))=some [.cells b o 1]:=Jy (isA:=false) (n:=1) (by kernel_rfl) (by kernel_rfl) b r o
def yJ:=PLift.up (aa9 @Fh (aa9 @Gx (aa9 @bF (aa9 @Mc (aa9 @Oy (aa9 @Qs (aa9 @Jm (aa9 @Gs (aa9 @Px (aa9 @Si (aa9 @mT (aa9 @Oh (aa9 @vU (aa9 @aaM (aa9 @Ul (aa9 @Av (aa9 @Sv (aa9 @Su (aa9 @ad8 (aa9 @ahP (aa9 @mE (aa9 @abH (aa9 @acB (aa9 @aaK (aa9 @aaV (aa9 @ag2 (aa9 @ab7 (aa9 @bS (aa9 @bU (aa9 @Wg (aa9 @oL (aa9 @aaD @aP))))))))))))))))))))))))))))))))
def TY9:=PLift.up (aa9 @oL @aaQ)
def agZ:=PLift.up (aa9 @Gs (aa9 @Ij (aa9 @fO (aa9 @jO @Qu))))
def awM:=PLift.up (aa9 @Tz (aa9 @Av (aa9 @Tu (aa9 @Um (aa9 @Sv (aa9 @Zg (aa9 @Fh (aa9 @Gx (aa9 @Gs @Jm)))))))))
def afJ:=PLift.up (aa9 @Oi (aa9 @Md @Eo))
def axQ:=PLift.up (aa9 @Mc (aa9 @Oy (aa9 @Qs (aa9 @Px (aa9 @Si (aa9 @Oh (aa9 @Ui (aa9 @Ll @Qr))))))))
def jZ:=PLift.up (aa9 @Mc (aa9 @Oy (aa9 @Qs (aa9 @eE (aa9 @aR (aa9 @dA (aa9 @cF (aa9 @Zj (aa9 @Av (aa9 @Zf (aa9 @Ym (aa9 @Yl (aa9 @Ui (aa9 @Ll (aa9 @Qr (aa9 @Zp (aa9 @Sm (aa9 @Px (aa9 @Si @Oh)))))))))))))))))))
def aeI:=PLift.up (aa9 @Wg (aa9 @bS (aa9 @Jm (aa9 @bF (aa9 @Fh (aa9 @Gx (aa9 @Gs (aa9 @bU (aa9 @Mc (aa9 @Oy (aa9 @Qs (aa9 @sB (aa9 @sL (aa9 @aP (aa9 @adH (aa9 @mC @aaU))))))))))))))))
def ayQ:=PLift.up (aa9 @Yq (aa9 @Av (aa9 @Su (aa9 @Ul @fN))))
def axY:=PLift.up (aa9 @Ju (aa9 @Av (aa9 @Im (aa9 @Eh (aa9 @gP (aa9 @eX (aa9 @Qa (aa9 @Sr @Ll))))))))
def ayJ:=PLift.up (aa9 @Ti (aa9 @Eh (aa9 @Tn (aa9 @Tj @fC))))
def ayD:=PLift.up (aa9 @Ta (aa9 @Av @Ua))
def ad0:=PLift.up (aa9 @Oh (aa9 @Zm @bD))
def aa4:=PLift.up (aa9 @Uo (aa9 @Av (aa9 @Eo (aa9 @Tt (aa9 @jQ (aa9 @Ub (aa9 @Wv (aa9 @Qu (aa9 @Yy (aa9 @Zk (aa9 @Xw (aa9 @Ze (aa9 @Yb (aa9 @fW (aa9 @Vu (aa9 @bE (aa9 @bM (aa9 @bR (aa9 @Xz (aa9 @eV (aa9 @Ye (aa9 @Sl (aa9 @Ya @Ug)))))))))))))))))))))))
def awO:=PLift.up (aa9 @Tz (aa9 @Av (aa9 @Tu (aa9 @Um (aa9 @Kq (aa9 @Sv (aa9 @Zg (aa9 @Fh (aa9 @Gx (aa9 @Gs @Jm))))))))))
def au7:=PLift.up (aa9 @Jm @abY)
def agW:=PLift.up (aa9 @Gs (aa9 @Ij @Ln))
def ahF:=PLift.up (aa9 @tU (aa9 @rY (aa9 @eY (aa9 @Av (aa9 @Tz (aa9 @fK (aa9 @Tu (aa9 @fG @Um))))))))
def axZ:=PLift.up (aa9 @Wy (aa9 @Av (aa9 @Qp (aa9 @Qn (aa9 @Qk @Ql)))))
def ax8:=PLift.up (aa9 @Mc (aa9 @Oy (aa9 @Qs (aa9 @Px (aa9 @Si (aa9 @Oh (aa9 @Ui (aa9 @Ll (aa9 @Qr @Av)))))))))
def ac8:=PLift.up (aa9 @Wg (aa9 @bS (aa9 @Fh (aa9 @Gx (aa9 @Gs (aa9 @Ij (aa9 @Ln (aa9 @Vn (aa9 @Vs (aa9 @Im (aa9 @Eh (aa9 @dJ (aa9 @Yy (aa9 @Av (aa9 @cA (aa9 @Kq (aa9 @Iy (aa9 @Vz (aa9 @Qa (aa9 @Vj (aa9 @dV @bU)))))))))))))))))))))
def aZ:=PLift.up (aa9 @Wg (aa9 @ab6 (aa9 @aP (aa9 @ab2 (aa9 @bS (aa9 @sB (aa9 @Im (aa9 @Eh (aa9 @dJ (aa9 @Qa (aa9 @Sr (aa9 @Ll (aa9 @oM (aa9 @Vj (aa9 @dV (aa9 @jK (aa9 @oG (aa9 @Jm (aa9 @bF (aa9 @wN (aa9 @Ff (aa9 @Ju (aa9 @Av (aa9 @Pe (aa9 @Ir (aa9 @bU (aa9 @acN (aa9 @sL @acG))))))))))))))))))))))))))))
def amP:=PLift.up (aa9 @Qr (aa9 @Zp (aa9 @Sm @vW)))
def ax0:=PLift.up (aa9 @Ta (aa9 @Av @Ua))
def alN:=PLift.up (aa9 @Gs (aa9 @Ij (aa9 @Ln (aa9 @Vn (aa9 @Vs (aa9 @Uo @Av))))))
def al4:=PLift.up (aa9 @Gs (aa9 @Ij (aa9 @Rw (aa9 @Ln (aa9 @Vn (aa9 @Vs (aa9 @gB (aa9 @mR (aa9 @Ub (aa9 @Wv (aa9 @Vu (aa9 @Sl (aa9 @Eo (aa9 @Qu @Ug))))))))))))))
def anR:=PLift.up (aa9 @vV (aa9 @tU (aa9 @Gs (aa9 @eY (aa9 @Av (aa9 @Eo (aa9 @cA (aa9 @Ij (aa9 @eU (aa9 @Pe (aa9 @jS (aa9 @gQ (aa9 @nQ (aa9 @Ln (aa9 @fK (aa9 @fO (aa9 @jO (aa9 @Vu (aa9 @Sl (aa9 @fG (aa9 @Qu (aa9 @Ug @rY))))))))))))))))))))))
def ai3:=PLift.up (aa9 @Oh (aa9 @Zm (aa9 @bD (aa9 @ajP (aa9 @ai1 (aa9 @Yq (aa9 @Av (aa9 @Eo (aa9 @Su (aa9 @Ul (aa9 @rA @Sv)))))))))))
def ayP:=PLift.up (aa9 @Tt (aa9 @Ta (aa9 @Av @Ua)))
def abZ:=PLift.up (aa9 @Ub (aa9 @Wv (aa9 @Qu (aa9 @Vu (aa9 @bE (aa9 @bM (aa9 @bR (aa9 @Xz (aa9 @eV (aa9 @Av (aa9 @Eo (aa9 @Ye (aa9 @Sl (aa9 @Ya (aa9 @Ug (aa9 @Uo (aa9 @Tt (aa9 @jQ (aa9 @Yy (aa9 @Zk (aa9 @Xw (aa9 @Ze (aa9 @Yb (aa9 @fW @Kq))))))))))))))))))))))))
def ah5:=PLift.up (aa9 @Fh (aa9 @Gx (aa9 @Tu (aa9 @Av (aa9 @Um @Tz)))))
def axP:=PLift.up (aa9 @Rw @Rw)
def aiH:=PLift.up (aa9 @Oi (aa9 @Md @Eo))
def aaX:=PLift.up (aa9 @Oi (aa9 @Md (aa9 @Eo (aa9 @Kq (aa9 @Iy @Vz)))))
def aaW:=PLift.up (aa9 @Oi (aa9 @Md (aa9 @Eo (aa9 @Kq (aa9 @Iy @Vz)))))
def gW:=PLift.up (aa9 @Eh (aa9 @mQ (aa9 @Oi (aa9 @Kq (aa9 @Iy (aa9 @Vz (aa9 @acH (aa9 @ac9 (aa9 @eZ (aa9 @vO (aa9 @Lr (aa9 @Av (aa9 @cA (aa9 @Pe @jS))))))))))))))
def axL:=PLift.up (aa9 @Zj (aa9 @Av (aa9 @Zf (aa9 @Ym (aa9 @Yl @Kq)))))
def awL:=PLift.up (aa9 @Xy @Av)
def at0:=PLift.up (aa9 @Wy (aa9 @Av (aa9 @Qp (aa9 @Qn (aa9 @Qk @Ql)))))
def zJ:=PLift.up (aa9 @abS (aa9 @acD (aa9 @Kq (aa9 @Iy @ac4))))
def adS:=PLift.up (aa9 @ab4 (aa9 @adD (aa9 @eO (aa9 @Uu @abO))))
def Xo:=PLift.up (aa9 @Ff (aa9 @Sr (aa9 @Ll (aa9 @nX (aa9 @oN (aa9 @abV (aa9 @Xy (aa9 @nN (aa9 @oH (aa9 @Qp (aa9 @Av (aa9 @Eo (aa9 @Ju (aa9 @eO (aa9 @Uu (aa9 @mO (aa9 @Ql (aa9 @Im (aa9 @Eh (aa9 @Qk (aa9 @Lr (aa9 @Qa (aa9 @Jz (aa9 @Fh (aa9 @Gx (aa9 @Ij (aa9 @uR (aa9 @Pe (aa9 @Qn @jK)))))))))))))))))))))))))))))
def Ih:=PLift.up (aa9 @Xa (aa9 @Ui (aa9 @Ll (aa9 @oM (aa9 @nX (aa9 @oN (aa9 @Qr (aa9 @Zp (aa9 @Xy (aa9 @Sm (aa9 @vS (aa9 @nN (aa9 @oH (aa9 @Wy (aa9 @Av (aa9 @Ff (aa9 @Ju (aa9 @Qp (aa9 @Im (aa9 @Eh (aa9 @Qn (aa9 @Lr (aa9 @Ql (aa9 @Qk (aa9 @Sr (aa9 @Ir (aa9 @fC (aa9 @Kq (aa9 @Iy (aa9 @Vz (aa9 @Vj (aa9 @Pe (aa9 @eO (aa9 @Uu (aa9 @mO (aa9 @jK @oG))))))))))))))))))))))))))))))))))))
def La:=PLift.up (aa9 @fS (aa9 @wC (aa9 @Jz (aa9 @Fh (aa9 @Gx (aa9 @abW (aa9 @Gs (aa9 @nK (aa9 @Ir (aa9 @Ti (aa9 @Vj (aa9 @dV (aa9 @Vn (aa9 @Vs (aa9 @Jm (aa9 @Xa (aa9 @Px (aa9 @Si (aa9 @mT (aa9 @Ff (aa9 @Ju (aa9 @Av (aa9 @Eo (aa9 @cA (aa9 @Zm (aa9 @sN (aa9 @Rw (aa9 @aa1 (aa9 @Im (aa9 @Eh (aa9 @dJ (aa9 @Lr (aa9 @bM (aa9 @bR (aa9 @aa5 (aa9 @Ye (aa9 @Ya (aa9 @Pe @jS))))))))))))))))))))))))))))))))))))))
def uY:=PLift.up (aa9 @dA (aa9 @cF (aa9 @Jz (aa9 @Jm (aa9 @Ir (aa9 @Ti (aa9 @Eh (aa9 @Zj (aa9 @Av (aa9 @Zf (aa9 @Tn @Vj)))))))))))
def sT:=PLift.up (aa9 @dA (aa9 @cF (aa9 @Ir (aa9 @Tn (aa9 @Eh (aa9 @Ym (aa9 @Av (aa9 @Yl (aa9 @Tj (aa9 @Vj (aa9 @Ff (aa9 @gP @Pe))))))))))))
def Po:=PLift.up (aa9 @Ir (aa9 @Tj (aa9 @Eh (aa9 @mQ (aa9 @aaH (aa9 @Lr (aa9 @Av (aa9 @Jz (aa9 @Zg (aa9 @Ff (aa9 @eX (aa9 @Pe @Im))))))))))))
def Ld:=PLift.up (aa9 @fS (aa9 @Vn (aa9 @Vs (aa9 @Ir (aa9 @Tj (aa9 @Eh (aa9 @Lr (aa9 @Av (aa9 @Ff (aa9 @Qa (aa9 @Zk (aa9 @Xw (aa9 @Ze (aa9 @Pe (aa9 @gB (aa9 @mR (aa9 @Ti (aa9 @Tn @Yb))))))))))))))))))
def au4:=PLift.up (aa9 @Tt (aa9 @Ta (aa9 @Av @Ua)))
def auS:=PLift.up (aa9 @Yq (aa9 @Av (aa9 @Su (aa9 @Ul @fN))))
def uS:=PLift.up (aa9 @Gs (aa9 @Ij @Ln))
def yG:=PLift.up (aa9 @Oi (aa9 @Md @Eo))
def au2:=PLift.up (aa9 @Fh (aa9 @Gx (aa9 @Ij (aa9 @gQ (aa9 @nQ (aa9 @Eh (aa9 @Md @Eo)))))))
def auI:=PLift.up (aa9 @Eh (aa9 @Md (aa9 @Eo @eZ)))
def Jh:=PLift.up (aa9 @Oi (aa9 @Lr (aa9 @Md (aa9 @Av (aa9 @Eo (aa9 @nK @Pe))))))
def tN:=PLift.up (aa9 @Qs (aa9 @eE @aR))
def rR:=PLift.up (aa9 @Qr (aa9 @Zp @Sm))
def avF:=PLift.up (aa9 @Jz (aa9 @Fh (aa9 @Gx (aa9 @Ij (aa9 @eU (aa9 @Av (aa9 @Eo (aa9 @Ff (aa9 @Im (aa9 @Eh @Lr))))))))))
def nS:=PLift.up (aa9 @Jz (aa9 @Fh (aa9 @Gx (aa9 @Gs (aa9 @Ij (aa9 @Rw (aa9 @Ln (aa9 @Vn (aa9 @Vs (aa9 @Ff (aa9 @Ju @Av)))))))))))
def xY:=PLift.up (aa9 @vY (aa9 @bE (aa9 @bM (aa9 @Ub (aa9 @Wv (aa9 @Vu (aa9 @bR (aa9 @Qu (aa9 @Xz (aa9 @Av @Uo))))))))))
def awF:=PLift.up (aa9 @wZ (aa9 @aR (aa9 @dA (aa9 @Xa (aa9 @Mc (aa9 @Oy (aa9 @Ff (aa9 @Ju (aa9 @Av (aa9 @eE @cF))))))))))
def uM:=PLift.up (aa9 @Oh (aa9 @Zm @bD))
end Go.Proofs.YtdbiogihimdpcaaGreatDoor
namespace Go.Proofs.YtdbiogihimdpcaaGreatDoor
open Go Go.Ev Go.ChangeShapes Go.WideShapes Go.ChangeAt Go.RowKit
set_option maxRecDepth 100000
set_option maxHeartbeats 16000000
def mdL:List Nat:=[131,130,133]
def pr:Of:=adZ 89 90 (mdL.contains ·)
noncomputable def Bl:Ez:=om Tryz.prog pr
theorem aoG(f:Nat):Bl.md f=([131,130,133]:List Nat).contains f:=Eq.trans rfl rfl
def Va:=PLift.up (aa9 EE.down EE.down)
def Vb:=PLift.up (aa9 EF.down @aoG)
def Vc:=PLift.up (aa9 EG.down @aoG)
theorem vE{C:R→Prop}[NoN C]{n:Nat}{k:List Aj}{c:Code}{s:St}(h:Un Bl Tryz.prog n k c C (Dc Bl Tryz.prog 5000 c [] s)):C (lpK Bl Tryz.prog n k (Bl.loop c s)):=avJ (pr:=pr) h
theorem own:ownKnob Tryz.prog.godebug=none:=by kernel_rfl
theorem arY:abK Tryz.prog:=fun f fn hf=>by
 have h:(Tryz.prog.funcs.toList.all fun fn=> !(fn.name== "runtime.NumGoroutine"))=true:=by kernel_rfl
 have:=List.all_eq_true.1 h fn (by rw[Array.mem_toList_iff];exact Array.mem_of_getElem? hf)
 simpa using this
theorem mixed:Tryz.prog.follows .mixedOrders=true:=by kernel_rfl
theorem aj3:laidOutB Tryz.prog=true:=by kernel_rfl
def laid:List (String × DataW Unit):=[("math/bits.deBruijn32tab",Rows.laid_math_bits_deBruijn32tab),("math/bits.deBruijn64tab",Rows.laid_math_bits_deBruijn64tab),("internal/strconv.uint64pow10",Rows.laid_internal_strconv_uint64pow10)]
theorem awC:Tryz.prog.globalNamed "internal/strconv.uint64pow10" =some 0:=by kernel_rfl
theorem tab{W:World}(h:laidMetH Tryz.prog laid W):Lib.TabIs Tryz.prog W "internal/strconv.uint64pow10" .u64 Lib.pow10Tab:=by
 rw[MakeChecks.laidMetH_plain _ _ _ (by kernel_rfl)]at h
 obtain⟨ps,h,_⟩:=h
 exact cJ (t:=183) (e:=174) (n:=20) awC (by kernel_rfl) (by kernel_rfl) (by kernel_rfl) (by kernel_rfl) (by kernel_rfl) h (by
  have e:(Lib.tabData .u64 Lib.pow10Tab:DataW Unit)=Rows.laid_internal_strconv_uint64pow10:=rfl
  rw[e];simp[laid])
theorem ajR{W:World}(h:laidMetH Tryz.prog laid W):Hv Tryz.prog (ae5 W 0) Bl:=
 avS arY (aeO (amZ (pP arY Tryz.func89 rfl) (afT awC (tab h)) (fun n w h0 h1 ht=>Tryz.strconv_Itoa n h0 h1 w ht)) (anL (pP arY Tryz.func90 rfl) Tryz.strings_Join_none Tryz.strings_Join)) mixed
theorem ai5(os:Os)(args:Array Value):laidMetH Tryz.prog laid ((World.doorLaid Tryz.prog 400 os).forCall (fun _ _=>0) ⟨#[],args,[]⟩).memory:=
 laidMetH_of_parts3 (fuel:=8) (laidMet_of_run' 8 (by kernel_rfl) (by kernel_rfl)) (by kernel_rfl) (by kernel_rfl)
end Go.Proofs.YtdbiogihimdpcaaGreatDoor
namespace Go.Proofs.YtdbiogihimdpcaaGreatDoor
open Go.Ev Go
set_option maxRecDepth 100000
set_option maxHeartbeats 16000000
structure aaP(sc dc:List AV)(bx:Nat)(ov:AV)(h:Aa)(xc X:List AV)(Rx:List Nat)(rows Q:List (List AV))(Ro:List Nat):Prop where
 b0:h[0]?=some (.live 6 false false [sc])
 b1:h[1]?=some (.live 3 false false [dc])
 b2:h[2]?=some (.live 6 false false [[.int .i64 0,.nils,.int .i64 0,.int .i64 0,.nils,.nils]])
 bx3:3≤bx
 bxw:∃w,h[bx]?=some (.live 6 false w [xc])
 x:Nn (rd 5 (hf h)) xc=some (X,Rx)
 own:Ep 0 4 false rows ov h
 nil:rows=[]→ov=.nils
 q:Bz (rd 5 (hf h)) rows=some (Q,Ro)
 dx:∀b∈Rx++Ro,3≤b∧b≠bx
 dov:∀st b r n,ov=.slr st b r n→3≤b∧b≠bx∧b∉Rx++Ro∧b<h.length
theorem Gu{h:Aa}{b:Nat}{c:CB}(hb:h[b]?=some c):b<h.length:=(aeY.1 hb).1
theorem aaP.call{sc dc:List AV}{bx:Nat}{ov:AV}{h:Aa}{xc X:List AV}{Rx:List Nat}{rows Q:List (List AV)}{Ro:List Nat}(I:aaP sc dc bx ov h xc X Rx rows Q Ro)
 {lent:List Nat} {H1:Aa} (K:Kp lent h H1) (hl:∀b∈lent,b∈Rx):H1[0]?=h[0]?∧H1[1]?=h[1]?∧H1[2]?=h[2]?∧H1[bx]?=h[bx]?∧bx<h.length∧Ep 0 4 false rows ov H1:=by
 obtain⟨w,hw⟩:=I.bxw
 have nl:∀b,¬(3≤b∧b≠bx)→b∉lent:=fun b hb hh=>hb (I.dx b (acI _ (hl b hh)))
 refine⟨K.same 0 (Gu I.b0) (nl _ (by omega)),K.same 1 (Gu I.b1) (nl _ (by omega)),K.same 2 (Gu I.b2) (nl _ (by omega)),K.same bx (Gu hw) (nl _ (by omega)),Gu hw,?_⟩
 rcases I.own with h1|⟨b,w',h1,h2⟩
 ·exact .inl h1
 ·refine .inr ⟨b,w',h1,?_⟩
  rw[K.same b (Gu h2) (fun hh=>(I.dov _ _ _ _ h1).2.2.1 (acI _ (hl _ hh)))]
  exact h2
theorem aaP.next{sc dc:List AV}{bx:Nat}{ov:AV}{h:Aa}{xc X:List AV}{Rx:List Nat}{rows Q:List (List AV)}{Ro:List Nat}(I:aaP sc dc bx ov h xc X Rx rows Q Ro)
 {lent:List Nat} {H1:Aa} (K:Kp lent h H1) (hl:∀b∈lent,b∈Rx) {xc' X' fc' Qf:List AV} {Rx' Rf:List Nat} (hx:Nn (rd 5 (hf H1)) xc'=some (X',Rx')) (hf':Nn (rd 5 (hf H1)) fc'=some (Qf,Rf))
 (fr:∀b∈Rx'++Rf,h.length≤b) (a b c:CB) {k n:Nat} (hk:k=H1.length+3) (hn:n=rows.length+1):
 aaP sc dc bx (.slr 4 k 0 n) (kl 0 ov (H1.set bx (.live 6 false true [xc']))++[a,b,c,.live 4 false false (rows++[fc'])]) xc' X' Rx' (rows++[fc']) (Q++[Qf]) (Ro++Rf):=by
 subst hk hn
 obtain⟨c0,c1,c2,c3,hbx,c4⟩:=I.call K hl
 have l0:=Gu I.b0
 have l1:=Gu I.b1
 have l2:=Gu I.b2
 have bx3:=I.bx3
 have hle:=K.len
 have get:∀j,j<H1.length→j≠bx→(∀st m r n,ov=.slr st m r n→m≠j)→(kl 0 ov (H1.set bx (.live 6 false true [xc']))++[a,b,c,.live 4 false false (rows++[fc'])])[j]?=H1[j]?:=fun j hj hb ho=>by
  rw[tG _ (by simpa using hj) ho,List.getElem?_set_ne (fun e=>hb e.symm)]
 have low:∀j,j<3→∀st m r n,ov=.slr st m r n→m≠j:=fun j hj st m r n e=>by have:=(I.dov st m r n e).1;omega
 have agr:∀R:List Nat,(∀j∈R,j<H1.length)→(∀j∈R,j≠bx)→(∀j∈R,∀st m r n,ov=.slr st m r n→m≠j)→Agr R (hf H1) (hf (kl 0 ov (H1.set bx (.live 6 false true [xc']))++[a,b,c,.live 4 false false (rows++[fc'])])):=fun R h1 h2 h3 j hj z hz=>by
  show((kl 0 ov _++_)[j]?).bind Bw=_
  rw[get j (h1 j hj) (h2 j hj) (h3 j hj)];exact hz
 have fx:∀j∈Rx'++Rf,j≠bx∧∀st m r n,ov=.slr st m r n→m≠j:=fun j hj=>by
  have:=fr j hj
  exact⟨by omega,fun st m r n e=>by have:=(I.dov st m r n e).2.2.2;omega⟩
 have ltx:=eC (by omega) hx
 have ltf:=eC (by omega) hf'
 have q1:Bz (rd 5 (hf H1)) rows=some (Q,Ro):=bA I.q fun j hj z hz=>by
  rw[K.rows j (dU (by omega) I.q j hj)];exact hz
 have lto:=dU (by omega) q1
 have lto':=dU (by omega) I.q
 have dro:∀j∈Ro,j≠bx∧∀st m r n,ov=.slr st m r n→m≠j:=fun j hj=>
  ⟨(I.dx j (abQ _ hj)).2,fun st m r n e e2=>(I.dov st m r n e).2.2.1 (by rw[e2];exact abQ _ hj)⟩
 have hlen:(kl 0 ov (H1.set bx (.live 6 false true [xc']))).length=H1.length:=by rw[Ek];simp
 refine⟨?_,?_,?_,bx3,⟨true,?_⟩,?_,.inr ⟨H1.length+3,false,by simp,?_⟩,fun e=>by simp at e,?_,?_,?_⟩
 ·rw[get 0 (by omega) (by omega) (low 0 (by omega)),c0];exact I.b0
 ·rw[get 1 (by omega) (by omega) (low 1 (by omega)),c1];exact I.b1
 ·rw[get 2 (by omega) (by omega) (low 2 (by omega)),c2];exact I.b2
 ·rw[tG _ (by simp;omega) (fun st m r n e=>(I.dov st m r n e).2.1),List.getElem?_set_self (by omega)]
 ·exact Zu hx (agr _ ltx (fun j hj=>(fx j (acI _ hj)).1) (fun j hj=>(fx j (acI _ hj)).2))
 ·rw[List.getElem?_append_right (by omega),hlen,show H1.length+3-H1.length=3 by omega];rfl
 ·exact fP (bA q1 (agr _ lto (fun j hj=>(dro j hj).1) (fun j hj=>(dro j hj).2))) (Zu hf' (agr _ ltf (fun j hj=>(fx j (abQ _ hj)).1) (fun j hj=>(fx j (abQ _ hj)).2)))
 ·intro j hj
  rcases adL.1 hj with hj|hj
  ·have:=fr j (acI _ hj);exact⟨by omega,(fx j (acI _ hj)).1⟩
  ·rcases adL.1 hj with hj|hj
   ·exact I.dx j (abQ _ hj)
   ·have:=fr j (abQ _ hj);exact⟨by omega,(fx j (abQ _ hj)).1⟩
 ·intro st m r n e
  cases e
  refine⟨by omega,by omega,fun hj=>?_,by simp[hlen]⟩
  rcases adL.1 hj with hj|hj
  ·have:=ltx _ hj;omega
  ·rcases adL.1 hj with hj|hj
   ·have:=lto _ hj;omega
   ·have:=ltf _ hj;omega
theorem Nj{f:Nat}{fn:Func}{c:Code}{args:List AV}{h:Aa}{Q:Ea→Aa→Prop}(hp:pr f=none)(hf:Tryz.prog.funcs[f]?=some fn)(hb:fn.body=some c)(hl:adM args.length fn.ntmps=true)
 (he:FnE Tryz.prog h.length fn.results.toList Q (Dc Bl Tryz.prog 5000 c [] ⟨mk fn.ntmps (Dj args),h⟩)):Vg Bl f args h Q:=Vg.start (pr:=pr) hp hf hb hl he
theorem at7{f:Nat}{fn:Func}{c:Code}{args:List AV}{h:Aa}{Q:Ea→Aa→Prop}(hp:pr f=none)(hf:Tryz.prog.funcs[f]?=some fn)(hb:fn.body=some c)(hl:adM args.length fn.ntmps=true)
 (he:FnS Tryz.prog fn.results.toList Q (Dc Bl Tryz.prog 5000 c [] ⟨mk fn.ntmps (Dj args),h⟩)):ShQ Bl f args h Q:=ShQ.start (pr:=pr) hp hf hb hl he
theorem ce{f:Nat}{fn:Func}{c:Code}{args:List AV}{h:Aa}{o:Ea}{h':Aa}(hf:Tryz.prog.funcs[f]?=some fn)(he:FnE Tryz.prog h.length fn.results.toList (fun o1 h1=>(o1,h1)=(o,h')) (Dc Bl Tryz.prog 5000 c [] ⟨mk fn.ntmps (Dj args),h⟩))(hp:pr f=none:=by exact rfl)(hb:fn.body=some c:=by exact rfl)(hl:adM args.length fn.ntmps=true:=by exact rfl):Bl.call (.fn f) args h=some (o,h'):=(Nj hp hf hb hl he).eq
theorem csh{f:Nat}{fn:Func}{c:Code}{args:List AV}{h:Aa}{o:Ea}{h':Aa}(hf:Tryz.prog.funcs[f]?=some fn)(he:FnS Tryz.prog fn.results.toList (fun o1 h1=>(o1,h1)=(o,h')) (Dc Bl Tryz.prog 5000 c [] ⟨mk fn.ntmps (Dj args),h⟩))(hp:pr f=none:=by exact rfl)(hb:fn.body=some c:=by exact rfl)(hl:adM args.length fn.ntmps=true:=by exact rfl):Bl.call (.sh f) args h=some (o,h'):=(at7 hp hf hb hl he).eq
theorem Sj{α σ ρ:Type}{c:Code}(N:Nat)(l:List α)(E:Nat→σ→Tm→Aa→Prop)(F:List α→σ→ρ)(Q:ρ→Ex→Tm→Aa→Prop)
 (stop:∀s t h Q',(∀e t h,Q (F [] s) e t h→Q' e ⟨mk N t,h⟩)→E l.length s t h→qH N (fun _ _=>False) Q' (Dc Bl Tryz.prog 5000 c [] ⟨mk N t,h⟩))
 (go:∀x rest i s t h J Q',(∀t' h' s',E (i+1) s' t' h'→F rest s'=F (x::rest) s→J t' h')→(∀e t h,Q (F (x::rest) s) e t h→Q' e ⟨mk N t,h⟩)→l[i]?=some x→i<l.length→E i s t h→
   qH N J Q' (Dc Bl Tryz.prog 5000 c [] ⟨mk N t,h⟩)):
 ∀s t h,E 0 s t h→LpQ Bl c ⟨mk N t,h⟩ (Ot N (Q (F l s))):=ab0 (pr:=pr) rfl N l E F Q stop go
theorem cnt{σ ρ:Type}{c:Code}(N:Nat)(E:Nat→σ→Tm→Aa→Prop)(F:Nat→σ→ρ)(Q:ρ→Ex→Tm→Aa→Prop)
 (stop:∀s t h Q',(∀e t h,Q (F 0 s) e t h→Q' e ⟨mk N t,h⟩)→E 0 s t h→qH N (fun _ _=>False) Q' (Dc Bl Tryz.prog 5000 c [] ⟨mk N t,h⟩))
 (go:∀n s t h J Q',(∀t' h' s',E n s' t' h'→F n s'=F (n+1) s→J t' h')→(∀e t h,Q (F (n+1) s) e t h→Q' e ⟨mk N t,h⟩)→E (n+1) s t h→qH N J Q' (Dc Bl Tryz.prog 5000 c [] ⟨mk N t,h⟩)):
 ∀n s t h,E n s t h→LpQ Bl c ⟨mk N t,h⟩ (Ot N (Q (F n s))):=aiR (pr:=pr) rfl N E F Q stop go
structure Bi where
 fill:Int
 inn:Int
 out:Int
def Bi.cells(r:Bi):List AV:=[.int .i64 r.fill,.int .i64 r.inn,.int .i64 r.out]
structure Ah where
 firm:Bool
 space:Int
 lo:Int
 hi:Int
 nn:Bool
 rates:List Bi
 gas:Int
 fixed:Int
 inn:Int
 out:Int
 cut:Int
 lack:Int
def Ah.cells(c:Ah):List AV:=[.bool c.firm,.int .i64 c.space,.int .i64 c.lo,.int .i64 c.hi,Az 3 true c.nn (c.rates.map Bi.cells),.int .i64 c.gas,.int .i64 c.fixed,.int .i64 c.inn,.int .i64 c.out,.int .i64 c.cut,.int .i64 c.lack]
structure Ac where
 space:Int
 inn:Int
 out:Int
 lead:Int
 fuel:Int
 nn:Bool
 cons:List Ah
abbrev Ac.cells(s:Ac):List AV:=[.int .i64 s.space,.int .i64 s.inn,.int .i64 s.out,.int .i64 s.lead,.int .i64 s.fuel,Az 11 false s.nn (s.cons.map Ah.cells)]
def iv(x:Int):List AV:=[.int .i64 x]
def Gp(x lo hi:Int):Bool:=decide (lo≤x)&&decide (x≤hi)
theorem lY(x lo hi:Int):Bl.call (.fn 71) [.int .i64 x,.int .i64 lo,.int .i64 hi] []=some (.ret (.bool (Gp x lo hi)),[]):=by
 (refine ce Tryz.func71 ?_;simp only[Tryz.f71];(have hb:=trivial;with_reducible repeat' (first|simp only[hb,Va.down,seval]|refine Ai ?_ ?_<;>intro hb|refine fd ?_|fail)))
 all_goals simp[Gp, *]
theorem gX(x lo hi:Int):Bl.call (.fn 54) [.int .i64 x,.int .i64 lo,.int .i64 hi] []=some (.ret (.bool (Gp x lo hi)),[]):=by
 (refine ce Tryz.func54 ?_;simp only[Tryz.f54];(have hb:=trivial;with_reducible repeat' (first|simp only[hb,Va.down,seval]|refine Ai ?_ ?_<;>intro hb|refine fd ?_|fail)))
 all_goals simp[Gp, *]
def dI(x y:Int):Bool:=decide (0≤x)&&decide (x≤y)&&decide (y<48)
theorem akT(x y:Int):Bl.call (.fn 66) [.agg [.int .i64 x,.int .i64 y]] []=some (.ret (.bool (dI x y)),[]):=by
 (refine ce Tryz.func66 ?_;simp only[Tryz.f66];(have hb:=trivial;with_reducible repeat' (first|simp only[hb,Va.down,seval,ax0.down]|refine Ai ?_ ?_<;>intro hb|refine fd ?_|fail)))
 all_goals simp[dI, *]
theorem agG(x:Int):Bl.call (.fn 93) [.int .i64 x] []=some (.ret (.bool (!Gp x 0 800000000)),[]):=by
 (refine ce Tryz.func93 ?_;simp only[Tryz.f93];(have hb:=trivial;with_reducible repeat' (first|simp only[hb,Va.down,seval,lY]|refine Ai ?_ ?_<;>intro hb|refine fd ?_|fail)))
theorem abC(x:Int):Bl.call (.fn 136) [.int .i64 x] []=some (.ret (.bool (!Gp x 0 10000)),[]):=by
 (refine ce Tryz.func136 ?_;simp only[Tryz.f136];(have hb:=trivial;with_reducible repeat' (first|simp only[hb,Va.down,seval,lY]|refine Ai ?_ ?_<;>intro hb|refine fd ?_|fail)))
theorem pJ(x:Int):Bl.call (.fn 19) [.int .i64 x] []=some (.ret (.bool (Gp x 0 800000000)),[]):=by
 (refine ce Tryz.func19 ?_;simp only[Tryz.f19];(have hb:=trivial;with_reducible repeat' (first|simp only[hb,Va.down,seval,gX]|refine Ai ?_ ?_<;>intro hb|refine fd ?_|fail)))
theorem zX(x:Int):Bl.call (.fn 81) [.int .i64 x] []=some (.ret (.bool (Gp x 0 100000000)),[]):=by
 (refine ce Tryz.func81 ?_;simp only[Tryz.f81];(have hb:=trivial;with_reducible repeat' (first|simp only[hb,Va.down,seval,gX]|refine Ai ?_ ?_<;>intro hb|refine fd ?_|fail)))
theorem amT(x:Int):Bl.call (.fn 80) [.int .i64 x] []=some (.ret (.bool (Gp x 0 10000)),[]):=by
 (refine ce Tryz.func80 ?_;simp only[Tryz.f80];(have hb:=trivial;with_reducible repeat' (first|simp only[hb,Va.down,seval,gX]|refine Ai ?_ ?_<;>intro hb|refine fd ?_|fail)))
theorem wI(x:Int):Bl.call (.fn 38) [.int .i64 x] []=some (.ret (.bool (Gp x 0 47)),[]):=by
 (refine ce Tryz.func38 ?_;simp only[Tryz.f38];(have hb:=trivial;with_reducible repeat' (first|simp only[hb,Va.down,seval,gX]|refine Ai ?_ ?_<;>intro hb|refine fd ?_|fail)))
theorem amN(x y:Int):Bl.call (.fn 31) [.agg [.int .i64 x,.int .i64 y]] []=some (.ret (.bool (dI x y)),[]):=by
 (refine ce Tryz.func31 ?_;simp only[Tryz.f31];(have hb:=trivial;with_reducible repeat' (first|simp only[hb,Va.down,seval,ayD.down,wI]|refine Ai ?_ ?_<;>intro hb|refine fd ?_|fail)))
 all_goals (refine congrArg (fun b=>(Ea.ret (AV.bool b),([]:Aa))) ?_;rw[Bool.eq_iff_iff];simp only[dI,Gp,acL,acQ,acR,acV,adG,decide_eq_true_eq,decide_eq_false_iff_not,beq_iff_eq,beq_eq_false_iff_ne,Bool.false_eq_true,false_iff,iff_false,true_iff,iff_true,adJ,adK]at *;omega)
theorem tK(c:Ah)(f:Bool)(h:Int):Bl.call (.fn 111) [.agg [.bool f,.int .i64 c.space,.int .i64 c.lo,.int .i64 c.hi,Az 3 true c.nn (c.rates.map Bi.cells),.int .i64 c.gas,.int .i64 c.fixed,.int .i64 c.inn,.int .i64 c.out,.int .i64 c.cut,.int .i64 c.lack],.int .i64 h] []=some (.ret (.bool (Gp h c.lo c.hi)),[]):=by
 (refine ce Tryz.func111 ?_;simp only[Tryz.f111];(have hb:=trivial;with_reducible repeat' (first|simp only[hb,Va.down,seval,au4.down,lY]|refine Ai ?_ ?_<;>intro hb|refine fd ?_|fail)))
theorem ahW(c:Ah)(f:Bool)(h:Int):Bl.call (.fn 79) [.agg [.bool f,.int .i64 c.space,.int .i64 c.lo,.int .i64 c.hi,Az 3 true c.nn (c.rates.map Bi.cells),.int .i64 c.gas,.int .i64 c.fixed,.int .i64 c.inn,.int .i64 c.out,.int .i64 c.cut,.int .i64 c.lack],.int .i64 h] []=some (.ret (.bool (Gp h c.lo c.hi)),[]):=by
 (refine ce Tryz.func79 ?_;simp only[Tryz.f79];(have hb:=trivial;with_reducible repeat' (first|simp only[hb,Va.down,seval,ayP.down,gX]|refine Ai ?_ ?_<;>intro hb|refine fd ?_|fail)))
def kG{α:Type}(p:α→Bool):List α→Int→Int
 | [],_=> -1
 |x::l,i=>if p x=true then i else kG p l (i+1)
theorem Zr{α:Type}(p:α→Bool):∀(l:List α) (i:Int),0≤i→decide (0≤kG p l i)=l.any p
 | [],i,_=>rfl
 |x::l,i,h=>by
  unfold kG
  split
  ·rename_i hp;simp[h,hp]
  ·rename_i hp;rw[Zr p l (i+1) (by omega)];simp[hp]
theorem afM{l:List Int}{nn:Bool}{g:Nat}{cap:List AV}{p:Int→Bool}(hc:cap.all (Ba 8)=true)(hc7:cap.all (Ba 7)=true)(hp:∀x∈l,Bl.call (.fn g) (.int .i64 x::cap) []=some (.ret (.bool (p x)),[]))(hl:l.length≤maxLen):
 Bl.call (.fn 92) [Az 1 true nn (l.map iv),.func (.func g) [] cap] []=some (.ret (.int .i64 (kG p l 0)),[]):=by
 (refine ce Tryz.func92 ?_;simp only[Tryz.f92];(have hb:=trivial;with_reducible repeat' (first|simp only[hb,Va.down,seval,aiH.down,adP]|refine Ai ?_ ?_<;>intro hb|refine fd ?_|fail)))
 refine Dm (Sj 19 l (fun i (s:Int) t h=>s=i∧h=[]∧t 0=Az 1 true nn (l.map iv)∧t 1=.func (.func g) [] cap∧t 7=.int .i64 l.length∧t 8=.int .i64 i)
  (fun rest s=>kG p rest s) (fun r e t h=>h=[]∧((e=.exit 0∧r= -1)∨(e=.ret∧t 4=.int .i64 r))) ?_ ?_ 0 _ _ ?_) (fun e t h hk=>?_)
 ·rintro s t h Q' kQ ⟨rfl,rfl,h0,h1,h7,h8⟩
  (have hb:=trivial;with_reducible repeat' (first|simp only[hb,Va.down,seval,aiH.down,h0,h1,h7,h8,adN,decide_false]|refine Ai ?_ ?_<;>intro hb|refine fd ?_|fail))
  exact kQ _ _ _ ⟨rfl,.inl ⟨rfl,rfl⟩⟩
 ·rintro x rest i s t h J Q' kJ kQ hx hi ⟨rfl,rfl,h0,h1,h7,h8⟩
  have hpx:=hp x (ae4 hx)
  have hd:decide ((i:Int)<(l.length:Int))=true:=by simpa using hi
  (have hb:=trivial;with_reducible repeat' (first|simp only[hb,Va.down,seval,aiH.down,h0,h1,h7,h8,hd,hx,iv,hc,hc7,hpx,Ak hi hl]|refine Ai ?_ ?_<;>intro hb|refine fd ?_|fail))
  ·exact kQ _ _ _ ⟨rfl,.inr ⟨rfl,by simp[up,kG,hb]⟩⟩
  ·exact Aq (kJ _ _ (i+1) ⟨by simp,rfl,by simp[up,h0],by simp[up,h1],by simp[up,h7],by simp[up]⟩ (by simp[kG,hb]))
 ·exact⟨rfl,rfl,by simp[up,Dj],by simp[up,Dj],by simp[up],by simp[up]⟩
 ·obtain⟨rfl,⟨rfl,hi⟩|⟨rfl,hi⟩⟩:=hk
  ·(have hb:=trivial;with_reducible repeat' (first|simp only[hb,Va.down,seval,aiH.down]|refine Ai ?_ ?_<;>intro hb|refine fd ?_|fail))
   rw[hi]
  ·(have hb:=trivial;with_reducible repeat' (first|simp only[hb,Va.down,seval,aiH.down,hi]|refine Ai ?_ ?_<;>intro hb|refine fd ?_|fail))
theorem nZ{l:List Int}{nn:Bool}{g:Nat}{cap:List AV}{p:Int→Bool}(hc:cap.all (Ba 8)=true)(hc7:cap.all (Ba 7)=true)(hp:∀x∈l,Bl.call (.fn g) (.int .i64 x::cap) []=some (.ret (.bool (p x)),[]))(hl:l.length≤maxLen):
 Bl.call (.fn 50) [Az 1 true nn (l.map iv),.func (.func g) [] cap] []=some (.ret (.bool (l.any p)),[]):=by
 (refine ce Tryz.func50 ?_;simp only[Tryz.f50];(have hb:=trivial;with_reducible repeat' (first|simp only[hb,Va.down,seval,afM hc hc7 hp hl,hc,hc7,Zr p l 0 (adQ 0)]|refine Ai ?_ ?_<;>intro hb|refine fd ?_|fail)))
theorem ae2{l:List Ah}{nn:Bool}{g:Nat}{cap:List AV}{p:Ah→Bool}(hc:cap.all (Ba 8)=true)(hc7:cap.all (Ba 7)=true)(hp:∀x∈l,Bl.call (.fn g) (.agg [.bool x.firm,.int .i64 x.space,.int .i64 x.lo,.int .i64 x.hi,Az 3 true x.nn (x.rates.map Bi.cells),.int .i64 x.gas,.int .i64 x.fixed,.int .i64 x.inn,.int .i64 x.out,.int .i64 x.cut,.int .i64 x.lack]::cap) []=some (.ret (.bool (p x)),[]))(hl:l.length≤maxLen):
 Bl.call (.fn 117) [Az 11 false nn (l.map Ah.cells),.func (.func g) [] cap] []=some (.ret (.int .i64 (kG p l 0)),[]):=by
 (refine ce Tryz.func117 ?_;simp only[Tryz.f117];(have hb:=trivial;with_reducible repeat' (first|simp only[hb,Va.down,seval,uS.down,adP]|refine Ai ?_ ?_<;>intro hb|refine fd ?_|fail)))
 refine Dm (Sj 19 l (fun i (s:Int) t h=>s=i∧h=[]∧t 0=Az 11 false nn (l.map Ah.cells)∧t 1=.func (.func g) [] cap∧t 7=.int .i64 l.length∧t 8=.int .i64 i)
  (fun rest s=>kG p rest s) (fun r e t h=>h=[]∧((e=.exit 0∧r= -1)∨(e=.ret∧t 4=.int .i64 r))) ?_ ?_ 0 _ _ ?_) (fun e t h hk=>?_)
 ·rintro s t h Q' kQ ⟨rfl,rfl,h0,h1,h7,h8⟩
  (have hb:=trivial;with_reducible repeat' (first|simp only[hb,Va.down,seval,uS.down,h0,h1,h7,h8,adN,decide_false]|refine Ai ?_ ?_<;>intro hb|refine fd ?_|fail))
  exact kQ _ _ _ ⟨rfl,.inl ⟨rfl,rfl⟩⟩
 ·rintro x rest i s t h J Q' kJ kQ hx hi ⟨rfl,rfl,h0,h1,h7,h8⟩
  have hpx:=hp x (ae4 hx)
  have hd:decide ((i:Int)<(l.length:Int))=true:=by simpa using hi
  (have hb:=trivial;with_reducible repeat' (first|simp only[hb,Va.down,seval,uS.down,h0,h1,h7,h8,hd,hx,Ah.cells,hc,hc7,hpx,Ak hi hl]|refine Ai ?_ ?_<;>intro hb|refine fd ?_|fail))
  ·exact kQ _ _ _ ⟨rfl,.inr ⟨rfl,by simp[up,kG,hb]⟩⟩
  ·exact Aq (kJ _ _ (i+1) ⟨by simp,rfl,by simp[up,h0],by simp[up,h1],by simp[up,h7],by simp[up]⟩ (by simp[kG,hb]))
 ·exact⟨rfl,rfl,by simp[up,Dj],by simp[up,Dj],by simp[up],by simp[up]⟩
 ·obtain⟨rfl,⟨rfl,hi⟩|⟨rfl,hi⟩⟩:=hk
  ·(have hb:=trivial;with_reducible repeat' (first|simp only[hb,Va.down,seval,uS.down]|refine Ai ?_ ?_<;>intro hb|refine fd ?_|fail))
   rw[hi]
  ·(have hb:=trivial;with_reducible repeat' (first|simp only[hb,Va.down,seval,uS.down,hi]|refine Ai ?_ ?_<;>intro hb|refine fd ?_|fail))
theorem acC{l:List Ah}{nn:Bool}{g:Nat}{cap:List AV}{p:Ah→Bool}(hc:cap.all (Ba 8)=true)(hc7:cap.all (Ba 7)=true)(hp:∀x∈l,Bl.call (.fn g) (.agg [.bool x.firm,.int .i64 x.space,.int .i64 x.lo,.int .i64 x.hi,Az 3 true x.nn (x.rates.map Bi.cells),.int .i64 x.gas,.int .i64 x.fixed,.int .i64 x.inn,.int .i64 x.out,.int .i64 x.cut,.int .i64 x.lack]::cap) []=some (.ret (.bool (p x)),[]))(hl:l.length≤maxLen):
 Bl.call (.fn 82) [Az 11 false nn (l.map Ah.cells),.func (.func g) [] cap] []=some (.ret (.bool (l.any p)),[]):=by
 (refine ce Tryz.func82 ?_;simp only[Tryz.f82];(have hb:=trivial;with_reducible repeat' (first|simp only[hb,Va.down,seval,ae2 hc hc7 hp hl,hc,hc7,Zr p l 0 (adQ 0)]|refine Ai ?_ ?_<;>intro hb|refine fd ?_|fail)))
theorem agQ{l:List Int}{nn:Bool}(hl:l.length≤maxLen):Bl.call (.fn 118) [Az 1 true nn (l.map iv)] []=some (.ret (.bool (l.all fun x=>Gp x 0 10000)),[]):=by
 have h:=nZ (l:=l) (nn:=nn) (g:=136) (cap:=[]) (p:=fun x=> !Gp x 0 10000) rfl rfl (fun x _=>abC x) hl
 (refine ce Tryz.func118 ?_;simp only[Tryz.f118];(have hb:=trivial;with_reducible repeat' (first|simp only[hb,Va.down,seval,h]|refine Ai ?_ ?_<;>intro hb|refine fd ?_|fail)))
 simp[ajX]
theorem xO{l:List Int}{nn:Bool}(hl:l.length≤maxLen):Bl.call (.fn 52) [Az 1 true nn (l.map iv)] []=some (.ret (.bool (l.all fun x=>Gp x 0 800000000)),[]):=by
 have h:=nZ (l:=l) (nn:=nn) (g:=93) (cap:=[]) (p:=fun x=> !Gp x 0 800000000) rfl rfl (fun x _=>agG x) hl
 (refine ce Tryz.func52 ?_;simp only[Tryz.f52];(have hb:=trivial;with_reducible repeat' (first|simp only[hb,Va.down,seval,h]|refine Ai ?_ ?_<;>intro hb|refine fd ?_|fail)))
 simp[ajX]
def Rk(p:Option Bi)(r:Bi):Bool:=Gp r.fill 0 1000&&Gp r.inn 0 100000000&&Gp r.out 0 100000000&&(match p with|none=>decide (r.fill=0)|some q=>decide (q.fill<r.fill)&&decide (r.inn≤q.inn)&&decide (q.out≤r.out))
def Is:List Bi→Option Bi→Bool
 | [],_=>true
 |r::rest,p=>Rk p r&&Is rest (some r)
def Ig(c:Ah):Bool:=Is c.rates none&&Gp c.space 1 100000000&&dI c.lo c.hi&&Gp c.rates.length 1 6&&Gp c.gas 0 c.space&&[c.fixed,c.inn,c.out,c.cut,c.lack].all fun x=>Gp x 0 10000
theorem Bv{h:Aa}{b:Nat}{c:CB}(h0:h[b]?=some c)(l:Aa):(h++l)[b]?=some c:=by
 rw[List.getElem?_append_left (aeY.1 h0).1];exact h0
theorem vZ(c:Ah)(hl:c.rates.length≤maxLen):Bl.call (.fn 84) [.agg [.bool c.firm,.int .i64 c.space,.int .i64 c.lo,.int .i64 c.hi,Az 3 true c.nn (c.rates.map Bi.cells),.int .i64 c.gas,.int .i64 c.fixed,.int .i64 c.inn,.int .i64 c.out,.int .i64 c.cut,.int .i64 c.lack]] []=some (.ret (.bool (Ig c)),[]):=by
 have hpr:=agQ (l:=[c.fixed,c.inn,c.out,c.cut,c.lack]) (nn:=true) (by simp[maxLen])
 simp only[List.map_cons,List.map_nil,iv,kX]at hpr
 (refine ce Tryz.func84 ?_;simp only[Tryz.f84];(have hb:=trivial;with_reducible repeat' (first|simp only[hb,Va.down,seval,abZ.down,adP]|refine Ai ?_ ?_<;>intro hb|refine fd ?_|fail)))
 refine Dm (Sj 112 c.rates (fun i (s:Option Bi) t h=>(i=0∧s=none∨0<i∧s=c.rates[i-1]?)∧h[0]?=some (.live 11 false false [[.bool c.firm,.int .i64 c.space,.int .i64 c.lo,.int .i64 c.hi,Az 3 true c.nn (c.rates.map Bi.cells),.int .i64 c.gas,.int .i64 c.fixed,.int .i64 c.inn,.int .i64 c.out,.int .i64 c.cut,.int .i64 c.lack]])∧t 1=.ptr 0 0 0∧t 6=Az 3 true c.nn (c.rates.map Bi.cells)∧t 7=.int .i64 c.rates.length∧t 8=.int .i64 i)
  (fun rest s=>Is rest s) (fun r e t h=>if r=true then e=.exit 0∧t 1=.ptr 0 0 0∧h[0]?=some (.live 11 false false [[.bool c.firm,.int .i64 c.space,.int .i64 c.lo,.int .i64 c.hi,Az 3 true c.nn (c.rates.map Bi.cells),.int .i64 c.gas,.int .i64 c.fixed,.int .i64 c.inn,.int .i64 c.out,.int .i64 c.cut,.int .i64 c.lack]])else e=.ret∧t 2=.bool false) ?_ ?_ none _ _ ?_) (fun e t h hk=>?_)
 ·rintro s t h Q' kQ ⟨hs,hh,h1,h6,h7,h8⟩
  (have hb:=trivial;with_reducible repeat' (first|simp only[hb,Va.down,seval,abZ.down,h1,h6,h7,h8,adN,decide_false]|refine Ai ?_ ?_<;>intro hb|refine fd ?_|fail))
  exact kQ _ _ _ (by simp[Is,h1,hh,up])
 ·rintro x rest i s t h J Q' kJ kQ hx hi ⟨hs,hh,h1,h6,h7,h8⟩
  have hd:decide ((i:Int)<(c.rates.length:Int))=true:=by simpa using hi
  have hA:=Bv hh
  have kF:∀{p:Option Bi},Rk p x=false→Is (x::rest) p=false:=fun h=>by simp[Is,h]
  have kT:∀{p:Option Bi},Rk p x=true→Is rest (some x)=Is (x::rest) p:=fun h=>by simp[Is,h]
  rcases hs with⟨rfl,rfl⟩|⟨hpos,rfl⟩
  ·have hw:=Ak hi hl
   simp only[Int.natCast_zero,Int.zero_add]at hd h8 hw
   (have hb:=trivial;with_reducible repeat' (first|simp only[hb,Va.down,seval,abZ.down,hA,h1,h6,h7,h8,hd,hx,Bi.cells,lY,hw,Int.toNat_zero,adQ,beq_self_eq_true,adN,decide_false]|refine Ai ?_ ?_<;>intro hb|refine fd ?_|fail))
   all_goals first
    |exact kQ _ _ _ (by rw[if_neg (by rw[kF (by(rw[ajY];intro hcon;simp only[Rk,Gp,acL,acQ,acR,acV,adG,decide_eq_true_eq,decide_eq_false_iff_not,beq_iff_eq,beq_eq_false_iff_ne,ne_eq,adO,adJ,adK]at *;omega))];simp)];exact⟨rfl,rfl⟩)
    |exact Aq (kJ _ _ (some x) ⟨.inr ⟨by omega,by simp[hx]⟩,hA _,by simp[up,h1],by simp[up,h6],by simp[up,h7],by simp[up]<;>omega⟩ (kT (by(simp only[Rk,Gp,acL,acQ,acR,acV,adG,decide_eq_true_eq,decide_eq_false_iff_not,beq_iff_eq,beq_eq_false_iff_ne,ne_eq,adO,adJ,adK]at *;omega))))
  ·obtain⟨j,rfl⟩:∃j,i=j+1:=⟨i-1,by omega⟩
   obtain⟨q,hq⟩:∃q,c.rates[j]?=some q:=⟨c.rates[j],List.getElem?_eq_getElem (by omega)⟩
   have hj:IntKind.i64.wrap (((j+1:Nat):Int)-1)=(j:Int):=by unfold maxLen at hl;rw[Ag (by omega) (by omega)];omega
   have hz:(((j+1:Nat):Int)==0)=false:=by rw[beq_eq_false_iff_ne];omega
   have hg:decide (0<((j+1:Nat):Int))=true:=by rw[decide_eq_true_eq];omega
   simp only[Nat.add_sub_cancel,hq]at kJ kQ
   (have hb:=trivial;with_reducible repeat' (first|simp only[hb,Va.down,seval,abZ.down,hA,h1,h6,h7,h8,hd,hx,Bi.cells,lY,Ak hi hl,hj,hz,hg,hq]|refine Ai ?_ ?_<;>intro hb|refine fd ?_|fail))
   all_goals first
    |exact kQ _ _ _ (by rw[if_neg (by rw[kF (by(rw[ajY];intro hcon;simp only[Rk,Gp,acL,acQ,acR,acV,adG,decide_eq_true_eq,decide_eq_false_iff_not,beq_iff_eq,beq_eq_false_iff_ne,ne_eq,adO,adJ,adK]at *;omega))];simp)];exact⟨rfl,rfl⟩)
    |exact Aq (kJ _ _ (some x) ⟨.inr ⟨by omega,by simp[hx]⟩,hA _,by simp[up,h1],by simp[up,h6],by simp[up,h7],by simp[up]<;>omega⟩ (kT (by(simp only[Rk,Gp,acL,acQ,acR,acV,adG,decide_eq_true_eq,decide_eq_false_iff_not,beq_iff_eq,beq_eq_false_iff_ne,ne_eq,adO,adJ,adK]at *;omega))))
 ·exact⟨.inl ⟨rfl,rfl⟩,rfl,by simp[up],by simp[up],by simp[up],by simp[up]⟩
 ·split at hk
  ·obtain⟨rfl,h1,hh⟩:=hk
   have hA:=Bv hh
   rename_i hr
   (have hb:=trivial;with_reducible repeat' (first|simp only[hb,Va.down,seval,abZ.down,hA,hh,h1,lY,akT,hpr]|refine Ai ?_ ?_<;>intro hb|refine fd ?_|fail))
   all_goals simp[Ig, *]
  ·obtain⟨rfl,h2⟩:=hk
   rename_i hr
   (have hb:=trivial;with_reducible repeat' (first|simp only[hb,Va.down,seval,abZ.down,h2]|refine Ai ?_ ?_<;>intro hb|refine fd ?_|fail))
   all_goals simp[Ig,hr]
end Go.Proofs.YtdbiogihimdpcaaGreatDoor
