/- The functions of the layer, walked. -/
import Derived.Test.YtdbiogihimdpcaaGreatDoorLibD
import Derived.Test.YtdbiogihimdpcaaGreatDoorChecked
import Derived.Test.YtdbiogihimdpcaaGreatDoorRows
import Derived.Test.YtdbiogihimdpcaaGreatDoorTie
import Derived.Test.YtdbiogihimdpcaaGreatDoorCards
import Derived.Test.YtdbiogihimdpcaaGreatDoorShelf
import Derived.ProofKit
import Derived.LaidMore
import Derived.OpenShut
import Derived.Stop.Joined
set_option linter.unusedSimpArgs false
set_option linter.unusedVariables false
/- Facts about the types of the translation, by gen.py. -/
namespace Go.Proofs.YtdbiogihimdpcaaGreatDoor
open Go.Ev
set_option maxRecDepth 100000
theorem ty_fap_24_5(b r o:Nat):fa Tryz.prog 24 (some (.ptr b r o)) 5=some (.ret (.ptr b r (o+5)),[]):=fa_ptr (show FldAt Tryz.prog 24 5 5 1 from⟨_,_,Tryz.underlying24,rfl,rfl,by kernel_rfl,by decide⟩) b r o
theorem ty_ldsp_22(h:Heap)(b r o:Nat):ld Tryz.prog 22 h (some (.ptr b r o))=ldC (rowB (h[b]?) r) o:=ld_sp ⟨by kernel_rfl,1,by kernel_rfl⟩ h b r o
theorem ty_ftl_22(b r o:Nat):ftL Tryz.prog 22 (some (.ptr b r o))=some [.cells b o 1]:=ftL_ptr (isA:=false) (n:=1) (by kernel_rfl) (by kernel_rfl) b r o
theorem ty_lns_25(st b r len:Nat):ln Tryz.prog 25 (some (.slr st b r len))=some (.ret (.int .i64 len),[]):=ln_slr (n:=1) ⟨_,Tryz.underlying25,by kernel_rfl⟩ st b r len
theorem ty_lnn_25:ln Tryz.prog 25 (some .nils)=some (.ret (.int .i64 0),[]):=ln_nils (n:=1) ⟨_,Tryz.underlying25,by kernel_rfl⟩
theorem ty_lnv_25(fl nn:Bool)(rows:List (List AV)):ln Tryz.prog 25 (some (slv 1 fl nn rows))=some (.ret (.int .i64 rows.length),[]):=ln_slv ⟨_,Tryz.underlying25,by kernel_rfl⟩ fl nn rows
theorem ty_ldap_24(h:Heap)(b r o:Nat):ld Tryz.prog 24 h (some (.ptr b r o))=ldR (rowB (h[b]?) r) o 6:=ld_ap ⟨by kernel_rfl,by kernel_rfl⟩ h b r o
theorem ty_ftl_24(b r o:Nat):ftL Tryz.prog 24 (some (.ptr b r o))=some [.cells b o 6]:=ftL_ptr (isA:=true) (n:=6) (by kernel_rfl) (by kernel_rfl) b r o
theorem ty_ias_25(b r len:Nat)(k:IntKind)(i:Int):ia Tryz.prog 25 (some (.slr 1 b r len)) (some (.int k i))=if 0≤i∧i<len then some (.ret (.ptr b (r+i.toNat) 0),[])else none:=ia_slr ⟨_,Tryz.underlying25,by kernel_rfl⟩ b r len k i
theorem ty_iav_25(fl nn:Bool)(rows:List (List AV))(k:IntKind)(i:Int):ia Tryz.prog 25 (some (slv 1 fl nn rows)) (some (.int k i))=if 0≤i then r1 ((rows[i.toNat]?).map .iptr)else none:=ia_slv ⟨_,Tryz.underlying25,by kernel_rfl⟩ fl nn rows k i
theorem ty_ldsp_3(h:Heap)(b r o:Nat):ld Tryz.prog 3 h (some (.ptr b r o))=ldC (rowB (h[b]?) r) o:=ld_sp ⟨by kernel_rfl,1,by kernel_rfl⟩ h b r o
theorem ty_ldsi_3(h:Heap)(c:AV)(cs:List AV):ld Tryz.prog 3 h (some (.iptr (c::cs)))=some (.ret c,[]):=ld_si ⟨by kernel_rfl,1,by kernel_rfl⟩ h c cs
theorem ty_ftl_3(b r o:Nat):ftL Tryz.prog 3 (some (.ptr b r o))=some [.cells b o 1]:=ftL_ptr (isA:=false) (n:=1) (by kernel_rfl) (by kernel_rfl) b r o
theorem ty_iav_22(fl nn:Bool)(rows:List (List AV))(k:IntKind)(i:Int):ia Tryz.prog 22 (some (slv 11 fl nn rows)) (some (.int k i))=if 0≤i then r1 ((rows[i.toNat]?).map .iptr)else none:=ia_slv ⟨_,Tryz.underlying22,by kernel_rfl⟩ fl nn rows k i
theorem ty_fap_42_0(b r o:Nat):fa Tryz.prog 42 (some (.ptr b r o)) 0=some (.ret (.ptr b r (o+0)),[]):=fa_ptr (show FldAt Tryz.prog 42 0 0 1 from⟨_,_,Tryz.underlying42,rfl,rfl,by kernel_rfl,by decide⟩) b r o
theorem ty_fai_42_0(cs:List AV):fa Tryz.prog 42 (some (.iptr cs)) 0=if 0+1≤cs.length then some (.ret (.iptr (cs.drop 0)),[])else none:=fa_iptr (show FldAt Tryz.prog 42 0 0 1 from⟨_,_,Tryz.underlying42,rfl,rfl,by kernel_rfl,by decide⟩) cs
theorem ty_ldsp_4(h:Heap)(b r o:Nat):ld Tryz.prog 4 h (some (.ptr b r o))=ldC (rowB (h[b]?) r) o:=ld_sp ⟨by kernel_rfl,1,by kernel_rfl⟩ h b r o
theorem ty_ldsi_4(h:Heap)(c:AV)(cs:List AV):ld Tryz.prog 4 h (some (.iptr (c::cs)))=some (.ret c,[]):=ld_si ⟨by kernel_rfl,1,by kernel_rfl⟩ h c cs
theorem ty_ldap_48(h:Heap)(b r o:Nat):ld Tryz.prog 48 h (some (.ptr b r o))=ldR (rowB (h[b]?) r) o 3:=ld_ap ⟨by kernel_rfl,by kernel_rfl⟩ h b r o
theorem ty_ftl_48(b r o:Nat):ftL Tryz.prog 48 (some (.ptr b r o))=some [.cells b o 3]:=ftL_ptr (isA:=true) (n:=3) (by kernel_rfl) (by kernel_rfl) b r o
theorem ty_fap_48_0(b r o:Nat):fa Tryz.prog 48 (some (.ptr b r o)) 0=some (.ret (.ptr b r (o+0)),[]):=fa_ptr (show FldAt Tryz.prog 48 0 0 1 from⟨_,_,Tryz.underlying48,rfl,rfl,by kernel_rfl,by decide⟩) b r o
theorem ty_ldsp_44(h:Heap)(b r o:Nat):ld Tryz.prog 44 h (some (.ptr b r o))=ldC (rowB (h[b]?) r) o:=ld_sp ⟨by kernel_rfl,1,by kernel_rfl⟩ h b r o
theorem ty_lnv_44(fl nn:Bool)(rows:List (List AV)):ln Tryz.prog 44 (some (slv 4 fl nn rows))=some (.ret (.int .i64 rows.length),[]):=ln_slv ⟨_,Tryz.underlying44,by kernel_rfl⟩ fl nn rows
theorem ty_lnv_22(fl nn:Bool)(rows:List (List AV)):ln Tryz.prog 22 (some (slv 11 fl nn rows))=some (.ret (.int .i64 rows.length),[]):=ln_slv ⟨_,Tryz.underlying22,by kernel_rfl⟩ fl nn rows
theorem ty_zr_52:zeroT Tryz.prog 52=some (.agg [.int .i64 0,.nils,.int .i64 0,.int .i64 0,.nils,.nils]):=by kernel_rfl
theorem ty_st_52(h:Heap)(b r o:Nat)(v:AV):st_ Tryz.prog 52 h (some (.ptr b r o)) (some v)=sv 6 (h[b]?) b r o (acells v):=st_ptr (by kernel_rfl) h b r o v
theorem ty_fts_52(b r o:Nat):ftS Tryz.prog 52 (some (.ptr b r o))=some [.cells b o 6]:=ftS_ptr (by kernel_rfl) b r o
theorem ty_fap_52_1(b r o:Nat):fa Tryz.prog 52 (some (.ptr b r o)) 1=some (.ret (.ptr b r (o+1)),[]):=fa_ptr (show FldAt Tryz.prog 52 1 1 1 from⟨_,_,Tryz.underlying52,rfl,rfl,by kernel_rfl,by decide⟩) b r o
theorem ty_ldsp_25(h:Heap)(b r o:Nat):ld Tryz.prog 25 h (some (.ptr b r o))=ldC (rowB (h[b]?) r) o:=ld_sp ⟨by kernel_rfl,1,by kernel_rfl⟩ h b r o
theorem ty_ftl_25(b r o:Nat):ftL Tryz.prog 25 (some (.ptr b r o))=some [.cells b o 1]:=ftL_ptr (isA:=false) (n:=1) (by kernel_rfl) (by kernel_rfl) b r o
theorem ty_fap_52_4(b r o:Nat):fa Tryz.prog 52 (some (.ptr b r o)) 4=some (.ret (.ptr b r (o+4)),[]):=fa_ptr (show FldAt Tryz.prog 52 4 4 1 from⟨_,_,Tryz.underlying52,rfl,rfl,by kernel_rfl,by decide⟩) b r o
theorem ty_fap_52_2(b r o:Nat):fa Tryz.prog 52 (some (.ptr b r o)) 2=some (.ret (.ptr b r (o+2)),[]):=fa_ptr (show FldAt Tryz.prog 52 2 2 1 from⟨_,_,Tryz.underlying52,rfl,rfl,by kernel_rfl,by decide⟩) b r o
theorem ty_fap_52_3(b r o:Nat):fa Tryz.prog 52 (some (.ptr b r o)) 3=some (.ret (.ptr b r (o+3)),[]):=fa_ptr (show FldAt Tryz.prog 52 3 3 1 from⟨_,_,Tryz.underlying52,rfl,rfl,by kernel_rfl,by decide⟩) b r o
theorem ty_fap_42_4(b r o:Nat):fa Tryz.prog 42 (some (.ptr b r o)) 4=some (.ret (.ptr b r (o+5)),[]):=fa_ptr (show FldAt Tryz.prog 42 4 5 1 from⟨_,_,Tryz.underlying42,rfl,rfl,by kernel_rfl,by decide⟩) b r o
theorem ty_fap_57_0(b r o:Nat):fa Tryz.prog 57 (some (.ptr b r o)) 0=some (.ret (.ptr b r (o+0)),[]):=fa_ptr (show FldAt Tryz.prog 57 0 0 1 from⟨_,_,Tryz.underlying57,rfl,rfl,by kernel_rfl,by decide⟩) b r o
theorem ty_fap_57_1(b r o:Nat):fa Tryz.prog 57 (some (.ptr b r o)) 1=some (.ret (.ptr b r (o+1)),[]):=fa_ptr (show FldAt Tryz.prog 57 1 1 1 from⟨_,_,Tryz.underlying57,rfl,rfl,by kernel_rfl,by decide⟩) b r o
theorem ty_fap_57_2(b r o:Nat):fa Tryz.prog 57 (some (.ptr b r o)) 2=some (.ret (.ptr b r (o+2)),[]):=fa_ptr (show FldAt Tryz.prog 57 2 2 1 from⟨_,_,Tryz.underlying57,rfl,rfl,by kernel_rfl,by decide⟩) b r o
theorem ty_iav_44(fl nn:Bool)(rows:List (List AV))(k:IntKind)(i:Int):ia Tryz.prog 44 (some (slv 4 fl nn rows)) (some (.int k i))=if 0≤i then r1 ((rows[i.toNat]?).map .iptr)else none:=ia_slv ⟨_,Tryz.underlying44,by kernel_rfl⟩ fl nn rows k i
theorem ty_fap_59_2(b r o:Nat):fa Tryz.prog 59 (some (.ptr b r o)) 2=some (.ret (.ptr b r (o+2)),[]):=fa_ptr (show FldAt Tryz.prog 59 2 2 1 from⟨_,_,Tryz.underlying59,rfl,rfl,by kernel_rfl,by decide⟩) b r o
theorem ty_fap_59_3(b r o:Nat):fa Tryz.prog 59 (some (.ptr b r o)) 3=some (.ret (.ptr b r (o+3)),[]):=fa_ptr (show FldAt Tryz.prog 59 3 3 1 from⟨_,_,Tryz.underlying59,rfl,rfl,by kernel_rfl,by decide⟩) b r o
theorem ty_ldap_42(h:Heap)(b r o:Nat):ld Tryz.prog 42 h (some (.ptr b r o))=ldR (rowB (h[b]?) r) o 11:=ld_ap ⟨by kernel_rfl,by kernel_rfl⟩ h b r o
theorem ty_ldai_42(h:Heap)(cs:List AV):ld Tryz.prog 42 h (some (.iptr cs))=if 11≤cs.length then some (.ret (.agg (cs.take 11)),[])else none:=ld_ai ⟨by kernel_rfl,by kernel_rfl⟩ h cs
theorem ty_ftl_42(b r o:Nat):ftL Tryz.prog 42 (some (.ptr b r o))=some [.cells b o 11]:=ftL_ptr (isA:=true) (n:=11) (by kernel_rfl) (by kernel_rfl) b r o
theorem ty_zr_42:zeroT Tryz.prog 42=some (.agg [.bool false,.int .i64 0,.int .i64 0,.int .i64 0,.nils,.int .i64 0,.int .i64 0,.int .i64 0,.int .i64 0,.int .i64 0,.int .i64 0]):=by kernel_rfl
theorem ty_st_42(h:Heap)(b r o:Nat)(v:AV):st_ Tryz.prog 42 h (some (.ptr b r o)) (some v)=sv 11 (h[b]?) b r o (acells v):=st_ptr (by kernel_rfl) h b r o v
theorem ty_fap_42_2(b r o:Nat):fa Tryz.prog 42 (some (.ptr b r o)) 2=some (.ret (.ptr b r (o+2)),[]):=fa_ptr (show FldAt Tryz.prog 42 2 2 2 from⟨_,_,Tryz.underlying42,rfl,rfl,by kernel_rfl,by decide⟩) b r o
theorem ty_fap_39_0(b r o:Nat):fa Tryz.prog 39 (some (.ptr b r o)) 0=some (.ret (.ptr b r (o+0)),[]):=fa_ptr (show FldAt Tryz.prog 39 0 0 1 from⟨_,_,Tryz.underlying39,rfl,rfl,by kernel_rfl,by decide⟩) b r o
theorem ty_fap_39_1(b r o:Nat):fa Tryz.prog 39 (some (.ptr b r o)) 1=some (.ret (.ptr b r (o+1)),[]):=fa_ptr (show FldAt Tryz.prog 39 1 1 1 from⟨_,_,Tryz.underlying39,rfl,rfl,by kernel_rfl,by decide⟩) b r o
theorem ty_fap_42_5(b r o:Nat):fa Tryz.prog 42 (some (.ptr b r o)) 5=some (.ret (.ptr b r (o+6)),[]):=fa_ptr (show FldAt Tryz.prog 42 5 6 1 from⟨_,_,Tryz.underlying42,rfl,rfl,by kernel_rfl,by decide⟩) b r o
theorem ty_fap_42_6(b r o:Nat):fa Tryz.prog 42 (some (.ptr b r o)) 6=some (.ret (.ptr b r (o+7)),[]):=fa_ptr (show FldAt Tryz.prog 42 6 7 1 from⟨_,_,Tryz.underlying42,rfl,rfl,by kernel_rfl,by decide⟩) b r o
theorem ty_fap_42_7(b r o:Nat):fa Tryz.prog 42 (some (.ptr b r o)) 7=some (.ret (.ptr b r (o+8)),[]):=fa_ptr (show FldAt Tryz.prog 42 7 8 1 from⟨_,_,Tryz.underlying42,rfl,rfl,by kernel_rfl,by decide⟩) b r o
theorem ty_fap_42_8(b r o:Nat):fa Tryz.prog 42 (some (.ptr b r o)) 8=some (.ret (.ptr b r (o+9)),[]):=fa_ptr (show FldAt Tryz.prog 42 8 9 1 from⟨_,_,Tryz.underlying42,rfl,rfl,by kernel_rfl,by decide⟩) b r o
theorem ty_fap_59_0(b r o:Nat):fa Tryz.prog 59 (some (.ptr b r o)) 0=some (.ret (.ptr b r (o+0)),[]):=fa_ptr (show FldAt Tryz.prog 59 0 0 1 from⟨_,_,Tryz.underlying59,rfl,rfl,by kernel_rfl,by decide⟩) b r o
theorem ty_fap_24_1(b r o:Nat):fa Tryz.prog 24 (some (.ptr b r o)) 1=some (.ret (.ptr b r (o+1)),[]):=fa_ptr (show FldAt Tryz.prog 24 1 1 1 from⟨_,_,Tryz.underlying24,rfl,rfl,by kernel_rfl,by decide⟩) b r o
theorem ty_fap_59_1(b r o:Nat):fa Tryz.prog 59 (some (.ptr b r o)) 1=some (.ret (.ptr b r (o+1)),[]):=fa_ptr (show FldAt Tryz.prog 59 1 1 1 from⟨_,_,Tryz.underlying59,rfl,rfl,by kernel_rfl,by decide⟩) b r o
theorem ty_fap_24_2(b r o:Nat):fa Tryz.prog 24 (some (.ptr b r o)) 2=some (.ret (.ptr b r (o+2)),[]):=fa_ptr (show FldAt Tryz.prog 24 2 2 1 from⟨_,_,Tryz.underlying24,rfl,rfl,by kernel_rfl,by decide⟩) b r o
theorem ty_fap_48_1(b r o:Nat):fa Tryz.prog 48 (some (.ptr b r o)) 1=some (.ret (.ptr b r (o+1)),[]):=fa_ptr (show FldAt Tryz.prog 48 1 1 1 from⟨_,_,Tryz.underlying48,rfl,rfl,by kernel_rfl,by decide⟩) b r o
theorem ty_ldsp_45(h:Heap)(b r o:Nat):ld Tryz.prog 45 h (some (.ptr b r o))=ldC (rowB (h[b]?) r) o:=ld_sp ⟨by kernel_rfl,1,by kernel_rfl⟩ h b r o
theorem ty_ftl_45(b r o:Nat):ftL Tryz.prog 45 (some (.ptr b r o))=some [.cells b o 1]:=ftL_ptr (isA:=false) (n:=1) (by kernel_rfl) (by kernel_rfl) b r o
theorem ty_lnv_45(fl nn:Bool)(rows:List (List AV)):ln Tryz.prog 45 (some (slv 4 fl nn rows))=some (.ret (.int .i64 rows.length),[]):=ln_slv ⟨_,Tryz.underlying45,by kernel_rfl⟩ fl nn rows
theorem ty_ldai_62(h:Heap)(cs:List AV):ld Tryz.prog 62 h (some (.iptr cs))=if 4≤cs.length then some (.ret (.agg (cs.take 4)),[])else none:=ld_ai ⟨by kernel_rfl,by kernel_rfl⟩ h cs
theorem ty_fap_62_2(b r o:Nat):fa Tryz.prog 62 (some (.ptr b r o)) 2=some (.ret (.ptr b r (o+2)),[]):=fa_ptr (show FldAt Tryz.prog 62 2 2 1 from⟨_,_,Tryz.underlying62,rfl,rfl,by kernel_rfl,by decide⟩) b r o
theorem ty_fai_62_2(cs:List AV):fa Tryz.prog 62 (some (.iptr cs)) 2=if 2+1≤cs.length then some (.ret (.iptr (cs.drop 2)),[])else none:=fa_iptr (show FldAt Tryz.prog 62 2 2 1 from⟨_,_,Tryz.underlying62,rfl,rfl,by kernel_rfl,by decide⟩) cs
theorem ty_fap_24_3(b r o:Nat):fa Tryz.prog 24 (some (.ptr b r o)) 3=some (.ret (.ptr b r (o+3)),[]):=fa_ptr (show FldAt Tryz.prog 24 3 3 1 from⟨_,_,Tryz.underlying24,rfl,rfl,by kernel_rfl,by decide⟩) b r o
theorem ty_fap_62_1(b r o:Nat):fa Tryz.prog 62 (some (.ptr b r o)) 1=some (.ret (.ptr b r (o+1)),[]):=fa_ptr (show FldAt Tryz.prog 62 1 1 1 from⟨_,_,Tryz.underlying62,rfl,rfl,by kernel_rfl,by decide⟩) b r o
theorem ty_zr_62:zeroT Tryz.prog 62=some (.agg [.int .i64 0,.int .i64 0,.int .i64 0,.int .i64 0]):=by kernel_rfl
theorem ty_ldap_52(h:Heap)(b r o:Nat):ld Tryz.prog 52 h (some (.ptr b r o))=ldR (rowB (h[b]?) r) o 6:=ld_ap ⟨by kernel_rfl,by kernel_rfl⟩ h b r o
theorem ty_ftl_52(b r o:Nat):ftL Tryz.prog 52 (some (.ptr b r o))=some [.cells b o 6]:=ftL_ptr (isA:=true) (n:=6) (by kernel_rfl) (by kernel_rfl) b r o
theorem ty_ldap_57(h:Heap)(b r o:Nat):ld Tryz.prog 57 h (some (.ptr b r o))=ldR (rowB (h[b]?) r) o 4:=ld_ap ⟨by kernel_rfl,by kernel_rfl⟩ h b r o
theorem ty_ftl_57(b r o:Nat):ftL Tryz.prog 57 (some (.ptr b r o))=some [.cells b o 4]:=ftL_ptr (isA:=true) (n:=4) (by kernel_rfl) (by kernel_rfl) b r o
theorem ty_ldap_39(h:Heap)(b r o:Nat):ld Tryz.prog 39 h (some (.ptr b r o))=ldR (rowB (h[b]?) r) o 2:=ld_ap ⟨by kernel_rfl,by kernel_rfl⟩ h b r o
theorem ty_zr_69:zeroT Tryz.prog 69=some (.agg [.int .i64 0,.int .i64 0,.int .i64 0]):=by kernel_rfl
theorem ty_st_69(h:Heap)(b r o:Nat)(v:AV):st_ Tryz.prog 69 h (some (.ptr b r o)) (some v)=sv 3 (h[b]?) b r o (acells v):=st_ptr (by kernel_rfl) h b r o v
theorem ty_ldap_69(h:Heap)(b r o:Nat):ld Tryz.prog 69 h (some (.ptr b r o))=ldR (rowB (h[b]?) r) o 3:=ld_ap ⟨by kernel_rfl,by kernel_rfl⟩ h b r o
theorem ty_bld_52(ps:List (Nat × AV)):aBuild Tryz.prog 52 ps=(aFill (fun i=>([(0,1),(1,1),(2,1),(3,1),(4,1),(5,1)]:List (Nat × Nat))[i]?) (acells (.agg [.int .i64 0,.nils,.int .i64 0,.int .i64 0,.nils,.nils])) ps).map .agg:=by kernel_rfl
theorem ty_fap_52_5(b r o:Nat):fa Tryz.prog 52 (some (.ptr b r o)) 5=some (.ret (.ptr b r (o+5)),[]):=fa_ptr (show FldAt Tryz.prog 52 5 5 1 from⟨_,_,Tryz.underlying52,rfl,rfl,by kernel_rfl,by decide⟩) b r o
theorem ty_ldsp_46(h:Heap)(b r o:Nat):ld Tryz.prog 46 h (some (.ptr b r o))=ldC (rowB (h[b]?) r) o:=ld_sp ⟨by kernel_rfl,1,by kernel_rfl⟩ h b r o
theorem ty_ftl_46(b r o:Nat):ftL Tryz.prog 46 (some (.ptr b r o))=some [.cells b o 1]:=ftL_ptr (isA:=false) (n:=1) (by kernel_rfl) (by kernel_rfl) b r o
theorem ty_lns_46(st b r len:Nat):ln Tryz.prog 46 (some (.slr st b r len))=some (.ret (.int .i64 len),[]):=ln_slr (n:=5) ⟨_,Tryz.underlying46,by kernel_rfl⟩ st b r len
theorem ty_lnn_46:ln Tryz.prog 46 (some .nils)=some (.ret (.int .i64 0),[]):=ln_nils (n:=5) ⟨_,Tryz.underlying46,by kernel_rfl⟩
theorem ty_lnv_46(fl nn:Bool)(rows:List (List AV)):ln Tryz.prog 46 (some (slv 5 fl nn rows))=some (.ret (.int .i64 rows.length),[]):=ln_slv ⟨_,Tryz.underlying46,by kernel_rfl⟩ fl nn rows
theorem ty_zr_57:zeroT Tryz.prog 57=some (.agg [.nils,.nils,.nils,.nils]):=by kernel_rfl
theorem ty_st_57(h:Heap)(b r o:Nat)(v:AV):st_ Tryz.prog 57 h (some (.ptr b r o)) (some v)=sv 4 (h[b]?) b r o (acells v):=st_ptr (by kernel_rfl) h b r o v
theorem ty_fts_57(b r o:Nat):ftS Tryz.prog 57 (some (.ptr b r o))=some [.cells b o 4]:=ftS_ptr (by kernel_rfl) b r o
theorem ty_fap_52_0(b r o:Nat):fa Tryz.prog 52 (some (.ptr b r o)) 0=some (.ret (.ptr b r (o+0)),[]):=fa_ptr (show FldAt Tryz.prog 52 0 0 1 from⟨_,_,Tryz.underlying52,rfl,rfl,by kernel_rfl,by decide⟩) b r o
theorem ty_bld_57(ps:List (Nat × AV)):aBuild Tryz.prog 57 ps=(aFill (fun i=>([(0,1),(1,1),(2,1),(3,1)]:List (Nat × Nat))[i]?) (acells (.agg [.nils,.nils,.nils,.nils])) ps).map .agg:=by kernel_rfl
theorem ty_ldap_59(h:Heap)(b r o:Nat):ld Tryz.prog 59 h (some (.ptr b r o))=ldR (rowB (h[b]?) r) o 4:=ld_ap ⟨by kernel_rfl,by kernel_rfl⟩ h b r o
theorem ty_ldai_59(h:Heap)(cs:List AV):ld Tryz.prog 59 h (some (.iptr cs))=if 4≤cs.length then some (.ret (.agg (cs.take 4)),[])else none:=ld_ai ⟨by kernel_rfl,by kernel_rfl⟩ h cs
theorem ty_zr_59:zeroT Tryz.prog 59=some (.agg [.int .i64 0,.int .i64 0,.int .i64 0,.int .i64 0]):=by kernel_rfl
theorem ty_st_59(h:Heap)(b r o:Nat)(v:AV):st_ Tryz.prog 59 h (some (.ptr b r o)) (some v)=sv 4 (h[b]?) b r o (acells v):=st_ptr (by kernel_rfl) h b r o v
theorem ty_fap_42_1(b r o:Nat):fa Tryz.prog 42 (some (.ptr b r o)) 1=some (.ret (.ptr b r (o+1)),[]):=fa_ptr (show FldAt Tryz.prog 42 1 1 1 from⟨_,_,Tryz.underlying42,rfl,rfl,by kernel_rfl,by decide⟩) b r o
theorem ty_fai_42_1(cs:List AV):fa Tryz.prog 42 (some (.iptr cs)) 1=if 1+1≤cs.length then some (.ret (.iptr (cs.drop 1)),[])else none:=fa_iptr (show FldAt Tryz.prog 42 1 1 1 from⟨_,_,Tryz.underlying42,rfl,rfl,by kernel_rfl,by decide⟩) cs
theorem ty_fap_42_3(b r o:Nat):fa Tryz.prog 42 (some (.ptr b r o)) 3=some (.ret (.ptr b r (o+4)),[]):=fa_ptr (show FldAt Tryz.prog 42 3 4 1 from⟨_,_,Tryz.underlying42,rfl,rfl,by kernel_rfl,by decide⟩) b r o
theorem ty_fai_42_3(cs:List AV):fa Tryz.prog 42 (some (.iptr cs)) 3=if 4+1≤cs.length then some (.ret (.iptr (cs.drop 4)),[])else none:=fa_iptr (show FldAt Tryz.prog 42 3 4 1 from⟨_,_,Tryz.underlying42,rfl,rfl,by kernel_rfl,by decide⟩) cs
theorem ty_ldsp_40(h:Heap)(b r o:Nat):ld Tryz.prog 40 h (some (.ptr b r o))=ldC (rowB (h[b]?) r) o:=ld_sp ⟨by kernel_rfl,1,by kernel_rfl⟩ h b r o
theorem ty_ldsi_40(h:Heap)(c:AV)(cs:List AV):ld Tryz.prog 40 h (some (.iptr (c::cs)))=some (.ret c,[]):=ld_si ⟨by kernel_rfl,1,by kernel_rfl⟩ h c cs
theorem ty_lnv_40(fl nn:Bool)(rows:List (List AV)):ln Tryz.prog 40 (some (slv 3 fl nn rows))=some (.ret (.int .i64 rows.length),[]):=ln_slv ⟨_,Tryz.underlying40,by kernel_rfl⟩ fl nn rows
theorem ty_fap_69_0(b r o:Nat):fa Tryz.prog 69 (some (.ptr b r o)) 0=some (.ret (.ptr b r (o+0)),[]):=fa_ptr (show FldAt Tryz.prog 69 0 0 1 from⟨_,_,Tryz.underlying69,rfl,rfl,by kernel_rfl,by decide⟩) b r o
theorem ty_iav_40(fl nn:Bool)(rows:List (List AV))(k:IntKind)(i:Int):ia Tryz.prog 40 (some (slv 3 fl nn rows)) (some (.int k i))=if 0≤i then r1 ((rows[i.toNat]?).map .iptr)else none:=ia_slv ⟨_,Tryz.underlying40,by kernel_rfl⟩ fl nn rows k i
theorem ty_fap_94_1(b r o:Nat):fa Tryz.prog 94 (some (.ptr b r o)) 1=some (.ret (.ptr b r (o+1)),[]):=fa_ptr (show FldAt Tryz.prog 94 1 1 1 from⟨_,_,Tryz.underlying94,rfl,rfl,by kernel_rfl,by decide⟩) b r o
theorem ty_fai_94_1(cs:List AV):fa Tryz.prog 94 (some (.iptr cs)) 1=if 1+1≤cs.length then some (.ret (.iptr (cs.drop 1)),[])else none:=fa_iptr (show FldAt Tryz.prog 94 1 1 1 from⟨_,_,Tryz.underlying94,rfl,rfl,by kernel_rfl,by decide⟩) cs
theorem ty_fap_69_1(b r o:Nat):fa Tryz.prog 69 (some (.ptr b r o)) 1=some (.ret (.ptr b r (o+1)),[]):=fa_ptr (show FldAt Tryz.prog 69 1 1 1 from⟨_,_,Tryz.underlying69,rfl,rfl,by kernel_rfl,by decide⟩) b r o
theorem ty_fap_94_2(b r o:Nat):fa Tryz.prog 94 (some (.ptr b r o)) 2=some (.ret (.ptr b r (o+2)),[]):=fa_ptr (show FldAt Tryz.prog 94 2 2 1 from⟨_,_,Tryz.underlying94,rfl,rfl,by kernel_rfl,by decide⟩) b r o
theorem ty_fai_94_2(cs:List AV):fa Tryz.prog 94 (some (.iptr cs)) 2=if 2+1≤cs.length then some (.ret (.iptr (cs.drop 2)),[])else none:=fa_iptr (show FldAt Tryz.prog 94 2 2 1 from⟨_,_,Tryz.underlying94,rfl,rfl,by kernel_rfl,by decide⟩) cs
theorem ty_fap_69_2(b r o:Nat):fa Tryz.prog 69 (some (.ptr b r o)) 2=some (.ret (.ptr b r (o+2)),[]):=fa_ptr (show FldAt Tryz.prog 69 2 2 1 from⟨_,_,Tryz.underlying69,rfl,rfl,by kernel_rfl,by decide⟩) b r o
theorem ty_bsl_25(base len:Nat)(ps:List (Nat × AV)):rD (aBuildSlice Tryz.prog base 25 len ps)=bsK 1 (.int .i64 0) base len ps:=bs_K (e:=3) (by kernel_rfl) (by kernel_rfl) (by kernel_rfl) base len ps
theorem ty_st_3(h:Heap)(b r o:Nat)(v:AV):st_ Tryz.prog 3 h (some (.ptr b r o)) (some v)=sv 1 (h[b]?) b r o (acells v):=st_ptr (by kernel_rfl) h b r o v
theorem ty_fts_3(b r o:Nat):ftS Tryz.prog 3 (some (.ptr b r o))=some [.cells b o 1]:=ftS_ptr (by kernel_rfl) b r o
theorem ty_fap_24_0(b r o:Nat):fa Tryz.prog 24 (some (.ptr b r o)) 0=some (.ret (.ptr b r (o+0)),[]):=fa_ptr (show FldAt Tryz.prog 24 0 0 1 from⟨_,_,Tryz.underlying24,rfl,rfl,by kernel_rfl,by decide⟩) b r o
theorem ty_fap_24_4(b r o:Nat):fa Tryz.prog 24 (some (.ptr b r o)) 4=some (.ret (.ptr b r (o+4)),[]):=fa_ptr (show FldAt Tryz.prog 24 4 4 1 from⟨_,_,Tryz.underlying24,rfl,rfl,by kernel_rfl,by decide⟩) b r o
theorem ty_fap_48_2(b r o:Nat):fa Tryz.prog 48 (some (.ptr b r o)) 2=some (.ret (.ptr b r (o+2)),[]):=fa_ptr (show FldAt Tryz.prog 48 2 2 1 from⟨_,_,Tryz.underlying48,rfl,rfl,by kernel_rfl,by decide⟩) b r o
theorem ty_ias_46(b r len:Nat)(k:IntKind)(i:Int):ia Tryz.prog 46 (some (.slr 5 b r len)) (some (.int k i))=if 0≤i∧i<len then some (.ret (.ptr b (r+i.toNat) 0),[])else none:=ia_slr ⟨_,Tryz.underlying46,by kernel_rfl⟩ b r len k i
theorem ty_iav_46(fl nn:Bool)(rows:List (List AV))(k:IntKind)(i:Int):ia Tryz.prog 46 (some (slv 5 fl nn rows)) (some (.int k i))=if 0≤i then r1 ((rows[i.toNat]?).map .iptr)else none:=ia_slv ⟨_,Tryz.underlying46,by kernel_rfl⟩ fl nn rows k i
theorem ty_ldap_111(h:Heap)(b r o:Nat):ld Tryz.prog 111 h (some (.ptr b r o))=ldR (rowB (h[b]?) r) o 5:=ld_ap ⟨by kernel_rfl,by kernel_rfl⟩ h b r o
theorem ty_ldai_111(h:Heap)(cs:List AV):ld Tryz.prog 111 h (some (.iptr cs))=if 5≤cs.length then some (.ret (.agg (cs.take 5)),[])else none:=ld_ai ⟨by kernel_rfl,by kernel_rfl⟩ h cs
theorem ty_ftl_111(b r o:Nat):ftL Tryz.prog 111 (some (.ptr b r o))=some [.cells b o 5]:=ftL_ptr (isA:=true) (n:=5) (by kernel_rfl) (by kernel_rfl) b r o
theorem ty_fap_62_0(b r o:Nat):fa Tryz.prog 62 (some (.ptr b r o)) 0=some (.ret (.ptr b r (o+0)),[]):=fa_ptr (show FldAt Tryz.prog 62 0 0 1 from⟨_,_,Tryz.underlying62,rfl,rfl,by kernel_rfl,by decide⟩) b r o
theorem ty_fap_62_3(b r o:Nat):fa Tryz.prog 62 (some (.ptr b r o)) 3=some (.ret (.ptr b r (o+3)),[]):=fa_ptr (show FldAt Tryz.prog 62 3 3 1 from⟨_,_,Tryz.underlying62,rfl,rfl,by kernel_rfl,by decide⟩) b r o
theorem ty_fai_62_3(cs:List AV):fa Tryz.prog 62 (some (.iptr cs)) 3=if 3+1≤cs.length then some (.ret (.iptr (cs.drop 3)),[])else none:=fa_iptr (show FldAt Tryz.prog 62 3 3 1 from⟨_,_,Tryz.underlying62,rfl,rfl,by kernel_rfl,by decide⟩) cs
theorem ty_fap_57_3(b r o:Nat):fa Tryz.prog 57 (some (.ptr b r o)) 3=some (.ret (.ptr b r (o+3)),[]):=fa_ptr (show FldAt Tryz.prog 57 3 3 1 from⟨_,_,Tryz.underlying57,rfl,rfl,by kernel_rfl,by decide⟩) b r o
theorem ty_exap_25_25{O:Orc}(t:List AV)(h:Heap)(s x:Operand):exOp O Tryz.prog t h (.call ⟨.builtin .append,#[s,x],#[25,25]⟩)=apO Tryz.prog 25 h (evalO t s) (evalO t x):=ex_ap t h s x 25 25 _ Tryz.underlying25
theorem ty_aps_25(h:Heap)(s:AV)(a b r l:Nat):apO Tryz.prog 25 h (some s) (some (.slr a b r l))=apK 1 h (some s) (srK 1 h (some (.slr a b r l))):=ap_eq (e:=3) (b:=8) (z:=.int .i64 0) (by kernel_rfl) (by kernel_rfl) (by kernel_rfl) (by kernel_rfl) (by decide+kernel) h s _ (fun q e=>by cases e)
theorem ty_api_25(h:Heap)(s:AV)(st:Nat)(fl:Bool)(rows:List (List AV)):apO Tryz.prog 25 h (some s) (some (.imm st fl rows))=apK 1 h (some s) (srK 1 h (some (.imm st fl rows))):=ap_eq (e:=3) (b:=8) (z:=.int .i64 0) (by kernel_rfl) (by kernel_rfl) (by kernel_rfl) (by kernel_rfl) (by decide+kernel) h s _ (fun q e=>by cases e)
theorem ty_apn_25(h:Heap)(s:AV)  :apO Tryz.prog 25 h (some s) (some .nils)=apK 1 h (some s) (srK 1 h (some .nils)):=ap_eq (e:=3) (b:=8) (z:=.int .i64 0) (by kernel_rfl) (by kernel_rfl) (by kernel_rfl) (by kernel_rfl) (by decide+kernel) h s _ (fun q e=>by cases e)
theorem ty_st_25(h:Heap)(b r o:Nat)(v:AV):st_ Tryz.prog 25 h (some (.ptr b r o)) (some v)=sv 1 (h[b]?) b r o (acells v):=st_ptr (by kernel_rfl) h b r o v
theorem ty_fts_25(b r o:Nat):ftS Tryz.prog 25 (some (.ptr b r o))=some [.cells b o 1]:=ftS_ptr (by kernel_rfl) b r o
theorem ty_iav_45(fl nn:Bool)(rows:List (List AV))(k:IntKind)(i:Int):ia Tryz.prog 45 (some (slv 4 fl nn rows)) (some (.int k i))=if 0≤i then r1 ((rows[i.toNat]?).map .iptr)else none:=ia_slv ⟨_,Tryz.underlying45,by kernel_rfl⟩ fl nn rows k i
theorem ty_st_62(h:Heap)(b r o:Nat)(v:AV):st_ Tryz.prog 62 h (some (.ptr b r o)) (some v)=sv 4 (h[b]?) b r o (acells v):=st_ptr (by kernel_rfl) h b r o v
theorem ty_fap_111_1(b r o:Nat):fa Tryz.prog 111 (some (.ptr b r o)) 1=some (.ret (.ptr b r (o+1)),[]):=fa_ptr (show FldAt Tryz.prog 111 1 1 1 from⟨_,_,Tryz.underlying111,rfl,rfl,by kernel_rfl,by decide⟩) b r o
theorem ty_fai_111_1(cs:List AV):fa Tryz.prog 111 (some (.iptr cs)) 1=if 1+1≤cs.length then some (.ret (.iptr (cs.drop 1)),[])else none:=fa_iptr (show FldAt Tryz.prog 111 1 1 1 from⟨_,_,Tryz.underlying111,rfl,rfl,by kernel_rfl,by decide⟩) cs
theorem ty_zr_111:zeroT Tryz.prog 111=some (.agg [.int .i64 0,.int .i64 0,.int .i64 0,.int .i64 0,.int .i64 0]):=by kernel_rfl
theorem ty_st_111(h:Heap)(b r o:Nat)(v:AV):st_ Tryz.prog 111 h (some (.ptr b r o)) (some v)=sv 5 (h[b]?) b r o (acells v):=st_ptr (by kernel_rfl) h b r o v
theorem ty_fap_111_0(b r o:Nat):fa Tryz.prog 111 (some (.ptr b r o)) 0=some (.ret (.ptr b r (o+0)),[]):=fa_ptr (show FldAt Tryz.prog 111 0 0 1 from⟨_,_,Tryz.underlying111,rfl,rfl,by kernel_rfl,by decide⟩) b r o
theorem ty_fap_111_2(b r o:Nat):fa Tryz.prog 111 (some (.ptr b r o)) 2=some (.ret (.ptr b r (o+2)),[]):=fa_ptr (show FldAt Tryz.prog 111 2 2 1 from⟨_,_,Tryz.underlying111,rfl,rfl,by kernel_rfl,by decide⟩) b r o
theorem ty_fap_111_3(b r o:Nat):fa Tryz.prog 111 (some (.ptr b r o)) 3=some (.ret (.ptr b r (o+3)),[]):=fa_ptr (show FldAt Tryz.prog 111 3 3 1 from⟨_,_,Tryz.underlying111,rfl,rfl,by kernel_rfl,by decide⟩) b r o
theorem ty_fap_42_9(b r o:Nat):fa Tryz.prog 42 (some (.ptr b r o)) 9=some (.ret (.ptr b r (o+10)),[]):=fa_ptr (show FldAt Tryz.prog 42 9 10 1 from⟨_,_,Tryz.underlying42,rfl,rfl,by kernel_rfl,by decide⟩) b r o
theorem ty_fai_42_9(cs:List AV):fa Tryz.prog 42 (some (.iptr cs)) 9=if 10+1≤cs.length then some (.ret (.iptr (cs.drop 10)),[])else none:=fa_iptr (show FldAt Tryz.prog 42 9 10 1 from⟨_,_,Tryz.underlying42,rfl,rfl,by kernel_rfl,by decide⟩) cs
theorem ty_ldap_94(h:Heap)(b r o:Nat):ld Tryz.prog 94 h (some (.ptr b r o))=ldR (rowB (h[b]?) r) o 3:=ld_ap ⟨by kernel_rfl,by kernel_rfl⟩ h b r o
theorem ty_ldai_94(h:Heap)(cs:List AV):ld Tryz.prog 94 h (some (.iptr cs))=if 3≤cs.length then some (.ret (.agg (cs.take 3)),[])else none:=ld_ai ⟨by kernel_rfl,by kernel_rfl⟩ h cs
theorem ty_zr_94:zeroT Tryz.prog 94=some (.agg [.int .i64 0,.int .i64 0,.int .i64 0]):=by kernel_rfl
theorem ty_st_94(h:Heap)(b r o:Nat)(v:AV):st_ Tryz.prog 94 h (some (.ptr b r o)) (some v)=sv 3 (h[b]?) b r o (acells v):=st_ptr (by kernel_rfl) h b r o v
theorem ty_fts_94(b r o:Nat):ftS Tryz.prog 94 (some (.ptr b r o))=some [.cells b o 3]:=ftS_ptr (by kernel_rfl) b r o
theorem ty_fap_94_0(b r o:Nat):fa Tryz.prog 94 (some (.ptr b r o)) 0=some (.ret (.ptr b r (o+0)),[]):=fa_ptr (show FldAt Tryz.prog 94 0 0 1 from⟨_,_,Tryz.underlying94,rfl,rfl,by kernel_rfl,by decide⟩) b r o
theorem ty_fai_94_0(cs:List AV):fa Tryz.prog 94 (some (.iptr cs)) 0=if 0+1≤cs.length then some (.ret (.iptr (cs.drop 0)),[])else none:=fa_iptr (show FldAt Tryz.prog 94 0 0 1 from⟨_,_,Tryz.underlying94,rfl,rfl,by kernel_rfl,by decide⟩) cs
theorem ty_fap_111_4(b r o:Nat):fa Tryz.prog 111 (some (.ptr b r o)) 4=some (.ret (.ptr b r (o+4)),[]):=fa_ptr (show FldAt Tryz.prog 111 4 4 1 from⟨_,_,Tryz.underlying111,rfl,rfl,by kernel_rfl,by decide⟩) b r o
theorem ty_mks_25(base:Nat)(l c:Option AV):msO Tryz.prog 25 base l c=msK 1 (.int .i64 0) base l c:=ms_eq (e:=3) (n:=1) (b:=8) (by kernel_rfl) (by kernel_rfl) (by kernel_rfl) (by kernel_rfl) (by decide+kernel) base l c
theorem ty_st_46(h:Heap)(b r o:Nat)(v:AV):st_ Tryz.prog 46 h (some (.ptr b r o)) (some v)=sv 1 (h[b]?) b r o (acells v):=st_ptr (by kernel_rfl) h b r o v
theorem ty_fts_46(b r o:Nat):ftS Tryz.prog 46 (some (.ptr b r o))=some [.cells b o 1]:=ftS_ptr (by kernel_rfl) b r o
theorem ty_bld_144(ps:List (Nat × AV)):aBuild Tryz.prog 144 ps=(aFill (fun i=>([(0,6),(6,3),(9,6),(15,4)]:List (Nat × Nat))[i]?) (acells (.agg [.int .i64 0,.int .i64 0,.int .i64 0,.int .i64 0,.int .i64 0,.nils,.nils,.nils,.nils,.int .i64 0,.nils,.int .i64 0,.int .i64 0,.nils,.nils,.nils,.nils,.nils,.nils])) ps).map .agg:=by kernel_rfl
theorem ty_fap_144_2(b r o:Nat):fa Tryz.prog 144 (some (.ptr b r o)) 2=some (.ret (.ptr b r (o+9)),[]):=fa_ptr (show FldAt Tryz.prog 144 2 9 6 from⟨_,_,Tryz.underlying144,rfl,rfl,by kernel_rfl,by decide⟩) b r o
theorem ty_fap_144_3(b r o:Nat):fa Tryz.prog 144 (some (.ptr b r o)) 3=some (.ret (.ptr b r (o+15)),[]):=fa_ptr (show FldAt Tryz.prog 144 3 15 4 from⟨_,_,Tryz.underlying144,rfl,rfl,by kernel_rfl,by decide⟩) b r o
theorem ty_nes_111(a0 b0:Int)(a1 b1:Int)(a2 b2:Int)(a3 b3:Int)(a4 b4:Int):aBin Tryz.prog .neq 111 (.agg [.int .i64 a0,.int .i64 a1,.int .i64 a2,.int .i64 a3,.int .i64 a4]) (.agg [.int .i64 b0,.int .i64 b1,.int .i64 b2,.int .i64 b3,.int .i64 b4])=some (.bool (!((a0==b0)&&(a1==b1)&&(a2==b2)&&(a3==b3)&&(a4==b4)))):=by
 have e:aBin Tryz.prog .neq 111 (.agg [.int .i64 a0,.int .i64 a1,.int .i64 a2,.int .i64 a3,.int .i64 a4]) (.agg [.int .i64 b0,.int .i64 b1,.int .i64 b2,.int .i64 b3,.int .i64 b4])=Option.map (fun r=>AV.bool !r) (if(a0==b0)=true then(if(a1==b1)=true then(if(a2==b2)=true then(if(a3==b3)=true then(if(a4==b4)=true then some true else some false)else some false)else some false)else some false)else some false):=by kernel_rfl
 rw[e]
 cases(a0==b0)<;>cases(a1==b1)<;>cases(a2==b2)<;>cases(a3==b3)<;>cases(a4==b4)<;>rfl
theorem ty_bsl_46(base len:Nat)(ps:List (Nat × AV)):rD (aBuildSlice Tryz.prog base 46 len ps)=bsK 5 (.agg [.int .i64 0,.int .i64 0,.int .i64 0,.int .i64 0,.int .i64 0]) base len ps:=bs_K (e:=111) (by kernel_rfl) (by kernel_rfl) (by kernel_rfl) base len ps
theorem ty_exap_46_46{O:Orc}(t:List AV)(h:Heap)(s x:Operand):exOp O Tryz.prog t h (.call ⟨.builtin .append,#[s,x],#[46,46]⟩)=apO Tryz.prog 46 h (evalO t s) (evalO t x):=ex_ap t h s x 46 46 _ Tryz.underlying46
theorem ty_aps_46(h:Heap)(s:AV)(a b r l:Nat):apO Tryz.prog 46 h (some s) (some (.slr a b r l))=apK 5 h (some s) (srK 5 h (some (.slr a b r l))):=ap_eq (e:=111) (b:=40) (z:=.agg [.int .i64 0,.int .i64 0,.int .i64 0,.int .i64 0,.int .i64 0]) (by kernel_rfl) (by kernel_rfl) (by kernel_rfl) (by kernel_rfl) (by decide+kernel) h s _ (fun q e=>by cases e)
theorem ty_api_46(h:Heap)(s:AV)(st:Nat)(fl:Bool)(rows:List (List AV)):apO Tryz.prog 46 h (some s) (some (.imm st fl rows))=apK 5 h (some s) (srK 5 h (some (.imm st fl rows))):=ap_eq (e:=111) (b:=40) (z:=.agg [.int .i64 0,.int .i64 0,.int .i64 0,.int .i64 0,.int .i64 0]) (by kernel_rfl) (by kernel_rfl) (by kernel_rfl) (by kernel_rfl) (by decide+kernel) h s _ (fun q e=>by cases e)
theorem ty_apn_46(h:Heap)(s:AV)  :apO Tryz.prog 46 h (some s) (some .nils)=apK 5 h (some s) (srK 5 h (some .nils)):=ap_eq (e:=111) (b:=40) (z:=.agg [.int .i64 0,.int .i64 0,.int .i64 0,.int .i64 0,.int .i64 0]) (by kernel_rfl) (by kernel_rfl) (by kernel_rfl) (by kernel_rfl) (by decide+kernel) h s _ (fun q e=>by cases e)
theorem ty_zr_163:zeroT Tryz.prog 163=some (.nilf):=by kernel_rfl
theorem ty_st_163(h:Heap)(b r o:Nat)(v:AV):st_ Tryz.prog 163 h (some (.ptr b r o)) (some v)=sv 1 (h[b]?) b r o (acells v):=st_ptr (by kernel_rfl) h b r o v
theorem ty_ldsp_163(h:Heap)(b r o:Nat):ld Tryz.prog 163 h (some (.ptr b r o))=ldC (rowB (h[b]?) r) o:=ld_sp ⟨by kernel_rfl,1,by kernel_rfl⟩ h b r o
theorem ty_ftl_163(b r o:Nat):ftL Tryz.prog 163 (some (.ptr b r o))=some [.cells b o 1]:=ftL_ptr (isA:=false) (n:=1) (by kernel_rfl) (by kernel_rfl) b r o
theorem ty_qim_25(n:Nat)(fl:Bool)(rows:List (List AV)):aBin Tryz.prog .eql 25 (.imm n fl rows) .nils=some (.bool false):=eq_imm_nils Tryz.underlying25 n fl rows
theorem ty_qnn_25:aBin Tryz.prog .eql 25 .nils .nils=some (.bool true):=eq_nils_nils Tryz.underlying25
theorem ty_qim_46(n:Nat)(fl:Bool)(rows:List (List AV)):aBin Tryz.prog .eql 46 (.imm n fl rows) .nils=some (.bool false):=eq_imm_nils Tryz.underlying46 n fl rows
theorem ty_qnn_46:aBin Tryz.prog .eql 46 .nils .nils=some (.bool true):=eq_nils_nils Tryz.underlying46
theorem ty_fap_144_0(b r o:Nat):fa Tryz.prog 144 (some (.ptr b r o)) 0=some (.ret (.ptr b r (o+0)),[]):=fa_ptr (show FldAt Tryz.prog 144 0 0 6 from⟨_,_,Tryz.underlying144,rfl,rfl,by kernel_rfl,by decide⟩) b r o
theorem ty_fap_144_1(b r o:Nat):fa Tryz.prog 144 (some (.ptr b r o)) 1=some (.ret (.ptr b r (o+6)),[]):=fa_ptr (show FldAt Tryz.prog 144 1 6 3 from⟨_,_,Tryz.underlying144,rfl,rfl,by kernel_rfl,by decide⟩) b r o
theorem ty_ldsp_142(h:Heap)(b r o:Nat):ld Tryz.prog 142 h (some (.ptr b r o))=ldC (rowB (h[b]?) r) o:=ld_sp ⟨by kernel_rfl,1,by kernel_rfl⟩ h b r o
theorem ty_ftl_142(b r o:Nat):ftL Tryz.prog 142 (some (.ptr b r o))=some [.cells b o 1]:=ftL_ptr (isA:=false) (n:=1) (by kernel_rfl) (by kernel_rfl) b r o
def TY11:=PLift.up (And.intro @ty_fap_24_5 (And.intro @ty_ldsp_22 (And.intro @ty_ldap_48 (And.intro @ty_fap_52_1 (And.intro @ty_ldsp_25 (And.intro @ty_lnv_25 (And.intro @ty_fap_52_4 (And.intro @ty_fap_52_5 (And.intro @ty_ldsp_46 (And.intro @ty_lnv_46 (And.intro @ty_ldap_24 (And.intro @ty_ldap_52 (And.intro @ty_zr_52 (And.intro @ty_zr_57 (And.intro @ty_st_52 (And.intro @ty_st_57 (And.intro @ty_lnv_22 (And.intro @ty_fap_52_0 (And.intro @ty_ldsp_3 (And.intro @ty_fap_48_0 (And.intro @ty_ldsp_44 (And.intro @ty_lnv_44 (And.intro @ty_bld_52 (And.intro @ty_ldap_57 @ty_bld_57))))))))))))))))))))))))
def TY14:=PLift.up (And.intro @ty_lnv_22 (And.intro @ty_iav_22 (And.intro @ty_fai_42_3 (And.intro @ty_ldsi_40 @ty_lnv_40))))
def TY17:=PLift.up (And.intro @ty_fap_24_0 (And.intro @ty_ldsp_3 (And.intro @ty_fap_24_1 (And.intro @ty_fap_24_2 (And.intro @ty_fap_24_3 (And.intro @ty_fap_24_4 (And.intro @ty_fap_24_5 (And.intro @ty_ldsp_22 (And.intro @ty_lnv_22 @ty_ldap_24)))))))))
def TY20:=PLift.up (And.intro @ty_lnv_25 (And.intro @ty_iav_25 @ty_ldsi_3))
def TY21:=PLift.up (And.intro @ty_ldap_24 @ty_ftl_24)
def TY23:=PLift.up (And.intro @ty_fap_48_0 (And.intro @ty_ldsp_44 (And.intro @ty_lnv_44 (And.intro @ty_fap_48_1 (And.intro @ty_ldsp_45 (And.intro @ty_lnv_45 (And.intro @ty_fap_48_2 (And.intro @ty_ldsp_46 @ty_lnv_46))))))))
def TY24:=PLift.up (And.intro @ty_fap_48_0 (And.intro @ty_ldsp_44 (And.intro @ty_lnv_44 (And.intro @ty_iav_44 (And.intro @ty_ldai_59 (And.intro @ty_zr_59 (And.intro @ty_st_59 (And.intro @ty_fap_59_0 (And.intro @ty_ldsp_3 (And.intro @ty_fap_59_1 (And.intro @ty_fap_59_2 (And.intro @ty_fap_59_3 (And.intro @ty_fap_48_2 (And.intro @ty_ldsp_46 (And.intro @ty_lnv_46 (And.intro @ty_iav_46 (And.intro @ty_ldai_111 (And.intro @ty_fap_48_1 (And.intro @ty_ldsp_45 @ty_lnv_45)))))))))))))))))))
def TY26:=PLift.up (And.intro @ty_fap_62_0 (And.intro @ty_ldsp_3 (And.intro @ty_fap_62_1 (And.intro @ty_fap_62_2 @ty_fap_62_3))))
def TY27:=PLift.up (And.intro @ty_fap_52_0 (And.intro @ty_ldsp_3 (And.intro @ty_fap_52_1 (And.intro @ty_ldsp_25 (And.intro @ty_fap_52_2 (And.intro @ty_fap_52_3 (And.intro @ty_fap_52_4 (And.intro @ty_fap_52_5 @ty_ldsp_46))))))))
def TY28:=PLift.up (And.intro @ty_fap_57_0 (And.intro @ty_ldsp_25 (And.intro @ty_fap_57_1 (And.intro @ty_fap_57_2 @ty_fap_57_3))))
def TY31:=PLift.up (And.intro @ty_fap_39_0 (And.intro @ty_ldsp_3 @ty_fap_39_1))
def TY37:=PLift.up (And.intro @ty_lnv_45 (And.intro @ty_iav_45 @ty_ldai_62))
def TY39:=PLift.up (And.intro @ty_lnv_45 (And.intro @ty_iav_45 (And.intro @ty_ldai_62 (And.intro @ty_zr_62 (And.intro @ty_st_62 (And.intro @ty_fap_62_0 (And.intro @ty_ldsp_3 (And.intro @ty_ldsi_3 (And.intro @ty_fap_62_1 (And.intro @ty_fap_62_2 (And.intro @ty_fai_62_2 @ty_fap_24_3)))))))))))
def TY40:=PLift.up (And.intro @ty_ldap_52 (And.intro @ty_ftl_52 (And.intro @ty_ldap_57 (And.intro @ty_ftl_57 (And.intro @ty_zr_52 (And.intro @ty_zr_57 (And.intro @ty_ldap_24 (And.intro @ty_ldap_48 (And.intro @ty_fap_24_5 (And.intro @ty_ldsp_22 (And.intro @ty_lnv_22 (And.intro @ty_bld_52 (And.intro @ty_bld_57 (And.intro @ty_st_52 (And.intro @ty_fts_52 (And.intro @ty_st_57 (And.intro @ty_fts_57 (And.intro @ty_fap_52_0 (And.intro @ty_ldsp_3 (And.intro @ty_fap_48_0 (And.intro @ty_ldsp_44 @ty_lnv_44)))))))))))))))))))))
def TY41:=PLift.up (And.intro @ty_fap_24_5 (And.intro @ty_ldsp_22 (And.intro @ty_lnv_22 (And.intro @ty_fap_52_0 (And.intro @ty_ldsp_3 (And.intro @ty_ldsi_3 (And.intro @ty_fap_52_1 (And.intro @ty_ldsp_25 (And.intro @ty_lnv_25 (And.intro @ty_fap_52_4 (And.intro @ty_fap_52_2 (And.intro @ty_fap_52_3 (And.intro @ty_fap_52_5 (And.intro @ty_ldsp_46 (And.intro @ty_lnv_46 (And.intro @ty_iav_25 (And.intro @ty_iav_22 (And.intro @ty_fai_42_1 (And.intro @ty_iav_46 (And.intro @ty_ldai_111 @ty_fai_111_1))))))))))))))))))))
def TY42:=PLift.up (And.intro @ty_ldap_52 (And.intro @ty_ftl_52 (And.intro @ty_ldap_57 (And.intro @ty_zr_52 (And.intro @ty_zr_57 (And.intro @ty_ldap_24 (And.intro @ty_ftl_24 (And.intro @ty_ldap_48 (And.intro @ty_ftl_48 (And.intro @ty_st_52 (And.intro @ty_fts_52 (And.intro @ty_fap_48_0 (And.intro @ty_ldsp_44 (And.intro @ty_fap_52_0 (And.intro @ty_ldsp_3 (And.intro @ty_ftl_3 (And.intro @ty_iav_44 (And.intro @ty_ldai_59 (And.intro @ty_zr_59 (And.intro @ty_st_59 (And.intro @ty_fap_59_0 (And.intro @ty_fap_59_1 (And.intro @ty_fap_59_2 (And.intro @ty_fap_59_3 (And.intro @ty_fap_52_2 (And.intro @ty_st_3 (And.intro @ty_fts_3 (And.intro @ty_lns_25 (And.intro @ty_lnn_25 (And.intro @ty_fap_24_5 (And.intro @ty_ldsp_22 (And.intro @ty_iav_22 (And.intro @ty_ldap_42 (And.intro @ty_ldai_42 (And.intro @ty_zr_42 (And.intro @ty_st_42 (And.intro @ty_ias_25 (And.intro @ty_fap_24_4 (And.intro @ty_fap_52_1 (And.intro @ty_ldsp_25 (And.intro @ty_ftl_25 (And.intro @ty_fap_52_3 (And.intro @ty_fap_52_4 (And.intro @ty_fap_42_5 (And.intro @ty_fap_42_6 (And.intro @ty_fap_42_7 (And.intro @ty_fap_42_0 (And.intro @ty_ldsp_4 (And.intro @ty_fap_42_8 (And.intro @ty_bld_57 @ty_st_57))))))))))))))))))))))))))))))))))))))))))))))))))
def TY44:=PLift.up (And.intro @ty_fap_42_1 (And.intro @ty_ldsp_3 (And.intro @ty_ldsi_3 (And.intro @ty_fap_42_2 (And.intro @ty_ldap_39 (And.intro @ty_fap_42_3 (And.intro @ty_ldsp_40 (And.intro @ty_lnv_40 (And.intro @ty_fap_42_4 (And.intro @ty_fap_42_5 (And.intro @ty_fap_42_6 (And.intro @ty_fap_42_7 (And.intro @ty_fap_42_8 (And.intro @ty_fap_42_9 (And.intro @ty_iav_40 (And.intro @ty_ldai_94 (And.intro @ty_zr_94 (And.intro @ty_st_94 (And.intro @ty_fap_94_0 (And.intro @ty_fai_94_0 (And.intro @ty_fap_94_1 (And.intro @ty_fai_94_1 (And.intro @ty_fap_94_2 @ty_fai_94_2)))))))))))))))))))))))
def TY49:=PLift.up (And.intro @ty_fap_24_0 (And.intro @ty_ldsp_3 (And.intro @ty_fap_24_1 (And.intro @ty_fap_24_2 (And.intro @ty_bsl_25 (And.intro @ty_fap_24_3 (And.intro @ty_fap_24_4 (And.intro @ty_fap_24_5 (And.intro @ty_ldsp_22 (And.intro @ty_lnv_22 @ty_ldap_24))))))))))
def TY53:=PLift.up (And.intro @ty_ldap_24 @ty_ftl_24)
def TY55:=PLift.up (And.intro @ty_lnv_22 (And.intro @ty_iav_22 @ty_ldai_42))
def TY56:=PLift.up (And.intro @ty_zr_69 (And.intro @ty_st_69 (And.intro @ty_fap_69_0 (And.intro @ty_ldsp_3 (And.intro @ty_fap_24_0 (And.intro @ty_fap_69_1 (And.intro @ty_fap_24_1 (And.intro @ty_fap_69_2 @ty_fap_24_2))))))))
def TY57:=PLift.up (And.intro @ty_lnv_25 (And.intro @ty_iav_25 (And.intro @ty_ldsi_3 (And.intro @ty_bsl_25 (And.intro @ty_exap_25_25 @ty_aps_25)))))
def TY58:=PLift.up (And.intro @ty_lnv_25 (And.intro @ty_mks_25 (And.intro @ty_fap_24_5 (And.intro @ty_ldsp_22 (And.intro @ty_iav_22 (And.intro @ty_fai_42_0 (And.intro @ty_ldsi_4 (And.intro @ty_ias_25 (And.intro @ty_iav_25 (And.intro @ty_ldsp_3 (And.intro @ty_ldsi_3 @ty_st_3)))))))))))
def TY59:=PLift.up (And.intro @ty_lnv_25 (And.intro @ty_iav_25 (And.intro @ty_ldsi_3 (And.intro @ty_bsl_25 (And.intro @ty_exap_25_25 @ty_aps_25)))))
def TY60:=PLift.up (And.intro @ty_lnv_25 (And.intro @ty_iav_25 (And.intro @ty_ldsi_3 (And.intro @ty_bsl_25 (And.intro @ty_exap_25_25 @ty_aps_25)))))
def TY61:=PLift.up (And.intro @ty_fap_111_0 (And.intro @ty_ldsp_3 (And.intro @ty_fap_111_1 (And.intro @ty_fap_111_2 (And.intro @ty_fap_111_3 @ty_fap_111_4)))))
def TY62:=PLift.up (And.intro @ty_fap_48_0 (And.intro @ty_ldsp_44 (And.intro @ty_lnv_44 (And.intro @ty_fap_48_1 (And.intro @ty_ldsp_45 (And.intro @ty_lnv_45 (And.intro @ty_fap_48_2 (And.intro @ty_ldsp_46 (And.intro @ty_lnv_46 @ty_ldsp_3)))))))))
def TY64:=PLift.up (And.intro @ty_ldap_52 (And.intro @ty_ftl_52 (And.intro @ty_ldap_57 (And.intro @ty_ftl_57 (And.intro @ty_zr_52 (And.intro @ty_zr_57 (And.intro @ty_fap_52_1 (And.intro @ty_ldsp_25 (And.intro @ty_ftl_25 (And.intro @ty_fap_52_4 (And.intro @ty_fap_52_5 (And.intro @ty_ldsp_46 (And.intro @ty_ftl_46 (And.intro @ty_st_25 (And.intro @ty_fts_25 (And.intro @ty_st_46 (And.intro @ty_fts_46 (And.intro @ty_ldap_24 (And.intro @ty_ldap_48 (And.intro @ty_bld_144 (And.intro @ty_fap_144_2 (And.intro @ty_fap_52_0 (And.intro @ty_ldsp_3 (And.intro @ty_st_3 (And.intro @ty_fap_144_3 (And.intro @ty_st_52 (And.intro @ty_fts_52 (And.intro @ty_st_57 @ty_fts_57))))))))))))))))))))))))))))
def TY65:=PLift.up (And.intro @ty_lnv_46 (And.intro @ty_iav_46 (And.intro @ty_ldai_111 @ty_nes_111)))
def TY66:=PLift.up (And.intro @ty_fap_39_0 (And.intro @ty_ldsp_3 @ty_fap_39_1))
def TY67:=PLift.up (And.intro @ty_lnv_22 (And.intro @ty_iav_22 (And.intro @ty_ldai_42 (And.intro @ty_zr_42 (And.intro @ty_st_42 (And.intro @ty_fap_42_1 @ty_ldsp_3))))))
def TY68:=PLift.up (And.intro @ty_lnv_22 (And.intro @ty_iav_22 (And.intro @ty_ldap_42 (And.intro @ty_ldai_42 (And.intro @ty_zr_42 (And.intro @ty_st_42 (And.intro @ty_fap_42_0 (And.intro @ty_ldsp_4 (And.intro @ty_fap_42_3 (And.intro @ty_ldsp_40 (And.intro @ty_iav_40 (And.intro @ty_fai_94_1 (And.intro @ty_ldsi_3 (And.intro @ty_lnv_40 @ty_fai_94_2))))))))))))))
def TY69:=PLift.up (And.intro @ty_ldap_69 (And.intro @ty_zr_69 (And.intro @ty_lnv_22 (And.intro @ty_fap_69_0 (And.intro @ty_ldsp_3 (And.intro @ty_ldsi_3 (And.intro @ty_ftl_3 (And.intro @ty_iav_22 (And.intro @ty_fai_42_1 (And.intro @ty_st_3 (And.intro @ty_fts_3 (And.intro @ty_fai_42_0 (And.intro @ty_ldsi_4 (And.intro @ty_ldai_42 (And.intro @ty_fap_69_1 (And.intro @ty_fai_42_3 (And.intro @ty_ldsi_40 (And.intro @ty_iav_40 (And.intro @ty_fai_94_1 (And.intro @ty_fap_69_2 (And.intro @ty_lnv_40 (And.intro @ty_fai_94_2 @ty_st_69))))))))))))))))))))))
def TY72:=PLift.up (And.intro @ty_lnv_45 (And.intro @ty_iav_45 (And.intro @ty_ldai_62 (And.intro @ty_zr_62 (And.intro @ty_st_62 (And.intro @ty_fap_62_0 (And.intro @ty_ldsp_3 (And.intro @ty_ldsi_3 (And.intro @ty_fap_62_1 (And.intro @ty_fap_62_2 (And.intro @ty_fai_62_2 @ty_fap_24_3)))))))))))
def TY73:=PLift.up (And.intro @ty_fap_52_1 (And.intro @ty_ldsp_25 (And.intro @ty_lnv_25 (And.intro @ty_fap_24_5 (And.intro @ty_ldsp_22 (And.intro @ty_lnv_22 (And.intro @ty_fap_52_4 (And.intro @ty_fap_52_0 (And.intro @ty_ldsp_3 (And.intro @ty_ldsi_3 (And.intro @ty_fap_52_2 (And.intro @ty_fap_52_3 (And.intro @ty_fap_52_5 (And.intro @ty_ldsp_46 (And.intro @ty_lnv_46 (And.intro @ty_iav_22 (And.intro @ty_ldai_42 (And.intro @ty_zr_42 (And.intro @ty_st_42 (And.intro @ty_iav_25 @ty_fap_42_1))))))))))))))))))))
def TY74:=PLift.up (And.intro @ty_ldap_52 (And.intro @ty_zr_52 (And.intro @ty_st_52 (And.intro @ty_fap_48_2 (And.intro @ty_ldsp_46 (And.intro @ty_lns_46 (And.intro @ty_lnn_46 (And.intro @ty_lnv_46 (And.intro @ty_iav_46 (And.intro @ty_ldap_111 (And.intro @ty_ldai_111 (And.intro @ty_zr_111 (And.intro @ty_st_111 (And.intro @ty_fap_111_0 (And.intro @ty_ldsp_3 (And.intro @ty_ldsi_3 (And.intro @ty_ftl_3 (And.intro @ty_fap_52_0 (And.intro @ty_fap_52_1 (And.intro @ty_ldsp_25 (And.intro @ty_ftl_25 (And.intro @ty_fap_111_2 (And.intro @ty_ias_25 (And.intro @ty_fap_111_4 (And.intro @ty_fap_24_5 (And.intro @ty_ldsp_22 (And.intro @ty_fap_111_3 (And.intro @ty_iav_22 (And.intro @ty_fai_42_1 (And.intro @ty_fap_111_1 (And.intro @ty_fap_52_5 (And.intro @ty_bsl_25 (And.intro @ty_exap_25_25 (And.intro @ty_aps_25 (And.intro @ty_st_3 (And.intro @ty_fts_3 (And.intro @ty_bsl_46 (And.intro @ty_exap_46_46 (And.intro @ty_aps_46 @ty_st_46)))))))))))))))))))))))))))))))))))))))
def TY75:=PLift.up (And.intro @ty_ldap_52 (And.intro @ty_zr_52 (And.intro @ty_st_52 (And.intro @ty_fap_52_5 (And.intro @ty_st_46 (And.intro @ty_ldsp_46 (And.intro @ty_lnv_46 (And.intro @ty_iav_46 (And.intro @ty_ldap_111 (And.intro @ty_ldai_111 (And.intro @ty_zr_111 (And.intro @ty_st_111 (And.intro @ty_fap_111_1 (And.intro @ty_ldsp_3 (And.intro @ty_ldsi_3 (And.intro @ty_ftl_3 (And.intro @ty_fap_52_0 (And.intro @ty_bsl_46 (And.intro @ty_exap_46_46 (And.intro @ty_aps_46 (And.intro @ty_fap_111_4 (And.intro @ty_fap_52_1 (And.intro @ty_ldsp_25 (And.intro @ty_ftl_25 (And.intro @ty_fap_111_3 (And.intro @ty_ias_25 (And.intro @ty_fap_24_5 (And.intro @ty_ldsp_22 (And.intro @ty_fap_111_2 (And.intro @ty_iav_22 (And.intro @ty_fai_42_1 (And.intro @ty_st_3 (And.intro @ty_fts_3 (And.intro @ty_fai_42_9 @ty_fap_52_4))))))))))))))))))))))))))))))))))
def TY76:=PLift.up (And.intro @ty_fap_24_5 (And.intro @ty_ldsp_22 (And.intro @ty_lnv_22 (And.intro @ty_iav_22 (And.intro @ty_ldap_42 (And.intro @ty_ldai_42 (And.intro @ty_ftl_42 (And.intro @ty_zr_42 (And.intro @ty_st_42 (And.intro @ty_ldap_24 (And.intro @ty_fap_48_1 (And.intro @ty_ldsp_45 (And.intro @ty_fap_52_0 (And.intro @ty_ldsp_3 (And.intro @ty_ldsi_3 (And.intro @ty_fap_52_1 (And.intro @ty_ldsp_25 (And.intro @ty_ftl_25 (And.intro @ty_iav_25 (And.intro @ty_zr_94 (And.intro @ty_st_94 (And.intro @ty_fts_94 (And.intro @ty_iav_45 (And.intro @ty_fai_62_3 (And.intro @ty_fap_94_1 (And.intro @ty_fap_42_1 (And.intro @ty_fap_94_2 (And.intro @ty_bsl_25 (And.intro @ty_exap_25_25 @ty_aps_25)))))))))))))))))))))))))))))
def TY77:=PLift.up (And.intro @ty_lnv_25 (And.intro @ty_iav_25 @ty_ldsi_3))
def TY78:=PLift.up (And.intro @ty_lnv_25 (And.intro @ty_iav_25 (And.intro @ty_ldsi_3 (And.intro @ty_bsl_25 (And.intro @ty_exap_25_25 @ty_aps_25)))))
def TY79:=PLift.up (And.intro @ty_fap_42_2 (And.intro @ty_fap_39_0 (And.intro @ty_ldsp_3 @ty_fap_39_1)))
def TY84:=PLift.up (And.intro @ty_fap_42_3 (And.intro @ty_ldsp_40 (And.intro @ty_lnv_40 (And.intro @ty_iav_40 (And.intro @ty_ldai_94 (And.intro @ty_zr_94 (And.intro @ty_st_94 (And.intro @ty_fap_94_0 (And.intro @ty_fai_94_0 (And.intro @ty_ldsp_3 (And.intro @ty_ldsi_3 (And.intro @ty_fap_94_1 (And.intro @ty_fai_94_1 (And.intro @ty_fap_94_2 (And.intro @ty_fai_94_2 (And.intro @ty_fap_42_1 (And.intro @ty_fap_42_2 (And.intro @ty_ldap_39 (And.intro @ty_fap_42_4 (And.intro @ty_fap_42_5 (And.intro @ty_fap_42_6 (And.intro @ty_fap_42_7 (And.intro @ty_fap_42_8 (And.intro @ty_fap_42_9 @ty_bsl_25))))))))))))))))))))))))
def TY87:=PLift.up (And.intro @ty_fap_24_5 (And.intro @ty_ldsp_22 (And.intro @ty_fap_24_1 (And.intro @ty_ldsp_3 (And.intro @ty_fap_24_2 @ty_fap_24_0)))))
def TY91:=PLift.up (And.intro @ty_ldap_42 @ty_ldap_42)
def TY92:=PLift.up (And.intro @ty_lnv_25 (And.intro @ty_iav_25 @ty_ldsi_3))
def TY94:=PLift.up (And.intro @ty_lnv_25 (And.intro @ty_iav_25 (And.intro @ty_ldsi_3 (And.intro @ty_bsl_25 (And.intro @ty_exap_25_25 @ty_aps_25)))))
def TY95:=PLift.up (And.intro @ty_lnv_25 (And.intro @ty_iav_25 (And.intro @ty_ldsi_3 (And.intro @ty_bsl_25 (And.intro @ty_exap_25_25 @ty_aps_25)))))
def TY96:=PLift.up (And.intro @ty_ldsp_25 (And.intro @ty_lns_25 (And.intro @ty_lnv_25 (And.intro @ty_bsl_25 (And.intro @ty_exap_25_25 (And.intro @ty_aps_25 (And.intro @ty_zr_163 (And.intro @ty_st_163 (And.intro @ty_ldsp_163 (And.intro @ty_ftl_163 (And.intro @ty_ias_25 (And.intro @ty_ldsp_3 (And.intro @ty_ftl_3 (And.intro @ty_st_3 @ty_fts_3))))))))))))))
def TY98:=PLift.up (And.intro @ty_fap_59_0 (And.intro @ty_ldsp_3 (And.intro @ty_fap_59_1 (And.intro @ty_fap_59_2 (And.intro @ty_fap_59_3 @ty_bsl_25)))))
def TY100:=PLift.up (And.intro @ty_ldap_111 @ty_ldsp_3)
def TY101:=PLift.up (And.intro @ty_fap_111_0 (And.intro @ty_ldsp_3 (And.intro @ty_fap_111_1 (And.intro @ty_fap_111_2 (And.intro @ty_fap_111_3 @ty_fap_111_4)))))
def TY102:=PLift.up (And.intro @ty_qim_25 (And.intro @ty_qnn_25 (And.intro @ty_bsl_25 (And.intro @ty_exap_25_25 @ty_api_25))))
def TY103:=PLift.up (And.intro @ty_qim_46 (And.intro @ty_qnn_46 (And.intro @ty_bsl_46 (And.intro @ty_exap_46_46 @ty_api_46))))
def TY104:=PLift.up (And.intro @ty_fap_144_2 (And.intro @ty_fap_52_5 (And.intro @ty_ldsp_46 (And.intro @ty_lns_46 (And.intro @ty_lnn_46 (And.intro @ty_ias_46 (And.intro @ty_ldap_111 (And.intro @ty_zr_111 (And.intro @ty_st_111 (And.intro @ty_fap_111_1 (And.intro @ty_ldsp_3 (And.intro @ty_ldsi_3 (And.intro @ty_fap_52_0 (And.intro @ty_bsl_46 (And.intro @ty_exap_46_46 (And.intro @ty_aps_46 (And.intro @ty_fap_111_4 (And.intro @ty_fap_52_1 (And.intro @ty_ldsp_25 (And.intro @ty_fap_111_3 (And.intro @ty_ias_25 (And.intro @ty_fap_52_4 (And.intro @ty_fap_144_0 (And.intro @ty_fap_24_5 (And.intro @ty_ldsp_22 (And.intro @ty_iav_22 (And.intro @ty_fai_42_9 (And.intro @ty_st_3 (And.intro @ty_fap_111_2 @ty_st_46)))))))))))))))))))))))))))))
def TY105:=PLift.up (And.intro @ty_fap_144_1 (And.intro @ty_fap_48_2 (And.intro @ty_ldsp_46 (And.intro @ty_ftl_46 (And.intro @ty_lns_46 (And.intro @ty_lnn_46 (And.intro @ty_lnv_46 (And.intro @ty_iav_46 (And.intro @ty_ldap_111 (And.intro @ty_ldai_111 (And.intro @ty_ftl_111 (And.intro @ty_zr_111 (And.intro @ty_st_111 (And.intro @ty_fap_111_0 (And.intro @ty_ldsp_3 (And.intro @ty_fap_144_2 (And.intro @ty_fap_52_0 (And.intro @ty_fap_111_1 (And.intro @ty_fap_52_1 (And.intro @ty_ldsp_25 (And.intro @ty_fap_111_2 (And.intro @ty_ias_25 (And.intro @ty_fap_111_4 (And.intro @ty_fap_111_3 (And.intro @ty_fap_52_5 (And.intro @ty_fap_144_3 (And.intro @ty_fap_57_3 (And.intro @ty_bsl_25 (And.intro @ty_exap_25_25 (And.intro @ty_aps_25 (And.intro @ty_st_25 (And.intro @ty_st_3 (And.intro @ty_bsl_46 (And.intro @ty_exap_46_46 (And.intro @ty_aps_46 (And.intro @ty_st_46 @ty_fts_46))))))))))))))))))))))))))))))))))))
def TY106:=PLift.up (And.intro @ty_ldsp_142 (And.intro @ty_ftl_142 (And.intro @ty_fap_144_0 (And.intro @ty_fap_24_5 (And.intro @ty_ldsp_22 (And.intro @ty_ftl_22 (And.intro @ty_lnv_22 (And.intro @ty_mks_25 (And.intro @ty_fap_144_3 (And.intro @ty_fap_57_0 (And.intro @ty_st_25 (And.intro @ty_fts_25 (And.intro @ty_zr_42 (And.intro @ty_st_42 (And.intro @ty_ldap_24 (And.intro @ty_fap_144_1 (And.intro @ty_fap_48_1 (And.intro @ty_ldsp_45 (And.intro @ty_ftl_45 (And.intro @ty_fap_144_2 (And.intro @ty_fap_52_0 (And.intro @ty_ldsp_3 (And.intro @ty_ldsi_3 (And.intro @ty_ftl_3 (And.intro @ty_iav_45 (And.intro @ty_fai_62_3 (And.intro @ty_ldap_42 (And.intro @ty_ftl_42 (And.intro @ty_fap_52_1 (And.intro @ty_ldsp_25 (And.intro @ty_ftl_25 (And.intro @ty_ias_25 (And.intro @ty_zr_94 (And.intro @ty_st_94 (And.intro @ty_fts_94 (And.intro @ty_fap_94_1 (And.intro @ty_fap_94_2 (And.intro @ty_st_3 @ty_fts_3))))))))))))))))))))))))))))))))))))))
def TY107:=PLift.up (And.intro @ty_zr_59 (And.intro @ty_st_59 (And.intro @ty_fap_144_0 (And.intro @ty_ldap_24 (And.intro @ty_fap_144_3 (And.intro @ty_fap_57_0 (And.intro @ty_ldsp_25 (And.intro @ty_fap_59_0 (And.intro @ty_ldsp_3 (And.intro @ty_fap_59_1 (And.intro @ty_fap_57_1 @ty_st_25)))))))))))
def TY108:=PLift.up (And.intro @ty_zr_59 (And.intro @ty_st_59 (And.intro @ty_fap_144_3 (And.intro @ty_fap_57_1 (And.intro @ty_ldsp_25 (And.intro @ty_fap_59_2 (And.intro @ty_ldsp_3 (And.intro @ty_fap_59_3 (And.intro @ty_fap_57_2 (And.intro @ty_st_25 (And.intro @ty_fap_144_2 (And.intro @ty_fap_52_2 @ty_st_3))))))))))))
def TY109:=PLift.up (And.intro @ty_fap_144_3 (And.intro @ty_fap_57_2 (And.intro @ty_ldsp_25 (And.intro @ty_lns_25 (And.intro @ty_lnn_25 (And.intro @ty_ias_25 (And.intro @ty_ldsp_3 (And.intro @ty_fap_144_0 (And.intro @ty_fap_24_4 (And.intro @ty_fap_144_2 (And.intro @ty_fap_52_3 (And.intro @ty_st_3 @ty_fap_52_1))))))))))))
def TY110:=PLift.up (And.intro @ty_ldsp_142 (And.intro @ty_zr_42 (And.intro @ty_st_42 (And.intro @ty_fap_144_3 (And.intro @ty_fap_57_2 (And.intro @ty_ldsp_25 (And.intro @ty_ias_25 (And.intro @ty_ldsp_3 (And.intro @ty_fap_144_2 (And.intro @ty_fap_52_4 (And.intro @ty_fap_42_5 (And.intro @ty_fap_42_6 (And.intro @ty_fap_42_7 (And.intro @ty_st_3 (And.intro @ty_fap_42_0 (And.intro @ty_ldsp_4 (And.intro @ty_fap_57_0 (And.intro @ty_fap_57_1 @ty_fap_42_8))))))))))))))))))
def TY111:=PLift.up (And.intro @ty_fap_42_2 (And.intro @ty_fap_39_0 (And.intro @ty_ldsp_3 @ty_fap_39_1)))
def TY113:=PLift.up (And.intro @ty_fap_62_0 (And.intro @ty_ldsp_3 (And.intro @ty_fap_62_1 (And.intro @ty_fap_62_2 @ty_fap_62_3))))
def TY114:=PLift.up (And.intro @ty_ldap_111 (And.intro @ty_fap_24_5 (And.intro @ty_ldsp_22 (And.intro @ty_lnv_22 (And.intro @ty_fap_111_1 (And.intro @ty_ldsp_3 @ty_fap_52_0))))))
def TY115:=PLift.up (And.intro @ty_ldap_52 (And.intro @ty_zr_52 (And.intro @ty_st_52 (And.intro @ty_fap_52_1 (And.intro @ty_ldsp_25 (And.intro @ty_ftl_25 (And.intro @ty_exap_25_25 (And.intro @ty_api_25 (And.intro @ty_apn_25 (And.intro @ty_fap_52_4 (And.intro @ty_fap_52_5 (And.intro @ty_ldsp_46 (And.intro @ty_ftl_46 (And.intro @ty_exap_46_46 (And.intro @ty_api_46 (And.intro @ty_apn_46 (And.intro @ty_st_25 (And.intro @ty_fts_25 (And.intro @ty_st_46 @ty_fts_46)))))))))))))))))))
def TY116:=PLift.up (And.intro @ty_ldap_94 (And.intro @ty_ldai_94 (And.intro @ty_zr_94 (And.intro @ty_fap_42_3 (And.intro @ty_ldsp_40 (And.intro @ty_lnv_40 (And.intro @ty_iav_40 (And.intro @ty_fai_94_0 (And.intro @ty_ldsp_3 (And.intro @ty_ldsi_3 (And.intro @ty_fap_42_1 @ty_st_94)))))))))))
def TY117:=PLift.up (And.intro @ty_lnv_22 (And.intro @ty_iav_22 @ty_ldai_42))
def TY124:=PLift.up (And.intro @ty_lnv_25 (And.intro @ty_iav_25 @ty_ldsi_3))
def TY125:=PLift.up (And.intro @ty_fap_24_5 (And.intro @ty_ldsp_22 (And.intro @ty_iav_22 (And.intro @ty_fai_42_0 (And.intro @ty_ldsi_4 (And.intro @ty_ldsp_25 (And.intro @ty_iav_25 @ty_ldsi_3)))))))
def TY126:=PLift.up (And.intro @ty_ldsp_25 (And.intro @ty_iav_25 (And.intro @ty_ldsi_3 @ty_ldsp_163)))
def TY127:=PLift.up (And.intro @ty_lnv_25 (And.intro @ty_ias_25 (And.intro @ty_iav_25 (And.intro @ty_ldsp_3 (And.intro @ty_ldsi_3 (And.intro @ty_mks_25 @ty_st_3))))))
def TY128:=PLift.up (And.intro @ty_lnv_44 (And.intro @ty_iav_44 @ty_ldai_59))
def TY129:=PLift.up (And.intro @ty_lnv_46 (And.intro @ty_iav_46 @ty_ldai_111))
def TY130:=PLift.up (And.intro @ty_fap_144_0 (And.intro @ty_fap_24_5 (And.intro @ty_ldsp_22 (And.intro @ty_iav_22 (And.intro @ty_fai_42_1 (And.intro @ty_ldsp_3 (And.intro @ty_ldsi_3 (And.intro @ty_fap_144_2 (And.intro @ty_fap_52_1 (And.intro @ty_ldsp_25 @ty_ias_25))))))))))
def TY131:=PLift.up (And.intro @ty_fap_144_0 (And.intro @ty_fap_24_5 (And.intro @ty_ldsp_22 (And.intro @ty_lnv_22 (And.intro @ty_iav_22 (And.intro @ty_ldap_42 (And.intro @ty_ldai_42 (And.intro @ty_zr_42 (And.intro @ty_st_42 (And.intro @ty_fap_144_2 (And.intro @ty_fap_52_0 @ty_ldsp_3)))))))))))
def TY132:=PLift.up (And.intro @ty_ldap_94 (And.intro @ty_ldai_94 (And.intro @ty_zr_94 (And.intro @ty_fap_42_3 (And.intro @ty_ldsp_40 (And.intro @ty_iav_40 (And.intro @ty_st_94 (And.intro @ty_lnv_40 (And.intro @ty_fap_94_0 (And.intro @ty_ldsp_3 @ty_fap_42_1))))))))))
def TY133:=PLift.up (And.intro @ty_ldap_59 (And.intro @ty_ldai_59 (And.intro @ty_zr_59 (And.intro @ty_fap_144_1 (And.intro @ty_fap_48_0 (And.intro @ty_ldsp_44 (And.intro @ty_fap_144_2 (And.intro @ty_fap_52_0 (And.intro @ty_ldsp_3 (And.intro @ty_iav_44 @ty_st_59))))))))))
def TY135:=PLift.up (And.intro @ty_lnv_45 (And.intro @ty_iav_45 @ty_ldai_62))
end Go.Proofs.YtdbiogihimdpcaaGreatDoor
/- The seat's own: primitives, the limit oracle, from evaluations to cards. -/
namespace Go.Proofs.YtdbiogihimdpcaaGreatDoor
open Go Go.Ev Go.ChangeShapes Go.WideShapes Go.ChangeAt Go.RowKit
set_option maxRecDepth 100000
set_option maxHeartbeats 16000000
/-- Functions that work on the caller's heap. -/
def mdL:List Nat:=[131,130,133]
def pr:Prims:=prims 89 90 (mdL.contains ·)
noncomputable def om':Orc:=om Tryz.prog pr
theorem om_md(f:Nat):om'.md f=([131,130,133]:List Nat).contains f:=Eq.trans rfl rfl
def Va:=PLift.up (And.intro EE.down EE.down)
def Vb:=PLift.up (And.intro EF.down @om_md)
def Vc:=PLift.up (And.intro EG.down @om_md)
theorem fun1{C:R→Prop}[NoN C]{n:Nat}{k:List KItem}{c:Code}{s:St}(h:Un om' Tryz.prog n k c C (evM om' Tryz.prog 5000 c [] s)):C (lpK om' Tryz.prog n k (om'.loop c s)):=fw_un (pr:=pr) h
theorem own:ownKnob Tryz.prog.godebug=none:=by kernel_rfl
theorem noNG:NoNG Tryz.prog:=fun f fn hf=>by
 have h:(Tryz.prog.funcs.toList.all fun fn=> !(fn.name== "runtime.NumGoroutine"))=true:=by kernel_rfl
 have:=List.all_eq_true.1 h fn (by rw[Array.mem_toList_iff];exact Array.mem_of_getElem? hf)
 simpa using this
theorem mixed:Tryz.prog.follows .mixedOrders=true:=by kernel_rfl
theorem laidOut:laidOutB Tryz.prog=true:=by kernel_rfl
def laid:List (String × DataW Unit):=[("math/bits.deBruijn32tab",Rows.laid_math_bits_deBruijn32tab),("math/bits.deBruijn64tab",Rows.laid_math_bits_deBruijn64tab),("internal/strconv.uint64pow10",Rows.laid_internal_strconv_uint64pow10)]
theorem gTab:Tryz.prog.globalNamed "internal/strconv.uint64pow10" =some 0:=by kernel_rfl
theorem tab{W:World}(h:laidMetH Tryz.prog laid W):Lib.TabIs Tryz.prog W "internal/strconv.uint64pow10" .u64 Lib.pow10Tab:=by
 rw[MakeChecks.laidMetH_plain _ _ _ (by kernel_rfl)]at h
 obtain⟨ps,h,_⟩:=h
 exact tabIs_of_mem (t:=183) (e:=174) (n:=20) gTab (by kernel_rfl) (by kernel_rfl) (by kernel_rfl) (by kernel_rfl) (by kernel_rfl) h (by
  have e:(Lib.tabData .u64 Lib.pow10Tab:DataW Unit)=Rows.laid_internal_strconv_uint64pow10:=rfl
  rw[e];simp[laid])
theorem calls_ok{W:World}(h:laidMetH Tryz.prog laid W):CallsOK Tryz.prog (oneG W 0) om':=
 om_ok noNG (prims_ok (itoa_ok (enters noNG Tryz.func89 rfl) (oneG_tab gTab (tab h)) (fun n w h0 h1 ht=>Tryz.strconv_Itoa n h0 h1 w ht)) (join_ok (enters noNG Tryz.func90 rfl) Tryz.strings_Join_none Tryz.strings_Join)) mixed
theorem door_met(os:Os)(args:Array Value):laidMetH Tryz.prog laid ((World.doorLaid Tryz.prog 400 os).forCall (fun _ _=>0) ⟨#[],args,[]⟩).memory:=
 laidMetH_of_parts3 (fuel:=8) (laidMet_of_run' 8 (by kernel_rfl) (by kernel_rfl)) (by kernel_rfl) (by kernel_rfl)
end Go.Proofs.YtdbiogihimdpcaaGreatDoor
/- Layer 6: how data are told; the small functions. -/
namespace Go.Proofs.YtdbiogihimdpcaaGreatDoor
open Go.Ev Go
set_option maxRecDepth 100000
set_option maxHeartbeats 16000000
theorem stOf{f:Nat}{fn:Func}{c:Code}{args:List AV}{h:Heap}{Q:Out→Heap→Prop}(hp:pr f=none)(hf:Tryz.prog.funcs[f]?=some fn)(hb:fn.body=some c)(hl:Nat.ble args.length fn.ntmps=true)
 (he:FnE Tryz.prog h.length fn.results.toList Q (evM om' Tryz.prog 5000 c [] ⟨mk fn.ntmps (ent args),h⟩)):ClQ om' f args h Q:=ClQ.start (pr:=pr) hp hf hb hl he
theorem stSh{f:Nat}{fn:Func}{c:Code}{args:List AV}{h:Heap}{Q:Out→Heap→Prop}(hp:pr f=none)(hf:Tryz.prog.funcs[f]?=some fn)(hb:fn.body=some c)(hl:Nat.ble args.length fn.ntmps=true)
 (he:FnS Tryz.prog fn.results.toList Q (evM om' Tryz.prog 5000 c [] ⟨mk fn.ntmps (ent args),h⟩)):ShQ om' f args h Q:=ShQ.start (pr:=pr) hp hf hb hl he
theorem ce{f:Nat}{fn:Func}{c:Code}{args:List AV}{h:Heap}{o:Out}{h':Heap}(hf:Tryz.prog.funcs[f]?=some fn)(he:FnE Tryz.prog h.length fn.results.toList (fun o1 h1=>(o1,h1)=(o,h')) (evM om' Tryz.prog 5000 c [] ⟨mk fn.ntmps (ent args),h⟩))(hp:pr f=none:=by exact rfl)(hb:fn.body=some c:=by exact rfl)(hl:Nat.ble args.length fn.ntmps=true:=by exact rfl):om'.call (.fn f) args h=some (o,h'):=(stOf hp hf hb hl he).eq
theorem csh{f:Nat}{fn:Func}{c:Code}{args:List AV}{h:Heap}{o:Out}{h':Heap}(hf:Tryz.prog.funcs[f]?=some fn)(he:FnS Tryz.prog fn.results.toList (fun o1 h1=>(o1,h1)=(o,h')) (evM om' Tryz.prog 5000 c [] ⟨mk fn.ntmps (ent args),h⟩))(hp:pr f=none:=by exact rfl)(hb:fn.body=some c:=by exact rfl)(hl:Nat.ble args.length fn.ntmps=true:=by exact rfl):om'.call (.sh f) args h=some (o,h'):=(stSh hp hf hb hl he).eq
theorem lst{α σ ρ:Type}{c:Code}(N:Nat)(l:List α)(E:Nat→σ→Tm→Heap→Prop)(F:List α→σ→ρ)(Q:ρ→Ex→Tm→Heap→Prop)
 (stop:∀s t h Q',(∀e t h,Q (F [] s) e t h→Q' e ⟨mk N t,h⟩)→E l.length s t h→Rnd N (fun _ _=>False) Q' (evM om' Tryz.prog 5000 c [] ⟨mk N t,h⟩))
 (go:∀x rest i s t h J Q',(∀t' h' s',E (i+1) s' t' h'→F rest s'=F (x::rest) s→J t' h')→(∀e t h,Q (F (x::rest) s) e t h→Q' e ⟨mk N t,h⟩)→l[i]?=some x→i<l.length→E i s t h→
   Rnd N J Q' (evM om' Tryz.prog 5000 c [] ⟨mk N t,h⟩)):
 ∀s t h,E 0 s t h→LpQ om' c ⟨mk N t,h⟩ (Ot N (Q (F l s))):=list_loop (pr:=pr) rfl N l E F Q stop go
theorem cnt{σ ρ:Type}{c:Code}(N:Nat)(E:Nat→σ→Tm→Heap→Prop)(F:Nat→σ→ρ)(Q:ρ→Ex→Tm→Heap→Prop)
 (stop:∀s t h Q',(∀e t h,Q (F 0 s) e t h→Q' e ⟨mk N t,h⟩)→E 0 s t h→Rnd N (fun _ _=>False) Q' (evM om' Tryz.prog 5000 c [] ⟨mk N t,h⟩))
 (go:∀n s t h J Q',(∀t' h' s',E n s' t' h'→F n s'=F (n+1) s→J t' h')→(∀e t h,Q (F (n+1) s) e t h→Q' e ⟨mk N t,h⟩)→E (n+1) s t h→Rnd N J Q' (evM om' Tryz.prog 5000 c [] ⟨mk N t,h⟩)):
 ∀n s t h,E n s t h→LpQ om' c ⟨mk N t,h⟩ (Ot N (Q (F n s))):=nat_loop (pr:=pr) rfl N E F Q stop go
structure BRate where
 fill:Int
 inn:Int
 out:Int
def BRate.cells(r:BRate):List AV:=[.int .i64 r.fill,.int .i64 r.inn,.int .i64 r.out]
structure BCon where
 firm:Bool
 space:Int
 lo:Int
 hi:Int
 nn:Bool
 rates:List BRate
 gas:Int
 fixed:Int
 inn:Int
 out:Int
 cut:Int
 lack:Int
def BCon.cells(c:BCon):List AV:=[.bool c.firm,.int .i64 c.space,.int .i64 c.lo,.int .i64 c.hi,slv 3 true c.nn (c.rates.map BRate.cells),.int .i64 c.gas,.int .i64 c.fixed,.int .i64 c.inn,.int .i64 c.out,.int .i64 c.cut,.int .i64 c.lack]
structure BStore where
 space:Int
 inn:Int
 out:Int
 lead:Int
 fuel:Int
 nn:Bool
 cons:List BCon
abbrev BStore.cells(s:BStore):List AV:=[.int .i64 s.space,.int .i64 s.inn,.int .i64 s.out,.int .i64 s.lead,.int .i64 s.fuel,slv 11 false s.nn (s.cons.map BCon.cells)]
def iv(x:Int):List AV:=[.int .i64 x]
def inB(x lo hi:Int):Bool:=decide (lo≤x)&&decide (x≤hi)
theorem e_in(x lo hi:Int):om'.call (.fn 71) [.int .i64 x,.int .i64 lo,.int .i64 hi] []=some (.ret (.bool (inB x lo hi)),[]):=by
 (refine ce Tryz.func71 ?_;simp only[Tryz.f71];(have hb:=trivial;with_reducible repeat' (first|simp only[hb,Va.down,seval]|refine fsp ?_ ?_<;>intro hb|refine fd ?_|fail)))
 all_goals simp[inB, *]
theorem r_in(x lo hi:Int):om'.call (.fn 54) [.int .i64 x,.int .i64 lo,.int .i64 hi] []=some (.ret (.bool (inB x lo hi)),[]):=by
 (refine ce Tryz.func54 ?_;simp only[Tryz.f54];(have hb:=trivial;with_reducible repeat' (first|simp only[hb,Va.down,seval]|refine fsp ?_ ?_<;>intro hb|refine fd ?_|fail)))
 all_goals simp[inB, *]
def hoursB(x y:Int):Bool:=decide (0≤x)&&decide (x≤y)&&decide (y<48)
theorem e_hours(x y:Int):om'.call (.fn 66) [.agg [.int .i64 x,.int .i64 y]] []=some (.ret (.bool (hoursB x y)),[]):=by
 (refine ce Tryz.func66 ?_;simp only[Tryz.f66];(have hb:=trivial;with_reducible repeat' (first|simp only[hb,Va.down,seval,TY66.down]|refine fsp ?_ ?_<;>intro hb|refine fd ?_|fail)))
 all_goals simp[hoursB, *]
theorem e_great1(x:Int):om'.call (.fn 93) [.int .i64 x] []=some (.ret (.bool (!inB x 0 800000000)),[]):=by
 (refine ce Tryz.func93 ?_;simp only[Tryz.f93];(have hb:=trivial;with_reducible repeat' (first|simp only[hb,Va.down,seval,e_in]|refine fsp ?_ ?_<;>intro hb|refine fd ?_|fail)))
theorem e_prices1(x:Int):om'.call (.fn 136) [.int .i64 x] []=some (.ret (.bool (!inB x 0 10000)),[]):=by
 (refine ce Tryz.func136 ?_;simp only[Tryz.f136];(have hb:=trivial;with_reducible repeat' (first|simp only[hb,Va.down,seval,e_in]|refine fsp ?_ ?_<;>intro hb|refine fd ?_|fail)))
theorem r_Much(x:Int):om'.call (.fn 19) [.int .i64 x] []=some (.ret (.bool (inB x 0 800000000)),[]):=by
 (refine ce Tryz.func19 ?_;simp only[Tryz.f19];(have hb:=trivial;with_reducible repeat' (first|simp only[hb,Va.down,seval,r_in]|refine fsp ?_ ?_<;>intro hb|refine fd ?_|fail)))
theorem r_Kilos(x:Int):om'.call (.fn 81) [.int .i64 x] []=some (.ret (.bool (inB x 0 100000000)),[]):=by
 (refine ce Tryz.func81 ?_;simp only[Tryz.f81];(have hb:=trivial;with_reducible repeat' (first|simp only[hb,Va.down,seval,r_in]|refine fsp ?_ ?_<;>intro hb|refine fd ?_|fail)))
theorem r_price(x:Int):om'.call (.fn 80) [.int .i64 x] []=some (.ret (.bool (inB x 0 10000)),[]):=by
 (refine ce Tryz.func80 ?_;simp only[Tryz.f80];(have hb:=trivial;with_reducible repeat' (first|simp only[hb,Va.down,seval,r_in]|refine fsp ?_ ?_<;>intro hb|refine fd ?_|fail)))
theorem r_Hour(x:Int):om'.call (.fn 38) [.int .i64 x] []=some (.ret (.bool (inB x 0 47)),[]):=by
 (refine ce Tryz.func38 ?_;simp only[Tryz.f38];(have hb:=trivial;with_reducible repeat' (first|simp only[hb,Va.down,seval,r_in]|refine fsp ?_ ?_<;>intro hb|refine fd ?_|fail)))
theorem r_Hours(x y:Int):om'.call (.fn 31) [.agg [.int .i64 x,.int .i64 y]] []=some (.ret (.bool (hoursB x y)),[]):=by
 (refine ce Tryz.func31 ?_;simp only[Tryz.f31];(have hb:=trivial;with_reducible repeat' (first|simp only[hb,Va.down,seval,TY31.down,r_Hour]|refine fsp ?_ ?_<;>intro hb|refine fd ?_|fail)))
 all_goals (refine congrArg (fun b=>(Out.ret (AV.bool b),([]:Heap))) ?_;rw[Bool.eq_iff_iff];simp only[hoursB,inB,Bool.and_eq_true,Bool.or_eq_true,Bool.not_eq_true',Bool.and_eq_false_iff,Bool.or_eq_false_iff,decide_eq_true_eq,decide_eq_false_iff_not,beq_iff_eq,beq_eq_false_iff_ne,Bool.false_eq_true,false_iff,iff_false,true_iff,iff_true,Bool.not_true,Bool.not_false]at *;omega)
theorem e_active(c:BCon)(f:Bool)(h:Int):om'.call (.fn 111) [.agg [.bool f,.int .i64 c.space,.int .i64 c.lo,.int .i64 c.hi,slv 3 true c.nn (c.rates.map BRate.cells),.int .i64 c.gas,.int .i64 c.fixed,.int .i64 c.inn,.int .i64 c.out,.int .i64 c.cut,.int .i64 c.lack],.int .i64 h] []=some (.ret (.bool (inB h c.lo c.hi)),[]):=by
 (refine ce Tryz.func111 ?_;simp only[Tryz.f111];(have hb:=trivial;with_reducible repeat' (first|simp only[hb,Va.down,seval,TY111.down,e_in]|refine fsp ?_ ?_<;>intro hb|refine fd ?_|fail)))
theorem r_Active(c:BCon)(f:Bool)(h:Int):om'.call (.fn 79) [.agg [.bool f,.int .i64 c.space,.int .i64 c.lo,.int .i64 c.hi,slv 3 true c.nn (c.rates.map BRate.cells),.int .i64 c.gas,.int .i64 c.fixed,.int .i64 c.inn,.int .i64 c.out,.int .i64 c.cut,.int .i64 c.lack],.int .i64 h] []=some (.ret (.bool (inB h c.lo c.hi)),[]):=by
 (refine ce Tryz.func79 ?_;simp only[Tryz.f79];(have hb:=trivial;with_reducible repeat' (first|simp only[hb,Va.down,seval,TY79.down,r_in]|refine fsp ?_ ?_<;>intro hb|refine fd ?_|fail)))
/-- Where a predicate first holds. -/
def idx{α:Type}(p:α→Bool):List α→Int→Int
 | [],_=> -1
 |x::l,i=>if p x=true then i else idx p l (i+1)
theorem idx_any{α:Type}(p:α→Bool):∀(l:List α) (i:Int),0≤i→decide (0≤idx p l i)=l.any p
 | [],i,_=>rfl
 |x::l,i,h=>by
  unfold idx
  split
  ·rename_i hp;simp[h,hp]
  ·rename_i hp;rw[idx_any p l (i+1) (by omega)];simp[hp]
theorem e_idxInt{l:List Int}{nn:Bool}{g:Nat}{cap:List AV}{p:Int→Bool}(hc:cap.all (pureV 8)=true)(hc7:cap.all (pureV 7)=true)(hp:∀x∈l,om'.call (.fn g) (.int .i64 x::cap) []=some (.ret (.bool (p x)),[]))(hl:l.length≤maxLen):
 om'.call (.fn 92) [slv 1 true nn (l.map iv),.func (.func g) [] cap] []=some (.ret (.int .i64 (idx p l 0)),[]):=by
 (refine ce Tryz.func92 ?_;simp only[Tryz.f92];(have hb:=trivial;with_reducible repeat' (first|simp only[hb,Va.down,seval,TY92.down,List.length_map]|refine fsp ?_ ?_<;>intro hb|refine fd ?_|fail)))
 refine fw_ot (lst 19 l (fun i (s:Int) t h=>s=i∧h=[]∧t 0=slv 1 true nn (l.map iv)∧t 1=.func (.func g) [] cap∧t 7=.int .i64 l.length∧t 8=.int .i64 i)
  (fun rest s=>idx p rest s) (fun r e t h=>h=[]∧((e=.exit 0∧r= -1)∨(e=.ret∧t 4=.int .i64 r))) ?_ ?_ 0 _ _ ?_) (fun e t h hk=>?_)
 ·rintro s t h Q' kQ ⟨rfl,rfl,h0,h1,h7,h8⟩
  (have hb:=trivial;with_reducible repeat' (first|simp only[hb,Va.down,seval,TY92.down,h0,h1,h7,h8,Int.lt_irrefl,decide_false]|refine fsp ?_ ?_<;>intro hb|refine fd ?_|fail))
  exact kQ _ _ _ ⟨rfl,.inl ⟨rfl,rfl⟩⟩
 ·rintro x rest i s t h J Q' kJ kQ hx hi ⟨rfl,rfl,h0,h1,h7,h8⟩
  have hpx:=hp x (List.mem_of_getElem? hx)
  have hd:decide ((i:Int)<(l.length:Int))=true:=by simpa using hi
  (have hb:=trivial;with_reducible repeat' (first|simp only[hb,Va.down,seval,TY92.down,h0,h1,h7,h8,hd,hx,iv,hc,hc7,hpx,wrap_next hi hl]|refine fsp ?_ ?_<;>intro hb|refine fd ?_|fail))
  ·exact kQ _ _ _ ⟨rfl,.inr ⟨rfl,by simp[up,idx,hb]⟩⟩
  ·exact rnd_go (kJ _ _ (i+1) ⟨by simp,rfl,by simp[up,h0],by simp[up,h1],by simp[up,h7],by simp[up]⟩ (by simp[idx,hb]))
 ·exact⟨rfl,rfl,by simp[up,ent],by simp[up,ent],by simp[up],by simp[up]⟩
 ·obtain⟨rfl,⟨rfl,hi⟩|⟨rfl,hi⟩⟩:=hk
  ·(have hb:=trivial;with_reducible repeat' (first|simp only[hb,Va.down,seval,TY92.down]|refine fsp ?_ ?_<;>intro hb|refine fd ?_|fail))
   rw[hi]
  ·(have hb:=trivial;with_reducible repeat' (first|simp only[hb,Va.down,seval,TY92.down,hi]|refine fsp ?_ ?_<;>intro hb|refine fd ?_|fail))
theorem e_contInt{l:List Int}{nn:Bool}{g:Nat}{cap:List AV}{p:Int→Bool}(hc:cap.all (pureV 8)=true)(hc7:cap.all (pureV 7)=true)(hp:∀x∈l,om'.call (.fn g) (.int .i64 x::cap) []=some (.ret (.bool (p x)),[]))(hl:l.length≤maxLen):
 om'.call (.fn 50) [slv 1 true nn (l.map iv),.func (.func g) [] cap] []=some (.ret (.bool (l.any p)),[]):=by
 (refine ce Tryz.func50 ?_;simp only[Tryz.f50];(have hb:=trivial;with_reducible repeat' (first|simp only[hb,Va.down,seval,e_idxInt hc hc7 hp hl,hc,hc7,idx_any p l 0 (Int.le_refl 0)]|refine fsp ?_ ?_<;>intro hb|refine fd ?_|fail)))
theorem e_idxCon{l:List BCon}{nn:Bool}{g:Nat}{cap:List AV}{p:BCon→Bool}(hc:cap.all (pureV 8)=true)(hc7:cap.all (pureV 7)=true)(hp:∀x∈l,om'.call (.fn g) (.agg [.bool x.firm,.int .i64 x.space,.int .i64 x.lo,.int .i64 x.hi,slv 3 true x.nn (x.rates.map BRate.cells),.int .i64 x.gas,.int .i64 x.fixed,.int .i64 x.inn,.int .i64 x.out,.int .i64 x.cut,.int .i64 x.lack]::cap) []=some (.ret (.bool (p x)),[]))(hl:l.length≤maxLen):
 om'.call (.fn 117) [slv 11 false nn (l.map BCon.cells),.func (.func g) [] cap] []=some (.ret (.int .i64 (idx p l 0)),[]):=by
 (refine ce Tryz.func117 ?_;simp only[Tryz.f117];(have hb:=trivial;with_reducible repeat' (first|simp only[hb,Va.down,seval,TY117.down,List.length_map]|refine fsp ?_ ?_<;>intro hb|refine fd ?_|fail)))
 refine fw_ot (lst 19 l (fun i (s:Int) t h=>s=i∧h=[]∧t 0=slv 11 false nn (l.map BCon.cells)∧t 1=.func (.func g) [] cap∧t 7=.int .i64 l.length∧t 8=.int .i64 i)
  (fun rest s=>idx p rest s) (fun r e t h=>h=[]∧((e=.exit 0∧r= -1)∨(e=.ret∧t 4=.int .i64 r))) ?_ ?_ 0 _ _ ?_) (fun e t h hk=>?_)
 ·rintro s t h Q' kQ ⟨rfl,rfl,h0,h1,h7,h8⟩
  (have hb:=trivial;with_reducible repeat' (first|simp only[hb,Va.down,seval,TY117.down,h0,h1,h7,h8,Int.lt_irrefl,decide_false]|refine fsp ?_ ?_<;>intro hb|refine fd ?_|fail))
  exact kQ _ _ _ ⟨rfl,.inl ⟨rfl,rfl⟩⟩
 ·rintro x rest i s t h J Q' kJ kQ hx hi ⟨rfl,rfl,h0,h1,h7,h8⟩
  have hpx:=hp x (List.mem_of_getElem? hx)
  have hd:decide ((i:Int)<(l.length:Int))=true:=by simpa using hi
  (have hb:=trivial;with_reducible repeat' (first|simp only[hb,Va.down,seval,TY117.down,h0,h1,h7,h8,hd,hx,BCon.cells,hc,hc7,hpx,wrap_next hi hl]|refine fsp ?_ ?_<;>intro hb|refine fd ?_|fail))
  ·exact kQ _ _ _ ⟨rfl,.inr ⟨rfl,by simp[up,idx,hb]⟩⟩
  ·exact rnd_go (kJ _ _ (i+1) ⟨by simp,rfl,by simp[up,h0],by simp[up,h1],by simp[up,h7],by simp[up]⟩ (by simp[idx,hb]))
 ·exact⟨rfl,rfl,by simp[up,ent],by simp[up,ent],by simp[up],by simp[up]⟩
 ·obtain⟨rfl,⟨rfl,hi⟩|⟨rfl,hi⟩⟩:=hk
  ·(have hb:=trivial;with_reducible repeat' (first|simp only[hb,Va.down,seval,TY117.down]|refine fsp ?_ ?_<;>intro hb|refine fd ?_|fail))
   rw[hi]
  ·(have hb:=trivial;with_reducible repeat' (first|simp only[hb,Va.down,seval,TY117.down,hi]|refine fsp ?_ ?_<;>intro hb|refine fd ?_|fail))
theorem e_contCon{l:List BCon}{nn:Bool}{g:Nat}{cap:List AV}{p:BCon→Bool}(hc:cap.all (pureV 8)=true)(hc7:cap.all (pureV 7)=true)(hp:∀x∈l,om'.call (.fn g) (.agg [.bool x.firm,.int .i64 x.space,.int .i64 x.lo,.int .i64 x.hi,slv 3 true x.nn (x.rates.map BRate.cells),.int .i64 x.gas,.int .i64 x.fixed,.int .i64 x.inn,.int .i64 x.out,.int .i64 x.cut,.int .i64 x.lack]::cap) []=some (.ret (.bool (p x)),[]))(hl:l.length≤maxLen):
 om'.call (.fn 82) [slv 11 false nn (l.map BCon.cells),.func (.func g) [] cap] []=some (.ret (.bool (l.any p)),[]):=by
 (refine ce Tryz.func82 ?_;simp only[Tryz.f82];(have hb:=trivial;with_reducible repeat' (first|simp only[hb,Va.down,seval,e_idxCon hc hc7 hp hl,hc,hc7,idx_any p l 0 (Int.le_refl 0)]|refine fsp ?_ ?_<;>intro hb|refine fd ?_|fail)))
theorem e_prices{l:List Int}{nn:Bool}(hl:l.length≤maxLen):om'.call (.fn 118) [slv 1 true nn (l.map iv)] []=some (.ret (.bool (l.all fun x=>inB x 0 10000)),[]):=by
 have h:=e_contInt (l:=l) (nn:=nn) (g:=136) (cap:=[]) (p:=fun x=> !inB x 0 10000) rfl rfl (fun x _=>e_prices1 x) hl
 (refine ce Tryz.func118 ?_;simp only[Tryz.f118];(have hb:=trivial;with_reducible repeat' (first|simp only[hb,Va.down,seval,h]|refine fsp ?_ ?_<;>intro hb|refine fd ?_|fail)))
 simp[List.all_eq_not_any_not]
theorem e_great{l:List Int}{nn:Bool}(hl:l.length≤maxLen):om'.call (.fn 52) [slv 1 true nn (l.map iv)] []=some (.ret (.bool (l.all fun x=>inB x 0 800000000)),[]):=by
 have h:=e_contInt (l:=l) (nn:=nn) (g:=93) (cap:=[]) (p:=fun x=> !inB x 0 800000000) rfl rfl (fun x _=>e_great1 x) hl
 (refine ce Tryz.func52 ?_;simp only[Tryz.f52];(have hb:=trivial;with_reducible repeat' (first|simp only[hb,Va.down,seval,h]|refine fsp ?_ ?_<;>intro hb|refine fd ?_|fail)))
 simp[List.all_eq_not_any_not]
def rateB(p:Option BRate)(r:BRate):Bool:=inB r.fill 0 1000&&inB r.inn 0 100000000&&inB r.out 0 100000000&&(match p with|none=>decide (r.fill=0)|some q=>decide (q.fill<r.fill)&&decide (r.inn≤q.inn)&&decide (q.out≤r.out))
def ratesB:List BRate→Option BRate→Bool
 | [],_=>true
 |r::rest,p=>rateB p r&&ratesB rest (some r)
def conB(c:BCon):Bool:=ratesB c.rates none&&inB c.space 1 100000000&&hoursB c.lo c.hi&&inB c.rates.length 1 6&&inB c.gas 0 c.space&&[c.fixed,c.inn,c.out,c.cut,c.lack].all fun x=>inB x 0 10000
theorem get_app{h:Heap}{b:Nat}{c:CB}(h0:h[b]?=some c)(l:Heap):(h++l)[b]?=some c:=by
 rw[List.getElem?_append_left (List.getElem?_eq_some_iff.1 h0).1];exact h0
theorem e_contract(c:BCon)(hl:c.rates.length≤maxLen):om'.call (.fn 84) [.agg [.bool c.firm,.int .i64 c.space,.int .i64 c.lo,.int .i64 c.hi,slv 3 true c.nn (c.rates.map BRate.cells),.int .i64 c.gas,.int .i64 c.fixed,.int .i64 c.inn,.int .i64 c.out,.int .i64 c.cut,.int .i64 c.lack]] []=some (.ret (.bool (conB c)),[]):=by
 have hpr:=e_prices (l:=[c.fixed,c.inn,c.out,c.cut,c.lack]) (nn:=true) (by simp[maxLen])
 simp only[List.map_cons,List.map_nil,iv,slv_cons]at hpr
 (refine ce Tryz.func84 ?_;simp only[Tryz.f84];(have hb:=trivial;with_reducible repeat' (first|simp only[hb,Va.down,seval,TY84.down,List.length_map]|refine fsp ?_ ?_<;>intro hb|refine fd ?_|fail)))
 refine fw_ot (lst 112 c.rates (fun i (s:Option BRate) t h=>(i=0∧s=none∨0<i∧s=c.rates[i-1]?)∧h[0]?=some (.live 11 false false [[.bool c.firm,.int .i64 c.space,.int .i64 c.lo,.int .i64 c.hi,slv 3 true c.nn (c.rates.map BRate.cells),.int .i64 c.gas,.int .i64 c.fixed,.int .i64 c.inn,.int .i64 c.out,.int .i64 c.cut,.int .i64 c.lack]])∧t 1=.ptr 0 0 0∧t 6=slv 3 true c.nn (c.rates.map BRate.cells)∧t 7=.int .i64 c.rates.length∧t 8=.int .i64 i)
  (fun rest s=>ratesB rest s) (fun r e t h=>if r=true then e=.exit 0∧t 1=.ptr 0 0 0∧h[0]?=some (.live 11 false false [[.bool c.firm,.int .i64 c.space,.int .i64 c.lo,.int .i64 c.hi,slv 3 true c.nn (c.rates.map BRate.cells),.int .i64 c.gas,.int .i64 c.fixed,.int .i64 c.inn,.int .i64 c.out,.int .i64 c.cut,.int .i64 c.lack]])else e=.ret∧t 2=.bool false) ?_ ?_ none _ _ ?_) (fun e t h hk=>?_)
 ·rintro s t h Q' kQ ⟨hs,hh,h1,h6,h7,h8⟩
  (have hb:=trivial;with_reducible repeat' (first|simp only[hb,Va.down,seval,TY84.down,h1,h6,h7,h8,Int.lt_irrefl,decide_false]|refine fsp ?_ ?_<;>intro hb|refine fd ?_|fail))
  exact kQ _ _ _ (by simp[ratesB,h1,hh,up])
 ·rintro x rest i s t h J Q' kJ kQ hx hi ⟨hs,hh,h1,h6,h7,h8⟩
  have hd:decide ((i:Int)<(c.rates.length:Int))=true:=by simpa using hi
  have hA:=get_app hh
  have kF:∀{p:Option BRate},rateB p x=false→ratesB (x::rest) p=false:=fun h=>by simp[ratesB,h]
  have kT:∀{p:Option BRate},rateB p x=true→ratesB rest (some x)=ratesB (x::rest) p:=fun h=>by simp[ratesB,h]
  rcases hs with⟨rfl,rfl⟩|⟨hpos,rfl⟩
  ·have hw:=wrap_next hi hl
   simp only[Int.natCast_zero,Int.zero_add]at hd h8 hw
   (have hb:=trivial;with_reducible repeat' (first|simp only[hb,Va.down,seval,TY84.down,hA,h1,h6,h7,h8,hd,hx,BRate.cells,e_in,hw,Int.toNat_zero,Int.le_refl,beq_self_eq_true,Int.lt_irrefl,decide_false]|refine fsp ?_ ?_<;>intro hb|refine fd ?_|fail))
   all_goals first
    |exact kQ _ _ _ (by rw[if_neg (by rw[kF (by(rw[Bool.eq_false_iff];intro hcon;simp only[rateB,inB,Bool.and_eq_true,Bool.or_eq_true,Bool.not_eq_true',Bool.and_eq_false_iff,Bool.or_eq_false_iff,decide_eq_true_eq,decide_eq_false_iff_not,beq_iff_eq,beq_eq_false_iff_ne,ne_eq,Bool.not_eq_eq_eq_not,Bool.not_true,Bool.not_false]at *;omega))];simp)];exact⟨rfl,rfl⟩)
    |exact rnd_go (kJ _ _ (some x) ⟨.inr ⟨by omega,by simp[hx]⟩,hA _,by simp[up,h1],by simp[up,h6],by simp[up,h7],by simp[up]<;>omega⟩ (kT (by(simp only[rateB,inB,Bool.and_eq_true,Bool.or_eq_true,Bool.not_eq_true',Bool.and_eq_false_iff,Bool.or_eq_false_iff,decide_eq_true_eq,decide_eq_false_iff_not,beq_iff_eq,beq_eq_false_iff_ne,ne_eq,Bool.not_eq_eq_eq_not,Bool.not_true,Bool.not_false]at *;omega))))
  ·obtain⟨j,rfl⟩:∃j,i=j+1:=⟨i-1,by omega⟩
   obtain⟨q,hq⟩:∃q,c.rates[j]?=some q:=⟨c.rates[j],List.getElem?_eq_getElem (by omega)⟩
   have hj:IntKind.i64.wrap (((j+1:Nat):Int)-1)=(j:Int):=by unfold maxLen at hl;rw[wrap_of (by omega) (by omega)];omega
   have hz:(((j+1:Nat):Int)==0)=false:=by rw[beq_eq_false_iff_ne];omega
   have hg:decide (0<((j+1:Nat):Int))=true:=by rw[decide_eq_true_eq];omega
   simp only[Nat.add_sub_cancel,hq]at kJ kQ
   (have hb:=trivial;with_reducible repeat' (first|simp only[hb,Va.down,seval,TY84.down,hA,h1,h6,h7,h8,hd,hx,BRate.cells,e_in,wrap_next hi hl,hj,hz,hg,hq]|refine fsp ?_ ?_<;>intro hb|refine fd ?_|fail))
   all_goals first
    |exact kQ _ _ _ (by rw[if_neg (by rw[kF (by(rw[Bool.eq_false_iff];intro hcon;simp only[rateB,inB,Bool.and_eq_true,Bool.or_eq_true,Bool.not_eq_true',Bool.and_eq_false_iff,Bool.or_eq_false_iff,decide_eq_true_eq,decide_eq_false_iff_not,beq_iff_eq,beq_eq_false_iff_ne,ne_eq,Bool.not_eq_eq_eq_not,Bool.not_true,Bool.not_false]at *;omega))];simp)];exact⟨rfl,rfl⟩)
    |exact rnd_go (kJ _ _ (some x) ⟨.inr ⟨by omega,by simp[hx]⟩,hA _,by simp[up,h1],by simp[up,h6],by simp[up,h7],by simp[up]<;>omega⟩ (kT (by(simp only[rateB,inB,Bool.and_eq_true,Bool.or_eq_true,Bool.not_eq_true',Bool.and_eq_false_iff,Bool.or_eq_false_iff,decide_eq_true_eq,decide_eq_false_iff_not,beq_iff_eq,beq_eq_false_iff_ne,ne_eq,Bool.not_eq_eq_eq_not,Bool.not_true,Bool.not_false]at *;omega))))
 ·exact⟨.inl ⟨rfl,rfl⟩,rfl,by simp[up],by simp[up],by simp[up],by simp[up]⟩
 ·split at hk
  ·obtain⟨rfl,h1,hh⟩:=hk
   have hA:=get_app hh
   rename_i hr
   (have hb:=trivial;with_reducible repeat' (first|simp only[hb,Va.down,seval,TY84.down,hA,hh,h1,e_in,e_hours,hpr]|refine fsp ?_ ?_<;>intro hb|refine fd ?_|fail))
   all_goals simp[conB, *]
  ·obtain⟨rfl,h2⟩:=hk
   rename_i hr
   (have hb:=trivial;with_reducible repeat' (first|simp only[hb,Va.down,seval,TY84.down,h2]|refine fsp ?_ ?_<;>intro hb|refine fd ?_|fail))
   all_goals simp[conB,hr]
end Go.Proofs.YtdbiogihimdpcaaGreatDoor
