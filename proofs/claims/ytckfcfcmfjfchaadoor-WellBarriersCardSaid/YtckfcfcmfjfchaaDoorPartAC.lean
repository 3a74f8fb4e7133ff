/- The functions of the layer, walked. -/
import Derived.Test.YtckfcfcmfjfchaaDoorPartAB
import Derived.Test.YtckfcfcmfjfchaaDoorLibE
open List renaming length_map→ab8,map_cons→ab9,map_nil→acA,length_cons→acB,length_nil→acC,range→acE,mem_cons→acF,take→acG,take_of_length_le→acH,getElem?_eq_getElem→afD,nil_append→af4,append_nil→agR,cons_append→agT,mem_of_getElem?→agY,getElem?_set_ne→ahG,getElem?_eq_none→ajN,getElem?_zipWith→ajX,append_assoc→akV,getElem?_append_right→akW,mem_append→akX,range_succ→akY,length_replicate→akZ,getD_eq_getElem?_getD→ak0,getElem?_append_left→ak2,length_set→ak3,ext_getElem?→ak4,getElem?_set_self→ak5
open Bool renaming false_eq_true→acD,true_eq_false→acI,not_true→adL,true_and→ag5,eq_iff_iff→ajS,false_and→ak1
open Int renaming lt_irrefl→agD,ofNat→agU,toNat_natCast→ajU,natCast_zero→akU
open Nat renaming le_refl→agW
set_option linter.unusedSimpArgs false
set_option linter.unusedVariables false
namespace Go.Proofs.YtckfcfcmfjfchaaDoor
open Go.Ev Go Go.Ev.Net
set_option maxRecDepth 100000
set_option maxHeartbeats 16000000
theorem amV(l:List Int)(nn:Bool)(n:Int)(hl:l.length≤maxLen):Fe.call (.fn 21) [Bv 1 true nn (l.map iv),.int .i64 n] []=some (.ret (.bool (l.any (· ==n))),[]):=by
 (refine ce Tryd.func21 ?_;simp only[Tryd.f21];(have hb:=trivial;with_reducible repeat' (first|simp only[hb,Vc.down,seval,uZ.down,ab8]|refine Be ?_ ?_<;>intro hb|refine fd ?_|fail)))
 refine Iy (aQ 18 l (fun i (zz:Unit) t h=>t 0=Bv 1 true nn (l.map iv)∧t 1=.int .i64 n∧t 5=.int .i64 i∧(h=[])) (fun rest zz=>rest.any (· ==n)) (fun r e t h=>h=[]∧((e=.exit 0∧r=false)∨(e=.ret∧t 4=.bool true∧r=true))) ?_ ?_ () _ _ ?_) (fun e t h hk=>?_)
 ·rintro _ t h Q' kQ ⟨h0,h1,h5,rfl⟩
  (have hb:=trivial;with_reducible repeat' (first|simp only[hb,Vc.down,seval,uZ.down,h0,h1,h5,agD,decide_false,ab8]|refine Be ?_ ?_<;>intro hb|refine fd ?_|fail))
  exact kQ _ _ _ ⟨rfl,.inl ⟨rfl,rfl⟩⟩
 ·rintro x rest i _ t h J Q' kJ kQ hx hi ⟨h0,h1,h5,rfl⟩
  have hd:decide ((i:Int)<(l.length:Int))=true:=decide_eq_true (by omega)
  have hw:=Ew hi hl
  cases q:(x==n)
  ·(have hb:=trivial;with_reducible repeat' (first|simp only[hb,Vc.down,seval,uZ.down,h0,h1,h5,hd,hw,hx,iv,q,ab8]|refine Be ?_ ?_<;>intro hb|refine fd ?_|fail))
   (refine Bc (kJ _ _ () ⟨?_,?_,?_,rfl⟩ ?_);(simp[up,h0]);(simp[up,h1]);(simp[up]);(simp[q]))
  ·(have hb:=trivial;with_reducible repeat' (first|simp only[hb,Vc.down,seval,uZ.down,h0,h1,h5,hd,hw,hx,iv,q,ab8]|refine Be ?_ ?_<;>intro hb|refine fd ?_|fail))
   exact kQ _ _ _ ⟨rfl,.inr ⟨rfl,by simp[up],by simp[q]⟩⟩
 ·exact⟨by simp[up,Ph],by simp[up,Ph],by simp[up],rfl⟩
 obtain⟨rfl,⟨rfl,hr⟩|⟨rfl,h4,hr⟩⟩:=hk
 ·rw[hr]
  (have hb:=trivial;with_reducible repeat' (first|simp only[hb,Vc.down,seval,uZ.down]|refine Be ?_ ?_<;>intro hb|refine fd ?_|fail))
 ·rw[hr]
  (have hb:=trivial;with_reducible repeat' (first|simp only[hb,Vc.down,seval,uZ.down,h4]|refine Be ?_ ?_<;>intro hb|refine fd ?_|fail))
theorem akM(l:List Nat)(nn:Bool)(n:Nat)(hl:l.length≤maxLen):Fe.call (.fn 21) [Bv 1 true nn (l.map Ci),.int .i64 (n:Int)] []=some (.ret (.bool (l.contains n)),[]):=by
 have h:=amV (l.map agU) nn n (by simpa using hl)
 have e:(l.map agU).map iv=l.map Ci:=by rw[List.map_map];rfl
 have e2:(l.map agU).any (· ==(n:Int))=l.contains n:=by
  clear h e hl
  induction l with
  |nil=>rfl
  |cons a l ih=>
   rw[ab9,List.any_cons,ih,List.contains_cons]
   congr 1
   rw[ajS];simp
   omega
 rw[e,e2]at h
 exact h
def wyO(nb:Bool)(begin:List Nat):Option (List Nat)→List AV
 |some l=>[Bv 1 true nb ((begin++l).map Ci),.bool true]
 |none=>[.nils,.bool false]
theorem agG{p:Ae}{r c:Nat}(h1:0≤p.one)(h2:0≤p.other):toI p (r:Int)=match dK (p.one.toNat,p.other.toNat,c) r with
 |none=> -1
 |some v=>(v:Int):=by
 unfold toI dK
 by_cases e1:p.one=(r:Int)
 ·rw[if_pos e1,if_pos (show p.one.toNat=r by omega)];simp only;omega
 ·rw[if_neg e1,if_neg (show ¬p.one.toNat=r by omega)]
  by_cases e2:p.other=(r:Int)
  ·rw[if_pos e2,if_pos (show p.other.toNat=r by omega)];simp only;omega
  ·rw[if_neg e2,if_neg (show ¬p.other.toNat=r by omega)]
theorem anA{w:Au}{N:Nat}(hw:mI w N){ts:List Bool}{nn:Bool}(ht:ts.length=w.parts.length):∀(f most:Nat) (begin:List Nat) (nb:Bool) (rs:List Nat) (at_:Nat),most≤1000→(at_::rs).Nodup→(∀r∈at_::rs,r<N)→begin.length=rs.length→N≤rs.length+f→
 Fe.call (.fn 40) [.agg [.int .i64 w.rooms,.int .i64 w.need,Bv 9 true w.nn (w.parts.map Ae.cells)],Bv 1 true nn (ts.map Hu),.int .i64 (most:Int),Bv 1 true nb (begin.map Ci),Bv 1 true true ((at_::rs).reverse.map Ci)] []=some (.ret (.tup (wyO nb begin (Ik (Fz w ts) f most (at_::rs) at_))),[]):=by
 intro f
 induction f with
 |zero=>
  intro most begin nb rs at_ _ hnd hlt _ hfu
  have:=Xm N _ hnd hlt
  simp at this;omega
 |succ f ih=>
 intro most begin nb rs at_ hmo hnd hlt hbl hfu
 have n8:=hw.n8
 obtain⟨rm,hrm⟩:∃r,(at_::rs).reverse.map Ci=r:=⟨_,rfl⟩
 have hrl:rm.length=rs.length+1:=by rw[←hrm];simp
 have hlast:rm[rs.length]?=some [.int .i64 (at_:Int)]:=by rw[←hrm];simp[Ci]
 have hrn:rs.length+1≤8:=by have:=Xm N _ hnd hlt;simp at this;omega
 have hw1:IntKind.i64.wrap (((rs.length+1:Nat):Int)-1)=(rs.length:Int):=by
  have:=Ee (n:=(rs.length:Int)) (by omega) (by omega)
  rw[show(((rs.length+1:Nat):Int)-1)=(rs.length:Int) by omega];exact this
 rw[hrm]
 have key:vL Fe 40 [.agg [.int .i64 w.rooms,.int .i64 w.need,Bv 9 true w.nn (w.parts.map Ae.cells)],Bv 1 true nn (ts.map Hu),.int .i64 (most:Int),Bv 1 true nb (begin.map Ci),Bv 1 true true rm] [] fun o h'=>(o,h')=(.ret (.tup (wyO nb begin (Ik (Fz w ts) (f+1) most (at_::rs) at_))),[]):=by
  refine pF rfl Tryd.func40 rfl rfl ?_
  simp only[Tryd.f40]
  by_cases e1:at_=1
  ·have q1:((at_:Int)==1)=true:=by simp[e1]
   (have hb:=trivial;with_reducible repeat' (first|simp only[hb,Vc.down,seval,Nz.down,hrl,hlast,hw1,q1,ajU]|refine Be ?_ ?_<;>intro hb|refine fd ?_|fail))
   rw[Ik,if_pos e1,wyO,agR]
  ·have q1:((at_:Int)==1)=false:=by simp;omega
   (have hb:=trivial;with_reducible repeat' (first|simp only[hb,Vc.down,seval,Nz.down,hrl,hlast,hw1,q1,ajU]|refine Be ?_ ?_<;>intro hb|refine fd ?_|fail))
   obtain⟨ans,hans⟩:∃a,Ik (Fz w ts) (f+1) most (at_::rs) at_=a:=⟨_,rfl⟩
   rw[hans]
   refine Iy (aQ 78 w.parts (fun i (_:Unit) t h=>t 1=Bv 1 true nn (ts.map Hu)∧t 2=.int .i64 (most:Int)∧t 3=Bv 1 true nb (begin.map Ci)∧t 4=Bv 1 true true rm∧t 5=.ptr 0 0 0∧t 12=.int .i64 (at_:Int)∧t 13=.int .i64 (i:Int)∧(∃fl x,h[0]?=some (.live 3 fl x [[.int .i64 w.rooms,.int .i64 w.need,Bv 9 true w.nn (w.parts.map Ae.cells)]]))∧ans=Gq (fun i e=>match dK e at_ with
    |none=>none
    |some r=>if r∈at_::rs∨most<e.2.2 then none else(Ik (Fz w ts) f (most-e.2.2) (r::at_::rs) r).map (i::·)) i ((Fz w ts).drop i)) (fun _ _=>()) (fun _ e t h=>(e=.exit 0∧ans=none)∨(e=.ret∧∃l,ans=some l∧t 10=Bv 1 true nb ((begin++l).map Ci)∧t 11=.bool true)) ?_ ?_ () _ _ ?_) (fun e t h hk=>?_)
   ·rintro _ t h Q' kQ ⟨g1,g2,g3,g4,g5,g12,g13,⟨fl,x,gb⟩,ha⟩
    (have hb:=trivial;with_reducible repeat' (first|simp only[hb,Vc.down,seval,Nz.down,g5,g13,gb,ab8,agD,decide_false]|refine Be ?_ ?_<;>intro hb|refine fd ?_|fail))
    exact kQ _ _ _ (.inl ⟨rfl,by rw[ha,List.drop_eq_nil_of_le (by rw[qB ht];exact agW _)];rfl⟩)
   ·rintro p rest i _ t h J Q' kJ kQ hx hi ⟨g1,g2,g3,g4,g5,g12,g13,⟨fl,x,gb⟩,ha⟩
    have hdd:decide ((i:Int)<(w.parts.length:Int))=true:=decide_eq_true (by omega)
    have hlen:=hw.len
    have hww:=Ew hi (by unfold maxLen;omega)
    have hpo:=hw.part p (agY hx)
    obtain⟨tt,htt⟩:∃b,ts[i]?=some b:=⟨_,afD (by omega)⟩
    have hE:(Fz w ts)[i]?=some (p.one.toNat,p.other.toNat,if tt=true then 1 else 0):=by simp[Fz,ajX,hx,htt]
    rw[List.drop_eq_getElem?_toList_append,hE]at ha
    simp only[Option.toList_some,List.singleton_append]at ha
    rw[Gq]at ha
    have hT:=aoX p (at_:Int)
    simp only[Ae.cells]at hT
    have hwl:IntKind.i64.wrap ((most:Int)-1)=(most:Int)-1:=Ee (by omega) (by omega)
    have skip:(match dK (p.one.toNat,p.other.toNat,if tt=true then 1 else 0) at_ with
     |none=>none
     |some r=>if r∈at_::rs∨most<(if tt=true then 1 else 0)then none else(Ik (Fz w ts) f (most-(if tt=true then 1 else 0)) (r::at_::rs) r).map (i::·))=none→ans=Gq (fun i e=>match dK e at_ with
    |none=>none
    |some r=>if r∈at_::rs∨most<e.2.2 then none else(Ik (Fz w ts) f (most-e.2.2) (r::at_::rs) r).map (i::·)) (i+1) ((Fz w ts).drop (i+1)):=fun h=>by
     simp only[h]at ha;exact ha
    cases hto:dK (p.one.toNat,p.other.toNat,if tt=true then 1 else 0) at_ with
    |none=>
     have e1:toI p (at_:Int)= -1:=by rw[agG hpo.1.1 hpo.2.1.1,hto]
     have hs:=skip (by rw[hto])
     rw[e1]at hT
     cases tt with
     |false=>
      (have hb:=trivial;with_reducible repeat' (first|simp only[hb,Vc.down,seval,Nz.down,g1,g2,g3,g4,g5,g12,g13,gb,hdd,hww,hT,htt,hx,Hu,Ae.cells,ab8]|refine Be ?_ ?_<;>intro hb|refine fd ?_|fail))
      exact Bc (kJ _ _ () ⟨by simp[up,g1],by simp[up,g2],by simp[up,g3],by simp[up,g4],by simp[up,g5],by simp[up,g12],by simp[up],⟨fl,x,gb⟩,hs⟩ rfl)
     |true=>
      (have hb:=trivial;with_reducible repeat' (first|simp only[hb,Vc.down,seval,Nz.down,g1,g2,g3,g4,g5,g12,g13,gb,hdd,hww,hT,htt,hx,Hu,Ae.cells,hwl,ab8]|refine Be ?_ ?_<;>intro hb|refine fd ?_|fail))
      exact Bc (kJ _ _ () ⟨by simp[up,g1],by simp[up,g2],by simp[up,g3],by simp[up,g4],by simp[up,g5],by simp[up,g12],by simp[up],⟨fl,x,gb⟩,hs⟩ rfl)
    |some r=>
    have e1:toI p (at_:Int)=(r:Int):=by rw[agG hpo.1.1 hpo.2.1.1,hto]
    rw[e1]at hT
    have hrN:r<N:=by
     have h1:=hpo.1.2;have h2:=hpo.2.1.2
     have he:=Vt (E:=[(p.one.toNat,p.other.toNat,if tt=true then 1 else 0)]) (by simp) hto
     rcases he with he|he<;>simp at he<;>omega
    have c1:decide ((r:Int)<0)=false:=decide_eq_false (by omega)
    have hH:=akM (at_::rs).reverse true r (by simp[maxLen];omega)
    rw[hrm]at hH
    cases hin:(at_::rs).reverse.contains r with
    |true=>
     have hs:=skip (by rw[hto];simp only;rw[if_pos (.inl (by simpa [or_comm]using hin))])
     rw[hin]at hH
     cases tt with
     |false=>
      (have hb:=trivial;with_reducible repeat' (first|simp only[hb,Vc.down,seval,Nz.down,g1,g2,g3,g4,g5,g12,g13,gb,hdd,hww,hT,htt,hx,Hu,Ae.cells,c1,hH,ab8]|refine Be ?_ ?_<;>intro hb|refine fd ?_|fail))
      exact Bc (kJ _ _ () ⟨by simp[up,g1],by simp[up,g2],by simp[up,g3],by simp[up,g4],by simp[up,g5],by simp[up,g12],by simp[up],⟨fl,x,gb⟩,hs⟩ rfl)
     |true=>
      (have hb:=trivial;with_reducible repeat' (first|simp only[hb,Vc.down,seval,Nz.down,g1,g2,g3,g4,g5,g12,g13,gb,hdd,hww,hT,htt,hx,Hu,Ae.cells,hwl,c1,hH,ab8]|refine Be ?_ ?_<;>intro hb|refine fd ?_|fail))
      exact Bc (kJ _ _ () ⟨by simp[up,g1],by simp[up,g2],by simp[up,g3],by simp[up,g4],by simp[up,g5],by simp[up,g12],by simp[up],⟨fl,x,gb⟩,hs⟩ rfl)
    |false=>
    rw[hin]at hH
    have hnin:r∉at_::rs:=by
     intro h
     have h2:(at_::rs).reverse.contains r=true:=by simpa [or_comm]using h
     rw[hin]at h2;cases h2
    by_cases hlf:most<(if tt=true then 1 else 0)
    ·have hs:=skip (by rw[hto];simp only;rw[if_pos (.inr hlf)])
     cases tt with
     |false=>simp at hlf
     |true=>
      obtain rfl:most=0:=by simpa using hlf
      have hwm:IntKind.i64.wrap (-1)= -1:=Ee (by omega) (by omega)
      have c3:decide ((-1:Int)<0)=true:=rfl
      (have hb:=trivial;with_reducible repeat' (first|simp only[hb,Vc.down,seval,Nz.down,g1,g2,g3,g4,g5,g12,g13,gb,hdd,hww,hT,htt,hx,Hu,Ae.cells,hwm,c1,c3,hH,ab8,akU,Int.zero_sub,Int.reduceNeg]|refine Be ?_ ?_<;>intro hb|refine fd ?_|fail))
      exact Bc (kJ _ _ () ⟨by simp[up,g1],by simp[up,g2],by simp[up,g3],by simp[up,g4],by simp[up,g5],by simp[up,g12],by simp[up],⟨fl,x,gb⟩,hs⟩ rfl)
    obtain⟨m',hm',hmI⟩:∃m':Nat,most-(if tt=true then 1 else 0)=m'∧(m':Int)=if tt=true then(most:Int)-1 else most:=by
     refine⟨_,rfl,?_⟩
     cases tt
     ·simp
     ·simp at hlf ⊢;omega
    have ih1:=ih m' (begin++[i]) true (at_::rs) r (by omega) (List.nodup_cons.2 ⟨hnin,hnd⟩) (fun x hx=>by
     rcases acF.1 hx with rfl|hx
     ·exact hrN
     ·exact hlt x hx) (by simp[hbl]) (by simp;omega)
    rw[hto]at ha
    simp only[hm',if_neg (not_or.2 ⟨hnin,hlf⟩)]at ha
    obtain⟨res,hres⟩:∃z,Ik (Fz w ts) f m' (r::at_::rs) r=z:=⟨_,rfl⟩
    rw[hres]at ih1 ha
    have c2:decide ((m':Int)<0)=false:=decide_eq_false (by omega)
    have hap:=fun(h:Aa)=>akR (n:=1) (h:=h) (nfl:=true) (rows:=rm) (by intro h;rw[h]at hrl;simp at hrl) (by omega)
    have hpos:=Ac gb
    have hs0:nC (h.length-1) 1 h.length=1001:=by unfold nC;rw[if_neg (by omega)];omega
    have hsf:∀k,nC (h.length-1) 1 (h.length+k)=k+1001:=fun k=>by unfold nC;rw[if_neg (by omega)];omega
    have h39:(rs.length≤549755813886)=True:=eq_true (by omega)
    have hrm2:(r::at_::rs).reverse.map Ci=rm++[[.int .i64 (r:Int)]]:=by rw[←hrm];simp[Ci]
    have hbm2:(begin++[i]).map Ci=begin.map Ci++[[.int .i64 (i:Int)]]:=by simp[Ci]
    have htk2:acG (rs.length+2) (rm++[[AV.int .i64 (r:Int)]])=rm++[[AV.int .i64 (r:Int)]]:=acH (by simp[hrl])
    rw[hrm2,hbm2]at ih1
    rw[Bt]at hH g4
    simp only[Bt]at ih1
    have fin:∀(t':Tm) (h':Aa),res=none→t' 1=t 1→t' 2=t 2→t' 3=t 3→t' 4=t 4→t' 5=t 5→t' 12=t 12→t' 13=.int .i64 ((i+1:Nat):Int)→(∃fl x,h'[0]?=some (.live 3 fl x [[.int .i64 w.rooms,.int .i64 w.need,Bv 9 true w.nn (w.parts.map Ae.cells)]]))→J t' h':=fun t' h' e0 e1 e2 e3 e4 e5 e6 e7 e8=>kJ _ _ () ⟨by rw[e1,g1],by rw[e2,g2],by rw[e3,g3],by rw[e4,g4,Bt],by rw[e5,g5],by rw[e6,g12],e7,e8,by rw[e0]at ha;exact ha⟩ rfl
    cases tt with
    |false=>
     simp only[acD,if_false]at hmI
     rw[←hmI]at g2
     cases res with
     |none=>
      simp only[wyO]at ih1
      cases begin with
      |nil=>
       rw[acA,af4]at ih1
       rw[acA]at g3
       cases nb
       ·rw[Tn]at g3
        (have hb:=trivial;with_reducible repeat' (first|simp only[hb,Vc.down,seval,Nz.down,g1,g2,g3,g4,g5,g12,g13,gb,hdd,hww,hT,htt,hx,Hu,Ae.cells,c1,c2,hH,ab8,Bt,hap,hrl,ih1,h39,htk2]|refine Be ?_ ?_<;>intro hb|((refine Lh (h.length-1) 1 ?_ ?_);(simp (discharger:=decide) only[La,Ib,ab9,acA,Gl,Lm,Lc,Le,Ic,acB,acC,hs0,hsf];kernel_rfl);intro _)|refine vM ?_|fail))
        exact Bc (fin _ _ rfl (by simp[up]) (by simp[up]) (by simp[up]) (by simp[up]) (by simp[up]) (by simp[up]) (by simp[up]) ⟨fl,x,Ai gb _⟩)
       ·rw[Bt]at g3
        (have hb:=trivial;with_reducible repeat' (first|simp only[hb,Vc.down,seval,Nz.down,g1,g2,g3,g4,g5,g12,g13,gb,hdd,hww,hT,htt,hx,Hu,Ae.cells,c1,c2,hH,ab8,Bt,hap,hrl,ih1,h39,htk2]|refine Be ?_ ?_<;>intro hb|((refine Lh (h.length-1) 1 ?_ ?_);(simp (discharger:=decide) only[La,Ib,ab9,acA,Gl,Lm,Lc,Le,Ic,acB,acC,hs0,hsf];kernel_rfl);intro _)|refine vM ?_|fail))
        exact Bc (fin _ _ rfl (by simp[up]) (by simp[up]) (by simp[up]) (by simp[up]) (by simp[up]) (by simp[up]) (by simp[up]) ⟨fl,x,Ai gb _⟩)
      |cons b0 begin=>
       rw[ab9,Sm]at g3
       rw[ab9,agT]at ih1
       simp only[acB]at hbl
       have h40:(begin.length≤549755813887)=True:=eq_true (by omega)
       have h41:(begin.length+1≤549755813887)=True:=eq_true (by omega)
       have h42:(begin.length≤549755813886)=True:=eq_true (by omega)
       have htk3:acG (begin.length+1) (begin.map Ci++[[AV.int .i64 (i:Int)]])=begin.map Ci++[[AV.int .i64 (i:Int)]]:=acH (by simp)
       (have hb:=trivial;with_reducible repeat' (first|simp only[hb,Vc.down,seval,Nz.down,g1,g2,g3,g4,g5,g12,g13,gb,hdd,hww,hT,htt,hx,Hu,Ae.cells,c1,c2,hH,ab8,Bt,hap,hrl,ih1,h39,htk2,h40,h41,h42,htk3,ab9,acB]|refine Be ?_ ?_<;>intro hb|((refine Lh (h.length-1) 1 ?_ ?_);(simp (discharger:=decide) only[La,Ib,ab9,acA,Gl,Lm,Lc,Le,Ic,acB,acC,hs0,hsf];kernel_rfl);intro _)|refine vM ?_|fail))
       exact Bc (fin _ _ rfl (by simp[up]) (by simp[up]) (by simp[up]) (by simp[up]) (by simp[up]) (by simp[up]) (by simp[up]) ⟨fl,x,Ai gb _⟩)
     |some l=>
      obtain⟨V,hV⟩:∃V,((begin++[i])++l).map Ci=V:=⟨_,rfl⟩
      have hV2:Bv 1 true nb ((begin++(i::l)).map Ci)=.imm 1 true V:=by
       rw[gV (by simp),←hV,akV];rfl
      simp only[wyO,Bt]at ih1
      rw[hV]at ih1
      have himm:hasImm 7 (AV.imm 1 true V)=true:=by rw[←hV];cases begin<;>rfl
      clear hV
      cases begin with
      |nil=>
       rw[acA,af4]at ih1
       rw[acA]at g3
       cases nb
       ·rw[Tn]at g3
        (have hb:=trivial;with_reducible repeat' (first|simp only[hb,Vc.down,seval,Nz.down,g1,g2,g3,g4,g5,g12,g13,gb,hdd,hww,hT,htt,hx,Hu,Ae.cells,c1,c2,hH,ab8,Bt,hap,hrl,ih1,h39,htk2,himm,acI,adL,acD,if_false]|refine Be ?_ ?_<;>intro hb|((refine Lh (h.length-1) 1 ?_ ?_);(simp (discharger:=decide) only[La,Ib,ab9,acA,Gl,Lm,Lc,Le,Ic,acB,acC,hs0,hsf];kernel_rfl);intro _)|refine vM ?_|fail))
        exact kQ _ _ _ (.inr ⟨rfl,i::l,by rw[ha];rfl,by rw[hV2];simp[up],by simp[up]⟩)
       ·rw[Bt]at g3
        (have hb:=trivial;with_reducible repeat' (first|simp only[hb,Vc.down,seval,Nz.down,g1,g2,g3,g4,g5,g12,g13,gb,hdd,hww,hT,htt,hx,Hu,Ae.cells,c1,c2,hH,ab8,Bt,hap,hrl,ih1,h39,htk2,himm,acI,adL,acD,if_false]|refine Be ?_ ?_<;>intro hb|((refine Lh (h.length-1) 1 ?_ ?_);(simp (discharger:=decide) only[La,Ib,ab9,acA,Gl,Lm,Lc,Le,Ic,acB,acC,hs0,hsf];kernel_rfl);intro _)|refine vM ?_|fail))
        exact kQ _ _ _ (.inr ⟨rfl,i::l,by rw[ha];rfl,by rw[hV2];simp[up],by simp[up]⟩)
      |cons b0 begin=>
       rw[ab9,Sm]at g3
       rw[ab9,agT]at ih1
       simp only[acB]at hbl
       have h40:(begin.length≤549755813887)=True:=eq_true (by omega)
       have h41:(begin.length+1≤549755813887)=True:=eq_true (by omega)
       have h42:(begin.length≤549755813886)=True:=eq_true (by omega)
       have htk3:acG (begin.length+1) (begin.map Ci++[[AV.int .i64 (i:Int)]])=begin.map Ci++[[AV.int .i64 (i:Int)]]:=acH (by simp)
       (have hb:=trivial;with_reducible repeat' (first|simp only[hb,Vc.down,seval,Nz.down,g1,g2,g3,g4,g5,g12,g13,gb,hdd,hww,hT,htt,hx,Hu,Ae.cells,c1,c2,hH,ab8,Bt,hap,hrl,ih1,h39,htk2,himm,acI,adL,acD,if_false,h40,h41,h42,htk3,ab9,acB]|refine Be ?_ ?_<;>intro hb|((refine Lh (h.length-1) 1 ?_ ?_);(simp (discharger:=decide) only[La,Ib,ab9,acA,Gl,Lm,Lc,Le,Ic,acB,acC,hs0,hsf];kernel_rfl);intro _)|refine vM ?_|fail))
       exact kQ _ _ _ (.inr ⟨rfl,i::l,by rw[ha];rfl,by rw[hV2];simp[up],by simp[up]⟩)
    |true=>
     simp only[if_true]at hmI
     have hwl2:IntKind.i64.wrap ((most:Int)-1)=(m':Int):=by rw[hwl,hmI]
     cases res with
     |none=>
      simp only[wyO]at ih1
      cases begin with
      |nil=>
       rw[acA,af4]at ih1
       rw[acA]at g3
       cases nb
       ·rw[Tn]at g3
        (have hb:=trivial;with_reducible repeat' (first|simp only[hb,Vc.down,seval,Nz.down,g1,g2,g3,g4,g5,g12,g13,gb,hdd,hww,hT,htt,hx,Hu,Ae.cells,c1,c2,hH,ab8,Bt,hap,hrl,ih1,h39,htk2,hwl2]|refine Be ?_ ?_<;>intro hb|((refine Lh (h.length-1) 1 ?_ ?_);(simp (discharger:=decide) only[La,Ib,ab9,acA,Gl,Lm,Lc,Le,Ic,acB,acC,hs0,hsf];kernel_rfl);intro _)|refine vM ?_|fail))
        exact Bc (fin _ _ rfl (by simp[up]) (by simp[up]) (by simp[up]) (by simp[up]) (by simp[up]) (by simp[up]) (by simp[up]) ⟨fl,x,Ai gb _⟩)
       ·rw[Bt]at g3
        (have hb:=trivial;with_reducible repeat' (first|simp only[hb,Vc.down,seval,Nz.down,g1,g2,g3,g4,g5,g12,g13,gb,hdd,hww,hT,htt,hx,Hu,Ae.cells,c1,c2,hH,ab8,Bt,hap,hrl,ih1,h39,htk2,hwl2]|refine Be ?_ ?_<;>intro hb|((refine Lh (h.length-1) 1 ?_ ?_);(simp (discharger:=decide) only[La,Ib,ab9,acA,Gl,Lm,Lc,Le,Ic,acB,acC,hs0,hsf];kernel_rfl);intro _)|refine vM ?_|fail))
        exact Bc (fin _ _ rfl (by simp[up]) (by simp[up]) (by simp[up]) (by simp[up]) (by simp[up]) (by simp[up]) (by simp[up]) ⟨fl,x,Ai gb _⟩)
      |cons b0 begin=>
       rw[ab9,Sm]at g3
       rw[ab9,agT]at ih1
       simp only[acB]at hbl
       have h40:(begin.length≤549755813887)=True:=eq_true (by omega)
       have h41:(begin.length+1≤549755813887)=True:=eq_true (by omega)
       have h42:(begin.length≤549755813886)=True:=eq_true (by omega)
       have htk3:acG (begin.length+1) (begin.map Ci++[[AV.int .i64 (i:Int)]])=begin.map Ci++[[AV.int .i64 (i:Int)]]:=acH (by simp)
       (have hb:=trivial;with_reducible repeat' (first|simp only[hb,Vc.down,seval,Nz.down,g1,g2,g3,g4,g5,g12,g13,gb,hdd,hww,hT,htt,hx,Hu,Ae.cells,c1,c2,hH,ab8,Bt,hap,hrl,ih1,h39,htk2,h40,h41,h42,htk3,ab9,acB,hwl2]|refine Be ?_ ?_<;>intro hb|((refine Lh (h.length-1) 1 ?_ ?_);(simp (discharger:=decide) only[La,Ib,ab9,acA,Gl,Lm,Lc,Le,Ic,acB,acC,hs0,hsf];kernel_rfl);intro _)|refine vM ?_|fail))
       exact Bc (fin _ _ rfl (by simp[up]) (by simp[up]) (by simp[up]) (by simp[up]) (by simp[up]) (by simp[up]) (by simp[up]) ⟨fl,x,Ai gb _⟩)
     |some l=>
      obtain⟨V,hV⟩:∃V,((begin++[i])++l).map Ci=V:=⟨_,rfl⟩
      have hV2:Bv 1 true nb ((begin++(i::l)).map Ci)=.imm 1 true V:=by
       rw[gV (by simp),←hV,akV];rfl
      simp only[wyO,Bt]at ih1
      rw[hV]at ih1
      have himm:hasImm 7 (AV.imm 1 true V)=true:=by rw[←hV];cases begin<;>rfl
      clear hV
      cases begin with
      |nil=>
       rw[acA,af4]at ih1
       rw[acA]at g3
       cases nb
       ·rw[Tn]at g3
        (have hb:=trivial;with_reducible repeat' (first|simp only[hb,Vc.down,seval,Nz.down,g1,g2,g3,g4,g5,g12,g13,gb,hdd,hww,hT,htt,hx,Hu,Ae.cells,c1,c2,hH,ab8,Bt,hap,hwl2,hrl,ih1,h39,htk2,himm,acI,adL,acD,if_false]|refine Be ?_ ?_<;>intro hb|((refine Lh (h.length-1) 1 ?_ ?_);(simp (discharger:=decide) only[La,Ib,ab9,acA,Gl,Lm,Lc,Le,Ic,acB,acC,hs0,hsf];kernel_rfl);intro _)|refine vM ?_|fail))
        exact kQ _ _ _ (.inr ⟨rfl,i::l,by rw[ha];rfl,by rw[hV2];simp[up],by simp[up]⟩)
       ·rw[Bt]at g3
        (have hb:=trivial;with_reducible repeat' (first|simp only[hb,Vc.down,seval,Nz.down,g1,g2,g3,g4,g5,g12,g13,gb,hdd,hww,hT,htt,hx,Hu,Ae.cells,c1,c2,hH,ab8,Bt,hap,hwl2,hrl,ih1,h39,htk2,himm,acI,adL,acD,if_false]|refine Be ?_ ?_<;>intro hb|((refine Lh (h.length-1) 1 ?_ ?_);(simp (discharger:=decide) only[La,Ib,ab9,acA,Gl,Lm,Lc,Le,Ic,acB,acC,hs0,hsf];kernel_rfl);intro _)|refine vM ?_|fail))
        exact kQ _ _ _ (.inr ⟨rfl,i::l,by rw[ha];rfl,by rw[hV2];simp[up],by simp[up]⟩)
      |cons b0 begin=>
       rw[ab9,Sm]at g3
       rw[ab9,agT]at ih1
       simp only[acB]at hbl
       have h40:(begin.length≤549755813887)=True:=eq_true (by omega)
       have h41:(begin.length+1≤549755813887)=True:=eq_true (by omega)
       have h42:(begin.length≤549755813886)=True:=eq_true (by omega)
       have htk3:acG (begin.length+1) (begin.map Ci++[[AV.int .i64 (i:Int)]])=begin.map Ci++[[AV.int .i64 (i:Int)]]:=acH (by simp)
       (have hb:=trivial;with_reducible repeat' (first|simp only[hb,Vc.down,seval,Nz.down,g1,g2,g3,g4,g5,g12,g13,gb,hdd,hww,hT,htt,hx,Hu,Ae.cells,c1,c2,hH,ab8,Bt,hap,hwl2,hrl,ih1,h39,htk2,himm,acI,adL,acD,if_false,h40,h41,h42,htk3,ab9,acB]|refine Be ?_ ?_<;>intro hb|((refine Lh (h.length-1) 1 ?_ ?_);(simp (discharger:=decide) only[La,Ib,ab9,acA,Gl,Lm,Lc,Le,Ic,acB,acC,hs0,hsf];kernel_rfl);intro _)|refine vM ?_|fail))
       exact kQ _ _ _ (.inr ⟨rfl,i::l,by rw[ha];rfl,by rw[hV2];simp[up],by simp[up]⟩)
   ·exact⟨by simp[up,Ph],by simp[up,Ph],by simp[up,Ph],by simp[up,Ph],by simp[up,Ph],by simp[up],by simp[up],⟨_,_,rfl⟩,by rw[←hans,Ik,if_neg e1];rfl⟩
   ·rcases hk with⟨rfl,rfl⟩|⟨rfl,l,rfl,g10,g11⟩
    ·(have hb:=trivial;with_reducible repeat' (first|simp only[hb,Vc.down,seval,Nz.down,wyO]|refine Be ?_ ?_<;>intro hb|refine fd ?_|fail))
    ·(have hb:=trivial;with_reducible repeat' (first|simp only[hb,Vc.down,seval,Nz.down,g10,g11,wyO]|refine Be ?_ ?_<;>intro hb|refine fd ?_|fail))
 exact key.eq
def frO:Option (List Nat)→List AV
 |some l=>[Bv 1 true false (l.map Ci),.bool true]
 |none=>[.nils,.bool false]
theorem eI{w:Au}{N:Nat}(hw:mI w N)(h12:w.parts.length≤12)(ts:List Bool):Yh (Fz w ts) N w.parts.length≤13:=by
 have n2:=hw.n2
 have n8:=hw.n8
 rcases ae8 (len:=w.parts.length) n2 (by omega) (Ll hw ts)with h|h<;>omega
theorem adN{w:Au}{N:Nat}(hw:mI w N)(h12:w.parts.length≤12)(d:Int):
 Fe.call (.fn 14) [.agg [.int .i64 w.rooms,.int .i64 w.need,Bv 9 true w.nn (w.parts.map Ae.cells)],.int .i64 d] []=some (.ret (.tup (frO (Ik (Fz w (Ax w d)) N (Rj w N d) [0] 0))),[]):=by
 have h1:=pU w d hw.len hw.ne
 have h2:=qK hw (nn:=true) (Js w d)
 have n2:=hw.n2
 have hn:=eI hw h12 (Ax w d)
 have h3:=anA hw (nn:=true) (Js w d) N (Rj w N d) [] false [] 0 (by unfold Rj;omega) (by simp) (by simp;omega) rfl (by simp)
 have hl:=Js w d
 have htk:acG w.parts.length ((Ax w d).map Hu)=(Ax w d).map Hu:=acH (by simp[hl])
 rw[Bt]at h2
 simp only[Bt,acA,Tn,List.reverse_singleton,ab9,Ci,akU]at h3
 have e3:wyO false [] (Ik (Fz w (Ax w d)) N (Rj w N d) [0] 0)=frO (Ik (Fz w (Ax w d)) N (Rj w N d) [0] 0):=by
  cases Ik (Fz w (Ax w d)) N (Rj w N d) [0] 0<;>rfl
 rw[e3]at h3
 rw[show Yh (Fz w (Ax w d)) N w.parts.length=Rj w N d from rfl]at h2
 generalize Ik (Fz w (Ax w d)) N (Rj w N d) [0] 0=res at *
 generalize Rj w N d=m at *
 have hrl:((Ax w d).map Hu).length=w.parts.length:=by simp[hl]
 generalize(Ax w d).map Hu=rows at *
 cases res with
 |none=>
  simp only[frO]at h3 ⊢
  (refine ce Tryd.func14 ?_;simp only[Tryd.f14];(have hb:=trivial;with_reducible repeat' (first|simp only[hb,Vc.down,seval,agZ.down,h1,h2,h3,hl,htk,hrl]|refine Be ?_ ?_<;>intro hb|refine fdl ?_|fail)))
 |some l=>
  simp only[frO]at h3 ⊢
  cases l with
  |nil=>
   rw[acA,Tn]at h3 ⊢
   (refine ce Tryd.func14 ?_;simp only[Tryd.f14];(have hb:=trivial;with_reducible repeat' (first|simp only[hb,Vc.down,seval,agZ.down,h1,h2,h3,hl,htk,hrl]|refine Be ?_ ?_<;>intro hb|refine fdl ?_|fail)))
  |cons a l=>
   rw[ab9,Sm]at h3 ⊢
   have himm:hasImm 7 (.imm 1 true (Ci a::l.map Ci))=true:=rfl
   (refine ce Tryd.func14 ?_;simp only[Tryd.f14];(have hb:=trivial;with_reducible repeat' (first|simp only[hb,Vc.down,seval,agZ.down,h1,h2,h3,hl,htk,hrl,himm,acI,adL,acD,if_false]|refine Be ?_ ?_<;>intro hb|refine fdl ?_|fail)))
structure LLH(lo:Nat)(ov:AV)(h:Aa)(rows Q:List (List AV))(Ro:List Nat):Prop where
 own:aeM 0 1 false rows ov h
 nil:rows=[]→ov=.nils
 q:Bm (rd 5 (hf h)) rows=some (Q,Ro)
 dx:∀b∈Ro,lo≤b
 dov:∀st b r n,ov=.slr st b r n→lo≤b∧b∉Ro∧b<h.length
theorem LLH.keep{lo:Nat}{ov:AV}{h h':Aa}{rows Q:List (List AV)}{Ro:List Nat}(I:LLH lo ov h rows Q Ro)(hl:h.length≤h'.length)(k:∀b,b<h.length→h'[b]?=h[b]?):LLH lo ov h' rows Q Ro:=by
 refine⟨?_,I.nil,?_,I.dx,fun st b r n e=>?_⟩
 ·rcases I.own with h1|⟨b,w,h1,h2⟩
  ·exact .inl h1
  ·exact .inr ⟨b,w,h1,by rw[k b (Ac h2)];exact h2⟩
 ·refine bJ I.q fun j hj z hz=>?_
  show(h'[j]?).bind Aw=_
  rw[k j (fC (by omega) I.q j hj)];exact hz
 ·obtain⟨a,b,c⟩:=I.dov st b r n e
  exact⟨a,b,by omega⟩
theorem LLH.snoc{lo:Nat}{ov:AV}{h h':Aa}{rows Q:List (List AV)}{Ro:List Nat}(I:LLH lo ov h rows Q Ro)(hl:h.length≤h'.length)(k:∀b,b<h.length→h'[b]?=h[b]?){v:AV}{x:List Nat}(B:Si v x h' h.length)(hlo:lo≤h.length)(a:CB){m n:Nat}(hm:m=h'.length+1)(hn:n=rows.length+1):
 ∃R',R'.length≤1∧LLH lo (.slr 1 m 0 n) (kl 0 ov h'++[a,.live 1 false false (rows++[[v]])]) (rows++[[v]]) (Q++[[Bv 1 true false (x.map Ci)]]) (Ro++R'):=by
 subst hm hn
 have I':=I.keep hl k
 have lR:=fC (by omega) I.q
 have get:∀j,j<h'.length→(∀st m r n,ov=.slr st m r n→m≠j)→(kl 0 ov h'++[a,.live 1 false false (rows++[[v]])])[j]?=h'[j]?:=fun j hj ho=>bK _ hj ho
 have hlen:(kl 0 ov h').length=h'.length:=fK ..
 have hnew:(kl 0 ov h'++[a,.live 1 false false (rows++[[v]])])[h'.length+1]?=some (.live 1 false false (rows++[[v]])):=by
  rw[akW (by omega),hlen,show h'.length+1-h'.length=1 by omega];rfl
 have q1:Bm (rd 5 (hf (kl 0 ov h'++[a,.live 1 false false (rows++[[v]])]))) rows=some (Q,Ro):=bJ I'.q fun j hj z hz=>by
  show((kl 0 ov h'++_)[j]?).bind Aw=_
  rw[get j (by have:=lR j hj;omega) fun st m r n e e2=>(I.dov st m r n e).2.1 (e2▸hj)];exact hz
 have rv:∃R',R'.length≤1∧(∀b∈R',h.length≤b∧b<h'.length)∧rd 5 (hf (kl 0 ov h'++[a,.live 1 false false (rows++[[v]])])) v=some (Bv 1 true false (x.map Ci),R'):=by
  rcases B with⟨rfl,rfl⟩|⟨hx,b,hb,rfl,hg⟩
  ·exact⟨[],by simp,by simp,rfl⟩
  ·refine⟨[b],by simp,fun c hc=>?_,?_⟩
   ·simp at hc;subst hc;exact⟨hb,Ac hg⟩
   ·rw[gV (by simpa using hx)]
    refine anI ?_ (by simp)
    show((kl 0 ov h'++_)[b]?).bind Aw=_
    rw[get b (Ac hg) fun st m r n e e2=>by have:=(I.dov st m r n e).2.2;omega,hg];rfl
 obtain⟨R',r1,r2,r3⟩:=rv
 refine⟨R',r1,.inr ⟨h'.length+1,false,by simp,hnew⟩,fun e=>by simp at e,?_,fun b hb=>?_,fun st b r n e=>?_⟩
 ·have:=Zn q1 (nZ r3 xE)
  simpa using this
 ·rcases akX.1 hb with hb|hb
  ·exact I.dx b hb
  ·have:=r2 b hb;omega
 ·cases e
  refine⟨by omega,fun hb=>?_,by simp[hlen]⟩
  rcases akX.1 hb with hb|hb
  ·have:=lR _ hb;omega
  ·have:=r2 _ hb;omega
def Qq(E:List Net.Edge)(d:List Nat)(k i:Nat):Bool:=match E[i]? with
 |some e=>e.2.2==1&&min (d.getD e.1 0) (d.getD e.2.1 0)==k&&max (d.getD e.1 0) (d.getD e.2.1 0)==k+1
 |none=>false
def Vm(E:List Net.Edge)(d:List Nat)(n k:Nat):List Nat:=(acE n).filter (Qq E d k)
def Hz(E:List Net.Edge)(d:List Nat)(n c:Nat):List (List AV):=(acE c).map fun k=>[Bv 1 true false ((Vm E d n k).map Ci)]
theorem eG(p:Nat→Bool)(i:Nat):(acE (i+1)).filter p=(acE i).filter p++if p i=true then [i]else []:=by
 rw[akY,List.filter_append,List.filter_cons,List.filter_nil]
theorem cG(E:List Net.Edge)(d:List Nat)(n c:Nat):Hz E d n (c+1)=Hz E d n c++[[Bv 1 true false ((Vm E d n c).map Ci)]]:=by
 unfold Hz;rw[akY,List.map_append];rfl
def BrH(w:Au)(ts:List Bool)(ds:List Nat)(h:Aa):Prop:=(∃fl x,h[0]?=some (.live 3 fl x [[.int .i64 w.rooms,.int .i64 w.need,Bv 9 true w.nn (w.parts.map Ae.cells)]]))∧(∃x,h[1]?=some (.live 1 true x (ts.map Hu)))∧∃x,h[2]?=some (.live 1 true x (ds.map Ci))
theorem oV{w:Au}{N:Nat}(hw:mI w N)(h12:w.parts.length≤12)(d:Int):
 RdV Fe 15 [.agg [.int .i64 w.rooms,.int .i64 w.need,Bv 9 true w.nn (w.parts.map Ae.cells)],.int .i64 d] (Bv 1 false false (Hz (Fz w (Ax w d)) (Lj (Fz w (Ax w d)) N (Eh N 0 1000)) w.parts.length (Rj w N d))) 14:=by
 have h1:=pU w d hw.len hw.ne
 have h2:=qK hw (nn:=true) (Js w d)
 have n2:=hw.n2
 have n8:=hw.n8
 have hlen:=hw.len
 have hn:Rj w N d≤13:=eI hw h12 (Ax w d)
 rw[show Yh (Fz w (Ax w d)) N w.parts.length=Rj w N d from rfl]at h2
 obtain⟨f,hD⟩:=Zc hw (nn:=true) (Js w d)
 have hl:=Js w d
 have hdl:=sD hw (Fz w (Ax w d))
 have hEg:∀(i:Nat) (p:Ae) (t:Bool),w.parts[i]?=some p→(Ax w d)[i]?=some t→(Fz w (Ax w d))[i]?=some (p.one.toNat,p.other.toNat,if t=true then 1 else 0):=fun i p t h1 h2=>by simp[Fz,ajX,h1,h2]
 have hI:=Ys (far:=1000) (Ll hw (Ax w d)) N (bY (E:=Fz w (Ax w d)) (N:=N) (s:=0) (far:=1000) (by omega))
 rw[Bt]at h2 hD
 generalize Rj w N d=c at *
 generalize Lj (Fz w (Ax w d)) N (Eh N 0 1000)=ds at *
 generalize Fz w (Ax w d)=E at *
 generalize Ax w d=ts at *
 have htk:acG w.parts.length (ts.map Hu)=ts.map Hu:=acH (by simp[hl])
 have hle:=hI.le
 refine RdV.of ?_
 refine pF rfl Tryd.func15 rfl rfl ?_
 simp only[Tryd.f15]
 refine Dp (fun KK iN hK=>?_)
 (have hb:=trivial;with_reducible repeat' (first|simp only[hb,Vc.down,seval,aH.down,h1,hD,hl,htk,ab8]|refine Be ?_ ?_<;>intro hb|refine fd ?_|fail))
 refine Iy (aQ 79 (List.replicate c ()) (fun k (_:Unit) t h=>t 2=.ptr 0 0 0∧t 5=.slr 1 1 0 w.parts.length∧t 6=.slr 1 2 0 N∧t 8=.int .i64 (k:Int)∧BrH w ts ds h∧∃rows Ro,LLH 3 (t 7) h rows (Hz E ds w.parts.length k) Ro∧rows.length=k∧Ro.length≤k) (fun _ _=>())
  (fun _ e t h=>e=.exit 0∧BrH w ts ds h∧∃rows Ro,LLH 3 (t 7) h rows (Hz E ds w.parts.length c) Ro∧rows.length=c∧Ro.length≤c) ?_ ?_ () _ _ ?_) (fun e t h hk=>?_)
 ·rintro _ t h Q' kQ ⟨g2,g5,g6,g8,hB,hL⟩
  rw[akZ]at g8 hL
  obtain⟨⟨fl0,x0,b0⟩,⟨x1,b1⟩,⟨x2,b2⟩⟩:=hB
  (have hb:=trivial;with_reducible repeat' (first|simp only[hb,Vc.down,seval,aH.down,g2,g5,g6,g8,b0,b1,b2,h2,hl,htk,agD,decide_false,ab8]|refine Be ?_ ?_<;>intro hb|refine fd ?_|fail))
  exact kQ _ _ _ ⟨rfl,⟨⟨fl0,x0,b0⟩,⟨x1,b1⟩,⟨x2,b2⟩⟩,by simpa [up]using hL⟩
 ·rintro _ rest k _ t h J Q' kJ kQ hx hi ⟨g2,g5,g6,g8,hB,rows,Ro,hL,hrl,hRl⟩
  rw[akZ]at hi
  obtain⟨⟨fl0,x0,b0⟩,⟨x1,b1⟩,⟨x2,b2⟩⟩:=hB
  have hdk:decide ((k:Int)<(c:Int))=true:=decide_eq_true (by omega)
  have hwk:IntKind.i64.wrap ((k:Int)+1)=((k+1:Nat):Int):=by rw[Ee (by omega) (by omega)];omega
  obtain⟨ov,g7⟩:∃ov,t 7=ov:=⟨_,rfl⟩
  rw[g7]at hL
  have p0:=Ac b0
  have p1:=Ac b1
  have p2:=Ac b2
  (have hb:=trivial;with_reducible repeat' (first|simp only[hb,Vc.down,seval,aH.down,g2,g5,g6,g8,b0,b1,b2,h2,hl,htk,hdk,ab8]|refine Be ?_ ?_<;>intro hb|refine fd ?_|fail))
  refine Iy (aQ 79 w.parts (fun i (_:Unit) t h'=>t 2=.ptr 0 0 0∧t 5=.slr 1 1 0 w.parts.length∧t 6=.slr 1 2 0 N∧t 7=ov∧t 8=.int .i64 (k:Int)∧t 10=.int .i64 (i:Int)∧(h.length≤h'.length∧∀b,b<h.length→h'[b]?=h[b]?)∧Si (t 9) ((acE i).filter (Qq E ds k)) h' h.length) (fun _ _=>())
   (fun _ e t h'=>e=.exit 2∧t 2=.ptr 0 0 0∧t 5=.slr 1 1 0 w.parts.length∧t 6=.slr 1 2 0 N∧t 7=ov∧t 8=.int .i64 (k:Int)∧(h.length≤h'.length∧∀b,b<h.length→h'[b]?=h[b]?)∧Si (t 9) (Vm E ds w.parts.length k) h' h.length) ?_ ?_ () _ _ ?_) (fun e t' h' hk=>?_)
  ·rintro _ t h' Q'' kQ ⟨g2,g5,g6,g7,g8,g10,hs,hN⟩
   have c0:=(hs.2 0 p0).trans b0
   (have hb:=trivial;with_reducible repeat' (first|simp only[hb,Vc.down,seval,aH.down,g2,g5,g6,g8,g10,c0,agD,decide_false,ab8]|refine Be ?_ ?_<;>intro hb|refine fd ?_|fail))
   exact kQ _ _ _ ⟨rfl,by simp[up,g2],by simp[up,g5],by simp[up,g6],by simp[up,g7],by simp[up,g8],hs,by simpa [up,Vm]using hN⟩
  ·rintro p rest i _ t h' J' Q'' kJ' kQ' hx hi ⟨g2,g5,g6,g7,g8,g10,hs,hN⟩
   have hdd:decide ((i:Int)<(w.parts.length:Int))=true:=decide_eq_true (by omega)
   have hdp:((i:Int)<(w.parts.length:Int))=True:=eq_true (by omega)
   have hww:=Ew hi (by unfold maxLen;omega)
   have c0:=(hs.2 0 p0).trans b0
   have c1:=(hs.2 1 p1).trans b1
   have c2:=(hs.2 2 p2).trans b2
   have hpo:=hw.part p (agY hx)
   obtain⟨tt,htt⟩:∃b,ts[i]?=some b:=⟨_,afD (by omega)⟩
   have hE:=hEg i p tt hx htt
   have hra:ds[p.one.toNat]?=some (ds.getD p.one.toNat 0):=by rw[ak0,afD (by omega)];rfl
   have hrb:ds[p.other.toNat]?=some (ds.getD p.other.toNat 0):=by rw[ak0,afD (by omega)];rfl
   have o1:(0≤p.one)=True:=eq_true hpo.1.1
   have o2:(p.one<(N:Int))=True:=eq_true hpo.1.2
   have o3:(0≤p.other)=True:=eq_true hpo.2.1.1
   have o4:(p.other<(N:Int))=True:=eq_true hpo.2.1.2
   have hbar:Qq E ds k i=(tt&&min (ds.getD p.one.toNat 0) (ds.getD p.other.toNat 0)==k&&max (ds.getD p.one.toNat 0) (ds.getD p.other.toNat 0)==k+1):=by
    unfold Qq;rw[hE];cases tt<;>simp
   have hrf:=eG (Qq E ds k) i
   rw[hbar]at hrf
   have la:=hle p.one.toNat (by omega)
   have lb:=hle p.other.toNat (by omega)
   generalize ds.getD p.one.toNat 0=da at *
   generalize ds.getD p.other.toNat 0=db at *
   have hmn:(if(db:Int)<(da:Int)then(db:Int)else(da:Int))=((min da db:Nat):Int):=by split<;>omega
   have hmx:(if(db:Int)>(da:Int)then(db:Int)else(da:Int))=((max da db:Nat):Int):=by split<;>omega
   have hcast:∀a b:Nat,((a:Int)==(b:Int))=(a==b):=fun a b=>by rw[ajS];simp;omega
   cases tt with
   |false=>
    simp only[ak1,acD,if_false,agR]at hrf
    (have hb:=trivial;with_reducible repeat' (first|simp only[hb,Vc.down,seval,aH.down,g2,g5,g6,g8,g10,c0,c1,c2,hdd,hdp,hww,hx,htt,hra,hrb,o1,o2,o3,o4,hmn,hmx,hwk,hcast,Hu,Ci,Ae.cells,ab8]|refine Be ?_ ?_<;>intro hb|refine fd ?_|fail))
    exact Bc (kJ' _ _ () ⟨by simp[up,g2],by simp[up,g5],by simp[up,g6],by simp[up,g7],by simp[up,g8],by simp[up],hs,by rw[hrf];simpa [up]using hN⟩ rfl)
   |true=>
    simp only[ag5]at hrf
    cases q1:(min da db==k)with
    |false=>
     simp only[q1,ak1,acD,if_false,agR]at hrf
     (have hb:=trivial;with_reducible repeat' (first|simp only[hb,Vc.down,seval,aH.down,g2,g5,g6,g8,g10,c0,c1,c2,hdd,hdp,hww,hx,htt,hra,hrb,o1,o2,o3,o4,hmn,hmx,hwk,hcast,q1,Hu,Ci,Ae.cells,ab8]|refine Be ?_ ?_<;>intro hb|refine fd ?_|fail))
     exact Bc (kJ' _ _ () ⟨by simp[up,g2],by simp[up,g5],by simp[up,g6],by simp[up,g7],by simp[up,g8],by simp[up],hs,by rw[hrf];simpa [up]using hN⟩ rfl)
    |true=>
    cases q2:(max da db==k+1)with
    |false=>
     simp only[q1,q2,ag5,acD,if_false,agR]at hrf
     (have hb:=trivial;with_reducible repeat' (first|simp only[hb,Vc.down,seval,aH.down,g2,g5,g6,g8,g10,c0,c1,c2,hdd,hdp,hww,hx,htt,hra,hrb,o1,o2,o3,o4,hmn,hmx,hwk,hcast,q1,q2,Hu,Ci,Ae.cells,ab8]|refine Be ?_ ?_<;>intro hb|refine fd ?_|fail))
     exact Bc (kJ' _ _ () ⟨by simp[up,g2],by simp[up,g5],by simp[up,g6],by simp[up,g7],by simp[up,g8],by simp[up],hs,by rw[hrf];simpa [up]using hN⟩ rfl)
    |true=>
    simp only[q1,q2,ag5,if_true]at hrf
    have hal:((acE i).filter (Qq E ds k)).length≤i:=by have:=List.length_filter_le (Qq E ds k) (acE i);simpa using this
    generalize(acE i).filter (Qq E ds k)=a at *
    rcases hN with⟨rfl,ho⟩|⟨hne,b,hb3,ho,hb⟩
    ·(have hb:=trivial;with_reducible repeat' (first|simp only[hb,Vc.down,seval,aH.down,g2,g5,g6,g8,g10,c0,c1,c2,hdd,hdp,hww,hx,htt,hra,hrb,o1,o2,o3,o4,hmn,hmx,hwk,hcast,q1,q2,Hu,Ci,Ae.cells,ab8,ho]|refine Be ?_ ?_<;>intro hb|refine fd ?_|fail))
     exact Bc (kJ' _ _ () ⟨by simp[up,g2],by simp[up,g5],by simp[up,g6],by simp[up,g7],by simp[up,g8],by simp[up],⟨by simp;omega,fun b hb=>by rw[ak2 (by omega)];exact hs.2 b hb⟩,by rw[hrf];exact .inr ⟨by simp,h'.length+1,by omega,by simp[up],by rw[akW (by omega),Nat.add_sub_cancel_left];rfl⟩⟩ rfl)
    ·have hbl:=Ac hb
     have hB2:=Ai hb
     have hS:=Gu hbl
     have hi39:(a.length+1≤549755813888)=True:=eq_true (by omega)
     (with_reducible repeat' (first|simp only[hb,Vc.down,seval,aH.down,g2,g5,g6,g8,g10,c0,c1,c2,hdd,hdp,hww,hx,htt,hra,hrb,o1,o2,o3,o4,hmn,hmx,hwk,hcast,q1,q2,Hu,Ci,Ae.cells,ab8,ho,hb,hB2,hS,Gx,En,ak3,hi39]|refine Be ?_ ?_<;>intro hb|refine fd ?_|fail))
     exact Bc (kJ' _ _ () ⟨by simp[up,g2],by simp[up,g5],by simp[up,g6],by simp[up,g7],by simp[up,g8],by simp[up],⟨by simp;omega,fun b' hb'=>by rw[ak2 (by simp;omega),ahG (by omega)];exact hs.2 b' hb'⟩,by rw[hrf];exact .inr ⟨by simp,h'.length+1,by omega,by simp[up],by rw[En];simp[Ci]⟩⟩ rfl)
  ·exact⟨by simp[up,g2],by simp[up,g5],by simp[up,g6],by simp[up,g7],by simp[up,g8],by simp[up],⟨agW _,fun _ _=>rfl⟩,.inl ⟨rfl,by simp[up]⟩⟩
  obtain⟨rfl,g2,g5,g6,g7,g8,hs,hN⟩:=hk
  obtain⟨bv,g9⟩:∃bv,t' 9=bv:=⟨_,rfl⟩
  rw[g9]at hN
  have hLk:=hL.keep hs.1 hs.2
  have hap:=fun(q:Aa) (r:List AV)=>qP hLk.own (pre:=[]) rfl q r [] (by simp;omega)
  have hhp:=fun(q:Aa) (r:List (List AV)) (ba:Nat)=>kY hLk.own (pre:=[]) rfl q 1 false r ba
  simp only[af4,acB,List.length_append,acC,ak3,Nat.reduceAdd,hrl]at hap hhp
  have hcell:bv.isCell=true∧bv.flat=false∧Af bv=[bv]:=by
   rcases hN with⟨_,rfl⟩|⟨_,b,_,rfl,_⟩<;>exact⟨rfl,rfl,rfl⟩
  obtain⟨hc1,hc2,hc3⟩:=hcell
  (have hb:=trivial;with_reducible repeat' (first|simp only[hb,Vc.down,seval,aH.down,g2,g5,g6,g7,g8,g9,hwk,hap,hhp,hc1,hc2,hc3,Bool.and_true,Bool.and_false,List.all_cons,List.all_nil]|refine Be ?_ ?_<;>intro hb|refine fd ?_|fail))
  obtain⟨R',r1,hL'⟩:=hL.snoc hs.1 hs.2 hN (by omega) (.live 1 false false [[bv]]) rfl (show k+1=rows.length+1 by omega)
  have low:∀j,j<3→(kl 0 ov h'++[CB.live 1 false false [[bv]],CB.live 1 false false (rows++[[bv]])])[j]?=h[j]?:=fun j hj=>by
   rw[bK _ (by have:=hs.1;omega) fun st m r n e e2=>by have:=(hL.dov st m r n e).1;omega,hs.2 j (by omega)]
  refine Bc (kJ _ _ () ⟨by simp[up,g2],by simp[up,g5],by simp[up,g6],by simp[up],⟨⟨fl0,x0,by rw[low 0 (by omega)];exact b0⟩,⟨x1,by rw[low 1 (by omega)];exact b1⟩,⟨x2,by rw[low 2 (by omega)];exact b2⟩⟩,rows++[[bv]],Ro++R',?_,by simp[hrl],by simp;omega⟩ rfl)
  rw[cG]
  simpa [up]using hL'
 ·exact⟨by simp[up],by simp[up],by simp[up],by simp[up],⟨⟨_,_,rfl⟩,⟨_,rfl⟩,⟨_,rfl⟩⟩,[],[],⟨.inl ⟨rfl,by simp[up]⟩,fun _=>by simp[up],rfl,by simp,fun _ _ _ _ e=>by simp[up]at e⟩,rfl,agW _⟩
 ·obtain⟨rfl,hB,rows,Ro,hL,hrl,hRl⟩:=hk
  obtain⟨ov,g7⟩:∃ov,t 7=ov:=⟨_,rfl⟩
  rw[g7]at hL
  (have hb:=trivial;with_reducible repeat' (first|simp only[hb,Vc.down,seval,aH.down,g7]|refine Be ?_ ?_<;>intro hb|refine fd ?_|fail))
  obtain⟨R,r1,r2⟩:=zY (d:=5) hL.own hL.q hL.nil
  simp only at r1 r2
  refine hK _ ?_
  rw[pD]
  refine wB (vs:=[ov]) ?_ (yR r1 (by omega) fun v h' R' k1 k2 k3=>⟨v,R',rfl,k1,by omega,k3⟩)
  simp only[Vc.down,seval,aH.down]
theorem anE{w:Au}{N:Nat}(hw:mI w N){d r:Int}{y:AV}{lb rb kb:Nat}(Jh:Nat→Aa→Prop)(Stop:Aa→Prop)
 (hL:∀i h,Jh i h→∃w1,h[lb]?=some (.live 1 false w1 [[.ptr kb 0 0]])) (hK:∀i h,Jh i h→∃w2,h[kb]?=some (.live 4 false w2 [[.int .i64 w.rooms,.int .i64 w.need,Bv 9 true w.nn (w.parts.map Ae.cells),.int .i64 d]])) (hR:∀i h,Jh i h→∃w3,h[rb]?=some (.live 1 true w3 [[.int .i64 r]]))
 (hA:∀i h fl wf (rows:List (List AV)),Jh i h→Jh i (h++[.live 9 fl wf rows]))
 (hS:∀(i:Nat) (p:Ae) (u:Int) h,w.parts[i]?=some p→((p.one=r∧u=p.other)∨(p.one≠r∧p.other=r∧u=p.one))→Jh i h→(∃es,cl Fe h (some y) (some [.int .i64 i,.int .i64 u])=some (.ret (.bool true),es)∧Jh (i+1) (Az h es))∨∃es,cl Fe h (some y) (some [.int .i64 i,.int .i64 u])=some (.ret (.bool false),es)∧Stop (Az h es))
 (hN:∀(i:Nat) (p:Ae) h,w.parts[i]?=some p→p.one≠r→p.other≠r→Jh i h→Jh (i+1) h)
 {h0:Aa} (h0I:Jh 0 h0):oM Fe 71 [y,.ptr lb 0 0,.ptr rb 0 0] h0 fun o h'=>o=.ret (.tup [])∧(Jh w.parts.length h'∨Stop h'):=by
 obtain⟨w1,hl⟩:=hL _ _ h0I
 obtain⟨w2,hk0⟩:=hK _ _ h0I
 have hlen:=hw.len
 refine pE rfl Tryd.func71 rfl rfl ?_
 simp only[Tryd.f71]
 (have hb:=trivial;with_reducible repeat' (first|simp only[hb,Vc.down,seval,Vp.down,hl,hk0,ab8]|refine Be ?_ ?_<;>intro hb|refine fd ?_|fail))
 refine Iy (aQ 41 w.parts (fun i (_:Unit) t h=>t 0=y∧t 1=.ptr lb 0 0∧t 2=.ptr rb 0 0∧t 11=Bv 9 true w.nn (w.parts.map Ae.cells)∧t 12=.int .i64 (w.parts.length:Nat)∧t 13=.int .i64 (i:Int)∧Jh i h) (fun _ _=>()) (fun _ e t h=>(e=.exit 0∧Jh w.parts.length h)∨(e=.ret∧Stop h)) ?_ ?_ () _ _ ?_) (fun e t h hk=>?_)
 ·rintro _ t h Q' kQ ⟨g0,g1,g2,g11,g12,g13,hI⟩
  (have hb:=trivial;with_reducible repeat' (first|simp only[hb,Vc.down,seval,Vp.down,g12,g13,agD,decide_false]|refine Be ?_ ?_<;>intro hb|refine fd ?_|fail))
  exact kQ _ _ _ (.inl ⟨rfl,hI⟩)
 ·rintro p rest i _ t h J Q' kJ kQ hx hi ⟨g0,g1,g2,g11,g12,g13,hI⟩
  have hdd:decide ((i:Int)<(w.parts.length:Int))=true:=decide_eq_true (by omega)
  have hww:=Ew hi (by unfold maxLen;omega)
  have hpo:=hw.part p (agY hx)
  obtain⟨w3,hr⟩:=hR _ _ hI
  have hr1:=Ai hr
  have hv1:=hA _ _ true true [p.cells] hI
  have c1:decide ((0:Int)≤p.other)=true:=decide_eq_true hpo.2.1.1
  have c2:decide ((0:Int)≤p.one)=true:=decide_eq_true hpo.1.1
  have c3:decide ((0:Int)≤ -1)=false:=rfl
  by_cases e1:p.one=r
  ·have q1:(r==p.one)=true:=by simp[e1]
   rcases hS i p p.other _ hx (.inl ⟨e1,rfl⟩) hv1 with⟨es,hes,hv2⟩|⟨es,hes,hv2⟩
   ·simp only[Ae.cells]at hes hv2
    (have hb:=trivial;with_reducible repeat' (first|simp only[hb,Vc.down,seval,Vp.down,g0,g1,g2,g11,g12,g13,hdd,hww,hx,hr,hr1,q1,c1,hes,Ae.cells]|refine Be ?_ ?_<;>intro hb|refine fd ?_|fail))
    exact Bc (kJ _ _ () ⟨by simp[up,g0],by simp[up,g1],by simp[up,g2],by simp[up,g11],by simp[up,g12],by simp[up],hv2⟩ rfl)
   ·simp only[Ae.cells]at hes hv2
    (have hb:=trivial;with_reducible repeat' (first|simp only[hb,Vc.down,seval,Vp.down,g0,g1,g2,g11,g12,g13,hdd,hww,hx,hr,hr1,q1,c1,hes,Ae.cells]|refine Be ?_ ?_<;>intro hb|refine fd ?_|fail))
    exact kQ _ _ _ (.inr ⟨rfl,hv2⟩)
  ·have q1:(r==p.one)=false:=by simp;exact fun e=>e1 e.symm
   by_cases e2:p.other=r
   ·have q2:(r==p.other)=true:=by simp[e2]
    rcases hS i p p.one _ hx (.inr ⟨e1,e2,rfl⟩) hv1 with⟨es,hes,hv2⟩|⟨es,hes,hv2⟩
    ·simp only[Ae.cells]at hes hv2
     (have hb:=trivial;with_reducible repeat' (first|simp only[hb,Vc.down,seval,Vp.down,g0,g1,g2,g11,g12,g13,hdd,hww,hx,hr,hr1,q1,q2,c2,hes,Ae.cells]|refine Be ?_ ?_<;>intro hb|refine fd ?_|fail))
     exact Bc (kJ _ _ () ⟨by simp[up,g0],by simp[up,g1],by simp[up,g2],by simp[up,g11],by simp[up,g12],by simp[up],hv2⟩ rfl)
    ·simp only[Ae.cells]at hes hv2
     (have hb:=trivial;with_reducible repeat' (first|simp only[hb,Vc.down,seval,Vp.down,g0,g1,g2,g11,g12,g13,hdd,hww,hx,hr,hr1,q1,q2,c2,hes,Ae.cells]|refine Be ?_ ?_<;>intro hb|refine fd ?_|fail))
     exact kQ _ _ _ (.inr ⟨rfl,hv2⟩)
   ·have q2:(r==p.other)=false:=by simp;exact fun e=>e2 e.symm
    have hv2:=hN i p _ hx e1 e2 hv1
    simp only[Ae.cells]at hv2
    (have hb:=trivial;with_reducible repeat' (first|simp only[hb,Vc.down,seval,Vp.down,g0,g1,g2,g11,g12,g13,hdd,hww,hx,hr,hr1,q1,q2,c3,Ae.cells]|refine Be ?_ ?_<;>intro hb|refine fd ?_|fail))
    exact Bc (kJ _ _ () ⟨by simp[up,g0],by simp[up,g1],by simp[up,g2],by simp[up,g11],by simp[up,g12],by simp[up],hv2⟩ rfl)
 ·exact⟨by simp[up,Ph],by simp[up,Ph],by simp[up,Ph],by simp[up],by simp[up],by simp[up],h0I⟩
 rcases hk with⟨rfl,hI⟩|⟨rfl,hI⟩
 ·(have hb:=trivial;with_reducible repeat' (first|simp only[hb,Vc.down,seval,Vp.down]|refine Be ?_ ?_<;>intro hb|refine fd ?_|fail))
  exact .inl hI
 ·(have hb:=trivial;with_reducible repeat' (first|simp only[hb,Vc.down,seval,Vp.down]|refine Be ?_ ?_<;>intro hb|refine fd ?_|fail))
  exact .inr hI
def Pe(N:Nat)(rs:List Nat):List Bool:=(acE N).map fun v=>decide (v∈rs)
theorem Kt{N v:Nat}(rs:List Nat)(h:v<N):((Pe N rs).map Hu)[v]?=some [.bool (decide (v∈rs))]:=by
 simp[Pe,h,Hu]
theorem dG{N v:Nat}(rs:List Nat)(h:¬v<N):((Pe N rs).map Hu)[v]?=none:=by
 rw[ajN];simp[Pe];omega
theorem xJ{N room:Nat}(rs:List Nat):((Pe N rs).map Hu).set room [.bool true]=(Pe N (room::rs)).map Hu:=by
 refine ak4 fun v=>?_
 by_cases hv:v<N
 ·rw[Kt _ hv]
  by_cases e:room=v
  ·subst e;rw[ak5 (by simpa [Pe]using hv)];simp
  ·have e':v≠room:=fun h=>e h.symm
   rw[ahG e,Kt _ hv];simp[e']
 ·rw[dG _ hv,ajN];simp[Pe];omega
theorem nT{N room:Nat}{rs:List Nat}(hr:room∉rs):((Pe N (room::rs)).map Hu).set room [.bool false]=(Pe N rs).map Hu:=by
 refine ak4 fun v=>?_
 by_cases hv:v<N
 ·rw[Kt _ hv]
  by_cases e:room=v
  ·subst e;rw[ak5 (by simpa [Pe]using hv)];simp[hr]
  ·have e':v≠room:=fun h=>e h.symm
   rw[ahG e,Kt _ hv];simp[e']
 ·rw[dG _ hv,ajN];simp[Pe];omega
def OS(v:AV)(q:List Nat)(H:Aa):Prop:=
 (v=.nils∧q=[])∨∃b w rows,v=.slr 1 b 0 q.length∧H[b]?=some (.live 1 true w rows)∧rows.take q.length=q.map Ci∧q.length≤rows.length
theorem OS.keep{v:AV}{q:List Nat}{H G:Aa}(h:OS v q H)(k:∀b∈Dz v,∀w rows,H[b]?=some (.live 1 true w rows)→∃w',G[b]?=some (.live 1 true w' rows)):OS v q G:=by
 rcases h with h|⟨b,w,rows,h1,h2,h3⟩
 ·exact .inl h
 ·obtain⟨w',h4⟩:=k b (by rw[h1];simp[Dz]) w rows h2
  exact .inr ⟨b,w',rows,h1,h4,h3⟩
theorem OS.app{v:AV}{q:List Nat}{H:Aa}(h:OS v q H)(l:Aa):OS v q (H++l):=h.keep fun _ _ w _ h2=>⟨w,Ai h2 l⟩
theorem OS.lt{v:AV}{q:List Nat}{H:Aa}(h:OS v q H):∀b∈Dz v,b<H.length∧∃w rows,H[b]?=some (.live 1 true w rows):=by
 rcases h with⟨rfl,_⟩|⟨b,w,rows,rfl,h2,_⟩
 ·intro b hb1;simp[Dz]at hb1
 ·intro b' hb1;simp[Dz]at hb1;subst hb1;exact⟨Ac h2,w,rows,h2⟩
theorem OS.okw{v:AV}{q:List Nat}{H G:Aa}(k:Ld H G)(h:OS v q G):OS v q (Gk H G):=h.keep fun _ _ _ _ h2=>k.live h2
def srA:List AV:=[.ptr 8 0 0,.ptr 1 0 0,.ptr 2 0 0,.ptr 5 0 0,.ptr 3 0 0,.ptr 6 0 0,.ptr 9 0 0]
structure Ym(w:Au)(N:Nat)(d:Int)(L:List (Int × Bool))(bk:List Nat)(most:Nat)(rs:List Nat)(v:AV)(path:List Nat)(H:Aa):Prop where
 h0:∃x,H[0]?=some (.live 4 false x [[.int .i64 w.rooms,.int .i64 w.need,Bv 9 true w.nn (w.parts.map Ae.cells),.int .i64 d]])
 h1:∃x,H[1]?=some (.live 1 false x [[.ptr 0 0 0]])
 h2:∃x,H[2]?=some (.live 24 true x [Hn L])
 h3:∃x,H[3]?=some (.live 1 true x [[.int .i64 (most:Int)]])
 h4:∃x,H[4]?=some (.live 1 true x (bk.map Ci))
 h5:∃x,H[5]?=some (.live 1 false x [[.slr 1 4 0 N]])
 h6:∃fl x,H[6]?=some (.live 1 fl x [[v]])
 h7:∃x,H[7]?=some (.live 1 true x ((Pe N rs).map Hu))
 h8:∃x,H[8]?=some (.live 1 false x [[.slr 1 7 0 N]])
 h9:∃x,H[9]?=some (.live 1 false x [[.func (.func 61) [] srA]])
 hQ:OS v path H
 hv:∀b∈Dz v,10≤b
theorem Ym.keep{w:Au}{N:Nat}{d:Int}{L:List (Int × Bool)}{bk:List Nat}{most:Nat}{rs:List Nat}{v:AV}{path:List Nat}{H G:Aa}(h:Ym w N d L bk most rs v path H)
 (k:∀(b st:Nat) (fl x:Bool) (rows:List (List AV)),b<10∨b∈Dz v→H[b]?=some (.live st fl x rows)→∃x',G[b]?=some (.live st fl x' rows)):Ym w N d L bk most rs v path G:=by
 obtain⟨⟨x0,h0⟩,⟨x1,h1⟩,⟨x2,h2⟩,⟨x3,h3⟩,⟨x4,h4⟩,⟨x5,h5⟩,⟨fl,x6,h6⟩,⟨x7,h7⟩,⟨x8,h8⟩,⟨x9,h9⟩,hQ,hv⟩:=h
 exact⟨k _ _ _ _ _ (.inl (by omega)) h0,k _ _ _ _ _ (.inl (by omega)) h1,k _ _ _ _ _ (.inl (by omega)) h2,k _ _ _ _ _ (.inl (by omega)) h3,k _ _ _ _ _ (.inl (by omega)) h4,k _ _ _ _ _ (.inl (by omega)) h5,⟨fl,k _ _ _ _ _ (.inl (by omega)) h6⟩,k _ _ _ _ _ (.inl (by omega)) h7,k _ _ _ _ _ (.inl (by omega)) h8,k _ _ _ _ _ (.inl (by omega)) h9,hQ.keep fun b hb w rows h=>k b _ _ w rows (.inr hb) h,hv⟩
theorem Ym.cln{w:Au}{N:Nat}{d:Int}{L:List (Int × Bool)}{bk:List Nat}{most:Nat}{rs:List Nat}{v:AV}{path:List Nat}{H:Aa}(h:Ym w N d L bk most rs v path H):Ym w N d L bk most rs v path (Eg H):=h.keep fun _ _ _ _ _ _ h2=>⟨false,Bl h2⟩
theorem Ym.app{w:Au}{N:Nat}{d:Int}{L:List (Int × Bool)}{bk:List Nat}{most:Nat}{rs:List Nat}{v:AV}{path:List Nat}{H:Aa}(h:Ym w N d L bk most rs v path H)(l:Aa):Ym w N d L bk most rs v path (H++l):=h.keep fun _ _ _ x _ _ h2=>⟨x,Ai h2 l⟩
theorem Ym.okw{w:Au}{N:Nat}{d:Int}{L:List (Int × Bool)}{bk:List Nat}{most:Nat}{rs:List Nat}{v:AV}{path:List Nat}{H G:Aa}(k:Ld H G)(h:Ym w N d L bk most rs v path G):Ym w N d L bk most rs v path (Gk H G):=h.keep fun _ _ _ _ _ _ h2=>k.live h2
def Wrt(c:CB):Prop:=(∃st fl rows,c=.live st fl true rows)∨c=.dead
def WyP(w:Au)(N:Nat)(d:Int)(L:List (Int × Bool))(bk:List Nat)(most:Nat)(rs:List Nat)(v:AV)(path:List Nat)(H:Aa)(res:Option (List Nat))(o:Db)(G:Aa):Prop:=
 Rf (6::7::Dz v) H G∧Ao G=true∧(∀b∈6::7::Dz v,G[b]?=H[b]?∨∃c,G[b]?=some c∧Wrt c)∧
 match res with
 |none=>o=.ret (.bool false)∧∃v',Ym w N d L bk most rs v' path G∧∀b∈Dz v',b∈Dz v∨H.length≤b
 |some l=>o=.ret (.bool true)∧∃fl x v',G[6]?=some (.live 1 fl x [[v']])∧OS v' (path++l) G∧∀b∈Dz v',b∈Dz v∨H.length≤b
theorem oK{w:Au}{N:Nat}{d:Int}{L:List (Int × Bool)}{bk:List Nat}{most:Nat}{rs:List Nat}{v:AV}{path:List Nat}{M:Aa}(hq:Ao M=true)(hW:Ym w N d L bk most rs v path M){room tight:Nat}{res:Option (List Nat)}
 (K:oM Fe 61 ([.int .i64 (room:Int),.int .i64 (tight:Int)]++srA) (Eg M) (WyP w N d L bk most rs v path (Eg M) res)):
 ∃o es G,cl Fe M (some (.func (.func 61) [] srA)) (some [.int .i64 (room:Int),.int .i64 (tight:Int)])=some (o,es)∧Az M es=G∧WyP w N d L bk most rs v path M res o G:=by
 have ok:∀o G,WyP w N d L bk most rs v path (Eg M) res o G→Ld M G:=fun o G ⟨k1,k2,k3,_⟩=>⟨by have:=k1.len;rwa[As]at this,fun b c0 c g0 g1=>by
  by_cases hb:b∈6::7::Dz v
  ·rcases k3 b hb with h|⟨c',h,h'⟩
   ·rw[h,Bl g0]at g1;cases g1
    exact .inl ⟨Bn hq g0,(Jt c0).symm⟩
   ·rw[g1]at h;cases h
    refine .inr ⟨?_,h'⟩
    rcases acF.1 hb with rfl|hb
    ·obtain⟨_,_,h6⟩:=hW.h6
     rw[g0]at h6;cases h6;rfl
    ·rcases acF.1 hb with rfl|hb
     ·obtain⟨_,h7⟩:=hW.h7
      rw[g0]at h7;cases h7;rfl
     ·obtain⟨_,_,_,h2⟩:=hW.hQ.lt b hb
      rw[g0]at h2;cases h2;rfl
  ·rw[k1.same b (by rw[As];exact Ac g0) hb,Bl g0]at g1;cases g1
   exact .inl ⟨Bn hq g0,(Jt c0).symm⟩⟩
 obtain⟨o,G,hc,hp⟩:=K
 have kO:=ok o G hp
 obtain⟨es,e1,e2⟩:=Oe M G [] kO.sh
 refine⟨o,es,Gk M G,?_,by simpa using e2,?_⟩
 ·rw[mR]
  have hd:aY ([]++[.int .i64 (room:Int),.int .i64 (tight:Int)]++srA)=true:=rfl
  have hm:Fe.md 61=true:=rfl
  rw[hd,if_pos rfl]
  simp only[af4,shC,hm,Bool.or_true,hc,if_true]
  rw[Vh]
  have e1':Cd 0 M G=some es:=e1
  rw[e1'];rfl
 obtain⟨k1,k2,k3,k4⟩:=hp
 have hlen:(Gk M G).length=G.length:=Ju kO.1
 have same:∀b,b<M.length→G[b]?=(Eg M)[b]?→(Gk M G)[b]?=M[b]?:=fun b hb h=>by
  have g0:M[b]?=some M[b]:=afD hb
  rw[Bl g0]at h
  rw[Gm g0 h (Bn hq g0),g0]
 have h67:∀b∈6::7::Dz v,b<M.length:=fun b hb=>by
  rcases acF.1 hb with rfl|hb
  ·obtain⟨_,_,h6⟩:=hW.h6;exact Ac h6
  ·rcases acF.1 hb with rfl|hb
   ·obtain⟨_,h7⟩:=hW.h7;exact Ac h7
   ·exact(hW.hQ.lt b hb).1
 refine⟨⟨by rw[hlen];exact kO.1,fun b hb hn=>same b hb (k1.same b (by rw[As];exact hb) hn)⟩,kO.quiet hq k2,fun b hb=>?_,?_⟩
 ·rcases k3 b hb with h|⟨c,h,h'⟩
  ·exact .inl (same b (h67 b hb) h)
  ·right
   obtain⟨c0,g0⟩:∃c0,M[b]?=some c0:=⟨_,afD (h67 b hb)⟩
   rcases kO.2 b _ _ g0 h with⟨q1,q2⟩|⟨q1,q2⟩
   ·exfalso
    have hl:c0.isLive=true:=by
     rcases acF.1 hb with rfl|hb
     ·obtain⟨_,_,h6⟩:=hW.h6
      rw[g0]at h6;cases h6;rfl
     ·rcases acF.1 hb with rfl|hb
      ·obtain⟨_,h7⟩:=hW.h7
       rw[g0]at h7;cases h7;rfl
      ·obtain⟨_,_,_,h2⟩:=hW.hQ.lt b hb
       rw[g0]at h2;cases h2;rfl
    rw[Qn hl h']at q1;cases q1
   ·refine⟨c,?_,h'⟩
    rw[Lt g0 h (Qn q1 q2)]
    rcases h' with⟨_,_,_,rfl⟩|rfl<;>rfl
 ·rw[As]at k4
  cases res with
  |none=>
   obtain⟨rfl,v',a1,a2⟩:=k4
   exact⟨rfl,v',a1.okw kO,a2⟩
  |some l=>
   obtain⟨rfl,fl,x,v',a1,a2,a3⟩:=k4
   obtain⟨x',a4⟩:=kO.live a1
   exact⟨rfl,fl,x',v',a4,a2.okw kO,a3⟩
end Go.Proofs.YtckfcfcmfjfchaaDoor
