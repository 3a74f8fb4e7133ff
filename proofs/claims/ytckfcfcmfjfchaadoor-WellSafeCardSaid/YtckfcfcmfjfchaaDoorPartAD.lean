/- The functions of the layer, walked. -/
import Derived.Test.YtckfcfcmfjfchaaDoorPartAB
import Derived.Test.YtckfcfcmfjfchaaDoorPartAC
open List renaming length_map→aaN,map_cons→abY,map_nil→abZ,length_cons→ab0,length_nil→ab2,length_set→ab3,getElem?_append_left→ag7,getElem?_set_self→ag8,take→ag9,take_of_length_le→ahA
open Nat renaming le_refl→adC
open Bool renaming not_true→ag6,and_eq_true→ahC
set_option linter.unusedSimpArgs false
set_option linter.unusedVariables false
namespace Go.Proofs.YtckfcfcmfjfchaaDoor
open Go.Ev Go Go.Ev.Net
set_option maxRecDepth 100000
set_option maxHeartbeats 16000000
theorem Qq:Yk Tryd.prog .eql 4 (.bool true) (.bool false)=some (.bool false):=by kernel_rfl
theorem Qn:Yk Tryd.prog .eql 4 (.bool false) (.bool true)=some (.bool false):=by kernel_rfl
theorem Qp:Yk Tryd.prog .neq 4 (.bool true) (.bool true)=some (.bool false):=by kernel_rfl
theorem Qr:Yk Tryd.prog .neq 4 (.bool false) (.bool false)=some (.bool false):=by kernel_rfl
structure Ss where
 k:Int
 i:Int
 b:Bool
def Ss.cells(x:Ss):List AV:=[.int .i64 x.k,.int .i64 x.i,.bool x.b]
theorem anI{n:Nat}{r:List AV}(h:Ty Tryd.prog (n+4) 56 r):∃x:Ss,r=x.cells:=by
 unfold Ty at h
 simp only[Tryd.underlying56,vY]at h
 obtain⟨a0,b0,rfl,h0,a1,b1,rfl,h1,rfl⟩:=h
 unfold Ty at h0
 simp only[Tryd.underlying54,vY]at h0
 obtain⟨a2,b2,rfl,h2,a3,b3,rfl,h3,rfl⟩:=h0
 simp only[Ty,Tryd.underlying52]at h2
 obtain⟨k,rfl,_⟩:=h2
 obtain⟨i,rfl,_⟩:=bG h3
 obtain⟨b,rfl⟩:=lL h1
 exact⟨⟨k,i,b⟩,rfl⟩
theorem ah3{av:AV}(h:vC Tryd.prog 7 51 av):∃(nn:Bool) (l:List Ss),av=Ux 3 true nn (l.map Ss.cells)∧l.length≤maxLen:=by
 unfold vC at h
 simp only[Tryd.underlying51]at h
 unfold Ty at h
 simp only[Tryd.underlying51]at h
 obtain⟨nn,rows,hx,hl,hrows⟩:=h
 obtain⟨l,rfl,hm⟩:=qM (q:=fun _=>True) (fun r hr=>by obtain⟨x,hx⟩:=anI (n:=2) hr;exact⟨x,hx,trivial⟩) hrows
 have e1:Tryd.prog.cellsOf 56=3:=by kernel_rfl
 have e2:sF Tryd.prog 6 56=true:=by kernel_rfl
 rw[e1,e2]at hx
 simp only[List.cons.injEq,and_true]at hx
 exact⟨nn,l,hx,by simpa using hl⟩
theorem wR(kn:Vf.call (.fn 10) [] []=some (.ret (.bool true),[]))(w:Rf)(hs:w.small)(d:Int)(nl:Bool)(l:List Ss)(hll:l.length≤maxLen):Vf.call (.fn 8) [.agg [.int .i64 w.rooms,.int .i64 w.need,Ux 9 true w.nn (w.parts.map Px.cells)],.int .i64 d,Ux 3 true nl (l.map Ss.cells)] []=some (.ret (.bool true),[]):=by
 have h1:=ajQ w
 have h3:=aeP w hs
 have h4:=adM d
 cases c1:wU w with
 |false=>
  rw[c1]at h1
  (refine ce Tryd.func8 ?_;simp only[Tryd.f8];(have hb:=trivial;with_reducible repeat' (first|simp only[hb,Vc.down,seval,Xf.down,h1,h3,h4,kn,aaN]|refine Rj ?_ ?_<;>intro hb|refine fd ?_|fail)))
 |true=>
 rw[c1]at h1
 cases c2:Xa w with
 |false=>
  rw[c2]at h3
  (refine ce Tryd.func8 ?_;simp only[Tryd.f8];(have hb:=trivial;with_reducible repeat' (first|simp only[hb,Vc.down,seval,Xf.down,h1,h3,h4,kn,aaN]|refine Rj ?_ ?_<;>intro hb|refine fd ?_|fail)))
 |true=>
 rw[c2]at h3
 cases c3:aN d with
 |false=>
  rw[c3]at h4
  (refine ce Tryd.func8 ?_;simp only[Tryd.f8];(have hb:=trivial;with_reducible repeat' (first|simp only[hb,Vc.down,seval,Xf.down,h1,h3,h4,kn,aaN]|refine Rj ?_ ?_<;>intro hb|refine fd ?_|fail)))
 |true=>
 rw[c3]at h4
 cases c4:decide ((l.length:Int)>15)with
 |true=>
  (refine ce Tryd.func8 ?_;simp only[Tryd.f8];(have hb:=trivial;with_reducible repeat' (first|simp only[hb,Vc.down,seval,Xf.down,h1,h3,h4,kn,aaN,c4]|refine Rj ?_ ?_<;>intro hb|refine fd ?_|fail)))
 |false=>
 (refine ce Tryd.func8 ?_;simp only[Tryd.f8];(have hb:=trivial;with_reducible repeat' (first|simp only[hb,Vc.down,seval,Xf.down,h1,h3,h4,c4,aaN]|refine Rj ?_ ?_<;>intro hb|refine fd ?_|fail)))
 refine iP (yQ 190 l (fun i (zz:Rf) t h=>t 1=.int .i64 d∧t 2=Ux 3 true nl (l.map Ss.cells)∧t 3=.ptr 0 0 0∧t 7=.int .i64 i∧(Xa zz=true∧zz.small∧∃wf v,h[0]?=some (.live 3 false wf [[.int .i64 zz.rooms,.int .i64 zz.need,v]])∧(v=Ux 9 true zz.nn (zz.parts.map Px.cells)∨∃b wb,0<b∧v=.slr 9 b 0 zz.parts.length∧h[b]?=some (.live 9 true wb (zz.parts.map Px.cells))))) (fun rest zz=>()) (fun r e t h=>e=.exit 0∨(e=.ret∧t 6=.bool true)) ?_ ?_ (w) _ _ ?_) (fun e t h hq=>?_)
 ·rintro z t h Q' kQ ⟨h1,h2,h3,h7,⟨zw,zs,wf,v,hA,hv⟩⟩
  (have hb:=trivial;with_reducible repeat' (first|simp only[hb,Vc.down,seval,Xf.down,h1,h2,h3,h7,Int.lt_irrefl,decide_false,hA,aaN]|refine Rj ?_ ?_<;>intro hb|refine fd ?_|fail))
  exact kQ _ _ _ (.inl rfl)
 ·rintro x rest i z t h J Q' kJ kQ hx hi ⟨h1,h2,h3,h7,⟨zw,zs,wf,v,hA,hv⟩⟩
  have hd:decide ((i:Int)<(l.length:Int))=true:=decide_eq_true (by omega)
  have hw:=Ya hi hll
  obtain⟨N,hw4,h12⟩:=lI zw
  have hop:=aSW z x.k x.i
  have hsl:Ux 9 true z.nn (z.parts.map Px.cells)=.imm 9 true (z.parts.map Px.cells):=vT (by simpa using hw4.ne)
  rw[hsl]at hv hop
  have hA1:=Qe hA
  have hl0:=Pz hA
  have hs0:Su (h.length-1) 1 h.length=1001:=by unfold Su;rw[if_neg (by omega)];omega
  have hsf:∀k,Su (h.length-1) 1 (h.length+k)=k+1001:=fun k=>by unfold Su;rw[if_neg (by omega)];omega
  have htR:ag9 z.parts.length (z.parts.map Px.cells)=z.parts.map Px.cells:=ahA (by simp)
  cases c5:opB z x.k x.i
  ·rw[c5]at hop
   rcases hv with rfl|⟨b,wb,hb0,rfl,hb⟩
   ·(have hb:=trivial;with_reducible repeat' (first|simp only[hb,Vc.down,seval,Xf.down,h1,h2,h3,h7,hd,hw,hx,hA,hA1,hop,kn,Ss.cells,aaN]|refine Rj ?_ ?_<;>intro hb|refine fd ?_|fail))
    exact kQ _ _ _ (.inr ⟨rfl,by simp[up]⟩)
   ·have hb1:=Qe hb
    have hsb:Su (h.length-1) 1 b=1000:=by have:=Pz hb;unfold Su;rw[if_neg (by omega)];omega
    (with_reducible repeat' (first|simp only[hb,Vc.down,seval,Xf.down,h1,h2,h3,h7,hd,hw,hx,hA,hA1,hb,hb1,htR,hop,kn,Ss.cells,aaN]|refine Rj ?_ ?_<;>intro hb|refine fd ?_|fail))
    exact kQ _ _ _ (.inr ⟨rfl,by simp[up]⟩)
  ·rw[c5]at hop
   obtain⟨k,j0,pb⟩:=x
   simp only[opB,ahC,decide_eq_true_eq]at c5
   have hk:k=1∨k=2∨k=3∨k=4:=by omega
   have hlz:=hw4.len
   have hnz:0<z.parts.length:=List.length_pos_iff.2 hw4.ne
   have hj:0≤j0∧j0<(z.parts.length:Int):=by
    have:=c5.2
    rw[cO (by omega) (by omega)]at this
    simp[Yj]at this
    omega
   obtain⟨j,rfl⟩:∃j:Nat,j0=(j:Int):=⟨j0.toNat,by omega⟩
   have hjl:j<z.parts.length:=by omega
   obtain⟨p,hp⟩:∃p,z.parts[j]?=some p:=⟨_,List.getElem?_eq_getElem hjl⟩
   have hzd:(Xa z&&aN d)=true:=by rw[zw,c3];rfl
   have hNum:=jH hw4 h12 zs d hzd
   have hCan:=aRL (d:=d) hp hk
   obtain⟨hD1,hD2,hD3⟩:=aRB hw4 h12 zs d hzd hp hk pb
   rw[aoC zw hp d k]at hD1 hD2 hD3
   have hAl:∃va ga,Vf.call (.fn 22) [.agg [.int .i64 z.rooms,.int .i64 z.need,Ux 9 true z.nn (z.parts.map Px.cells)],.int .i64 d] []=some (.ret (.tup [va,.int .i64 0]),ga)∧((qT z N (Qb z d)=[]∧va=.nils∧ga=[])∨(qT z N (Qb z d)≠[]∧va=.slr 1 0 0 (qT z N (Qb z d)).length∧ga=[.live 1 true false ((qT z N (Qb z d)).map Yx)])):=by
    by_cases he:qT z N (Qb z d)=[]
    ·exact⟨_,_,yL hw4 h12 zs d hzd _ _ (fun _=>rfl) (fun h=>(h he).elim),.inl ⟨he,rfl,rfl⟩⟩
    ·exact⟨_,_,yL hw4 h12 zs d hzd _ _ (fun h=>(he h).elim) (fun _=>rfl),.inr ⟨he,rfl,rfl⟩⟩
   obtain⟨va,ga,hAl,hva⟩:=hAl
   rw[hsl]at hNum hCan hAl hD1 hD2 hD3
   cases cn:mC p d k
   ·replace hD1:=hD1 cn
    rw[cn]at hCan
    rcases hva with⟨hna,rfl,rfl⟩|⟨hna,rfl,rfl⟩
    ·rcases hv with rfl|⟨b,wb,hb0,rfl,hb⟩
     ·(have hb:=trivial;with_reducible repeat' (first|simp only[hb,Vc.down,seval,Xf.down,h1,h2,h3,h7,hd,hw,hx,hA,hA1,hop,hNum,hCan,hAl,kn,Qq,Qn,Qp,Qr,Ss.cells,hD1,aaN]|refine Rj ?_ ?_<;>intro hb|((refine Qx (h.length-1) 1 ?_ ?_);(simp (discharger:=decide) only[Qw,Qo,abY,abZ,Qh,Qz,Qy,Qg,Qm,ab0,ab2,hs0,hsf];kernel_rfl);intro _)|refine Yn ?_|fail))
      (refine Qk (kJ _ _ z ⟨?_,?_,?_,?_,⟨zw,zs,wf,_,hA1 _,.inl hsl.symm⟩⟩ ?_);(simp[up,h1]);(simp[up,h2]);(simp[up,h3]);(simp[up]);exact rfl)
     ·have hb1:=Qe hb
      have hsb:Su (h.length-1) 1 b=1000:=by have:=Pz hb;unfold Su;rw[if_neg (by omega)];omega
      (with_reducible repeat' (first|simp only[hb,Vc.down,seval,Xf.down,h1,h2,h3,h7,hd,hw,hx,hA,hA1,hb,hb1,htR,hop,hNum,hCan,hAl,kn,Qq,Qn,Qp,Qr,Ss.cells,hD1,aaN]|refine Rj ?_ ?_<;>intro hb|((refine Qx (h.length-1) 1 ?_ ?_);(simp (discharger:=decide) only[Qw,Qo,abY,abZ,Qh,Qz,Qy,Qg,Qm,ab0,ab2,hsb,hs0,hsf];kernel_rfl);intro _)|refine Yn ?_|fail))
      (refine Qk (kJ _ _ z ⟨?_,?_,?_,?_,⟨zw,zs,wf,_,hA1 _,.inr ⟨b,wb,hb0,rfl,hb1 _⟩⟩⟩ ?_);(simp[up,h1]);(simp[up,h2]);(simp[up,h3]);(simp[up]);exact rfl)
    ·rcases hv with rfl|⟨b,wb,hb0,rfl,hb⟩
     ·(have hb:=trivial;with_reducible repeat' (first|simp only[hb,Vc.down,seval,Xf.down,h1,h2,h3,h7,hd,hw,hx,hA,hA1,hop,hNum,hCan,hAl,kn,Qq,Qn,Qp,Qr,Ss.cells,hD1,aaN]|refine Rj ?_ ?_<;>intro hb|((refine Qx (h.length-1) 1 ?_ ?_);(simp (discharger:=decide) only[Qw,Qo,abY,abZ,Qh,Qz,Qy,Qg,Qm,ab0,ab2,hs0,hsf];kernel_rfl);intro _)|refine Yn ?_|fail))
      (refine Qk (kJ _ _ z ⟨?_,?_,?_,?_,⟨zw,zs,wf,_,hA1 _,.inl hsl.symm⟩⟩ ?_);(simp[up,h1]);(simp[up,h2]);(simp[up,h3]);(simp[up]);exact rfl)
     ·have hb1:=Qe hb
      have hsb:Su (h.length-1) 1 b=1000:=by have:=Pz hb;unfold Su;rw[if_neg (by omega)];omega
      (with_reducible repeat' (first|simp only[hb,Vc.down,seval,Xf.down,h1,h2,h3,h7,hd,hw,hx,hA,hA1,hb,hb1,htR,hop,hNum,hCan,hAl,kn,Qq,Qn,Qp,Qr,Ss.cells,hD1,aaN]|refine Rj ?_ ?_<;>intro hb|((refine Qx (h.length-1) 1 ?_ ?_);(simp (discharger:=decide) only[Qw,Qo,abY,abZ,Qh,Qz,Qy,Qg,Qm,ab0,ab2,hsb,hs0,hsf];kernel_rfl);intro _)|refine Yn ?_|fail))
      (refine Qk (kJ _ _ z ⟨?_,?_,?_,?_,⟨zw,zs,wf,_,hA1 _,.inr ⟨b,wb,hb0,rfl,hb1 _⟩⟩⟩ ?_);(simp[up,h1]);(simp[up,h2]);(simp[up,h3]);(simp[up]);exact rfl)
   ·rw[cn]at hCan
    replace hD2:=hD2 cn
    replace hD3:=hD3 cn
    have hmp:=adO (lG zw hp) cn
    have hmw:=oQ zw (i:=j) hmp
    obtain⟨N',hwm,h12m⟩:=lI hmw
    have hpf:=zs.fits p (List.mem_of_getElem? hp)
    have hdr:0≤d∧d≤5000:=by simpa [aN,Yj]using c3
    have hmf:(Zp p k).fits:=by
     unfold Zp
     split
     ·exact hpf
     ·split
      ·exact hpf
      ·exact hpf
    have haf:(Uj p d k pb).fits:=by
     obtain⟨q1,q2,q3,q4,q5,q6⟩:=hpf
     have hdi:i64 d:=by unfold i64;omega
     unfold Uj
     split
     ·exact⟨q1,q2,q3,q4,q5,q6⟩
     ·split
      ·exact⟨q1,q2,q3,q4,q5,q6⟩
      ·split
       ·split
        ·exact⟨q1,q2,hdi,q4,q5,q6⟩
        ·exact⟨q1,q2,q3,q4,q5,q6⟩
       ·exact⟨q1,q2,hdi,q4,q5,q6⟩
    have hms:=mG zs (i:=j) hmf
    have has:=mG zs (i:=j) haf
    have hap:=afD (lG zw hp) c3 cn pb
    have haw:=oQ zw (i:=j) hap
    obtain⟨N3,hw3,h123⟩:=lI haw
    have eN:N'=N:=by have e1:=hwm.rooms;have e2:=hw4.rooms;have e3:(Ti z j (Zp p k)).rooms=z.rooms:=rfl;omega
    have eN3:N3=N:=by have e1:=hw3.rooms;have e2:=hw4.rooms;have e3:(Ti z j (Uj p d k pb)).rooms=z.rooms:=rfl;omega
    subst eN eN3
    have hM:=jH hwm h12m hms d (by rw[hmw,c3];rfl)
    have hK:=jH hw3 h123 has d (by rw[haw,c3];rfl)
    have hWl:=aeP _ has
    rw[haw]at hWl
    have hsm:=ae0 hw4 h12 hp hk pb cn
    have hna3:=akB (N:=N3) c3 hp zw hk pb
    have hal1:=fun(hk':k=1∨k=4)=>aeR (d:=d) hw4 hp hk' pb
    have hcon:=amZ (w:=z) (N:=N3) (L:=Qb z d) hjl
    have hHas:=fun nn=>ao1 (qT z N3 (Qb z d)) nn j (by
     have:(qT z N3 (Qb z d)).length≤(List.range z.parts.length).length:=List.length_filter_le ..
     rw[List.length_range]at this
     unfold maxLen;omega)
    rw[hcon]at hHas
    have hs3:eB z N3 (Qb z d) k j pb (Ri p d,p.opn)=true→Vl z N3 (Qb z d)≤(jD (Ti z j (Uj p d k pb)) N3 d:Int):=fun e=>by
     rw[hna3]
     simp only[eB,ahC,decide_eq_true_eq]at e
     exact e.2
    have hmn:(if z.need<(jD z N3 d:Int)then z.need else(jD z N3 d:Int))=Vl z N3 (Qb z d):=by
     simp only[Vl,fY]
     split<;>split<;>omega
    obtain⟨wm,hW⟩:=anE hw4.ne hw4.len hjl (Zp p k)
    rw[hsl]at hW
    rw[hsm]at hD2 hD3 hs3 hal1
    generalize Vl z N3 (Qb z d)=lb at *
    have htR2:∀q,ag9 z.parts.length ((z.parts.set j q).map Px.cells)=(z.parts.set j q).map Px.cells:=fun q=>ahA (by simp)
    have e5:∀q,(Ti z j q).cells=[.int .i64 z.rooms,.int .i64 z.need,.imm 9 true ((z.parts.set j q).map Px.cells)]:=fun q=>by
     show [_,_,Ux 9 true true _]=_
     rw[dK];rfl
    have e6:∀q,[AV.agg (Ti z j q).cells,.int .i64 d]=[.agg [.int .i64 z.rooms,.int .i64 z.need,.imm 9 true ((z.parts.set j q).map Px.cells)],.int .i64 d]:=fun q=>by rw[e5]
    change Vf.call _ [AV.agg (Ti z j (Zp p k)).cells,.int .i64 d] []=_ at hM
    change Vf.call _ [AV.agg (Ti z j (Uj p d k pb)).cells,.int .i64 d] []=_ at hK
    change Vf.call _ [AV.agg (Ti z j (Uj p d k pb)).cells] []=_ at hWl
    rw[e5]at hM hK hWl
    have hS0:=aS hl0
    generalize jD (Ti z j (Zp p k)) N3 d=m at *
    generalize jD (Ti z j (Uj p d k pb)) N3 d=m3 at *
    generalize hgn:jD z N3 d=n at *
    have iln:((j:Int)<(z.parts.length:Int))=True:=eq_true (by omega)
    cases hs1:decide ((m:Int)≥lb)
    ·replace hD2:=hD2 hs1
     simp only[ge_iff_le]at hs1
     obtain⟨p1,p2,p3,p4,p5,p6,p7,p8,p9⟩:=p
     rcases hk with rfl|rfl|rfl|rfl
     ·rw[show Zp ⟨p1,p2,p3,p4,p5,p6,p7,p8,p9⟩ 1=⟨p1,p2,p3,true,p5,p6,p7,p8,p9⟩from rfl]at hW hM
      simp only[Px.cells]at hW
      rcases hva with⟨hna,rfl,rfl⟩|⟨hna,rfl,rfl⟩
      ·rcases hv with rfl|⟨b,wb,hb0,rfl,hb⟩
       ·(have hb:=trivial;with_reducible repeat' (first|simp only[hb,Vc.down,seval,Xf.down,h1,h2,h3,h7,hd,hw,hx,hA,hA1,hS0,hop,hNum,hCan,hAl,kn,Qq,Qn,Qp,Qr,Ss.cells,hD2,hp,hW,hM,Px.cells,htR2,hmn,hs1,ge_iff_le,iln,ab3,adC,aaN]|refine Rj ?_ ?_<;>intro hb|((refine Qx (h.length-1) 1 ?_ ?_);(simp (discharger:=decide) only[Qw,Qo,abY,abZ,Qh,Qz,Qy,Qg,Qm,ab0,ab2,hs0,hsf];kernel_rfl);intro _)|refine Yn ?_|fail))
        (refine Qk (kJ _ _ z ⟨?_,?_,?_,?_,⟨zw,zs,wf,_,hA1 _,.inl hsl.symm⟩⟩ ?_);(simp[up,h1]);(simp[up,h2]);(simp[up,h3]);(simp[up]);exact rfl)
       ·have hb1:=Qe hb
        have hsb:Su (h.length-1) 1 b=1000:=by have:=Pz hb;unfold Su;rw[if_neg (by omega)];omega
        (with_reducible repeat' (first|simp only[hb,Vc.down,seval,Xf.down,h1,h2,h3,h7,hd,hw,hx,hA,hA1,hS0,hb,hb1,htR,hop,hNum,hCan,hAl,kn,Qq,Qn,Qp,Qr,Ss.cells,hD2,hp,hW,hM,Px.cells,htR2,hmn,hs1,ge_iff_le,iln,ab3,adC,aaN]|refine Rj ?_ ?_<;>intro hb|((refine Qx (h.length-1) 1 ?_ ?_);(simp (discharger:=decide) only[Qw,Qo,abY,abZ,Qh,Qz,Qy,Qg,Qm,ab0,ab2,hsb,hs0,hsf];kernel_rfl);intro _)|refine Yn ?_|fail))
        (refine Qk (kJ _ _ z ⟨?_,?_,?_,?_,⟨zw,zs,wf,_,hA1 _,.inr ⟨b,wb,hb0,rfl,hb1 _⟩⟩⟩ ?_);(simp[up,h1]);(simp[up,h2]);(simp[up,h3]);(simp[up]);exact rfl)
      ·rcases hv with rfl|⟨b,wb,hb0,rfl,hb⟩
       ·(have hb:=trivial;with_reducible repeat' (first|simp only[hb,Vc.down,seval,Xf.down,h1,h2,h3,h7,hd,hw,hx,hA,hA1,hS0,hop,hNum,hCan,hAl,kn,Qq,Qn,Qp,Qr,Ss.cells,hD2,hp,hW,hM,Px.cells,htR2,hmn,hs1,ge_iff_le,iln,ab3,adC,aaN]|refine Rj ?_ ?_<;>intro hb|((refine Qx (h.length-1) 1 ?_ ?_);(simp (discharger:=decide) only[Qw,Qo,abY,abZ,Qh,Qz,Qy,Qg,Qm,ab0,ab2,hs0,hsf];kernel_rfl);intro _)|refine Yn ?_|fail))
        (refine Qk (kJ _ _ z ⟨?_,?_,?_,?_,⟨zw,zs,wf,_,hA1 _,.inl hsl.symm⟩⟩ ?_);(simp[up,h1]);(simp[up,h2]);(simp[up,h3]);(simp[up]);exact rfl)
       ·have hb1:=Qe hb
        have hsb:Su (h.length-1) 1 b=1000:=by have:=Pz hb;unfold Su;rw[if_neg (by omega)];omega
        (with_reducible repeat' (first|simp only[hb,Vc.down,seval,Xf.down,h1,h2,h3,h7,hd,hw,hx,hA,hA1,hS0,hb,hb1,htR,hop,hNum,hCan,hAl,kn,Qq,Qn,Qp,Qr,Ss.cells,hD2,hp,hW,hM,Px.cells,htR2,hmn,hs1,ge_iff_le,iln,ab3,adC,aaN]|refine Rj ?_ ?_<;>intro hb|((refine Qx (h.length-1) 1 ?_ ?_);(simp (discharger:=decide) only[Qw,Qo,abY,abZ,Qh,Qz,Qy,Qg,Qm,ab0,ab2,hsb,hs0,hsf];kernel_rfl);intro _)|refine Yn ?_|fail))
        (refine Qk (kJ _ _ z ⟨?_,?_,?_,?_,⟨zw,zs,wf,_,hA1 _,.inr ⟨b,wb,hb0,rfl,hb1 _⟩⟩⟩ ?_);(simp[up,h1]);(simp[up,h2]);(simp[up,h3]);(simp[up]);exact rfl)
     ·rw[show Zp ⟨p1,p2,p3,p4,p5,p6,p7,p8,p9⟩ 2=⟨p1,p2,p3,p4,p5,p6,p7,p8,p9⟩from rfl]at hW hM
      simp only[Px.cells]at hW
      rcases hva with⟨hna,rfl,rfl⟩|⟨hna,rfl,rfl⟩
      ·rcases hv with rfl|⟨b,wb,hb0,rfl,hb⟩
       ·(have hb:=trivial;with_reducible repeat' (first|simp only[hb,Vc.down,seval,Xf.down,h1,h2,h3,h7,hd,hw,hx,hA,hA1,hS0,hop,hNum,hCan,hAl,kn,Qq,Qn,Qp,Qr,Ss.cells,hD2,hp,hW,hM,Px.cells,htR2,hmn,hs1,ge_iff_le,iln,ab3,adC,aaN]|refine Rj ?_ ?_<;>intro hb|((refine Qx (h.length-1) 1 ?_ ?_);(simp (discharger:=decide) only[Qw,Qo,abY,abZ,Qh,Qz,Qy,Qg,Qm,ab0,ab2,hs0,hsf];kernel_rfl);intro _)|refine Yn ?_|fail))
        (refine Qk (kJ _ _ z ⟨?_,?_,?_,?_,⟨zw,zs,wf,_,hA1 _,.inl hsl.symm⟩⟩ ?_);(simp[up,h1]);(simp[up,h2]);(simp[up,h3]);(simp[up]);exact rfl)
       ·have hb1:=Qe hb
        have hsb:Su (h.length-1) 1 b=1000:=by have:=Pz hb;unfold Su;rw[if_neg (by omega)];omega
        (with_reducible repeat' (first|simp only[hb,Vc.down,seval,Xf.down,h1,h2,h3,h7,hd,hw,hx,hA,hA1,hS0,hb,hb1,htR,hop,hNum,hCan,hAl,kn,Qq,Qn,Qp,Qr,Ss.cells,hD2,hp,hW,hM,Px.cells,htR2,hmn,hs1,ge_iff_le,iln,ab3,adC,aaN]|refine Rj ?_ ?_<;>intro hb|((refine Qx (h.length-1) 1 ?_ ?_);(simp (discharger:=decide) only[Qw,Qo,abY,abZ,Qh,Qz,Qy,Qg,Qm,ab0,ab2,hsb,hs0,hsf];kernel_rfl);intro _)|refine Yn ?_|fail))
        (refine Qk (kJ _ _ z ⟨?_,?_,?_,?_,⟨zw,zs,wf,_,hA1 _,.inr ⟨b,wb,hb0,rfl,hb1 _⟩⟩⟩ ?_);(simp[up,h1]);(simp[up,h2]);(simp[up,h3]);(simp[up]);exact rfl)
      ·rcases hv with rfl|⟨b,wb,hb0,rfl,hb⟩
       ·(have hb:=trivial;with_reducible repeat' (first|simp only[hb,Vc.down,seval,Xf.down,h1,h2,h3,h7,hd,hw,hx,hA,hA1,hS0,hop,hNum,hCan,hAl,kn,Qq,Qn,Qp,Qr,Ss.cells,hD2,hp,hW,hM,Px.cells,htR2,hmn,hs1,ge_iff_le,iln,ab3,adC,aaN]|refine Rj ?_ ?_<;>intro hb|((refine Qx (h.length-1) 1 ?_ ?_);(simp (discharger:=decide) only[Qw,Qo,abY,abZ,Qh,Qz,Qy,Qg,Qm,ab0,ab2,hs0,hsf];kernel_rfl);intro _)|refine Yn ?_|fail))
        (refine Qk (kJ _ _ z ⟨?_,?_,?_,?_,⟨zw,zs,wf,_,hA1 _,.inl hsl.symm⟩⟩ ?_);(simp[up,h1]);(simp[up,h2]);(simp[up,h3]);(simp[up]);exact rfl)
       ·have hb1:=Qe hb
        have hsb:Su (h.length-1) 1 b=1000:=by have:=Pz hb;unfold Su;rw[if_neg (by omega)];omega
        (with_reducible repeat' (first|simp only[hb,Vc.down,seval,Xf.down,h1,h2,h3,h7,hd,hw,hx,hA,hA1,hS0,hb,hb1,htR,hop,hNum,hCan,hAl,kn,Qq,Qn,Qp,Qr,Ss.cells,hD2,hp,hW,hM,Px.cells,htR2,hmn,hs1,ge_iff_le,iln,ab3,adC,aaN]|refine Rj ?_ ?_<;>intro hb|((refine Qx (h.length-1) 1 ?_ ?_);(simp (discharger:=decide) only[Qw,Qo,abY,abZ,Qh,Qz,Qy,Qg,Qm,ab0,ab2,hsb,hs0,hsf];kernel_rfl);intro _)|refine Yn ?_|fail))
        (refine Qk (kJ _ _ z ⟨?_,?_,?_,?_,⟨zw,zs,wf,_,hA1 _,.inr ⟨b,wb,hb0,rfl,hb1 _⟩⟩⟩ ?_);(simp[up,h1]);(simp[up,h2]);(simp[up,h3]);(simp[up]);exact rfl)
     ·rw[show Zp ⟨p1,p2,p3,p4,p5,p6,p7,p8,p9⟩ 3=⟨p1,p2,p3,p4,p5,p6,p7,p8,p9⟩from rfl]at hW hM
      simp only[Px.cells]at hW
      rcases hva with⟨hna,rfl,rfl⟩|⟨hna,rfl,rfl⟩
      ·rcases hv with rfl|⟨b,wb,hb0,rfl,hb⟩
       ·(have hb:=trivial;with_reducible repeat' (first|simp only[hb,Vc.down,seval,Xf.down,h1,h2,h3,h7,hd,hw,hx,hA,hA1,hS0,hop,hNum,hCan,hAl,kn,Qq,Qn,Qp,Qr,Ss.cells,hD2,hp,hW,hM,Px.cells,htR2,hmn,hs1,ge_iff_le,iln,ab3,adC,aaN]|refine Rj ?_ ?_<;>intro hb|((refine Qx (h.length-1) 1 ?_ ?_);(simp (discharger:=decide) only[Qw,Qo,abY,abZ,Qh,Qz,Qy,Qg,Qm,ab0,ab2,hs0,hsf];kernel_rfl);intro _)|refine Yn ?_|fail))
        (refine Qk (kJ _ _ z ⟨?_,?_,?_,?_,⟨zw,zs,wf,_,hA1 _,.inl hsl.symm⟩⟩ ?_);(simp[up,h1]);(simp[up,h2]);(simp[up,h3]);(simp[up]);exact rfl)
       ·have hb1:=Qe hb
        have hsb:Su (h.length-1) 1 b=1000:=by have:=Pz hb;unfold Su;rw[if_neg (by omega)];omega
        (with_reducible repeat' (first|simp only[hb,Vc.down,seval,Xf.down,h1,h2,h3,h7,hd,hw,hx,hA,hA1,hS0,hb,hb1,htR,hop,hNum,hCan,hAl,kn,Qq,Qn,Qp,Qr,Ss.cells,hD2,hp,hW,hM,Px.cells,htR2,hmn,hs1,ge_iff_le,iln,ab3,adC,aaN]|refine Rj ?_ ?_<;>intro hb|((refine Qx (h.length-1) 1 ?_ ?_);(simp (discharger:=decide) only[Qw,Qo,abY,abZ,Qh,Qz,Qy,Qg,Qm,ab0,ab2,hsb,hs0,hsf];kernel_rfl);intro _)|refine Yn ?_|fail))
        (refine Qk (kJ _ _ z ⟨?_,?_,?_,?_,⟨zw,zs,wf,_,hA1 _,.inr ⟨b,wb,hb0,rfl,hb1 _⟩⟩⟩ ?_);(simp[up,h1]);(simp[up,h2]);(simp[up,h3]);(simp[up]);exact rfl)
      ·rcases hv with rfl|⟨b,wb,hb0,rfl,hb⟩
       ·(have hb:=trivial;with_reducible repeat' (first|simp only[hb,Vc.down,seval,Xf.down,h1,h2,h3,h7,hd,hw,hx,hA,hA1,hS0,hop,hNum,hCan,hAl,kn,Qq,Qn,Qp,Qr,Ss.cells,hD2,hp,hW,hM,Px.cells,htR2,hmn,hs1,ge_iff_le,iln,ab3,adC,aaN]|refine Rj ?_ ?_<;>intro hb|((refine Qx (h.length-1) 1 ?_ ?_);(simp (discharger:=decide) only[Qw,Qo,abY,abZ,Qh,Qz,Qy,Qg,Qm,ab0,ab2,hs0,hsf];kernel_rfl);intro _)|refine Yn ?_|fail))
        (refine Qk (kJ _ _ z ⟨?_,?_,?_,?_,⟨zw,zs,wf,_,hA1 _,.inl hsl.symm⟩⟩ ?_);(simp[up,h1]);(simp[up,h2]);(simp[up,h3]);(simp[up]);exact rfl)
       ·have hb1:=Qe hb
        have hsb:Su (h.length-1) 1 b=1000:=by have:=Pz hb;unfold Su;rw[if_neg (by omega)];omega
        (with_reducible repeat' (first|simp only[hb,Vc.down,seval,Xf.down,h1,h2,h3,h7,hd,hw,hx,hA,hA1,hS0,hb,hb1,htR,hop,hNum,hCan,hAl,kn,Qq,Qn,Qp,Qr,Ss.cells,hD2,hp,hW,hM,Px.cells,htR2,hmn,hs1,ge_iff_le,iln,ab3,adC,aaN]|refine Rj ?_ ?_<;>intro hb|((refine Qx (h.length-1) 1 ?_ ?_);(simp (discharger:=decide) only[Qw,Qo,abY,abZ,Qh,Qz,Qy,Qg,Qm,ab0,ab2,hsb,hs0,hsf];kernel_rfl);intro _)|refine Yn ?_|fail))
        (refine Qk (kJ _ _ z ⟨?_,?_,?_,?_,⟨zw,zs,wf,_,hA1 _,.inr ⟨b,wb,hb0,rfl,hb1 _⟩⟩⟩ ?_);(simp[up,h1]);(simp[up,h2]);(simp[up,h3]);(simp[up]);exact rfl)
     ·rw[show Zp ⟨p1,p2,p3,p4,p5,p6,p7,p8,p9⟩ 4=⟨p1,p2,p3,p4,p5,p6,true,p8,p9⟩from rfl]at hW hM
      simp only[Px.cells]at hW
      rcases hva with⟨hna,rfl,rfl⟩|⟨hna,rfl,rfl⟩
      ·rcases hv with rfl|⟨b,wb,hb0,rfl,hb⟩
       ·(have hb:=trivial;with_reducible repeat' (first|simp only[hb,Vc.down,seval,Xf.down,h1,h2,h3,h7,hd,hw,hx,hA,hA1,hS0,hop,hNum,hCan,hAl,kn,Qq,Qn,Qp,Qr,Ss.cells,hD2,hp,hW,hM,Px.cells,htR2,hmn,hs1,ge_iff_le,iln,ab3,adC,aaN]|refine Rj ?_ ?_<;>intro hb|((refine Qx (h.length-1) 1 ?_ ?_);(simp (discharger:=decide) only[Qw,Qo,abY,abZ,Qh,Qz,Qy,Qg,Qm,ab0,ab2,hs0,hsf];kernel_rfl);intro _)|refine Yn ?_|fail))
        (refine Qk (kJ _ _ z ⟨?_,?_,?_,?_,⟨zw,zs,wf,_,hA1 _,.inl hsl.symm⟩⟩ ?_);(simp[up,h1]);(simp[up,h2]);(simp[up,h3]);(simp[up]);exact rfl)
       ·have hb1:=Qe hb
        have hsb:Su (h.length-1) 1 b=1000:=by have:=Pz hb;unfold Su;rw[if_neg (by omega)];omega
        (with_reducible repeat' (first|simp only[hb,Vc.down,seval,Xf.down,h1,h2,h3,h7,hd,hw,hx,hA,hA1,hS0,hb,hb1,htR,hop,hNum,hCan,hAl,kn,Qq,Qn,Qp,Qr,Ss.cells,hD2,hp,hW,hM,Px.cells,htR2,hmn,hs1,ge_iff_le,iln,ab3,adC,aaN]|refine Rj ?_ ?_<;>intro hb|((refine Qx (h.length-1) 1 ?_ ?_);(simp (discharger:=decide) only[Qw,Qo,abY,abZ,Qh,Qz,Qy,Qg,Qm,ab0,ab2,hsb,hs0,hsf];kernel_rfl);intro _)|refine Yn ?_|fail))
        (refine Qk (kJ _ _ z ⟨?_,?_,?_,?_,⟨zw,zs,wf,_,hA1 _,.inr ⟨b,wb,hb0,rfl,hb1 _⟩⟩⟩ ?_);(simp[up,h1]);(simp[up,h2]);(simp[up,h3]);(simp[up]);exact rfl)
      ·rcases hv with rfl|⟨b,wb,hb0,rfl,hb⟩
       ·(have hb:=trivial;with_reducible repeat' (first|simp only[hb,Vc.down,seval,Xf.down,h1,h2,h3,h7,hd,hw,hx,hA,hA1,hS0,hop,hNum,hCan,hAl,kn,Qq,Qn,Qp,Qr,Ss.cells,hD2,hp,hW,hM,Px.cells,htR2,hmn,hs1,ge_iff_le,iln,ab3,adC,aaN]|refine Rj ?_ ?_<;>intro hb|((refine Qx (h.length-1) 1 ?_ ?_);(simp (discharger:=decide) only[Qw,Qo,abY,abZ,Qh,Qz,Qy,Qg,Qm,ab0,ab2,hs0,hsf];kernel_rfl);intro _)|refine Yn ?_|fail))
        (refine Qk (kJ _ _ z ⟨?_,?_,?_,?_,⟨zw,zs,wf,_,hA1 _,.inl hsl.symm⟩⟩ ?_);(simp[up,h1]);(simp[up,h2]);(simp[up,h3]);(simp[up]);exact rfl)
       ·have hb1:=Qe hb
        have hsb:Su (h.length-1) 1 b=1000:=by have:=Pz hb;unfold Su;rw[if_neg (by omega)];omega
        (with_reducible repeat' (first|simp only[hb,Vc.down,seval,Xf.down,h1,h2,h3,h7,hd,hw,hx,hA,hA1,hS0,hb,hb1,htR,hop,hNum,hCan,hAl,kn,Qq,Qn,Qp,Qr,Ss.cells,hD2,hp,hW,hM,Px.cells,htR2,hmn,hs1,ge_iff_le,iln,ab3,adC,aaN]|refine Rj ?_ ?_<;>intro hb|((refine Qx (h.length-1) 1 ?_ ?_);(simp (discharger:=decide) only[Qw,Qo,abY,abZ,Qh,Qz,Qy,Qg,Qm,ab0,ab2,hsb,hs0,hsf];kernel_rfl);intro _)|refine Yn ?_|fail))
        (refine Qk (kJ _ _ z ⟨?_,?_,?_,?_,⟨zw,zs,wf,_,hA1 _,.inr ⟨b,wb,hb0,rfl,hb1 _⟩⟩⟩ ?_);(simp[up,h1]);(simp[up,h2]);(simp[up,h3]);(simp[up]);exact rfl)
    ·obtain⟨wd,hD3⟩:=hD3 hs1
     replace hs3:=hs3 hs1
     have hs4:decide ((m3:Int)<lb)=false:=decide_eq_false (by omega)
     simp only[ge_iff_le]at hs1 hal1
     have hno:(k=1∨k=4)→decide (z.need>0)=true→rX z N3 (Qb z d) j=true→False:=fun e1 e2 e3=>by
      have:=hal1 e1 (by simpa using e2) e3
      rw[hs1]at this;cases this
     have hnil:qT z N3 (Qb z d)=[]→rX z N3 (Qb z d) j=false:=fun e=>by rw[←hcon,e];rfl
     clear hal1 hcon
     have hnn:((z.parts.length:Int) !=(z.parts.length:Int))=false:=by simp
     generalize rX z N3 (Qb z d) j=ab at *
     obtain⟨p1,p2,p3,p4,p5,p6,p7,p8,p9⟩:=p
     rcases hk with rfl|rfl|rfl|rfl
     ·rw[show Zp ⟨p1,p2,p3,p4,p5,p6,p7,p8,p9⟩ 1=⟨p1,p2,p3,true,p5,p6,p7,p8,p9⟩from rfl]at hW hM
      simp only[Px.cells]at hW
      rcases hva with⟨hna,rfl,rfl⟩|⟨hna,rfl,rfl⟩
      ·have hHn:Vf.call (.fn 21) [.nils,.int .i64 (j:Int)] []=some (.ret (.bool ab),[]):=by have:=hHas false;rw[hna]at this;exact this
       obtain rfl:=hnil hna
       cases hnd:decide (z.need>0)
       all_goals simp only[gt_iff_lt]at hnd
       ·rcases hv with rfl|⟨b,wb,hb0,rfl,hb⟩
        ·(have hb:=trivial;with_reducible repeat' (first|simp only[hb,Vc.down,seval,Xf.down,h1,h2,h3,h7,hd,hw,hx,hA,hA1,hS0,hop,hNum,hCan,hAl,kn,Qq,Qn,Qp,Qr,Ss.cells,hD3,hp,hW,hM,hK,hWl,hHn,Px.cells,htR2,hmn,hs1,hs4,hnd,hnn,bne,beq_self_eq_true,ag6,ge_iff_le,gt_iff_lt,iln,ab3,adC,aaN]|refine Rj ?_ ?_<;>intro hb|((refine Qx (h.length-1) 1 ?_ ?_);(simp (discharger:=decide) only[Qw,Qo,abY,abZ,Qh,Qz,Qy,Qg,Qm,ab0,ab2,hs0,hsf];kernel_rfl);intro _)|refine Yn ?_|fail))
         (refine Qk (kJ _ _ (Ti z j (Uj ⟨p1,p2,p3,p4,p5,p6,p7,p8,p9⟩ d 1 pb)) ⟨?_,?_,?_,?_,?_⟩ ?_);(simp[up,h1]);(simp[up,h2]);(simp[up,h3]);(simp[up]);(exact⟨haw,has,true,.slr 9 (h.length+1) 0 z.parts.length,by rw[ag7 (by simpa using hl0),ag8 hl0];rfl,.inr ⟨h.length+1,wd,by omega,by rw[Qu],by rw[Qs];rfl⟩⟩);exact rfl)
        ·have hb1:=Qe hb
         have hsb:Su (h.length-1) 1 b=1000:=by have:=Pz hb;unfold Su;rw[if_neg (by omega)];omega
         (with_reducible repeat' (first|simp only[hb,Vc.down,seval,Xf.down,h1,h2,h3,h7,hd,hw,hx,hA,hA1,hS0,hb,hb1,htR,hop,hNum,hCan,hAl,kn,Qq,Qn,Qp,Qr,Ss.cells,hD3,hp,hW,hM,hK,hWl,hHn,Px.cells,htR2,hmn,hs1,hs4,hnd,hnn,bne,beq_self_eq_true,ag6,ge_iff_le,gt_iff_lt,iln,ab3,adC,aaN]|refine Rj ?_ ?_<;>intro hb|((refine Qx (h.length-1) 1 ?_ ?_);(simp (discharger:=decide) only[Qw,Qo,abY,abZ,Qh,Qz,Qy,Qg,Qm,ab0,ab2,hsb,hs0,hsf];kernel_rfl);intro _)|refine Yn ?_|fail))
         (refine Qk (kJ _ _ (Ti z j (Uj ⟨p1,p2,p3,p4,p5,p6,p7,p8,p9⟩ d 1 pb)) ⟨?_,?_,?_,?_,?_⟩ ?_);(simp[up,h1]);(simp[up,h2]);(simp[up,h3]);(simp[up]);(exact⟨haw,has,true,.slr 9 (h.length+1) 0 z.parts.length,by rw[ag7 (by simpa using hl0),ag8 hl0];rfl,.inr ⟨h.length+1,wd,by omega,by rw[Qu],by rw[Qs];rfl⟩⟩);exact rfl)
       ·rcases hv with rfl|⟨b,wb,hb0,rfl,hb⟩
        ·(have hb:=trivial;with_reducible repeat' (first|simp only[hb,Vc.down,seval,Xf.down,h1,h2,h3,h7,hd,hw,hx,hA,hA1,hS0,hop,hNum,hCan,hAl,kn,Qq,Qn,Qp,Qr,Ss.cells,hD3,hp,hW,hM,hK,hWl,hHn,Px.cells,htR2,hmn,hs1,hs4,hnd,hnn,bne,beq_self_eq_true,ag6,ge_iff_le,gt_iff_lt,iln,ab3,adC,aaN]|refine Rj ?_ ?_<;>intro hb|((refine Qx (h.length-1) 1 ?_ ?_);(simp (discharger:=decide) only[Qw,Qo,abY,abZ,Qh,Qz,Qy,Qg,Qm,ab0,ab2,hs0,hsf];kernel_rfl);intro _)|refine Yn ?_|fail))
         (refine Qk (kJ _ _ (Ti z j (Uj ⟨p1,p2,p3,p4,p5,p6,p7,p8,p9⟩ d 1 pb)) ⟨?_,?_,?_,?_,?_⟩ ?_);(simp[up,h1]);(simp[up,h2]);(simp[up,h3]);(simp[up]);(exact⟨haw,has,true,.slr 9 (h.length+1) 0 z.parts.length,by rw[ag7 (by simpa using hl0),ag8 hl0];rfl,.inr ⟨h.length+1,wd,by omega,by rw[Qu],by rw[Qs];rfl⟩⟩);exact rfl)
        ·have hb1:=Qe hb
         have hsb:Su (h.length-1) 1 b=1000:=by have:=Pz hb;unfold Su;rw[if_neg (by omega)];omega
         (with_reducible repeat' (first|simp only[hb,Vc.down,seval,Xf.down,h1,h2,h3,h7,hd,hw,hx,hA,hA1,hS0,hb,hb1,htR,hop,hNum,hCan,hAl,kn,Qq,Qn,Qp,Qr,Ss.cells,hD3,hp,hW,hM,hK,hWl,hHn,Px.cells,htR2,hmn,hs1,hs4,hnd,hnn,bne,beq_self_eq_true,ag6,ge_iff_le,gt_iff_lt,iln,ab3,adC,aaN]|refine Rj ?_ ?_<;>intro hb|((refine Qx (h.length-1) 1 ?_ ?_);(simp (discharger:=decide) only[Qw,Qo,abY,abZ,Qh,Qz,Qy,Qg,Qm,ab0,ab2,hsb,hs0,hsf];kernel_rfl);intro _)|refine Yn ?_|fail))
         (refine Qk (kJ _ _ (Ti z j (Uj ⟨p1,p2,p3,p4,p5,p6,p7,p8,p9⟩ d 1 pb)) ⟨?_,?_,?_,?_,?_⟩ ?_);(simp[up,h1]);(simp[up,h2]);(simp[up,h3]);(simp[up]);(exact⟨haw,has,true,.slr 9 (h.length+1) 0 z.parts.length,by rw[ag7 (by simpa using hl0),ag8 hl0];rfl,.inr ⟨h.length+1,wd,by omega,by rw[Qu],by rw[Qs];rfl⟩⟩);exact rfl)
      ·have hHn:=hHas true
       rw[dK]at hHn
       generalize qT z N3 (Qb z d)=al at *
       have htA:ag9 al.length (al.map Yx)=al.map Yx:=ahA (by simp)
       cases hnd:decide (z.need>0)
       all_goals simp only[gt_iff_lt]at hnd
       ·rcases hv with rfl|⟨b,wb,hb0,rfl,hb⟩
        ·(have hb:=trivial;with_reducible repeat' (first|simp only[hb,Vc.down,seval,Xf.down,h1,h2,h3,h7,hd,hw,hx,hA,hA1,hS0,hop,hNum,hCan,hAl,kn,Qq,Qn,Qp,Qr,Ss.cells,hD3,hp,hW,hM,hK,hWl,hHn,htA,Px.cells,htR2,hmn,hs1,hs4,hnd,hnn,bne,beq_self_eq_true,ag6,ge_iff_le,gt_iff_lt,iln,ab3,adC,aaN]|refine Rj ?_ ?_<;>intro hb|((refine Qx (h.length-1) 1 ?_ ?_);(simp (discharger:=decide) only[Qw,Qo,abY,abZ,Qh,Qz,Qy,Qg,Qm,ab0,ab2,hs0,hsf];kernel_rfl);intro _)|refine Yn ?_|fail))
         (refine Qk (kJ _ _ (Ti z j (Uj ⟨p1,p2,p3,p4,p5,p6,p7,p8,p9⟩ d 1 pb)) ⟨?_,?_,?_,?_,?_⟩ ?_);(simp[up,h1]);(simp[up,h2]);(simp[up,h3]);(simp[up]);(exact⟨haw,has,true,.slr 9 (h.length+2) 0 z.parts.length,by rw[ag7 (by simpa using hl0),ag8 hl0];rfl,.inr ⟨h.length+2,wd,by omega,by rw[Qu],by rw[Qs];rfl⟩⟩);exact rfl)
        ·have hb1:=Qe hb
         have hsb:Su (h.length-1) 1 b=1000:=by have:=Pz hb;unfold Su;rw[if_neg (by omega)];omega
         (with_reducible repeat' (first|simp only[hb,Vc.down,seval,Xf.down,h1,h2,h3,h7,hd,hw,hx,hA,hA1,hS0,hb,hb1,htR,hop,hNum,hCan,hAl,kn,Qq,Qn,Qp,Qr,Ss.cells,hD3,hp,hW,hM,hK,hWl,hHn,htA,Px.cells,htR2,hmn,hs1,hs4,hnd,hnn,bne,beq_self_eq_true,ag6,ge_iff_le,gt_iff_lt,iln,ab3,adC,aaN]|refine Rj ?_ ?_<;>intro hb|((refine Qx (h.length-1) 1 ?_ ?_);(simp (discharger:=decide) only[Qw,Qo,abY,abZ,Qh,Qz,Qy,Qg,Qm,ab0,ab2,hsb,hs0,hsf];kernel_rfl);intro _)|refine Yn ?_|fail))
         (refine Qk (kJ _ _ (Ti z j (Uj ⟨p1,p2,p3,p4,p5,p6,p7,p8,p9⟩ d 1 pb)) ⟨?_,?_,?_,?_,?_⟩ ?_);(simp[up,h1]);(simp[up,h2]);(simp[up,h3]);(simp[up]);(exact⟨haw,has,true,.slr 9 (h.length+2) 0 z.parts.length,by rw[ag7 (by simpa using hl0),ag8 hl0];rfl,.inr ⟨h.length+2,wd,by omega,by rw[Qu],by rw[Qs];rfl⟩⟩);exact rfl)
       ·cases ab
        ·rcases hv with rfl|⟨b,wb,hb0,rfl,hb⟩
         ·(have hb:=trivial;with_reducible repeat' (first|simp only[hb,Vc.down,seval,Xf.down,h1,h2,h3,h7,hd,hw,hx,hA,hA1,hS0,hop,hNum,hCan,hAl,kn,Qq,Qn,Qp,Qr,Ss.cells,hD3,hp,hW,hM,hK,hWl,hHn,htA,Px.cells,htR2,hmn,hs1,hs4,hnd,hnn,bne,beq_self_eq_true,ag6,ge_iff_le,gt_iff_lt,iln,ab3,adC,aaN]|refine Rj ?_ ?_<;>intro hb|((refine Qx (h.length-1) 1 ?_ ?_);(simp (discharger:=decide) only[Qw,Qo,abY,abZ,Qh,Qz,Qy,Qg,Qm,ab0,ab2,hs0,hsf];kernel_rfl);intro _)|refine Yn ?_|fail))
          (refine Qk (kJ _ _ (Ti z j (Uj ⟨p1,p2,p3,p4,p5,p6,p7,p8,p9⟩ d 1 pb)) ⟨?_,?_,?_,?_,?_⟩ ?_);(simp[up,h1]);(simp[up,h2]);(simp[up,h3]);(simp[up]);(exact⟨haw,has,true,.slr 9 (h.length+2) 0 z.parts.length,by rw[ag7 (by simpa using hl0),ag8 hl0];rfl,.inr ⟨h.length+2,wd,by omega,by rw[Qu],by rw[Qs];rfl⟩⟩);exact rfl)
         ·have hb1:=Qe hb
          have hsb:Su (h.length-1) 1 b=1000:=by have:=Pz hb;unfold Su;rw[if_neg (by omega)];omega
          (with_reducible repeat' (first|simp only[hb,Vc.down,seval,Xf.down,h1,h2,h3,h7,hd,hw,hx,hA,hA1,hS0,hb,hb1,htR,hop,hNum,hCan,hAl,kn,Qq,Qn,Qp,Qr,Ss.cells,hD3,hp,hW,hM,hK,hWl,hHn,htA,Px.cells,htR2,hmn,hs1,hs4,hnd,hnn,bne,beq_self_eq_true,ag6,ge_iff_le,gt_iff_lt,iln,ab3,adC,aaN]|refine Rj ?_ ?_<;>intro hb|((refine Qx (h.length-1) 1 ?_ ?_);(simp (discharger:=decide) only[Qw,Qo,abY,abZ,Qh,Qz,Qy,Qg,Qm,ab0,ab2,hsb,hs0,hsf];kernel_rfl);intro _)|refine Yn ?_|fail))
          (refine Qk (kJ _ _ (Ti z j (Uj ⟨p1,p2,p3,p4,p5,p6,p7,p8,p9⟩ d 1 pb)) ⟨?_,?_,?_,?_,?_⟩ ?_);(simp[up,h1]);(simp[up,h2]);(simp[up,h3]);(simp[up]);(exact⟨haw,has,true,.slr 9 (h.length+2) 0 z.parts.length,by rw[ag7 (by simpa using hl0),ag8 hl0];rfl,.inr ⟨h.length+2,wd,by omega,by rw[Qu],by rw[Qs];rfl⟩⟩);exact rfl)
        ·exact(hno (by omega) (by simpa using hnd) rfl).elim
     ·rw[show Zp ⟨p1,p2,p3,p4,p5,p6,p7,p8,p9⟩ 2=⟨p1,p2,p3,p4,p5,p6,p7,p8,p9⟩from rfl]at hW hM
      simp only[Px.cells]at hW
      rcases hva with⟨hna,rfl,rfl⟩|⟨hna,rfl,rfl⟩
      ·have hHn:Vf.call (.fn 21) [.nils,.int .i64 (j:Int)] []=some (.ret (.bool ab),[]):=by have:=hHas false;rw[hna]at this;exact this
       obtain rfl:=hnil hna
       cases hnd:decide (z.need>0)
       all_goals simp only[gt_iff_lt]at hnd
       ·rcases hv with rfl|⟨b,wb,hb0,rfl,hb⟩
        ·(have hb:=trivial;with_reducible repeat' (first|simp only[hb,Vc.down,seval,Xf.down,h1,h2,h3,h7,hd,hw,hx,hA,hA1,hS0,hop,hNum,hCan,hAl,kn,Qq,Qn,Qp,Qr,Ss.cells,hD3,hp,hW,hM,hK,hWl,hHn,Px.cells,htR2,hmn,hs1,hs4,hnd,hnn,bne,beq_self_eq_true,ag6,ge_iff_le,gt_iff_lt,iln,ab3,adC,aaN]|refine Rj ?_ ?_<;>intro hb|((refine Qx (h.length-1) 1 ?_ ?_);(simp (discharger:=decide) only[Qw,Qo,abY,abZ,Qh,Qz,Qy,Qg,Qm,ab0,ab2,hs0,hsf];kernel_rfl);intro _)|refine Yn ?_|fail))
         (refine Qk (kJ _ _ (Ti z j (Uj ⟨p1,p2,p3,p4,p5,p6,p7,p8,p9⟩ d 2 pb)) ⟨?_,?_,?_,?_,?_⟩ ?_);(simp[up,h1]);(simp[up,h2]);(simp[up,h3]);(simp[up]);(exact⟨haw,has,true,.slr 9 (h.length+1) 0 z.parts.length,by rw[ag7 (by simpa using hl0),ag8 hl0];rfl,.inr ⟨h.length+1,wd,by omega,by rw[Qu],by rw[Qs];rfl⟩⟩);exact rfl)
        ·have hb1:=Qe hb
         have hsb:Su (h.length-1) 1 b=1000:=by have:=Pz hb;unfold Su;rw[if_neg (by omega)];omega
         (with_reducible repeat' (first|simp only[hb,Vc.down,seval,Xf.down,h1,h2,h3,h7,hd,hw,hx,hA,hA1,hS0,hb,hb1,htR,hop,hNum,hCan,hAl,kn,Qq,Qn,Qp,Qr,Ss.cells,hD3,hp,hW,hM,hK,hWl,hHn,Px.cells,htR2,hmn,hs1,hs4,hnd,hnn,bne,beq_self_eq_true,ag6,ge_iff_le,gt_iff_lt,iln,ab3,adC,aaN]|refine Rj ?_ ?_<;>intro hb|((refine Qx (h.length-1) 1 ?_ ?_);(simp (discharger:=decide) only[Qw,Qo,abY,abZ,Qh,Qz,Qy,Qg,Qm,ab0,ab2,hsb,hs0,hsf];kernel_rfl);intro _)|refine Yn ?_|fail))
         (refine Qk (kJ _ _ (Ti z j (Uj ⟨p1,p2,p3,p4,p5,p6,p7,p8,p9⟩ d 2 pb)) ⟨?_,?_,?_,?_,?_⟩ ?_);(simp[up,h1]);(simp[up,h2]);(simp[up,h3]);(simp[up]);(exact⟨haw,has,true,.slr 9 (h.length+1) 0 z.parts.length,by rw[ag7 (by simpa using hl0),ag8 hl0];rfl,.inr ⟨h.length+1,wd,by omega,by rw[Qu],by rw[Qs];rfl⟩⟩);exact rfl)
       ·rcases hv with rfl|⟨b,wb,hb0,rfl,hb⟩
        ·(have hb:=trivial;with_reducible repeat' (first|simp only[hb,Vc.down,seval,Xf.down,h1,h2,h3,h7,hd,hw,hx,hA,hA1,hS0,hop,hNum,hCan,hAl,kn,Qq,Qn,Qp,Qr,Ss.cells,hD3,hp,hW,hM,hK,hWl,hHn,Px.cells,htR2,hmn,hs1,hs4,hnd,hnn,bne,beq_self_eq_true,ag6,ge_iff_le,gt_iff_lt,iln,ab3,adC,aaN]|refine Rj ?_ ?_<;>intro hb|((refine Qx (h.length-1) 1 ?_ ?_);(simp (discharger:=decide) only[Qw,Qo,abY,abZ,Qh,Qz,Qy,Qg,Qm,ab0,ab2,hs0,hsf];kernel_rfl);intro _)|refine Yn ?_|fail))
         (refine Qk (kJ _ _ (Ti z j (Uj ⟨p1,p2,p3,p4,p5,p6,p7,p8,p9⟩ d 2 pb)) ⟨?_,?_,?_,?_,?_⟩ ?_);(simp[up,h1]);(simp[up,h2]);(simp[up,h3]);(simp[up]);(exact⟨haw,has,true,.slr 9 (h.length+1) 0 z.parts.length,by rw[ag7 (by simpa using hl0),ag8 hl0];rfl,.inr ⟨h.length+1,wd,by omega,by rw[Qu],by rw[Qs];rfl⟩⟩);exact rfl)
        ·have hb1:=Qe hb
         have hsb:Su (h.length-1) 1 b=1000:=by have:=Pz hb;unfold Su;rw[if_neg (by omega)];omega
         (with_reducible repeat' (first|simp only[hb,Vc.down,seval,Xf.down,h1,h2,h3,h7,hd,hw,hx,hA,hA1,hS0,hb,hb1,htR,hop,hNum,hCan,hAl,kn,Qq,Qn,Qp,Qr,Ss.cells,hD3,hp,hW,hM,hK,hWl,hHn,Px.cells,htR2,hmn,hs1,hs4,hnd,hnn,bne,beq_self_eq_true,ag6,ge_iff_le,gt_iff_lt,iln,ab3,adC,aaN]|refine Rj ?_ ?_<;>intro hb|((refine Qx (h.length-1) 1 ?_ ?_);(simp (discharger:=decide) only[Qw,Qo,abY,abZ,Qh,Qz,Qy,Qg,Qm,ab0,ab2,hsb,hs0,hsf];kernel_rfl);intro _)|refine Yn ?_|fail))
         (refine Qk (kJ _ _ (Ti z j (Uj ⟨p1,p2,p3,p4,p5,p6,p7,p8,p9⟩ d 2 pb)) ⟨?_,?_,?_,?_,?_⟩ ?_);(simp[up,h1]);(simp[up,h2]);(simp[up,h3]);(simp[up]);(exact⟨haw,has,true,.slr 9 (h.length+1) 0 z.parts.length,by rw[ag7 (by simpa using hl0),ag8 hl0];rfl,.inr ⟨h.length+1,wd,by omega,by rw[Qu],by rw[Qs];rfl⟩⟩);exact rfl)
      ·have hHn:=hHas true
       rw[dK]at hHn
       generalize qT z N3 (Qb z d)=al at *
       have htA:ag9 al.length (al.map Yx)=al.map Yx:=ahA (by simp)
       cases hnd:decide (z.need>0)
       all_goals simp only[gt_iff_lt]at hnd
       ·rcases hv with rfl|⟨b,wb,hb0,rfl,hb⟩
        ·(have hb:=trivial;with_reducible repeat' (first|simp only[hb,Vc.down,seval,Xf.down,h1,h2,h3,h7,hd,hw,hx,hA,hA1,hS0,hop,hNum,hCan,hAl,kn,Qq,Qn,Qp,Qr,Ss.cells,hD3,hp,hW,hM,hK,hWl,hHn,htA,Px.cells,htR2,hmn,hs1,hs4,hnd,hnn,bne,beq_self_eq_true,ag6,ge_iff_le,gt_iff_lt,iln,ab3,adC,aaN]|refine Rj ?_ ?_<;>intro hb|((refine Qx (h.length-1) 1 ?_ ?_);(simp (discharger:=decide) only[Qw,Qo,abY,abZ,Qh,Qz,Qy,Qg,Qm,ab0,ab2,hs0,hsf];kernel_rfl);intro _)|refine Yn ?_|fail))
         (refine Qk (kJ _ _ (Ti z j (Uj ⟨p1,p2,p3,p4,p5,p6,p7,p8,p9⟩ d 2 pb)) ⟨?_,?_,?_,?_,?_⟩ ?_);(simp[up,h1]);(simp[up,h2]);(simp[up,h3]);(simp[up]);(exact⟨haw,has,true,.slr 9 (h.length+2) 0 z.parts.length,by rw[ag7 (by simpa using hl0),ag8 hl0];rfl,.inr ⟨h.length+2,wd,by omega,by rw[Qu],by rw[Qs];rfl⟩⟩);exact rfl)
        ·have hb1:=Qe hb
         have hsb:Su (h.length-1) 1 b=1000:=by have:=Pz hb;unfold Su;rw[if_neg (by omega)];omega
         (with_reducible repeat' (first|simp only[hb,Vc.down,seval,Xf.down,h1,h2,h3,h7,hd,hw,hx,hA,hA1,hS0,hb,hb1,htR,hop,hNum,hCan,hAl,kn,Qq,Qn,Qp,Qr,Ss.cells,hD3,hp,hW,hM,hK,hWl,hHn,htA,Px.cells,htR2,hmn,hs1,hs4,hnd,hnn,bne,beq_self_eq_true,ag6,ge_iff_le,gt_iff_lt,iln,ab3,adC,aaN]|refine Rj ?_ ?_<;>intro hb|((refine Qx (h.length-1) 1 ?_ ?_);(simp (discharger:=decide) only[Qw,Qo,abY,abZ,Qh,Qz,Qy,Qg,Qm,ab0,ab2,hsb,hs0,hsf];kernel_rfl);intro _)|refine Yn ?_|fail))
         (refine Qk (kJ _ _ (Ti z j (Uj ⟨p1,p2,p3,p4,p5,p6,p7,p8,p9⟩ d 2 pb)) ⟨?_,?_,?_,?_,?_⟩ ?_);(simp[up,h1]);(simp[up,h2]);(simp[up,h3]);(simp[up]);(exact⟨haw,has,true,.slr 9 (h.length+2) 0 z.parts.length,by rw[ag7 (by simpa using hl0),ag8 hl0];rfl,.inr ⟨h.length+2,wd,by omega,by rw[Qu],by rw[Qs];rfl⟩⟩);exact rfl)
       ·cases ab
        ·rcases hv with rfl|⟨b,wb,hb0,rfl,hb⟩
         ·(have hb:=trivial;with_reducible repeat' (first|simp only[hb,Vc.down,seval,Xf.down,h1,h2,h3,h7,hd,hw,hx,hA,hA1,hS0,hop,hNum,hCan,hAl,kn,Qq,Qn,Qp,Qr,Ss.cells,hD3,hp,hW,hM,hK,hWl,hHn,htA,Px.cells,htR2,hmn,hs1,hs4,hnd,hnn,bne,beq_self_eq_true,ag6,ge_iff_le,gt_iff_lt,iln,ab3,adC,aaN]|refine Rj ?_ ?_<;>intro hb|((refine Qx (h.length-1) 1 ?_ ?_);(simp (discharger:=decide) only[Qw,Qo,abY,abZ,Qh,Qz,Qy,Qg,Qm,ab0,ab2,hs0,hsf];kernel_rfl);intro _)|refine Yn ?_|fail))
          (refine Qk (kJ _ _ (Ti z j (Uj ⟨p1,p2,p3,p4,p5,p6,p7,p8,p9⟩ d 2 pb)) ⟨?_,?_,?_,?_,?_⟩ ?_);(simp[up,h1]);(simp[up,h2]);(simp[up,h3]);(simp[up]);(exact⟨haw,has,true,.slr 9 (h.length+2) 0 z.parts.length,by rw[ag7 (by simpa using hl0),ag8 hl0];rfl,.inr ⟨h.length+2,wd,by omega,by rw[Qu],by rw[Qs];rfl⟩⟩);exact rfl)
         ·have hb1:=Qe hb
          have hsb:Su (h.length-1) 1 b=1000:=by have:=Pz hb;unfold Su;rw[if_neg (by omega)];omega
          (with_reducible repeat' (first|simp only[hb,Vc.down,seval,Xf.down,h1,h2,h3,h7,hd,hw,hx,hA,hA1,hS0,hb,hb1,htR,hop,hNum,hCan,hAl,kn,Qq,Qn,Qp,Qr,Ss.cells,hD3,hp,hW,hM,hK,hWl,hHn,htA,Px.cells,htR2,hmn,hs1,hs4,hnd,hnn,bne,beq_self_eq_true,ag6,ge_iff_le,gt_iff_lt,iln,ab3,adC,aaN]|refine Rj ?_ ?_<;>intro hb|((refine Qx (h.length-1) 1 ?_ ?_);(simp (discharger:=decide) only[Qw,Qo,abY,abZ,Qh,Qz,Qy,Qg,Qm,ab0,ab2,hsb,hs0,hsf];kernel_rfl);intro _)|refine Yn ?_|fail))
          (refine Qk (kJ _ _ (Ti z j (Uj ⟨p1,p2,p3,p4,p5,p6,p7,p8,p9⟩ d 2 pb)) ⟨?_,?_,?_,?_,?_⟩ ?_);(simp[up,h1]);(simp[up,h2]);(simp[up,h3]);(simp[up]);(exact⟨haw,has,true,.slr 9 (h.length+2) 0 z.parts.length,by rw[ag7 (by simpa using hl0),ag8 hl0];rfl,.inr ⟨h.length+2,wd,by omega,by rw[Qu],by rw[Qs];rfl⟩⟩);exact rfl)
        ·rcases hv with rfl|⟨b,wb,hb0,rfl,hb⟩
         ·(have hb:=trivial;with_reducible repeat' (first|simp only[hb,Vc.down,seval,Xf.down,h1,h2,h3,h7,hd,hw,hx,hA,hA1,hS0,hop,hNum,hCan,hAl,kn,Qq,Qn,Qp,Qr,Ss.cells,hD3,hp,hW,hM,hK,hWl,hHn,htA,Px.cells,htR2,hmn,hs1,hs4,hnd,hnn,bne,beq_self_eq_true,ag6,ge_iff_le,gt_iff_lt,iln,ab3,adC,aaN]|refine Rj ?_ ?_<;>intro hb|((refine Qx (h.length-1) 1 ?_ ?_);(simp (discharger:=decide) only[Qw,Qo,abY,abZ,Qh,Qz,Qy,Qg,Qm,ab0,ab2,hs0,hsf];kernel_rfl);intro _)|refine Yn ?_|fail))
          (refine Qk (kJ _ _ (Ti z j (Uj ⟨p1,p2,p3,p4,p5,p6,p7,p8,p9⟩ d 2 pb)) ⟨?_,?_,?_,?_,?_⟩ ?_);(simp[up,h1]);(simp[up,h2]);(simp[up,h3]);(simp[up]);(exact⟨haw,has,true,.slr 9 (h.length+2) 0 z.parts.length,by rw[ag7 (by simpa using hl0),ag8 hl0];rfl,.inr ⟨h.length+2,wd,by omega,by rw[Qu],by rw[Qs];rfl⟩⟩);exact rfl)
         ·have hb1:=Qe hb
          have hsb:Su (h.length-1) 1 b=1000:=by have:=Pz hb;unfold Su;rw[if_neg (by omega)];omega
          (with_reducible repeat' (first|simp only[hb,Vc.down,seval,Xf.down,h1,h2,h3,h7,hd,hw,hx,hA,hA1,hS0,hb,hb1,htR,hop,hNum,hCan,hAl,kn,Qq,Qn,Qp,Qr,Ss.cells,hD3,hp,hW,hM,hK,hWl,hHn,htA,Px.cells,htR2,hmn,hs1,hs4,hnd,hnn,bne,beq_self_eq_true,ag6,ge_iff_le,gt_iff_lt,iln,ab3,adC,aaN]|refine Rj ?_ ?_<;>intro hb|((refine Qx (h.length-1) 1 ?_ ?_);(simp (discharger:=decide) only[Qw,Qo,abY,abZ,Qh,Qz,Qy,Qg,Qm,ab0,ab2,hsb,hs0,hsf];kernel_rfl);intro _)|refine Yn ?_|fail))
          (refine Qk (kJ _ _ (Ti z j (Uj ⟨p1,p2,p3,p4,p5,p6,p7,p8,p9⟩ d 2 pb)) ⟨?_,?_,?_,?_,?_⟩ ?_);(simp[up,h1]);(simp[up,h2]);(simp[up,h3]);(simp[up]);(exact⟨haw,has,true,.slr 9 (h.length+2) 0 z.parts.length,by rw[ag7 (by simpa using hl0),ag8 hl0];rfl,.inr ⟨h.length+2,wd,by omega,by rw[Qu],by rw[Qs];rfl⟩⟩);exact rfl)
     ·rw[show Zp ⟨p1,p2,p3,p4,p5,p6,p7,p8,p9⟩ 3=⟨p1,p2,p3,p4,p5,p6,p7,p8,p9⟩from rfl]at hW hM
      simp only[Px.cells]at hW
      rcases hva with⟨hna,rfl,rfl⟩|⟨hna,rfl,rfl⟩
      ·have hHn:Vf.call (.fn 21) [.nils,.int .i64 (j:Int)] []=some (.ret (.bool ab),[]):=by have:=hHas false;rw[hna]at this;exact this
       obtain rfl:=hnil hna
       cases hnd:decide (z.need>0)
       all_goals simp only[gt_iff_lt]at hnd
       ·rcases hv with rfl|⟨b,wb,hb0,rfl,hb⟩
        ·(have hb:=trivial;with_reducible repeat' (first|simp only[hb,Vc.down,seval,Xf.down,h1,h2,h3,h7,hd,hw,hx,hA,hA1,hS0,hop,hNum,hCan,hAl,kn,Qq,Qn,Qp,Qr,Ss.cells,hD3,hp,hW,hM,hK,hWl,hHn,Px.cells,htR2,hmn,hs1,hs4,hnd,hnn,bne,beq_self_eq_true,ag6,ge_iff_le,gt_iff_lt,iln,ab3,adC,aaN]|refine Rj ?_ ?_<;>intro hb|((refine Qx (h.length-1) 1 ?_ ?_);(simp (discharger:=decide) only[Qw,Qo,abY,abZ,Qh,Qz,Qy,Qg,Qm,ab0,ab2,hs0,hsf];kernel_rfl);intro _)|refine Yn ?_|fail))
         (refine Qk (kJ _ _ (Ti z j (Uj ⟨p1,p2,p3,p4,p5,p6,p7,p8,p9⟩ d 3 pb)) ⟨?_,?_,?_,?_,?_⟩ ?_);(simp[up,h1]);(simp[up,h2]);(simp[up,h3]);(simp[up]);(exact⟨haw,has,true,.slr 9 (h.length+1) 0 z.parts.length,by rw[ag7 (by simpa using hl0),ag8 hl0];rfl,.inr ⟨h.length+1,wd,by omega,by rw[Qu],by rw[Qs];rfl⟩⟩);exact rfl)
        ·have hb1:=Qe hb
         have hsb:Su (h.length-1) 1 b=1000:=by have:=Pz hb;unfold Su;rw[if_neg (by omega)];omega
         (with_reducible repeat' (first|simp only[hb,Vc.down,seval,Xf.down,h1,h2,h3,h7,hd,hw,hx,hA,hA1,hS0,hb,hb1,htR,hop,hNum,hCan,hAl,kn,Qq,Qn,Qp,Qr,Ss.cells,hD3,hp,hW,hM,hK,hWl,hHn,Px.cells,htR2,hmn,hs1,hs4,hnd,hnn,bne,beq_self_eq_true,ag6,ge_iff_le,gt_iff_lt,iln,ab3,adC,aaN]|refine Rj ?_ ?_<;>intro hb|((refine Qx (h.length-1) 1 ?_ ?_);(simp (discharger:=decide) only[Qw,Qo,abY,abZ,Qh,Qz,Qy,Qg,Qm,ab0,ab2,hsb,hs0,hsf];kernel_rfl);intro _)|refine Yn ?_|fail))
         (refine Qk (kJ _ _ (Ti z j (Uj ⟨p1,p2,p3,p4,p5,p6,p7,p8,p9⟩ d 3 pb)) ⟨?_,?_,?_,?_,?_⟩ ?_);(simp[up,h1]);(simp[up,h2]);(simp[up,h3]);(simp[up]);(exact⟨haw,has,true,.slr 9 (h.length+1) 0 z.parts.length,by rw[ag7 (by simpa using hl0),ag8 hl0];rfl,.inr ⟨h.length+1,wd,by omega,by rw[Qu],by rw[Qs];rfl⟩⟩);exact rfl)
       ·rcases hv with rfl|⟨b,wb,hb0,rfl,hb⟩
        ·(have hb:=trivial;with_reducible repeat' (first|simp only[hb,Vc.down,seval,Xf.down,h1,h2,h3,h7,hd,hw,hx,hA,hA1,hS0,hop,hNum,hCan,hAl,kn,Qq,Qn,Qp,Qr,Ss.cells,hD3,hp,hW,hM,hK,hWl,hHn,Px.cells,htR2,hmn,hs1,hs4,hnd,hnn,bne,beq_self_eq_true,ag6,ge_iff_le,gt_iff_lt,iln,ab3,adC,aaN]|refine Rj ?_ ?_<;>intro hb|((refine Qx (h.length-1) 1 ?_ ?_);(simp (discharger:=decide) only[Qw,Qo,abY,abZ,Qh,Qz,Qy,Qg,Qm,ab0,ab2,hs0,hsf];kernel_rfl);intro _)|refine Yn ?_|fail))
         (refine Qk (kJ _ _ (Ti z j (Uj ⟨p1,p2,p3,p4,p5,p6,p7,p8,p9⟩ d 3 pb)) ⟨?_,?_,?_,?_,?_⟩ ?_);(simp[up,h1]);(simp[up,h2]);(simp[up,h3]);(simp[up]);(exact⟨haw,has,true,.slr 9 (h.length+1) 0 z.parts.length,by rw[ag7 (by simpa using hl0),ag8 hl0];rfl,.inr ⟨h.length+1,wd,by omega,by rw[Qu],by rw[Qs];rfl⟩⟩);exact rfl)
        ·have hb1:=Qe hb
         have hsb:Su (h.length-1) 1 b=1000:=by have:=Pz hb;unfold Su;rw[if_neg (by omega)];omega
         (with_reducible repeat' (first|simp only[hb,Vc.down,seval,Xf.down,h1,h2,h3,h7,hd,hw,hx,hA,hA1,hS0,hb,hb1,htR,hop,hNum,hCan,hAl,kn,Qq,Qn,Qp,Qr,Ss.cells,hD3,hp,hW,hM,hK,hWl,hHn,Px.cells,htR2,hmn,hs1,hs4,hnd,hnn,bne,beq_self_eq_true,ag6,ge_iff_le,gt_iff_lt,iln,ab3,adC,aaN]|refine Rj ?_ ?_<;>intro hb|((refine Qx (h.length-1) 1 ?_ ?_);(simp (discharger:=decide) only[Qw,Qo,abY,abZ,Qh,Qz,Qy,Qg,Qm,ab0,ab2,hsb,hs0,hsf];kernel_rfl);intro _)|refine Yn ?_|fail))
         (refine Qk (kJ _ _ (Ti z j (Uj ⟨p1,p2,p3,p4,p5,p6,p7,p8,p9⟩ d 3 pb)) ⟨?_,?_,?_,?_,?_⟩ ?_);(simp[up,h1]);(simp[up,h2]);(simp[up,h3]);(simp[up]);(exact⟨haw,has,true,.slr 9 (h.length+1) 0 z.parts.length,by rw[ag7 (by simpa using hl0),ag8 hl0];rfl,.inr ⟨h.length+1,wd,by omega,by rw[Qu],by rw[Qs];rfl⟩⟩);exact rfl)
      ·have hHn:=hHas true
       rw[dK]at hHn
       generalize qT z N3 (Qb z d)=al at *
       have htA:ag9 al.length (al.map Yx)=al.map Yx:=ahA (by simp)
       cases hnd:decide (z.need>0)
       all_goals simp only[gt_iff_lt]at hnd
       ·rcases hv with rfl|⟨b,wb,hb0,rfl,hb⟩
        ·(have hb:=trivial;with_reducible repeat' (first|simp only[hb,Vc.down,seval,Xf.down,h1,h2,h3,h7,hd,hw,hx,hA,hA1,hS0,hop,hNum,hCan,hAl,kn,Qq,Qn,Qp,Qr,Ss.cells,hD3,hp,hW,hM,hK,hWl,hHn,htA,Px.cells,htR2,hmn,hs1,hs4,hnd,hnn,bne,beq_self_eq_true,ag6,ge_iff_le,gt_iff_lt,iln,ab3,adC,aaN]|refine Rj ?_ ?_<;>intro hb|((refine Qx (h.length-1) 1 ?_ ?_);(simp (discharger:=decide) only[Qw,Qo,abY,abZ,Qh,Qz,Qy,Qg,Qm,ab0,ab2,hs0,hsf];kernel_rfl);intro _)|refine Yn ?_|fail))
         (refine Qk (kJ _ _ (Ti z j (Uj ⟨p1,p2,p3,p4,p5,p6,p7,p8,p9⟩ d 3 pb)) ⟨?_,?_,?_,?_,?_⟩ ?_);(simp[up,h1]);(simp[up,h2]);(simp[up,h3]);(simp[up]);(exact⟨haw,has,true,.slr 9 (h.length+2) 0 z.parts.length,by rw[ag7 (by simpa using hl0),ag8 hl0];rfl,.inr ⟨h.length+2,wd,by omega,by rw[Qu],by rw[Qs];rfl⟩⟩);exact rfl)
        ·have hb1:=Qe hb
         have hsb:Su (h.length-1) 1 b=1000:=by have:=Pz hb;unfold Su;rw[if_neg (by omega)];omega
         (with_reducible repeat' (first|simp only[hb,Vc.down,seval,Xf.down,h1,h2,h3,h7,hd,hw,hx,hA,hA1,hS0,hb,hb1,htR,hop,hNum,hCan,hAl,kn,Qq,Qn,Qp,Qr,Ss.cells,hD3,hp,hW,hM,hK,hWl,hHn,htA,Px.cells,htR2,hmn,hs1,hs4,hnd,hnn,bne,beq_self_eq_true,ag6,ge_iff_le,gt_iff_lt,iln,ab3,adC,aaN]|refine Rj ?_ ?_<;>intro hb|((refine Qx (h.length-1) 1 ?_ ?_);(simp (discharger:=decide) only[Qw,Qo,abY,abZ,Qh,Qz,Qy,Qg,Qm,ab0,ab2,hsb,hs0,hsf];kernel_rfl);intro _)|refine Yn ?_|fail))
         (refine Qk (kJ _ _ (Ti z j (Uj ⟨p1,p2,p3,p4,p5,p6,p7,p8,p9⟩ d 3 pb)) ⟨?_,?_,?_,?_,?_⟩ ?_);(simp[up,h1]);(simp[up,h2]);(simp[up,h3]);(simp[up]);(exact⟨haw,has,true,.slr 9 (h.length+2) 0 z.parts.length,by rw[ag7 (by simpa using hl0),ag8 hl0];rfl,.inr ⟨h.length+2,wd,by omega,by rw[Qu],by rw[Qs];rfl⟩⟩);exact rfl)
       ·cases ab
        ·rcases hv with rfl|⟨b,wb,hb0,rfl,hb⟩
         ·(have hb:=trivial;with_reducible repeat' (first|simp only[hb,Vc.down,seval,Xf.down,h1,h2,h3,h7,hd,hw,hx,hA,hA1,hS0,hop,hNum,hCan,hAl,kn,Qq,Qn,Qp,Qr,Ss.cells,hD3,hp,hW,hM,hK,hWl,hHn,htA,Px.cells,htR2,hmn,hs1,hs4,hnd,hnn,bne,beq_self_eq_true,ag6,ge_iff_le,gt_iff_lt,iln,ab3,adC,aaN]|refine Rj ?_ ?_<;>intro hb|((refine Qx (h.length-1) 1 ?_ ?_);(simp (discharger:=decide) only[Qw,Qo,abY,abZ,Qh,Qz,Qy,Qg,Qm,ab0,ab2,hs0,hsf];kernel_rfl);intro _)|refine Yn ?_|fail))
          (refine Qk (kJ _ _ (Ti z j (Uj ⟨p1,p2,p3,p4,p5,p6,p7,p8,p9⟩ d 3 pb)) ⟨?_,?_,?_,?_,?_⟩ ?_);(simp[up,h1]);(simp[up,h2]);(simp[up,h3]);(simp[up]);(exact⟨haw,has,true,.slr 9 (h.length+2) 0 z.parts.length,by rw[ag7 (by simpa using hl0),ag8 hl0];rfl,.inr ⟨h.length+2,wd,by omega,by rw[Qu],by rw[Qs];rfl⟩⟩);exact rfl)
         ·have hb1:=Qe hb
          have hsb:Su (h.length-1) 1 b=1000:=by have:=Pz hb;unfold Su;rw[if_neg (by omega)];omega
          (with_reducible repeat' (first|simp only[hb,Vc.down,seval,Xf.down,h1,h2,h3,h7,hd,hw,hx,hA,hA1,hS0,hb,hb1,htR,hop,hNum,hCan,hAl,kn,Qq,Qn,Qp,Qr,Ss.cells,hD3,hp,hW,hM,hK,hWl,hHn,htA,Px.cells,htR2,hmn,hs1,hs4,hnd,hnn,bne,beq_self_eq_true,ag6,ge_iff_le,gt_iff_lt,iln,ab3,adC,aaN]|refine Rj ?_ ?_<;>intro hb|((refine Qx (h.length-1) 1 ?_ ?_);(simp (discharger:=decide) only[Qw,Qo,abY,abZ,Qh,Qz,Qy,Qg,Qm,ab0,ab2,hsb,hs0,hsf];kernel_rfl);intro _)|refine Yn ?_|fail))
          (refine Qk (kJ _ _ (Ti z j (Uj ⟨p1,p2,p3,p4,p5,p6,p7,p8,p9⟩ d 3 pb)) ⟨?_,?_,?_,?_,?_⟩ ?_);(simp[up,h1]);(simp[up,h2]);(simp[up,h3]);(simp[up]);(exact⟨haw,has,true,.slr 9 (h.length+2) 0 z.parts.length,by rw[ag7 (by simpa using hl0),ag8 hl0];rfl,.inr ⟨h.length+2,wd,by omega,by rw[Qu],by rw[Qs];rfl⟩⟩);exact rfl)
        ·rcases hv with rfl|⟨b,wb,hb0,rfl,hb⟩
         ·(have hb:=trivial;with_reducible repeat' (first|simp only[hb,Vc.down,seval,Xf.down,h1,h2,h3,h7,hd,hw,hx,hA,hA1,hS0,hop,hNum,hCan,hAl,kn,Qq,Qn,Qp,Qr,Ss.cells,hD3,hp,hW,hM,hK,hWl,hHn,htA,Px.cells,htR2,hmn,hs1,hs4,hnd,hnn,bne,beq_self_eq_true,ag6,ge_iff_le,gt_iff_lt,iln,ab3,adC,aaN]|refine Rj ?_ ?_<;>intro hb|((refine Qx (h.length-1) 1 ?_ ?_);(simp (discharger:=decide) only[Qw,Qo,abY,abZ,Qh,Qz,Qy,Qg,Qm,ab0,ab2,hs0,hsf];kernel_rfl);intro _)|refine Yn ?_|fail))
          (refine Qk (kJ _ _ (Ti z j (Uj ⟨p1,p2,p3,p4,p5,p6,p7,p8,p9⟩ d 3 pb)) ⟨?_,?_,?_,?_,?_⟩ ?_);(simp[up,h1]);(simp[up,h2]);(simp[up,h3]);(simp[up]);(exact⟨haw,has,true,.slr 9 (h.length+2) 0 z.parts.length,by rw[ag7 (by simpa using hl0),ag8 hl0];rfl,.inr ⟨h.length+2,wd,by omega,by rw[Qu],by rw[Qs];rfl⟩⟩);exact rfl)
         ·have hb1:=Qe hb
          have hsb:Su (h.length-1) 1 b=1000:=by have:=Pz hb;unfold Su;rw[if_neg (by omega)];omega
          (with_reducible repeat' (first|simp only[hb,Vc.down,seval,Xf.down,h1,h2,h3,h7,hd,hw,hx,hA,hA1,hS0,hb,hb1,htR,hop,hNum,hCan,hAl,kn,Qq,Qn,Qp,Qr,Ss.cells,hD3,hp,hW,hM,hK,hWl,hHn,htA,Px.cells,htR2,hmn,hs1,hs4,hnd,hnn,bne,beq_self_eq_true,ag6,ge_iff_le,gt_iff_lt,iln,ab3,adC,aaN]|refine Rj ?_ ?_<;>intro hb|((refine Qx (h.length-1) 1 ?_ ?_);(simp (discharger:=decide) only[Qw,Qo,abY,abZ,Qh,Qz,Qy,Qg,Qm,ab0,ab2,hsb,hs0,hsf];kernel_rfl);intro _)|refine Yn ?_|fail))
          (refine Qk (kJ _ _ (Ti z j (Uj ⟨p1,p2,p3,p4,p5,p6,p7,p8,p9⟩ d 3 pb)) ⟨?_,?_,?_,?_,?_⟩ ?_);(simp[up,h1]);(simp[up,h2]);(simp[up,h3]);(simp[up]);(exact⟨haw,has,true,.slr 9 (h.length+2) 0 z.parts.length,by rw[ag7 (by simpa using hl0),ag8 hl0];rfl,.inr ⟨h.length+2,wd,by omega,by rw[Qu],by rw[Qs];rfl⟩⟩);exact rfl)
     ·rw[show Zp ⟨p1,p2,p3,p4,p5,p6,p7,p8,p9⟩ 4=⟨p1,p2,p3,p4,p5,p6,true,p8,p9⟩from rfl]at hW hM
      simp only[Px.cells]at hW
      rcases hva with⟨hna,rfl,rfl⟩|⟨hna,rfl,rfl⟩
      ·have hHn:Vf.call (.fn 21) [.nils,.int .i64 (j:Int)] []=some (.ret (.bool ab),[]):=by have:=hHas false;rw[hna]at this;exact this
       obtain rfl:=hnil hna
       cases hnd:decide (z.need>0)
       all_goals simp only[gt_iff_lt]at hnd
       ·rcases hv with rfl|⟨b,wb,hb0,rfl,hb⟩
        ·(have hb:=trivial;with_reducible repeat' (first|simp only[hb,Vc.down,seval,Xf.down,h1,h2,h3,h7,hd,hw,hx,hA,hA1,hS0,hop,hNum,hCan,hAl,kn,Qq,Qn,Qp,Qr,Ss.cells,hD3,hp,hW,hM,hK,hWl,hHn,Px.cells,htR2,hmn,hs1,hs4,hnd,hnn,bne,beq_self_eq_true,ag6,ge_iff_le,gt_iff_lt,iln,ab3,adC,aaN]|refine Rj ?_ ?_<;>intro hb|((refine Qx (h.length-1) 1 ?_ ?_);(simp (discharger:=decide) only[Qw,Qo,abY,abZ,Qh,Qz,Qy,Qg,Qm,ab0,ab2,hs0,hsf];kernel_rfl);intro _)|refine Yn ?_|fail))
         (refine Qk (kJ _ _ (Ti z j (Uj ⟨p1,p2,p3,p4,p5,p6,p7,p8,p9⟩ d 4 pb)) ⟨?_,?_,?_,?_,?_⟩ ?_);(simp[up,h1]);(simp[up,h2]);(simp[up,h3]);(simp[up]);(exact⟨haw,has,true,.slr 9 (h.length+1) 0 z.parts.length,by rw[ag7 (by simpa using hl0),ag8 hl0];rfl,.inr ⟨h.length+1,wd,by omega,by rw[Qu],by rw[Qs];rfl⟩⟩);exact rfl)
        ·have hb1:=Qe hb
         have hsb:Su (h.length-1) 1 b=1000:=by have:=Pz hb;unfold Su;rw[if_neg (by omega)];omega
         (with_reducible repeat' (first|simp only[hb,Vc.down,seval,Xf.down,h1,h2,h3,h7,hd,hw,hx,hA,hA1,hS0,hb,hb1,htR,hop,hNum,hCan,hAl,kn,Qq,Qn,Qp,Qr,Ss.cells,hD3,hp,hW,hM,hK,hWl,hHn,Px.cells,htR2,hmn,hs1,hs4,hnd,hnn,bne,beq_self_eq_true,ag6,ge_iff_le,gt_iff_lt,iln,ab3,adC,aaN]|refine Rj ?_ ?_<;>intro hb|((refine Qx (h.length-1) 1 ?_ ?_);(simp (discharger:=decide) only[Qw,Qo,abY,abZ,Qh,Qz,Qy,Qg,Qm,ab0,ab2,hsb,hs0,hsf];kernel_rfl);intro _)|refine Yn ?_|fail))
         (refine Qk (kJ _ _ (Ti z j (Uj ⟨p1,p2,p3,p4,p5,p6,p7,p8,p9⟩ d 4 pb)) ⟨?_,?_,?_,?_,?_⟩ ?_);(simp[up,h1]);(simp[up,h2]);(simp[up,h3]);(simp[up]);(exact⟨haw,has,true,.slr 9 (h.length+1) 0 z.parts.length,by rw[ag7 (by simpa using hl0),ag8 hl0];rfl,.inr ⟨h.length+1,wd,by omega,by rw[Qu],by rw[Qs];rfl⟩⟩);exact rfl)
       ·rcases hv with rfl|⟨b,wb,hb0,rfl,hb⟩
        ·(have hb:=trivial;with_reducible repeat' (first|simp only[hb,Vc.down,seval,Xf.down,h1,h2,h3,h7,hd,hw,hx,hA,hA1,hS0,hop,hNum,hCan,hAl,kn,Qq,Qn,Qp,Qr,Ss.cells,hD3,hp,hW,hM,hK,hWl,hHn,Px.cells,htR2,hmn,hs1,hs4,hnd,hnn,bne,beq_self_eq_true,ag6,ge_iff_le,gt_iff_lt,iln,ab3,adC,aaN]|refine Rj ?_ ?_<;>intro hb|((refine Qx (h.length-1) 1 ?_ ?_);(simp (discharger:=decide) only[Qw,Qo,abY,abZ,Qh,Qz,Qy,Qg,Qm,ab0,ab2,hs0,hsf];kernel_rfl);intro _)|refine Yn ?_|fail))
         (refine Qk (kJ _ _ (Ti z j (Uj ⟨p1,p2,p3,p4,p5,p6,p7,p8,p9⟩ d 4 pb)) ⟨?_,?_,?_,?_,?_⟩ ?_);(simp[up,h1]);(simp[up,h2]);(simp[up,h3]);(simp[up]);(exact⟨haw,has,true,.slr 9 (h.length+1) 0 z.parts.length,by rw[ag7 (by simpa using hl0),ag8 hl0];rfl,.inr ⟨h.length+1,wd,by omega,by rw[Qu],by rw[Qs];rfl⟩⟩);exact rfl)
        ·have hb1:=Qe hb
         have hsb:Su (h.length-1) 1 b=1000:=by have:=Pz hb;unfold Su;rw[if_neg (by omega)];omega
         (with_reducible repeat' (first|simp only[hb,Vc.down,seval,Xf.down,h1,h2,h3,h7,hd,hw,hx,hA,hA1,hS0,hb,hb1,htR,hop,hNum,hCan,hAl,kn,Qq,Qn,Qp,Qr,Ss.cells,hD3,hp,hW,hM,hK,hWl,hHn,Px.cells,htR2,hmn,hs1,hs4,hnd,hnn,bne,beq_self_eq_true,ag6,ge_iff_le,gt_iff_lt,iln,ab3,adC,aaN]|refine Rj ?_ ?_<;>intro hb|((refine Qx (h.length-1) 1 ?_ ?_);(simp (discharger:=decide) only[Qw,Qo,abY,abZ,Qh,Qz,Qy,Qg,Qm,ab0,ab2,hsb,hs0,hsf];kernel_rfl);intro _)|refine Yn ?_|fail))
         (refine Qk (kJ _ _ (Ti z j (Uj ⟨p1,p2,p3,p4,p5,p6,p7,p8,p9⟩ d 4 pb)) ⟨?_,?_,?_,?_,?_⟩ ?_);(simp[up,h1]);(simp[up,h2]);(simp[up,h3]);(simp[up]);(exact⟨haw,has,true,.slr 9 (h.length+1) 0 z.parts.length,by rw[ag7 (by simpa using hl0),ag8 hl0];rfl,.inr ⟨h.length+1,wd,by omega,by rw[Qu],by rw[Qs];rfl⟩⟩);exact rfl)
      ·have hHn:=hHas true
       rw[dK]at hHn
       generalize qT z N3 (Qb z d)=al at *
       have htA:ag9 al.length (al.map Yx)=al.map Yx:=ahA (by simp)
       cases hnd:decide (z.need>0)
       all_goals simp only[gt_iff_lt]at hnd
       ·rcases hv with rfl|⟨b,wb,hb0,rfl,hb⟩
        ·(have hb:=trivial;with_reducible repeat' (first|simp only[hb,Vc.down,seval,Xf.down,h1,h2,h3,h7,hd,hw,hx,hA,hA1,hS0,hop,hNum,hCan,hAl,kn,Qq,Qn,Qp,Qr,Ss.cells,hD3,hp,hW,hM,hK,hWl,hHn,htA,Px.cells,htR2,hmn,hs1,hs4,hnd,hnn,bne,beq_self_eq_true,ag6,ge_iff_le,gt_iff_lt,iln,ab3,adC,aaN]|refine Rj ?_ ?_<;>intro hb|((refine Qx (h.length-1) 1 ?_ ?_);(simp (discharger:=decide) only[Qw,Qo,abY,abZ,Qh,Qz,Qy,Qg,Qm,ab0,ab2,hs0,hsf];kernel_rfl);intro _)|refine Yn ?_|fail))
         (refine Qk (kJ _ _ (Ti z j (Uj ⟨p1,p2,p3,p4,p5,p6,p7,p8,p9⟩ d 4 pb)) ⟨?_,?_,?_,?_,?_⟩ ?_);(simp[up,h1]);(simp[up,h2]);(simp[up,h3]);(simp[up]);(exact⟨haw,has,true,.slr 9 (h.length+2) 0 z.parts.length,by rw[ag7 (by simpa using hl0),ag8 hl0];rfl,.inr ⟨h.length+2,wd,by omega,by rw[Qu],by rw[Qs];rfl⟩⟩);exact rfl)
        ·have hb1:=Qe hb
         have hsb:Su (h.length-1) 1 b=1000:=by have:=Pz hb;unfold Su;rw[if_neg (by omega)];omega
         (with_reducible repeat' (first|simp only[hb,Vc.down,seval,Xf.down,h1,h2,h3,h7,hd,hw,hx,hA,hA1,hS0,hb,hb1,htR,hop,hNum,hCan,hAl,kn,Qq,Qn,Qp,Qr,Ss.cells,hD3,hp,hW,hM,hK,hWl,hHn,htA,Px.cells,htR2,hmn,hs1,hs4,hnd,hnn,bne,beq_self_eq_true,ag6,ge_iff_le,gt_iff_lt,iln,ab3,adC,aaN]|refine Rj ?_ ?_<;>intro hb|((refine Qx (h.length-1) 1 ?_ ?_);(simp (discharger:=decide) only[Qw,Qo,abY,abZ,Qh,Qz,Qy,Qg,Qm,ab0,ab2,hsb,hs0,hsf];kernel_rfl);intro _)|refine Yn ?_|fail))
         (refine Qk (kJ _ _ (Ti z j (Uj ⟨p1,p2,p3,p4,p5,p6,p7,p8,p9⟩ d 4 pb)) ⟨?_,?_,?_,?_,?_⟩ ?_);(simp[up,h1]);(simp[up,h2]);(simp[up,h3]);(simp[up]);(exact⟨haw,has,true,.slr 9 (h.length+2) 0 z.parts.length,by rw[ag7 (by simpa using hl0),ag8 hl0];rfl,.inr ⟨h.length+2,wd,by omega,by rw[Qu],by rw[Qs];rfl⟩⟩);exact rfl)
       ·cases ab
        ·rcases hv with rfl|⟨b,wb,hb0,rfl,hb⟩
         ·(have hb:=trivial;with_reducible repeat' (first|simp only[hb,Vc.down,seval,Xf.down,h1,h2,h3,h7,hd,hw,hx,hA,hA1,hS0,hop,hNum,hCan,hAl,kn,Qq,Qn,Qp,Qr,Ss.cells,hD3,hp,hW,hM,hK,hWl,hHn,htA,Px.cells,htR2,hmn,hs1,hs4,hnd,hnn,bne,beq_self_eq_true,ag6,ge_iff_le,gt_iff_lt,iln,ab3,adC,aaN]|refine Rj ?_ ?_<;>intro hb|((refine Qx (h.length-1) 1 ?_ ?_);(simp (discharger:=decide) only[Qw,Qo,abY,abZ,Qh,Qz,Qy,Qg,Qm,ab0,ab2,hs0,hsf];kernel_rfl);intro _)|refine Yn ?_|fail))
          (refine Qk (kJ _ _ (Ti z j (Uj ⟨p1,p2,p3,p4,p5,p6,p7,p8,p9⟩ d 4 pb)) ⟨?_,?_,?_,?_,?_⟩ ?_);(simp[up,h1]);(simp[up,h2]);(simp[up,h3]);(simp[up]);(exact⟨haw,has,true,.slr 9 (h.length+2) 0 z.parts.length,by rw[ag7 (by simpa using hl0),ag8 hl0];rfl,.inr ⟨h.length+2,wd,by omega,by rw[Qu],by rw[Qs];rfl⟩⟩);exact rfl)
         ·have hb1:=Qe hb
          have hsb:Su (h.length-1) 1 b=1000:=by have:=Pz hb;unfold Su;rw[if_neg (by omega)];omega
          (with_reducible repeat' (first|simp only[hb,Vc.down,seval,Xf.down,h1,h2,h3,h7,hd,hw,hx,hA,hA1,hS0,hb,hb1,htR,hop,hNum,hCan,hAl,kn,Qq,Qn,Qp,Qr,Ss.cells,hD3,hp,hW,hM,hK,hWl,hHn,htA,Px.cells,htR2,hmn,hs1,hs4,hnd,hnn,bne,beq_self_eq_true,ag6,ge_iff_le,gt_iff_lt,iln,ab3,adC,aaN]|refine Rj ?_ ?_<;>intro hb|((refine Qx (h.length-1) 1 ?_ ?_);(simp (discharger:=decide) only[Qw,Qo,abY,abZ,Qh,Qz,Qy,Qg,Qm,ab0,ab2,hsb,hs0,hsf];kernel_rfl);intro _)|refine Yn ?_|fail))
          (refine Qk (kJ _ _ (Ti z j (Uj ⟨p1,p2,p3,p4,p5,p6,p7,p8,p9⟩ d 4 pb)) ⟨?_,?_,?_,?_,?_⟩ ?_);(simp[up,h1]);(simp[up,h2]);(simp[up,h3]);(simp[up]);(exact⟨haw,has,true,.slr 9 (h.length+2) 0 z.parts.length,by rw[ag7 (by simpa using hl0),ag8 hl0];rfl,.inr ⟨h.length+2,wd,by omega,by rw[Qu],by rw[Qs];rfl⟩⟩);exact rfl)
        ·exact(hno (by omega) (by simpa using hnd) rfl).elim
 ·exact⟨by simp[up,eU],by simp[up,eU],by simp[up,eU],by simp[up],⟨c2,hs,false,_,rfl,.inl rfl⟩⟩
 rcases hq with rfl|⟨rfl,h6⟩
 ·(have hb:=trivial;with_reducible repeat' (first|simp only[hb,Vc.down,seval,Xf.down,kn]|refine Rj ?_ ?_<;>intro hb|refine fd ?_|fail))
 ·(have hb:=trivial;with_reducible repeat' (first|simp only[hb,Vc.down,seval,Xf.down,h6]|refine Rj ?_ ?_<;>intro hb|refine fd ?_|fail))
theorem xI(hk:Vf.call (.fn 10) [] []=some (.ret (.bool true),[])):∀avs,vE Tryd.prog 7 Tryd.f8.params.toList avs→Vf.call (.fn 8) avs []=some (.ret (.bool true),[]):=by
 intro avs h
 rw[show Tryd.f8.params.toList=[24,3,51]from rfl]at h
 match avs,h with
 | [a,b,c],h=>
   obtain⟨w,rfl,hs⟩:=akR h.1
   obtain⟨d,rfl,_⟩:=aFN h.2.1
   obtain⟨nl,l,rfl,hl⟩:=ah3 h.2.2.1
   exact wR hk w hs d nl l hl
 | [],h=>exact h.elim
 | [_],h=>exact h.2.elim
 | [_,_],h=>exact h.2.2.elim
 |_::_::_::_::_,h=>exact h.2.2.2.elim
end Go.Proofs.YtckfcfcmfjfchaaDoor
