/- The functions of the layer, walked. -/
import Derived.Test.YtcncggaobhbomaaGreatDoorPartAE
import Derived.Test.YtcncggaobhbomaaGreatDoorPartAD
import Derived.Test.YtcncggaobhbomaaGreatDoorPartAC
import Derived.Test.YtcncggaobhbomaaGreatDoorLibF
open List renaming length_map→abK,length_set→abL,range→adC,mem_of_getElem?→af5,getElem?_eq_some_iff→ah1,mem_range→ai5,getElem?_eq_none→aoT,map_append→aoV,take→aoW,getElem?_map→awN,mem_map→aA3,length_pos_iff→aDD,drop_eq_getElem_cons→aDG,getElem?_eq_getElem→aD2,getElem?_append_right→aEQ,getElem?_set_self→aFV,length_eq_zero_iff→aIE,mem_or_eq_of_mem_set→aJN,take_of_length_le→aJQ,replicate→aKO,getElem?_of_mem→aLF,getElem?_range→aNO,range_succ→aOA,length_append→aOB,getElem?_append_left→aOK,length_replicate→aPZ,getElem?_set_ne→aQB,ext_getElem?→aQC
open Nat renaming le_refl→abX,le_trans→azY,pow_le_pow_right→az0,succ_mul→aBU,mul_le_mul→aBV,add_sub_cancel_left→aNF
open Bool renaming and_eq_true→adD,false_eq_true→agI,eq_iff_iff→aoS,and_false→aJ4
open Int renaming tmod_eq_emod_of_nonneg→aHX,tdiv_eq_ediv_of_nonneg→aHY
open Option renaming map_some→aLA
set_option linter.unusedSimpArgs false
set_option linter.unusedVariables false
namespace Go.Proofs.YtcncggaobhbomaaGreatDoor
open Go.Ev Go Go.Ev.Net
set_option maxRecDepth 100000
set_option maxHeartbeats 16000000
def azM(p:Ab)(d:Int)(n:Nat):Ab:={ p with opn:=n % 2==1,bad:=n % 6 / 2==2,tested:=if n % 6 / 2==1 then d-1 else d,valid:=0 }
def Hm(d:Int):List Ab→Nat→List Ab
 | [],_=>[]
 |p::l,n=>azM p d n::Hm d l (n / 6)
theorem Pv(d:Int):∀(l:List Ab) (n:Nat),(Hm d l n).length=l.length
 | [],_=>rfl
 |p::l,n=>by simp[Hm,Pv d l]
theorem aNY{w:Af}(hne:w.parts≠[])(h12:w.parts.length≤12){d:Int}(hd0:0≤d)(hd1:d≤6000){n:Nat}(hn:n<2 ^ 40):
 ∃wf,Dp.call (.fn 46) [.agg [.int .i64 w.rooms,.int .i64 w.need,Be 9 true w.nn (w.parts.map Ab.cells)],.int .i64 d,.int .i64 (n:Int)] []=some (.ret (.agg [.int .i64 w.rooms,.int .i64 w.need,.slr 9 0 0 w.parts.length]),[.live 9 true wf ((Hm d w.parts n).map Ab.cells)]):=by
 have h2:w.parts.map Ab.cells≠[]:=by simpa using hne
 have h4:=fun(h:Aa)=>a3U (n:=9) (h:=h) (nfl:=true) h2 (by simp;omega)
 have hs:Be 9 true w.nn (w.parts.map Ab.cells)=.imm 9 true (w.parts.map Ab.cells):=Ko h2
 rw[hs]
 obtain⟨ans,hans⟩:∃a,Hm d w.parts n=a:=⟨_,rfl⟩
 rw[hans]
 refine⟨true,?_⟩
 refine ce Tryz.func46 ?_
 simp only[Tryz.f46]
 (have hb:=trivial;with_reducible repeat' (first|simp only[hb,Vc.down,seval,a2D.down,h4,abK]|refine An ?_ ?_<;>intro hb|refine fd ?_|fail))
 refine Dy (lst 63 w.parts (fun i (s:List Ab × Nat) t h=>s.1.length=i∧s.2<2 ^ 40∧t 1=.int .i64 d∧t 2=.int .i64 (s.2:Int)∧t 6=.ptr 1 0 0∧t 7=.ptr 2 0 0∧t 8=.int .i64 (i:Int)∧∃c0 x1 x2 x3,(0<i→x3=true)∧h=[c0,.live 3 false x1 [[.int .i64 0,.int .i64 0,.nils]],.live 3 false x2 [[.int .i64 w.rooms,.int .i64 w.need,.slr 9 3 0 w.parts.length]],.live 9 true x3 ((s.1++w.parts.drop i).map Ab.cells)]) (fun rest s=>s.1++Hm d rest s.2)
  (fun r e t h=>e=.exit 0∧t 6=.ptr 1 0 0∧t 7=.ptr 2 0 0∧∃c0 x1 x2,h=[c0,.live 3 false x1 [[.int .i64 0,.int .i64 0,.nils]],.live 3 false x2 [[.int .i64 w.rooms,.int .i64 w.need,.slr 9 3 0 w.parts.length]],.live 9 true true (r.map Ab.cells)]) ?_ ?_ ([],n) _ _ ?_) (fun e t h hk=>?_)
 ·rintro⟨s1,s2⟩ t h Q' kQ ⟨q1,q2,g1,g2,g6,g7,g8,c0,x1,x2,x3,hx3,rfl⟩
  simp only at q1 q2 g2
  (have hb:=trivial;with_reducible repeat' (first|simp only[hb,Vc.down,seval,a2D.down,g7,g8,Int.lt_irrefl,decide_false,abK]|refine An ?_ ?_<;>intro hb|refine fd ?_|fail))
  exact kQ _ _ _ ⟨rfl,by simp[up,g6],by simp[up,g7],c0,x1,x2,by rw[List.drop_length,hx3 (aDD.2 hne)];rfl⟩
 ·rintro p rest i ⟨s1,m⟩ t h J Q' kJ kQ hx hi ⟨q1,q2,g1,g2,g6,g7,g8,c0,x1,x2,x3,hx3,rfl⟩
  simp only at q1 q2 g2
  have hdd:decide ((i:Int)<(w.parts.length:Int))=true:=decide_eq_true (by omega)
  have hii:((i:Int)<(w.parts.length:Int))=True:=eq_true (by omega)
  have hww:=Bv hi (by unfold maxLen;omega)
  have hdr:w.parts.drop i=p::w.parts.drop (i+1):=by
   rw[aDG hi]
   congr 1
   rw[aD2 hi]at hx
   exact Option.some.inj hx
  have hRl:i<((s1++w.parts.drop i).map Ab.cells).length:=by rw[hdr];simp;omega
  have hRi:((s1++w.parts.drop i).map Ab.cells)[i]?=some p.cells:=by
   rw[hdr,aoV,aEQ (by simp;omega)]
   simp[q1]
  have hRs:∀q:Ab,((s1++w.parts.drop i).map Ab.cells).set i q.cells=((s1++[q])++w.parts.drop (i+1)).map Ab.cells:=fun q=>by
   rw[hdr,←List.map_set,List.set_append_right _ _ (by omega)]
   simp[q1]
  generalize(s1++w.parts.drop i).map Ab.cells=R at *
  have hgs:∀r,(R.set i r)[i]?=some r:=fun r=>aFV hRl
  have e1:(m:Int).tmod 6=((m % 6:Nat):Int):=by rw[aHX (by omega)];omega
  have e2:((m % 6:Nat):Int).tdiv 2=((m % 6 / 2:Nat):Int):=by rw[aHY (by omega)];omega
  have e12:IntKind.i64.wrap (((m:Int).tmod 6).tdiv 2)=((m % 6 / 2:Nat):Int):=by rw[e1,e2,Bf (by omega) (by omega)]
  have e3:((m:Int).tmod 2==1)=(m % 2==1):=by
   rw[aHX (by omega),aoS];simp;omega
  have e4:IntKind.i64.wrap ((m:Int).tdiv 6)=((m / 6:Nat):Int):=by rw[aHY (by omega),Bf (by omega) (by omega)];omega
  have d1:IntKind.i64.wrap (d-1)=d-1:=Bf (by omega) (by omega)
  have f2:(((m % 6 / 2:Nat):Int)==2)=(m % 6 / 2==2):=by rw[aoS];simp;omega
  obtain⟨p1,p2,p3,p4,p5,p6,p7,p8,p9⟩:=p
  cases c1:(((m % 6 / 2:Nat):Int)==1)with
  |false=>
   have f1:(m % 6 / 2==1)=false:=by rw[←c1,aoS];simp;omega
   (have hb:=trivial;with_reducible repeat' (first|simp only[hb,Vc.down,seval,a2D.down,g1,g2,g7,g8,hdd,hii,hww,hRi,hgs,e12,e3,e4,c1,d1,List.set_set,abL,Ab.cells,abK]|refine An ?_ ?_<;>intro hb|refine fd ?_|fail))
   have hq:=hRs (azM ⟨p1,p2,p3,p4,p5,p6,p7,p8,p9⟩ d m)
   simp only[azM,Ab.cells,f1,agI,if_false]at hq
   refine Aq (kJ _ _ (s1++[azM ⟨p1,p2,p3,p4,p5,p6,p7,p8,p9⟩ d m],m / 6) ⟨by simp[q1],by show m / 6<2 ^ 40;omega,by simp[up,g1],by simp[up],by simp[up,g6],by simp[up,g7],by simp[up],c0,x1,x2,true,fun _=>rfl,?_⟩ (by simp[Hm]))
   rw[f2,hq]
   simp only[azM,f1,agI,if_false]
  |true=>
   have f1:(m % 6 / 2==1)=true:=by rw[←c1,aoS];simp;omega
   (have hb:=trivial;with_reducible repeat' (first|simp only[hb,Vc.down,seval,a2D.down,g1,g2,g7,g8,hdd,hii,hww,hRi,hgs,e12,e3,e4,c1,d1,List.set_set,abL,Ab.cells,abK]|refine An ?_ ?_<;>intro hb|refine fd ?_|fail))
   have hq:=hRs (azM ⟨p1,p2,p3,p4,p5,p6,p7,p8,p9⟩ d m)
   simp only[azM,Ab.cells,f1,if_true]at hq
   refine Aq (kJ _ _ (s1++[azM ⟨p1,p2,p3,p4,p5,p6,p7,p8,p9⟩ d m],m / 6) ⟨by simp[q1],by show m / 6<2 ^ 40;omega,by simp[up,g1],by simp[up],by simp[up,g6],by simp[up,g7],by simp[up],c0,x1,x2,true,fun _=>rfl,?_⟩ (by simp[Hm]))
   rw[f2,hq]
   simp only[azM,f1,if_true]
 ·exact⟨rfl,hn,by simp[up,Lx],by simp[up,Lx],by simp[up],by simp[up],by simp[up],_,_,_,_,fun h=>absurd h (Nat.lt_irrefl 0),rfl⟩
 rw[hans]at hk
 obtain⟨rfl,g6,g7,c0,x1,x2,rfl⟩:=hk
 (have hb:=trivial;with_reducible repeat' (first|simp only[hb,Vc.down,seval,a2D.down,g6,g7]|refine An ?_ ?_<;>intro hb|refine fd ?_|fail))
def Ns(p:Ab)(d k:Int)(b:Bool):Ab:=if k=1 then { p with opn:=true }else if k=2 then { p with opn:=false }else if k=3 then(if b=true then { p with tested:=d }else { p with bad:=true })else { p with tested:=d,bad:=false }
theorem a5I{p:Ab}{d k:Int}(hc:aG9 p d k=true)(b:Bool):Ns p d k b=aSN p d k b:=by
 unfold Ns aSN
 split
 ·rfl
 ·split
  ·rfl
  ·split
   ·rename_i k1 k2 k3
    split
    ·subst k3
     simp only[aG9,Int.reduceEq,if_false,if_true,adD,beq_iff_eq]at hc
     have hb:p.bad=false:=by
      cases hb:p.bad with
      |false=>rfl
      |true=>have:=hc.2;simp[Au,hb]at this
     rw[←hb]
    ·rfl
   ·rfl
theorem baH{w:Af}{N:Nat}(hw:WOk w N){i:Nat}{p q:Ab}(hp:w.parts[i]?=some p)(h1:q.one=p.one)(h2:q.other=p.other):WOk (Np w i q) N:=
 ⟨hw.rooms,hw.n2,hw.n8,by rw[avX];exact hw.len,fun e=>hw.ne (by have:=congrArg List.length e;rw[avX]at this;exact aIE.1 this),fun x hx=>by
   rcases aJN hx with hx|rfl
   ·exact hw.part x hx
   ·rw[h1,h2];exact hw.part p (af5 hp)⟩
theorem awI(p:Ab)(d k:Int)(b:Bool):(Ns p d k b).one=p.one∧(Ns p d k b).other=p.other:=by
 unfold Ns
 split
 ·exact⟨rfl,rfl⟩
 ·split
  ·exact⟨rfl,rfl⟩
  ·split
   ·split<;>exact⟨rfl,rfl⟩
   ·exact⟨rfl,rfl⟩
theorem aEE{w:Af}(hne:w.parts≠[])(hl:w.parts.length≤1000)(d:Int){i:Nat}{p:Ab}(hp:w.parts[i]?=some p){k:Int}(hk:k=1∨k=2∨k=3∨k=4)(b:Bool):
 ∃wf,Dp.call (.fn 72) [.agg [.int .i64 w.rooms,.int .i64 w.need,Be 9 true w.nn (w.parts.map Ab.cells)],.int .i64 d,.agg [.int .i64 k,.int .i64 (i:Int)],.bool b] []=some (.ret (.agg [.int .i64 w.rooms,.int .i64 w.need,.slr 9 0 0 w.parts.length]),[.live 9 true wf ((w.parts.set i (Ns p d k b)).map Ab.cells)]):=by
 have hi:=(ah1.1 hp).1
 obtain⟨wf,hW⟩:=a2E hne hl hi (Ns p d k b)
 have iln:((i:Int)<(w.parts.length:Int))=True:=eq_true (by omega)
 refine⟨wf,?_⟩
 generalize hq:Ns p d k b=q at *
 obtain⟨p1,p2,p3,p4,p5,p6,p7,p8,p9⟩:=p
 rcases hk with rfl|rfl|rfl|rfl
 ·obtain rfl:q=⟨p1,p2,p3,true,p5,p6,p7,p8,p9⟩:=hq.symm
  simp only[Ab.cells]at hW
  (refine ce Tryz.func72 ?_;simp only[Tryz.f72];(have hb:=trivial;with_reducible repeat' (first|simp only[hb,Vc.down,seval,aY6.down,hp,Ab.cells,hW,iln,abK]|refine An ?_ ?_<;>intro hb|refine fd ?_|fail)))
 ·obtain rfl:q=⟨p1,p2,p3,false,p5,p6,p7,p8,p9⟩:=hq.symm
  simp only[Ab.cells]at hW
  (refine ce Tryz.func72 ?_;simp only[Tryz.f72];(have hb:=trivial;with_reducible repeat' (first|simp only[hb,Vc.down,seval,aY6.down,hp,Ab.cells,hW,iln,abK]|refine An ?_ ?_<;>intro hb|refine fd ?_|fail)))
 ·cases b
  ·obtain rfl:q=⟨p1,p2,p3,p4,p5,p6,true,p8,p9⟩:=hq.symm
   simp only[Ab.cells]at hW
   (refine ce Tryz.func72 ?_;simp only[Tryz.f72];(have hb:=trivial;with_reducible repeat' (first|simp only[hb,Vc.down,seval,aY6.down,hp,Ab.cells,hW,iln,abK]|refine An ?_ ?_<;>intro hb|refine fd ?_|fail)))
  ·obtain rfl:q=⟨p1,p2,p3,p4,d,p6,p7,p8,p9⟩:=hq.symm
   simp only[Ab.cells]at hW
   (refine ce Tryz.func72 ?_;simp only[Tryz.f72];(have hb:=trivial;with_reducible repeat' (first|simp only[hb,Vc.down,seval,aY6.down,hp,Ab.cells,hW,iln,abK]|refine An ?_ ?_<;>intro hb|refine fd ?_|fail)))
 ·obtain rfl:q=⟨p1,p2,p3,p4,d,p6,false,p8,p9⟩:=hq.symm
  simp only[Ab.cells]at hW
  (refine ce Tryz.func72 ?_;simp only[Tryz.f72];(have hb:=trivial;with_reducible repeat' (first|simp only[hb,Vc.down,seval,aY6.down,hp,Ab.cells,hW,iln,abK]|refine An ?_ ?_<;>intro hb|refine fd ?_|fail)))
theorem bf4{w:Af}{i:Nat}{p:Ab}(hp:w.parts[i]?=some p){k:Int}(hk:k=1∨k=2∨k=3∨k=4):Dp.call (.fn 73) [.agg [.int .i64 w.rooms,.int .i64 w.need,Be 9 true w.nn (w.parts.map Ab.cells)],.agg [.int .i64 k,.int .i64 (i:Int)]] []=some (.ret (.int .i64 (if k=3 then p.test else if k=4 then p.change else 1)),[]):=by
 have iln:((i:Int)<(w.parts.length:Int))=True:=eq_true (by have:=(ah1.1 hp).1;omega)
 obtain⟨p1,p2,p3,p4,p5,p6,p7,p8,p9⟩:=p
 rcases hk with rfl|rfl|rfl|rfl
 all_goals (refine ce Tryz.func73 ?_;simp only[Tryz.f73];(have hb:=trivial;with_reducible repeat' (first|simp only[hb,Vc.down,seval,bpZ.down,hp,Ab.cells,iln,abK]|refine An ?_ ?_<;>intro hb|refine fd ?_|fail)))
 all_goals rfl
theorem aKQ{w:Af}{N:Nat}(hw:WOk w N)(d:Int){i:Nat}{p q:Ab}(hp:w.parts[i]?=some p)(h1:q.one=p.one)(h2:q.other=p.other):Dp.call (.fn 91) [.agg [.int .i64 w.rooms,.int .i64 w.need,.imm 9 true ((w.parts.set i q).map Ab.cells)],.int .i64 d] []=some (.ret (.int .i64 (ahS (Np w i q) N d:Nat)),[]):=by
 have h:=aOR (baH hw hp h1 h2) d
 have e5:(Np w i q).cells=[.int .i64 w.rooms,.int .i64 w.need,.imm 9 true ((w.parts.set i q).map Ab.cells)]:=by
  show [_,_,Be 9 true true _]=_
  rw[ajY];rfl
 change Dp.call _ [AV.agg (Np w i q).cells,.int .i64 d] []=_ at h
 rw[e5]at h
 exact h
theorem aJC{p:Ab}{d:Int}(hd:0≤d∧d≤6000)(hv:0≤p.valid∧p.valid≤5000):Au { p with bad:=false,tested:=d } d=0:=by
 simp only[Au,agI,if_false]
 rw[Bf (by omega) (by omega),if_neg (by omega)]
theorem aHQ{p:Ab}{d k:Int}(hv:0≤p.valid∧p.valid≤5000)(hk:k=1∨k=2∨k=3∨k=4)(hd:0≤d∧d≤6000)(b:Bool):(Au (aSN p d k b) d,(aSN p d k b).opn)=Dc k b (Au p d,p.opn):=by
 rcases hk with rfl|rfl|rfl|rfl
 ·rfl
 ·rfl
 ·cases b
  ·show(Au { p with bad:=true } d,p.opn)=(2,p.opn)
   simp[Au]
  ·show(Au { p with bad:=false,tested:=d } d,p.opn)=(0,p.opn)
   rw[aJC hd hv]
 ·show(Au { p with bad:=false,tested:=d } d,p.opn)=(0,p.opn)
  rw[aJC hd hv]
theorem aMT{w:Af}{N:Nat}{d:Int}(hd:0≤d∧d≤6000){i:Nat}{p:Ab}(hp:w.parts[i]?=some p)(hv:0≤p.valid∧p.valid≤5000){k:Int}(hk:k=1∨k=2∨k=3∨k=4)(hc:aG9 p d k=true)(b:Bool):ahS (Np w i (Ns p d k b)) N d=nmB w N ((Ac w d).set i (Dc k b (Au p d,p.opn))):=by
 rw[a5I hc,aCB hp (aNW p d k b).1 (aNW p d k b).2,aHQ hv hk hd]
theorem a6M{w:Af}{N:Nat}(hw:WOk w N)(h12:w.parts.length≤12){d:Int}(hd:0≤d∧d≤6000)(hv:∀p∈w.parts,0≤p.valid∧p.valid≤5000){i:Nat}{p:Ab}(hp:w.parts[i]?=some p){k:Int}(hk:k=1∨k=2∨k=3∨k=4)(hc:aG9 p d k=true):
 Dp.call (.fn 71) [.agg [.int .i64 w.rooms,.int .i64 w.need,Be 9 true w.nn (w.parts.map Ab.cells)],.int .i64 d,.agg [.int .i64 k,.int .i64 (i:Int)]] []=some (.ret (.bool (Iy w N (Ac w d) k i true (Au p d,p.opn))),[]):=by
 have hi:=(ah1.1 hp).1
 have hN:=aOR hw d
 obtain⟨w1,hA1⟩:=aEE hw.ne hw.len d hp hk true
 obtain⟨w0,hA0⟩:=aEE hw.ne hw.len d hp hk false
 have hK1:=aKQ hw d hp (awI p d k true).1 (awI p d k true).2
 have hK0:=aKQ hw d hp (awI p d k false).1 (awI p d k false).2
 obtain⟨wm,hW⟩:=a2E hw.ne hw.len hi { p with bad:=true }
 have hM:=aKQ hw d hp (q:={ p with bad:=true }) rfl rfl
 have s1:=aNA hw h12 hp hk true hc
 have s0:=aNA hw h12 hp hk false hc
 have n1:=aMT (N:=N) hd hp (hv p (af5 hp)) hk hc true
 have n0:=aMT (N:=N) hd hp (hv p (af5 hp)) hk hc false
 have u1:Iy w N (Ac w d) k i true (Au p d,p.opn)=true→Ff w N (Ac w d)≤(ahS (Np w i (Ns p d k true)) N d:Int):=fun e=>by
  rw[n1];simp only[Iy,adD,decide_eq_true_eq]at e;exact e.2
 have u0:Iy w N (Ac w d) k i false (Au p d,p.opn)=true→Ff w N (Ac w d)≤(ahS (Np w i (Ns p d k false)) N d:Int):=fun e=>by
  rw[n0];simp only[Iy,adD,decide_eq_true_eq]at e;exact e.2
 have v1:Iy w N (Ac w d) k i true (Au p d,p.opn)=((!(k==4)|| !decide ((ahS (Np w i { p with bad:=true }) N d:Int)<Ff w N (Ac w d)))&&decide ((ahS (Np w i (Ns p d k true)) N d:Int)≥Ff w N (Ac w d))):=by
  rw[n1]
  unfold Iy
  rw[show ahS (Np w i { p with bad:=true }) N d=nmB w N ((Ac w d).set i (2,p.opn))from by
   rw[aCB (q:={ p with bad:=true }) hp rfl rfl]
   simp[Au]]
 have h01:Iy w N (Ac w d) k i true (Au p d,p.opn)=true→Ff w N (Ac w d)≤(ahS (Np w i (Ns p d k false)) N d:Int):=fun e=>u0 (by rw[s0,←s1];exact e)
 have hmn:(if(ahS w N d:Int)<w.need then(ahS w N d:Int)else w.need)=Ff w N (Ac w d):=by
  simp only[Ff,aGJ]
 have hsl:Be 9 true w.nn (w.parts.map Ab.cells)=.imm 9 true (w.parts.map Ab.cells):=Ko (by simpa using hw.ne)
 have htR2:∀q,aoW w.parts.length ((w.parts.set i q).map Ab.cells)=(w.parts.set i q).map Ab.cells:=fun q=>aJQ (by simp)
 have iln:((i:Int)<(w.parts.length:Int))=True:=eq_true (by omega)
 rw[v1]at h01 ⊢
 clear s1 s0 n1 n0 u1 u0 v1
 generalize Ff w N (Ac w d)=lb at *
 generalize ahS w N d=n at *
 generalize ahS (Np w i { p with bad:=true }) N d=m at *
 generalize ahS (Np w i (Ns p d k true)) N d=m1 at *
 generalize ahS (Np w i (Ns p d k false)) N d=m0 at *
 generalize Ns p d k true=q1 at *
 generalize Ns p d k false=q0 at *
 rw[hsl]at hN hA1 hA0 hW ⊢
 obtain⟨p1,p2,p3,p4,p5,p6,p7,p8,p9⟩:=p
 simp only[Ab.cells]at hW
 cases e1:decide ((m1:Int)≥lb)with
 |true=>
  have hd1:decide (lb≤(m1:Int))=true:=e1
  cases e2:decide ((m0:Int)≥lb)with
  |true=>
   have hd0:decide (lb≤(m0:Int))=true:=e2
   cases e3:decide ((m:Int)<lb)
   ·rcases hk with rfl|rfl|rfl|rfl
    all_goals (refine ce Tryz.func71 ?_;simp only[Tryz.f71];(have hb:=trivial;with_reducible repeat' (first|simp only[hb,Vc.down,seval,a0R.down,hN,hA1,hA0,hK1,hK0,hW,hM,hp,Ab.cells,htR2,hmn,iln,hd1,hd0,e3,ge_iff_le,gt_iff_lt,abL,abX,abK]|refine An ?_ ?_<;>intro hb|refine fd ?_|fail)))
    all_goals rfl
   ·rcases hk with rfl|rfl|rfl|rfl
    all_goals (refine ce Tryz.func71 ?_;simp only[Tryz.f71];(have hb:=trivial;with_reducible repeat' (first|simp only[hb,Vc.down,seval,a0R.down,hN,hA1,hA0,hK1,hK0,hW,hM,hp,Ab.cells,htR2,hmn,iln,hd1,hd0,e3,ge_iff_le,gt_iff_lt,abL,abX,abK]|refine An ?_ ?_<;>intro hb|refine fd ?_|fail)))
    all_goals rfl
  |false=>
   have hd0:decide (lb≤(m0:Int))=false:=e2
   have hx:((!(k==4)|| !decide ((m:Int)<lb))&&decide ((m1:Int)≥lb))=false:=by
    cases hq:((!(k==4)|| !decide ((m:Int)<lb))&&decide ((m1:Int)≥lb))with
    |false=>rfl
    |true=>
     have:=h01 hq
     simp at e2
     omega
   rw[e1,Bool.and_true]at hx
   rw[Bool.and_true,hx]
   simp only[Bool.or_eq_false_iff,Bool.not_eq_false',beq_iff_eq]at hx
   obtain⟨rfl,e3⟩:=hx
   (refine ce Tryz.func71 ?_;simp only[Tryz.f71];(have hb:=trivial;with_reducible repeat' (first|simp only[hb,Vc.down,seval,a0R.down,hN,hA1,hA0,hK1,hK0,hW,hM,hp,Ab.cells,htR2,hmn,iln,hd1,hd0,e3,ge_iff_le,gt_iff_lt,abL,abX,abK]|refine An ?_ ?_<;>intro hb|refine fd ?_|fail)))
 |false=>
  have hd1:decide (lb≤(m1:Int))=false:=e1
  rw[aJ4]
  cases e3:decide ((m:Int)<lb)
  ·rcases hk with rfl|rfl|rfl|rfl
   all_goals (refine ce Tryz.func71 ?_;simp only[Tryz.f71];(have hb:=trivial;with_reducible repeat' (first|simp only[hb,Vc.down,seval,a0R.down,hN,hA1,hA0,hK1,hK0,hW,hM,hp,Ab.cells,htR2,hmn,iln,hd1,e3,ge_iff_le,gt_iff_lt,abL,abX,abK]|refine An ?_ ?_<;>intro hb|refine fd ?_|fail)))
  ·rcases hk with rfl|rfl|rfl|rfl
   all_goals (refine ce Tryz.func71 ?_;simp only[Tryz.f71];(have hb:=trivial;with_reducible repeat' (first|simp only[hb,Vc.down,seval,a0R.down,hN,hA1,hA0,hK1,hK0,hW,hM,hp,Ab.cells,htR2,hmn,iln,hd1,e3,ge_iff_le,gt_iff_lt,abL,abX,abK]|refine An ?_ ?_<;>intro hb|refine fd ?_|fail)))
theorem a2F(p:Ab){d:Int}(hd:1≤d∧d≤6000)(n:Nat):Au (azM p d n) d=((n % 6 / 2:Nat):Int):=by
 have h3:n % 6 / 2<3:=by omega
 unfold Au azM
 simp only
 by_cases h2:n % 6 / 2=2
 ·simp[h2]
 ·rw[if_neg (by simpa using h2)]
  by_cases h1:n % 6 / 2=1
  ·have e:(n % 6 / 2==1)=true:=by simp[h1]
   rw[e]
   simp only[if_true]
   rw[Bf (by omega) (by omega),if_pos (by omega),h1];rfl
  ·have e:(n % 6 / 2==1)=false:=by simpa using h1
   rw[e]
   simp only[agI,if_false]
   rw[Bf (by omega) (by omega),if_neg (by omega)]
   omega
def Ho:Nat→Nat→List (Int × Bool)
 |0,_=>[]
 |m+1,n=>(((n % 6 / 2:Nat):Int),n % 2==1)::Ho m (n / 6)
theorem aSZ{d:Int}(hd:1≤d∧d≤6000):∀(l:List Ab) (n:Nat),Oi (Hm d l n) d=Ho l.length n
 | [],_=>rfl
 |p::l,n=>by
  show(Au (azM p d n) d,(azM p d n).opn)::Oi (Hm d l (n / 6)) d=_
  rw[a2F p hd,aSZ hd l]
  rfl
theorem aEW:∀(m n:Nat),(Ho m n).length=m
 |0,_=>rfl
 |m+1,n=>by simp[Ho,aEW m]
theorem aJ7:∀(m n:Nat),∀x∈Ho m n,0≤x.1∧x.1≤2
 |0,_,x,hx=>by cases hx
 |m+1,n,x,hx=>by
  rcases List.mem_cons.1 hx with rfl|hx
  ·simp only;omega
  ·exact aJ7 m _ x hx
theorem aEB:∀{L:List (Int × Bool)},(∀x∈L,0≤x.1∧x.1≤2)→Ho L.length (cod L)=L
 | [],_=>rfl
 |x::L,h=>by
  have hx:=h x (by simp)
  have ih:=aEB (L:=L) fun y hy=>h y (by simp[hy])
  obtain⟨a,b⟩:=x
  simp only at hx
  rw[ap6]
  show(_,_)::Ho L.length _=_
  have hb:=aTN b
  have e1:(2*a.toNat+b.toNat+6*cod L) % 6 / 2=a.toNat:=by omega
  have e2:(2*a.toNat+b.toNat+6*cod L) / 6=cod L:=by omega
  have e3:(2*a.toNat+b.toNat+6*cod L) % 2=b.toNat:=by omega
  simp only
  rw[e1,e2,e3,ih]
  congr 1
  refine Prod.ext ?_ ?_
  ·show((a.toNat:Nat):Int)=a
   omega
  ·cases b<;>rfl
def Jy(L:List (Int × Bool)):List (Int × Bool):=L++aKO (12-L.length) (0,false)
theorem Pq(w:Af)(d:Int):Ac w d=Jy (Oi w.parts d):=by
 unfold Ac Jy Oi;rw[abK]
theorem aSX{L:List (Int × Bool)}{i:Nat}(hi:i<L.length)(y:Int × Bool):(Jy L).set i y=Jy (L.set i y):=by
 unfold Jy;rw[List.set_append_left _ _ hi,abL]
theorem a4Y{L:List (Int × Bool)}:(Jy L).take L.length=L:=by
 unfold Jy;rw[List.take_append_of_le_length (abX _),List.take_length]
def azU(p:Ab):Int × Int × Bool × Int × Int:=(p.one,p.other,p.valve,p.test,p.change)
structure aBM(x w:Af):Prop where
 need:x.need=w.need
 keys:x.parts.map azU=w.parts.map azU
theorem aBM.len{x w:Af}(S:aBM x w):x.parts.length=w.parts.length:=by
 have:=congrArg List.length S.keys
 simpa using this
theorem aBM.get{x w:Af}(S:aBM x w){i:Nat}{p:Ab}(hp:x.parts[i]?=some p):∃q,w.parts[i]?=some q∧azU q=azU p:=by
 have h:=congrArg (fun l=>l[i]?) S.keys
 simp only[awN,hp,aLA]at h
 obtain⟨q,h1,h2⟩:=Option.map_eq_some_iff.1 h.symm
 exact⟨q,h1,h2⟩
theorem aDA:∀{l m:List Ab} (ts:List Bool),l.map azU=m.map azU→List.zipWith (fun(p:Ab) (t:Bool)=>(p.one.toNat,p.other.toNat,if t=true then 1 else 0)) l ts=List.zipWith (fun(p:Ab) (t:Bool)=>(p.one.toNat,p.other.toNat,if t=true then 1 else 0)) m ts
 | [],[],_,_=>rfl
 | [],_::_,_,h=>by simp at h
 |_::_,[],_,h=>by simp at h
 |p::l,q::m,[],h=>rfl
 |p::l,q::m,t::ts,h=>by
  simp only[List.map_cons,List.cons.injEq]at h
  have h1:=h.1
  simp only[azU,Prod.mk.injEq]at h1
  simp only[List.zipWith_cons_cons,aDA ts h.2,h1.1,h1.2.1]
theorem aBM.num{x w:Af}(S:aBM x w)(N:Nat)(L:List (Int × Bool)):nmB x N L=nmB w N L:=by
 have he:∀ts,edg x ts=edg w ts:=fun ts=>by unfold edg;exact aDA ts S.keys
 unfold nmB
 rw[he,S.len]
theorem aBM.choF{x w:Af}(S:aBM x w)(N:Nat)(s:St)(k:Int)(i:Nat):choF x N s k i=choF w N s k i:=by
 have hn:=S.num N
 have hl:∀L,Ff x N L=Ff w N L:=fun L=>by unfold Ff;rw[hn,S.need]
 have hs:∀L k j y,Iy x N L k j true y=Iy w N L k j true y:=fun L k j y=>by unfold Iy;rw[hn,hn,hl]
 unfold Go.Proofs.YtcncggaobhbomaaGreatDoor.choF
 cases hp:x.parts[i]? with
 |none=>
  have:w.parts[i]?=none:=by
   rw[List.getElem?_eq_none_iff]at hp ⊢
   rw[←S.len];exact hp
  rw[this]
 |some p=>
  obtain⟨q,hq,hk⟩:=S.get hp
  rw[hq]
  simp only[azU,Prod.mk.injEq]at hk
  cases s.1[i]? with
  |none=>rfl
  |some y=>
   have c1:aB9 p y k=aB9 q y k:=by unfold aB9;rw[hk.2.2.1]
   have c2:awV p k=awV q k:=by unfold awV;rw[hk.2.2.2.1,hk.2.2.2.2]
   simp only[c1,c2,hs]
theorem aNS(d:Int):∀(l:List Ab) (n:Nat),(Hm d l n).map azU=l.map azU
 | [],_=>rfl
 |p::l,n=>by
  show azU (azM p d n)::(Hm d l (n / 6)).map azU=_
  rw[aNS d l];rfl
def ak2(w:Af)(d:Int)(n:Nat):Af:={ w with nn:=true,parts:=Hm d w.parts n }
theorem Gu(w:Af)(d:Int)(n:Nat):aBM (ak2 w d n) w:=⟨rfl,aNS d w.parts n⟩
theorem azG(w:Af)(d:Int):∀(l:List Ab) (n:Nat),∀p∈Hm d l n,p.valid=0
 | [],_,p,h=>by cases h
 |q::l,n,p,h=>by
  rcases List.mem_cons.1 h with rfl|h
  ·rfl
  ·exact azG w d l _ p h
theorem aUC{w:Af}{N:Nat}(hw:WOk w N)(d:Int)(n:Nat):WOk (ak2 w d n) N:=
 ⟨hw.rooms,hw.n2,hw.n8,by rw[(Gu w d n).len];exact hw.len,fun e=>hw.ne (by have:=(Gu w d n).len;rw[e]at this;exact aIE.1 this.symm),fun x hx=>by
   obtain⟨i,hi⟩:=aLF hx
   obtain⟨q,hq,hk⟩:=(Gu w d n).get hi
   simp only[azU,Prod.mk.injEq]at hk
   rw[←hk.1,←hk.2.1]
   exact hw.part q (af5 hq)⟩
theorem azK(w:Af){d:Int}(hd:1≤d∧d≤6000)(n:Nat):Ac (ak2 w d n) d=Jy (Ho w.parts.length n):=by
 rw[Pq]
 show Jy (Oi (Hm d w.parts n) d)=_
 rw[aSZ hd]
theorem bf5{l:List Ci}{i:Nat}{x:Ci}(hx:l[i]?=some x)(nn:Bool):slx Tryz.prog 25 (some (Be 3 true nn (l.map Ci.cells))) (some (some (.int .i64 (i:Int)))) (some (some (.int .i64 ((i+1:Nat):Int))))=some (.ret (.imm 3 true [x.cells]),[]):=by
 have hi:=aUA hx
 have hne:l.map Ci.cells≠[]:=fun e=>by rw[List.map_eq_nil_iff.1 e]at hi;simp at hi
 have hz:Lr Tryz.prog 75=some 3:=by kernel_rfl
 have hd:aoW 1 (List.drop i (l.map Ci.cells))=[x.cells]:=by
  rw[←List.map_drop,←List.map_take,aDG hi,List.take_succ_cons,List.take_zero]
  rw[aD2 hi]at hx
  cases hx;rfl
 have a1:Hj (l.map Ci.cells).length (some (.int .i64 ((i+1:Nat):Int))) (l.map Ci.cells).length=some (i+1):=by
  show(if(0:Int)≤((i+1:Nat):Int)∧((i+1:Nat):Int)≤((l.map Ci.cells).length:Int)then some ((i+1:Nat):Int).toNat else none)=_
  rw[if_pos ⟨by omega,by rw[abK];omega⟩];rfl
 have a2:Hj (i+1) (some (.int .i64 (i:Int))) 0=some i:=by
  show(if(0:Int)≤(i:Int)∧(i:Int)≤((i+1:Nat):Int)then some (i:Int).toNat else none)=_
  rw[if_pos ⟨by omega,by omega⟩];rfl
 rw[Ko hne]
 simp only[slx,Option.bind_some,aBZ,Tryz.underlying25,hz,if_true,a1,a2,aLA,aNF,hd]
 rfl
theorem bh3{n:Nat}{r:List AV}(h:Ty Tryz.prog (n+4) 75 r):∃x:Ci,r=x.cells:=by
 unfold Ty at h
 simp only[Tryz.underlying75,aX7]at h
 obtain⟨a1,b1,rfl,h1,a2,b2,rfl,h2,a3,b3,rfl,h3,rfl⟩:=h
 obtain⟨i,rfl,_⟩:=ae2 h1
 obtain⟨b,rfl⟩:=aA9 h2
 obtain⟨c,rfl⟩:=aA9 h3
 exact⟨⟨i,b,c⟩,rfl⟩
theorem a59{av:AV}(h:TyV Tryz.prog 7 25 av):∃(nn:Bool) (l:List Ci),av=Be 3 true nn (l.map Ci.cells)∧l.length≤maxLen:=by
 unfold TyV at h
 simp only[Tryz.underlying25]at h
 unfold Ty at h
 simp only[Tryz.underlying25]at h
 obtain⟨nn,rows,hx,hl,hrows⟩:=h
 obtain⟨l,rfl,hm⟩:=aKR (q:=fun _=>True) (fun r hr=>by obtain⟨x,hx⟩:=bh3 (n:=2) hr;exact⟨x,hx,trivial⟩) hrows
 have e1:Tryz.prog.cellsOf 75=3:=by kernel_rfl
 have e2:flT Tryz.prog 6 75=true:=by kernel_rfl
 rw[e1,e2]at hx
 simp only[List.cons.injEq,and_true]at hx
 exact⟨nn,l,hx,by simpa using hl⟩
noncomputable def aw1(w:Af)(N:Nat)(l:List Ci)(s:St)(k:Int)(i:Nat):Int:=match choF w N s k i with
 |some o=>if Fj.mx (bs w N l) o.to<Az then((Fj.mx (bs w N l) o.to:Nat):Int)+o.c else -1
 |none=> -1
theorem bcV(f:St→Nat)(a:St):Fj.mx f [a]=f a:=by unfold Fj.mx;simp
theorem bd3(f:St→Nat)(a b:St):Fj.mx f [a,b]=max (f a) (f b):=by unfold Fj.mx;simp
def agV(b:Nat):Int:=if b<Az then(b:Int)else -1
def Nv(K:St→Nat)(m g:Nat):List (List AV):=(adC (6 ^ m)).map fun n=>[.int .i64 (agV (K (Jy (Ho m n),g)))]
def aB6(K:St→Nat)(m F:Nat):List (List AV):=(adC F).map fun g=>[.imm 1 true (Nv K m g)]
theorem Oh(K:St→Nat)(m g:Nat){n:Nat}(h:n<6 ^ m):(Nv K m g)[n]?=some [.int .i64 (agV (K (Jy (Ho m n),g)))]:=by
 unfold Nv;rw[awN,aNO h];rfl
theorem Je(K:St→Nat)(m g:Nat):(Nv K m g).length=6 ^ m:=by unfold Nv;simp
theorem aLS(K:St→Nat)(m F:Nat){g:Nat}(h:g<F):(aB6 K m F)[g]?=some [.imm 1 true (Nv K m g)]:=by
 unfold aB6;rw[awN,aNO h];rfl
theorem aE4(K:St→Nat)(m F:Nat):(aB6 K m F).length=F:=by unfold aB6;simp
def aO9(x:Af)(N:Nat)(d:Int)(K:St→Nat)(g:Nat)(k:Int)(i:Nat):Int:=
 if aAT x.parts=true then(match choF x N (Ac x d,g) k i with
  |some o=>if Fj.mx K o.to<Az then((Fj.mx K o.to:Nat):Int)+o.c else -1
  |none=> -1)else -1
theorem a80{l:List Ab}(hv:aAT l=true){i:Nat}{p:Ab}(hp:l[i]?=some p)(d k:Int):aB9 p (Au p d,p.opn) k=aG9 p d k:=by
 have h1:p.opn=true→p.valve=true:=by
  unfold aAT at hv
  rw[List.all_eq_true]at hv
  have:=hv p (af5 hp)
  intro e
  rw[e]at this
  simpa using this
 unfold aB9 aG9
 by_cases k1:k=1
 ·rw[if_pos k1,if_pos k1]
 by_cases k2:k=2
 ·rw[if_neg k1,if_neg k1,if_pos k2,if_pos k2]
  cases ho:p.opn
  ·simp
  ·simp[h1 ho]
 rw[if_neg k1,if_neg k1,if_neg k2,if_neg k2]
theorem aTW{w:Af}(h12:w.parts.length≤12)(d:Int)(i:Nat)(q:Ab):Dp.call (.fn 47) [.agg [.int .i64 w.rooms,.int .i64 w.need,.imm 9 true ((w.parts.set i q).map Ab.cells)],.int .i64 d] []=some (.ret (.int .i64 (cod (Oi (w.parts.set i q) d):Nat)),[]):=by
 have h:=a06 (Np w i q) (by rw[avX];exact h12) d
 have e5:(Np w i q).cells=[.int .i64 w.rooms,.int .i64 w.need,.imm 9 true ((w.parts.set i q).map Ab.cells)]:=by
  show [_,_,Be 9 true true _]=_
  rw[ajY];rfl
 change Dp.call _ [AV.agg (Np w i q).cells,.int .i64 d] []=_ at h
 rw[e5]at h
 exact h
theorem aMI{x:Af}{N:Nat}(hw:WOk x N)(h12:x.parts.length≤12){d:Int}(hd:1≤d∧d≤6000)(hv:∀p∈x.parts,0≤p.valid∧p.valid≤5000)(hpr:∀p∈x.parts,∀k,1≤awV p k∧awV p k≤1000){k:Int}(hk:k=1∨k=2∨k=3∨k=4){i:Nat}{p:Ab}(hp:x.parts[i]?=some p)(K:St→Nat){g F:Nat}(hg:g<F)(hF:F≤100):
 Dp.call (.fn 49) [.agg [.int .i64 x.rooms,.int .i64 x.need,Be 9 true x.nn (x.parts.map Ab.cells)],.int .i64 d,.agg [.int .i64 k,.int .i64 (i:Int)],.int .i64 (g:Int),.imm 1 false (aB6 K x.parts.length F)] []=some (.ret (.int .i64 (aO9 x N d K g k i)),[]):=by
 have hV:=a2A x (by omega)
 have hC:=bi2 (w:=x) (d:=d) hp hk
 have hsl:Be 9 true x.nn (x.parts.map Ab.cells)=.imm 9 true (x.parts.map Ab.cells):=Ko (by simpa using hw.ne)
 unfold aO9
 cases c1:aAT x.parts with
 |false=>
  rw[c1]at hV
  rw[if_neg (by simp)]
  (refine ce Tryz.func49 ?_;simp only[Tryz.f49];(have hb:=trivial;with_reducible repeat' (first|simp only[hb,Vc.down,seval,aIA.down,hV,abK]|refine An ?_ ?_<;>intro hb|refine fd ?_|fail)))
 |true=>
 rw[c1]at hV
 rw[if_pos rfl]
 have hcan:=a80 c1 hp d k
 have hx:=aCK (d:=d) hp
 have hcf:choF x N (Ac x d,g) k i=if(aB9 p (Au p d,p.opn) k&&Iy x N (Ac x d) k i true (Au p d,p.opn))=true then some ⟨k,i,awV p k,toF (Ac x d) g k i (Au p d,p.opn)⟩else none:=by
  unfold choF;rw[hp];simp only;rw[hx]
 rw[hcf,hcan]
 cases c2:aG9 p d k with
 |false=>
  rw[c2]at hC
  simp only[Bool.false_and,agI,if_false]
  (refine ce Tryz.func49 ?_;simp only[Tryz.f49];(have hb:=trivial;with_reducible repeat' (first|simp only[hb,Vc.down,seval,aIA.down,hV,hC,abK]|refine An ?_ ?_<;>intro hb|refine fd ?_|fail)))
 |true=>
 rw[c2]at hC
 have hS:=a6M hw h12 (d:=d) ⟨by omega,hd.2⟩ hv hp hk c2
 cases c3:Iy x N (Ac x d) k i true (Au p d,p.opn)with
 |false=>
  rw[c3]at hS
  simp only[aJ4,agI,if_false]
  (refine ce Tryz.func49 ?_;simp only[Tryz.f49];(have hb:=trivial;with_reducible repeat' (first|simp only[hb,Vc.down,seval,aIA.down,hV,hC,hS,abK]|refine An ?_ ?_<;>intro hb|refine fd ?_|fail)))
 |true=>
 rw[c3]at hS
 simp only[Bool.and_self,if_true]
 obtain⟨wa,hA⟩:=aEE hw.ne hw.len d hp hk true
 obtain⟨wb,hB⟩:=aEE hw.ne hw.len d hp hk false
 have hKa:=aTW h12 d i (Ns p d k true)
 have hKb:=aTW h12 d i (Ns p d k false)
 have hO:=bf4 hp hk
 change Dp.call _ _ _=some (Dt.ret (.int .i64 (awV p k)),_)at hO
 have hpk:=hpr p (af5 hp) k
 have hil:=(ah1.1 hp).1
 have hcl:(Oi x.parts d).length=x.parts.length:=by unfold Oi;simp
 have hpv:=hv p (af5 hp)
 have cd:∀b,cod (Oi (x.parts.set i (Ns p d k b)) d)<6 ^ x.parts.length∧Jy (Ho x.parts.length (cod (Oi (x.parts.set i (Ns p d k b)) d)))=(Ac x d).set i (Dc k b (Au p d,p.opn)):=fun b=>by
  have e1:Oi (x.parts.set i (Ns p d k b)) d=(Oi x.parts d).set i (Dc k b (Au p d,p.opn)):=by
   unfold Oi
   rw[List.map_set,a5I c2,aHQ hpv hk ⟨by omega,hd.2⟩]
  have hdg:=aKJ (x.parts.set i (Ns p d k b)) d
  have hll:(Oi (x.parts.set i (Ns p d k b)) d).length=x.parts.length:=by unfold Oi;simp
  refine⟨by have:=aB5 hdg;rwa[hll]at this,?_⟩
  have:=aEB hdg
  rw[hll]at this
  rw[this,e1,Pq,aSX (by rw[hcl];exact hil)]
 obtain⟨hca,hsa⟩:=cd true
 obtain⟨hcb,hsb⟩:=cd false
 generalize hna:cod (Oi (x.parts.set i (Ns p d k true)) d)=na at *
 generalize hnb:cod (Oi (x.parts.set i (Ns p d k false)) d)=nb at *
 have hpow:6 ^ x.parts.length≤2176782336:=azY (az0 (by decide) h12) (by decide)
 have r1:=aLS K x.parts.length F hg
 have r2:=Oh K x.parts.length g hca
 rw[hsa]at r2
 have r3:=aE4 K x.parts.length F
 have r4:=Je K x.parts.length g
 have hgF:((g:Int)<(F:Int))=True:=eq_true (by omega)
 have hca2:((na:Int)<((6 ^ x.parts.length:Nat):Int))=True:=eq_true (by omega)
 have htR2:∀q,aoW x.parts.length ((x.parts.set i q).map Ab.cells)=(x.parts.set i q).map Ab.cells:=fun q=>aJQ (by simp)
 have htop:Az=1099511627776:=rfl
 obtain⟨s1,hs1⟩:∃s1:St,((Ac x d).set i (Dc k true (Au p d,p.opn)),g)=s1:=⟨_,rfl⟩
 rw[hs1]at r2
 have r1b:=aLS K x.parts.length F (g:=g-1) (by omega)
 have r2b:=Oh K x.parts.length (g-1) hcb
 rw[hsb]at r2b
 have r4b:=Je K x.parts.length (g-1)
 have hcb2:((nb:Int)<((6 ^ x.parts.length:Nat):Int))=True:=eq_true (by omega)
 have hcV:∀b:Nat,b<Az→agV b=(b:Int):=fun b h=>if_pos h
 have hcN:∀b:Nat,¬b<Az→agV b= -1:=fun b h=>if_neg h
 rw[hsl]at hV hC hS hA hB hO ⊢
 generalize hcosR:aB6 K x.parts.length F=CR at *
 generalize hrow1:Nv K x.parts.length g=R1 at *
 generalize hrow2:Nv K x.parts.length (g-1)=R2 at *
 generalize 6 ^ x.parts.length=many at *
 generalize awV p k=cc at *
 by_cases q:k=3∧0<g
 rotate_left
 ·have hto:toF (Ac x d) g k i (Au p d,p.opn)=[s1]:=by unfold toF;rw[if_neg q,hs1]
  rw[hto,bcV]
  by_cases b1:K s1<Az
  ·rw[if_pos b1]
   rw[hcV _ b1]at r2
   have n1:decide ((K s1:Int)<0)=false:=decide_eq_false (by omega)
   have hws:IntKind.i64.wrap ((K s1:Int)+cc)=(K s1:Int)+cc:=Bf (by omega) (by omega)
   cases k3:(k==3)with
   |false=>
    (refine ce Tryz.func49 ?_;simp only[Tryz.f49];(have hb:=trivial;with_reducible repeat' (first|simp only[hb,Vc.down,seval,aIA.down,hV,hC,hS,hA,hKa,hO,r1,r2,r3,r4,hgF,hca2,htR2,n1,hws,k3,abL,abX,abK]|refine An ?_ ?_<;>intro hb|refine fdl ?_|fail)))
   |true=>
    have hf:decide ((g:Int)>0)=false:=decide_eq_false (fun h=>q ⟨by simpa using k3,by omega⟩)
    (refine ce Tryz.func49 ?_;simp only[Tryz.f49];(have hb:=trivial;with_reducible repeat' (first|simp only[hb,Vc.down,seval,aIA.down,hV,hC,hS,hA,hKa,hO,r1,r2,r3,r4,hgF,hca2,htR2,n1,hws,k3,hf,abL,abX,abK]|refine An ?_ ?_<;>intro hb|refine fdl ?_|fail)))
  ·rw[if_neg b1]
   rw[hcN _ b1]at r2
   cases k3:(k==3)with
   |false=>
    (refine ce Tryz.func49 ?_;simp only[Tryz.f49];(have hb:=trivial;with_reducible repeat' (first|simp only[hb,Vc.down,seval,aIA.down,hV,hC,hS,hA,hKa,hO,r1,r2,r3,r4,hgF,hca2,htR2,k3,abL,abX,abK]|refine An ?_ ?_<;>intro hb|refine fdl ?_|fail)))
   |true=>
    have hf:decide ((g:Int)>0)=false:=decide_eq_false (fun h=>q ⟨by simpa using k3,by omega⟩)
    (refine ce Tryz.func49 ?_;simp only[Tryz.f49];(have hb:=trivial;with_reducible repeat' (first|simp only[hb,Vc.down,seval,aIA.down,hV,hC,hS,hA,hKa,hO,r1,r2,r3,r4,hgF,hca2,htR2,k3,hf,abL,abX,abK]|refine An ?_ ?_<;>intro hb|refine fdl ?_|fail)))
 have k3:(k==3)=true:=by simp[q.1]
 have hf:decide ((g:Int)>0)=true:=decide_eq_true (by omega)
 have hwf:IntKind.i64.wrap ((g:Int)-1)=((g-1:Nat):Int):=by rw[Bf (by omega) (by omega)];omega
 obtain⟨s2,hs2⟩:∃s2:St,((Ac x d).set i (Dc k false (Au p d,p.opn)),g-1)=s2:=⟨_,rfl⟩
 have hto:toF (Ac x d) g k i (Au p d,p.opn)=[s1,s2]:=by unfold toF;rw[if_pos q,hs1,hs2]
 rw[hto,bd3]
 rw[hs2]at r2b
 have hgF2:(((g-1:Nat):Int)<(F:Int))=True:=eq_true (by omega)
 by_cases b2:K s2<Az
 rotate_left
 ·rw[if_neg (by omega)]
  rw[hcN _ b2]at r2b
  (refine ce Tryz.func49 ?_;simp only[Tryz.f49];(have hb:=trivial;with_reducible repeat' (first|simp only[hb,Vc.down,seval,aIA.down,hV,hC,hS,hA,hB,hKa,hKb,hO,r1,r2,r3,r4,r1b,r2b,r4b,hgF,hgF2,hca2,hcb2,htR2,k3,hf,hwf,abL,abX,abK]|refine An ?_ ?_<;>intro hb|refine fdl ?_|fail)))
 rw[hcV _ b2]at r2b
 have n2:decide ((K s2:Int)<0)=false:=decide_eq_false (by omega)
 by_cases b1:K s1<Az
 rotate_left
 ·rw[if_neg (by omega)]
  rw[hcN _ b1]at r2
  (refine ce Tryz.func49 ?_;simp only[Tryz.f49];(have hb:=trivial;with_reducible repeat' (first|simp only[hb,Vc.down,seval,aIA.down,hV,hC,hS,hA,hB,hKa,hKb,hO,r1,r2,r3,r4,r1b,r2b,r4b,hgF,hgF2,hca2,hcb2,htR2,k3,hf,hwf,n2,abL,abX,abK]|refine An ?_ ?_<;>intro hb|refine fdl ?_|fail)))
 rw[if_pos (by omega)]
 rw[hcV _ b1]at r2
 have n1:decide ((K s1:Int)≥0)=true:=decide_eq_true (by omega)
 have n3:decide (((max (K s1) (K s2):Nat):Int)<0)=false:=decide_eq_false (by omega)
 have hmx:(if(K s2:Int)>(K s1:Int)then(K s2:Int)else(K s1:Int))=((max (K s1) (K s2):Nat):Int):=by split<;>omega
 have hws:IntKind.i64.wrap (((max (K s1) (K s2):Nat):Int)+cc)=((max (K s1) (K s2):Nat):Int)+cc:=Bf (by omega) (by omega)
 (refine ce Tryz.func49 ?_;simp only[Tryz.f49];(have hb:=trivial;with_reducible repeat' (first|simp only[hb,Vc.down,seval,aIA.down,hV,hC,hS,hA,hB,hKa,hKb,hO,r1,r2,r3,r4,r1b,r2b,r4b,hgF,hgF2,hca2,hcb2,htR2,k3,hf,hwf,n1,n2,n3,hmx,hws,abL,abX,abK]|refine An ?_ ?_<;>intro hb|refine fdl ?_|fail)))
def Lc:List Ab→List (Int × Bool)→Bool
 |p::l,x::P=> !(x.2&& !p.valve)&&Lc l P
 |_,_=>true
theorem aHV(d:Int):∀(l:List Ab) (n:Nat) (Q:List (Int × Bool)),Lc l (Ho l.length n++Q)=aAT (Hm d l n)
 | [],n,Q=>by simp[Lc,aAT,Hm]
 |p::l,n,Q=>by
  show(!((n % 2==1)&& !p.valve)&&Lc l (Ho l.length (n / 6)++Q))=_
  rw[aHV d l (n / 6) Q]
  show _=aAT (azM p d n::Hm d l (n / 6))
  unfold aAT
  rw[List.all_cons]
  rfl
theorem aOF:∀{l:List Ab} {P:List (Int × Bool)} {i:Nat} {p:Ab} {y:Int × Bool},Lc l P=true→l[i]?=some p→(y.2=true→p.valve=true)→Lc l (P.set i y)=true
 | [],P,i,p,y,_,h,_=>by simp at h
 |q::l,[],i,p,y,h,_,_=>by simpa using h
 |q::l,x::P,0,p,y,h,hp,hy=>by
  simp at hp;subst hp
  simp only[Lc,adD]at h
  simp only[List.set_cons_zero,Lc,adD]
  refine⟨?_,h.2⟩
  cases e:y.2 with
  |false=>simp
  |true=>simp[hy e]
 |q::l,x::P,i+1,p,y,h,hp,hy=>by
  simp only[Lc,adD]at h
  simp only[List.set_cons_succ,Lc,adD]
  exact⟨h.1,aOF h.2 (by simpa using hp) hy⟩
theorem aP2:∀{l:List Ab} {P:List (Int × Bool)} {i:Nat} {p:Ab} {x:Int × Bool},Lc l P=true→l[i]?=some p→P[i]?=some x→x.2=true→p.valve=true
 | [],P,i,p,x,_,h,_,_=>by simp at h
 |q::l,[],i,p,x,_,_,h,_=>by simp at h
 |q::l,x::P,0,p,y,h,hp,hx,hy=>by
  simp at hp hx;subst hp;subst hx
  simp only[Lc,adD]at h
  have:=h.1
  rw[hy]at this
  simpa using this
 |q::l,x::P,i+1,p,y,h,hp,hx,hy=>by
  simp only[Lc,adD]at h
  exact aP2 h.2 (by simpa using hp) (by simpa using hx) hy
theorem azR{w:Af}(hb:Fe w=true)(d:Int):Lc w.parts (Ac w d)=true:=by
 have key:∀(l:List Ab) (Q:List (Int × Bool)),(∀p∈l,p.opn=true→p.valve=true)→Lc l ((l.map fun p=>(Au p d,p.opn))++Q)=true:=by
  intro l
  induction l with
  |nil=>intro Q _;simp[Lc]
  |cons p l ih=>
   intro Q h
   show(!(p.opn&& !p.valve)&&Lc l ((l.map fun p=>(Au p d,p.opn))++Q))=true
   rw[ih Q fun q hq=>h q (by simp[hq])]
   cases e:p.opn with
   |false=>rfl
   |true=>rw[h p (by simp) e];rfl
 unfold Ac
 refine key _ _ fun p hp e=>?_
 obtain⟨i,hi⟩:=aLF hp
 exact(a11 (aSR hb hi)).1 e
theorem aTQ{w:Af}{N:Nat}{s:St}(h:Lc w.parts s.1=true){o:Oc}(ho:o∈Ec w N s):∀y∈o.to,Lc w.parts y.1=true:=by
 obtain⟨p,x,I⟩:=Kx.1 ho
 have key:∀b,Lc w.parts (s.1.set o.i (Dc o.k b x))=true:=fun b=>aOF h I.hp fun e=>by
  have hg:=fun e=>aP2 h I.hp I.hx e
  have hc:=I.can
  rcases I.k4 with k|k|k|k<;>rw[k]at e hc
  ·simp[aB9]at hc;exact hc.1
  ·simp[Dc]at e
  ·cases b<;>simp[Dc]at e<;>exact hg e
  ·simp[Dc]at e;exact hg e
 intro y hy
 rw[I.to]at hy
 rcases aK7.1 hy with rfl|⟨_,_,rfl⟩
 ·exact key true
 ·exact key false
def ay5(w:Af)(N:Nat)(s:St)(k:Int)(i:Nat):Option Oc:=if Lc w.parts s.1=true then choF w N s k i else none
def Ld(w:Af)(N:Nat)(l:List Ci):Go.Ev.Fj St:=⟨fun s=>awW s.1 l,fun s=>if Lc w.parts s.1=true then(Ec w N s).map fun o=>(o.c.toNat,o.to)else []⟩
def Ku(m g n:Nat):St:=(Jy (Ho m n),g)
def Ja(m F:Nat):List St:=(adC F).flatMap fun g=>(adC (6 ^ m)).map fun n=>Ku m g n
theorem Pn{m F:Nat}{s:St}:s∈Ja m F↔∃g n,g<F∧n<6 ^ m∧s=Ku m g n:=by
 unfold Ja
 simp only[List.mem_flatMap,aA3,ai5]
 exact⟨fun⟨g,hg,n,hn,e⟩=>⟨g,n,hg,hn,e.symm⟩,fun⟨g,n,hg,hn,e⟩=>⟨g,hg,n,hn,e.symm⟩⟩
theorem a83{m F:Nat}{P:List (Int × Bool)}(hl:P.length=m)(hd:∀x∈P,0≤x.1∧x.1≤2){g:Nat}(hg:g<F):(Jy P,g)∈Ja m F:=by
 subst hl
 exact Pn.2 ⟨g,cod P,hg,aB5 hd,by unfold Ku;rw[aEB hd]⟩
theorem aPE(m F:Nat):(Ja m F).length=F*6 ^ m:=by
 unfold Ja
 induction F with
 |zero=>simp
 |succ F ih=>rw[aOA,List.flatMap_append,aOB,ih,aBU];simp
theorem avV{w:Af}{N:Nat}{l:List Ci}{s:St}{o:Nat × List St}:o∈(Ld w N l).ops s↔Lc w.parts s.1=true∧∃c∈Ec w N s,o=(c.c.toNat,c.to):=by
 show o∈(if Lc w.parts s.1=true then(Ec w N s).map _ else [])↔_
 split
 ·rename_i h
  rw[aA3]
  exact⟨fun⟨c,h1,h2⟩=>⟨h,c,h1,h2.symm⟩,fun⟨_,c,h1,h2⟩=>⟨c,h1,h2.symm⟩⟩
 ·rename_i h
  constructor
  ·intro h;cases h
  ·rintro⟨h',_⟩;exact absurd h' h
theorem aTX{w:Af}{N:Nat}(hb:Fe w=true){l:List Ci}{F:Nat}{s:St}(hs:s∈Ja w.parts.length F){o:Nat × List St}(ho:o∈(Ld w N l).ops s):1≤o.1∧o.1≤1000∧o.2≠[]∧∀x∈o.2,x∈Ja w.parts.length F:=by
 obtain⟨_,c,hc,rfl⟩:=avV.1 ho
 obtain⟨g,n,hg,hn,rfl⟩:=Pn.1 hs
 obtain⟨p,x,I⟩:=Kx.1 hc
 have hpr:=Lp hb I.hp c.k
 rw[←I.c]at hpr
 have hil:=(ah1.1 I.hp).1
 have hdl:=aEW w.parts.length n
 have hx:(Ho w.parts.length n)[c.i]?=some x:=by
  have:=I.hx
  unfold Ku Jy at this
  rwa[aOK (by omega)]at this
 have hxd:=aJ7 _ _ x (af5 hx)
 have key:∀b g',g'<F→((Jy (Ho w.parts.length n)).set c.i (Dc c.k b x),g')∈Ja w.parts.length F:=fun b g' hg'=>by
  rw[aSX (by omega)]
  refine a83 (by rw[abL];exact hdl) (fun y hy=>?_) hg'
  rcases aJN hy with hy|rfl
  ·exact aJ7 _ _ y hy
  ·exact aSE hxd
 refine⟨by show 1≤c.c.toNat;omega,by show c.c.toNat≤1000;omega,by show c.to≠[];rw[I.to];exact(aUE _ _ _ _ _).1,fun y hy=>?_⟩
 have hy:y∈c.to:=hy
 rw[I.to]at hy
 rcases aK7.1 hy with rfl|⟨_,_,rfl⟩
 ·exact key true g hg
 ·exact key false (g-1) (by omega)
def K0(l:List Ci)(s:St):Nat:=if awW s.1 l=true then 0 else Az
theorem bjX{w:Af}{N:Nat}(hb:Fe w=true)(l:List Ci)(F:Nat):Fj.Kno (Ld w N l) Az (Ja w.parts.length F) (K0 l):=by
 refine⟨⟨fun s hs o ho=>aTX hb hs ho,fun s hs=>?_,fun s hs hg=>if_pos hg,fun s hs hlt=>?_,fun s hs hlt=>?_⟩,fun s hs hlt=>?_⟩
 ·unfold K0;split<;>simp
 ·unfold K0 at hlt ⊢
  split at hlt
  ·rename_i h;rw[if_pos h];exact .met h
  ·simp at hlt
 ·unfold K0 at hlt
  split at hlt
  ·rename_i h;exact .inl h
  ·simp at hlt
 ·unfold K0 at hlt ⊢
  split at hlt
  ·rename_i h;rw[if_pos h];exact Nat.zero_le _
  ·simp at hlt
def stR(w:Af)(N:Nat)(p:(St→Nat) × Bool)(s:St)(k:Int)(i:Nat):(St→Nat) × Bool:=match ay5 w N s k i with
 |some o=>Fj.stepO Az p s (o.c.toNat,o.to)
 |none=>p
theorem aYM{w:Af}{N:Nat}{s:St}{k:Int}(hk:k=1∨k=2∨k=3∨k=4){i:Nat}{o:Oc}(h:ay5 w N s k i=some o)(l:List Ci):(o.c.toNat,o.to)∈(Ld w N l).ops s∧1≤o.c∨(o.c.toNat,o.to)∈(Ld w N l).ops s:=by
 unfold ay5 at h
 split at h
 ·rename_i hv
  obtain⟨_,_,p,x,I⟩:=(Na hk).1 h
  exact .inr (avV.2 ⟨hv,o,Kx.2 ⟨p,x,I⟩,rfl⟩)
 ·cases h
theorem aFB{w:Af}{N:Nat}{s:St}{k:Int}(hk:k=1∨k=2∨k=3∨k=4){i:Nat}{o:Oc}(h:ay5 w N s k i=some o)(l:List Ci):(o.c.toNat,o.to)∈(Ld w N l).ops s:=by
 rcases aYM hk h l with h|h
 ·exact h.1
 ·exact h
theorem a3K{w:Af}{N:Nat}(hb:Fe w=true)(h6:w.parts.length≤6){l:List Ci}{F:Nat}(hF:F≤4){d:Int}(hd:1≤d∧d≤6000){g n:Nat}(hg:g<F)(hn:n<6 ^ w.parts.length)(p:(St→Nat) × Bool)(K:Fj.Kno (Ld w N l) Az (Ja w.parts.length F) p.1){k:Int}(hk:k=1∨k=2∨k=3∨k=4)(i:Nat):
 (aO9 (ak2 w d n) N d p.1 g k i= -1∧stR w N p (Ku w.parts.length g n) k i=p)∨
 ∃c:Nat,aO9 (ak2 w d n) N d p.1 g k i=(c:Int)∧c<Az∧stR w N p (Ku w.parts.length g n) k i=if c<p.1 (Ku w.parts.length g n)then(fun x=>if x=Ku w.parts.length g n then c else p.1 x,true)else p:=by
 have hs:Ku w.parts.length g n∈Ja w.parts.length F:=Pn.2 ⟨g,n,hg,hn,rfl⟩
 have hL:(Ja w.parts.length F).length≤186624:=by
  rw[aPE]
  have:6 ^ w.parts.length≤46656:=azY (az0 (by decide) h6) (by decide)
  calc F*6 ^ w.parts.length≤4*46656:=aBV hF this
   _=186624:=rfl
 have htop:Az=1099511627776:=rfl
 have hv:aAT (ak2 w d n).parts=Lc w.parts (Ku w.parts.length g n).1:=(aHV d w.parts n _).symm
 unfold aO9 stR ay5
 rw[hv,azK w hd n,(Gu w d n).choF]
 cases c1:Lc w.parts (Ku w.parts.length g n).1 with
 |false=>
  left
  simp
 |true=>
  rw[if_pos rfl,if_pos rfl]
  cases c2:choF w N (Ku w.parts.length g n) k i with
  |none=>
   left
   rw[show choF w N (Jy (Ho w.parts.length n),g) k i=none from c2]
   exact⟨rfl,rfl⟩
  |some o=>
   rw[show choF w N (Jy (Ho w.parts.length n),g) k i=some o from c2]
   simp only
   have ho:=aFB hk (show ay5 w N (Ku w.parts.length g n) k i=some o by unfold ay5;rw[if_pos c1];exact c2) l
   obtain⟨a1,a2,a3,a4⟩:=aTX hb hs ho
   simp only at a1 a2 a3 a4
   have hle:=K.known.le _ hs
   by_cases hm:Fj.mx p.1 o.to<Az
   ·right
    have hmb:Fj.mx p.1 o.to≤1000*(Ja w.parts.length F).length:=Fj.mx_lub fun x hx=>K.le (a4 x hx) (by have:=Fj.mx_le (f:=p.1) hx;omega)
    refine⟨Fj.mx p.1 o.to+o.c.toNat,by rw[if_pos hm];omega,by omega,?_⟩
    unfold Fj.stepO
    simp only
    rw[show min Az (o.c.toNat+Fj.mx p.1 o.to)=Fj.mx p.1 o.to+o.c.toNat by omega]
   ·left
    rw[if_neg hm]
    refine⟨rfl,?_⟩
    unfold Fj.stepO
    simp only
    rw[if_neg (by omega)]
def nS(w:Af)(N:Nat)(ops:List (Int × Nat))(p:(St→Nat) × Bool)(s:St):(St→Nat) × Bool:=if p.1 s=0 then p else ops.foldl (fun p o=>stR w N p s o.1 o.2) p
theorem bnO{w:Af}{N:Nat}(hb:Fe w=true){l:List Ci}{F:Nat}{ops:List (Int × Nat)}(hops:∀o∈ops,o.1=1∨o.1=2∨o.1=3∨o.1=4){s:St}(hs:s∈Ja w.parts.length F)(p:(St→Nat) × Bool)(K:Fj.Kno (Ld w N l) Az (Ja w.parts.length F) p.1):
 Fj.OkS (Ld w N l) Az (Ja w.parts.length F) p (nS w N ops p s) fun f=>∀o∈ops,∀c,ay5 w N s o.1 o.2=some c→f s≤min Az (c.c.toNat+Fj.mx f c.to):=by
 unfold nS
 split
 ·rename_i h0
  exact .same K fun o _ c _=>by rw[h0];exact Nat.zero_le _
 ·refine Fj.OkS.fold ops (fun o ho p K=>?_) p K
  unfold stR
  cases hc:ay5 w N s o.1 o.2 with
  |none=>exact .same K fun c e=>by cases e
  |some c=>
   have A:=Fj.stepO_ok hs (aFB (hops o ho) hc l) p K
   exact⟨A.inv,A.le,A.ch,fun e=>⟨(A.st e).1,fun c' e'=>by cases e';exact(A.st e).2⟩⟩
def fS(w:Af)(N:Nat)(ops:List (Int × Nat))(p:(St→Nat) × Bool)(g:Nat):(St→Nat) × Bool:=(adC (6 ^ w.parts.length)).foldl (fun p n=>nS w N ops p (Ku w.parts.length g n)) p
def rS(w:Af)(N:Nat)(ops:List (Int × Nat))(F:Nat)(f:St→Nat):(St→Nat) × Bool:=(adC F).foldl (fS w N ops) (f,false)
theorem bjG{w:Af}{N:Nat}(hb:Fe w=true){l:List Ci}{F:Nat}{ops:List (Int × Nat)}(hops:∀o∈ops,o.1=1∨o.1=2∨o.1=3∨o.1=4)(f:St→Nat)(K:Fj.Kno (Ld w N l) Az (Ja w.parts.length F) f):
 Fj.OkS (Ld w N l) Az (Ja w.parts.length F) (f,false) (rS w N ops F f) fun f=>∀g∈adC F,∀n∈adC (6 ^ w.parts.length),∀o∈ops,∀c,ay5 w N (Ku w.parts.length g n) o.1 o.2=some c→f (Ku w.parts.length g n)≤min Az (c.c.toNat+Fj.mx f c.to):=
 Fj.OkS.fold _ (fun g hg p K=>Fj.OkS.fold _ (fun n hn p K=>bnO hb hops (Pn.2 ⟨g,n,ai5.1 hg,ai5.1 hn,rfl⟩) p K) p K) (f,false) K
def aKH(st:Nat)(v:AV)(l:List (List AV))(h:Aa):Prop:=(l=[]∧v=.nils)∨(l≠[]∧∃b,v=.slr st b 0 l.length∧h[b]?=some (.live st true false l))
def opR(k:Int)(i:Nat):List AV:=[.int .i64 k,.int .i64 (i:Int)]
def opK(n:Nat)(k:Int):List (List AV):=(adC n).map (opR k)
def opU(n:Nat):Nat→List (List AV)
 |0=>[]
 |k+1=>opU n k++opK n ((k:Int)+1)
theorem aK2(n:Nat):∀k,(opU n k).length=k*n
 |0=>by simp[opU]
 |k+1=>by simp[opU,opK,aK2 n k,aBU]
theorem bcE{w:Af}(hne:w.parts≠[])(h12:w.parts.length≤12):
 Dp.call (.fn 48) [.agg [.int .i64 w.rooms,.int .i64 w.need,Be 9 true w.nn (w.parts.map Ab.cells)]] []=some (.ret (.slr 2 0 0 (4*w.parts.length)),[.live 2 true false (opU w.parts.length 4)]):=by
 have hpos:=aDD.2 hne
 refine ce Tryz.func48 ?_
 simp only[Tryz.f48]
 (have hb:=trivial;with_reducible repeat' (first|simp only[hb,Vc.down,seval,aMP.down,abK]|refine An ?_ ?_<;>intro hb|refine fd ?_|fail))
 refine Dy (lst 24 (aKO 4 ()) (fun i (_:Unit) t h=>t 1=.ptr 0 0 0∧t 4=.int .i64 ((i:Int)+1)∧(∃fl x,h[0]?=some (.live 3 fl x [[.int .i64 w.rooms,.int .i64 w.need,Be 9 true w.nn (w.parts.map Ab.cells)]]))∧aKH 2 (t 3) (opU w.parts.length i) h) (fun _ _=>())
  (fun _ e t h=>e=.exit 0∧aKH 2 (t 3) (opU w.parts.length 4) h) ?_ ?_ () _ _ ?_) (fun e t h hk=>?_)
 ·rintro _ t h Q' kQ ⟨g1,g4,_,hR⟩
  rw[aPZ]at g4 hR
  have h5:decide (((4:Nat):Int)+1≤4)=false:=rfl
  (have hb:=trivial;with_reducible repeat' (first|simp only[hb,Vc.down,seval,aMP.down,g4,h5]|refine An ?_ ?_<;>intro hb|refine fd ?_|fail))
  exact kQ _ _ _ ⟨rfl,by simpa [up]using hR⟩
 ·rintro _ rest i _ t h J Q' kJ kQ hx hi ⟨g1,g4,hB,hR⟩
  rw[aPZ]at hi
  obtain⟨k,hk⟩:∃k:Int,(i:Int)+1=k:=⟨_,rfl⟩
  rw[hk]at g4
  have h5:decide (k≤4)=true:=decide_eq_true (by omega)
  have hwk:IntKind.i64.wrap (k+1)=k+1:=Bf (by omega) (by omega)
  (have hb:=trivial;with_reducible repeat' (first|simp only[hb,Vc.down,seval,aMP.down,g1,g4,h5,abK]|refine An ?_ ?_<;>intro hb|refine fd ?_|fail))
  refine Dy (lst 24 w.parts (fun j (_:Unit) t h=>t 1=.ptr 0 0 0∧t 4=.int .i64 k∧t 5=.int .i64 (j:Int)∧(∃fl x,h[0]?=some (.live 3 fl x [[.int .i64 w.rooms,.int .i64 w.need,Be 9 true w.nn (w.parts.map Ab.cells)]]))∧aKH 2 (t 3) (opU w.parts.length i++opK j k) h) (fun _ _=>())
   (fun _ e t h=>e=.exit 2∧t 1=.ptr 0 0 0∧t 4=.int .i64 k∧(∃fl x,h[0]?=some (.live 3 fl x [[.int .i64 w.rooms,.int .i64 w.need,Be 9 true w.nn (w.parts.map Ab.cells)]]))∧aKH 2 (t 3) (opU w.parts.length i++opK w.parts.length k) h) ?_ ?_ () _ _ ?_) (fun e t h hk'=>?_)
  ·rintro _ t h Q'' kQ ⟨g1,g4,g5,⟨fl,xx,hB⟩,hR⟩
   (have hb:=trivial;with_reducible repeat' (first|simp only[hb,Vc.down,seval,aMP.down,g1,g5,hB,Int.lt_irrefl,decide_false,abK]|refine An ?_ ?_<;>intro hb|refine fd ?_|fail))
   exact kQ _ _ _ ⟨rfl,by simp[up,g1],by simp[up,g4],⟨fl,xx,hB⟩,by simpa [up]using hR⟩
  ·rintro p rest j _ t h J' Q'' kJ' kQ' hx hj ⟨g1,g4,g5,⟨fl,xx,hB⟩,hR⟩
   have hdd:decide ((j:Int)<(w.parts.length:Int))=true:=decide_eq_true (by omega)
   have hww:=Bv hj (by unfold maxLen;omega)
   have hB2:=Ai hB
   have hl0:=As hB
   have hnx:opU w.parts.length i++opK (j+1) k=(opU w.parts.length i++opK j k)++[[.int .i64 k,.int .i64 (j:Int)]]:=by
    unfold opK;rw[aOA,aoV,List.append_assoc];rfl
   have hln:(opU w.parts.length i++opK j k).length≤60:=by
    rw[aOB,aK2]
    have:i*w.parts.length≤3*12:=aBV (by omega) h12
    simp[opK];omega
   generalize opU w.parts.length i++opK j k=L at *
   rcases hR with⟨rfl,g3⟩|⟨hne',b,g3,hb⟩
   ·(have hb:=trivial;with_reducible repeat' (first|simp only[hb,Vc.down,seval,aMP.down,g1,g3,g4,g5,hB,hB2,hdd,hww,abK]|refine An ?_ ?_<;>intro hb|refine fd ?_|fail))
    exact Aq (kJ' _ _ () ⟨by simp[up,g1],by simp[up,g4],by simp[up],⟨fl,xx,hB2 _⟩,by rw[hnx];exact .inr ⟨by simp,h.length+1,by simp[up],by rw[aEQ (by omega),aNF];rfl⟩⟩ rfl)
   ·have hbl:=As hb
    have hb2:=Ai hb
    have hS:=Io hbl
    have hb0:b≠0:=fun e=>by rw[e,hB]at hb;cases hb
    have hi39:(L.length+1≤549755813888)=True:=eq_true (by omega)
    (with_reducible repeat' (first|simp only[hb,Vc.down,seval,aMP.down,g1,g3,g4,g5,hB,hB2,hb,hb2,hS,Ht,Gg,abL,hi39,hdd,hww,abK]|refine An ?_ ?_<;>intro hb|refine fd ?_|fail))
    exact Aq (kJ' _ _ () ⟨by simp[up,g1],by simp[up,g4],by simp[up],⟨fl,xx,by rw[aOK (by simpa using hl0),aQB hb0];exact hB⟩,by rw[hnx];exact .inr ⟨by simp,h.length+1,by simp[up],by rw[Gg];simp⟩⟩ rfl)
  ·exact⟨by simp[up,g1],by simp[up,g4],by simp[up],hB,by simpa [up,opK]using hR⟩
  obtain⟨rfl,g1,g4,hB,hR⟩:=hk'
  (have hb:=trivial;with_reducible repeat' (first|simp only[hb,Vc.down,seval,aMP.down,g4,hwk]|refine An ?_ ?_<;>intro hb|refine fd ?_|fail))
  exact Aq (kJ _ _ () ⟨by simp[up,g1],by simp[up];omega,hB,by simp only[up];rw[opU,hk];exact hR⟩ rfl)
 ·exact⟨by simp[up,Lx],by simp[up],⟨_,_,rfl⟩,.inl ⟨rfl,by simp[up]⟩⟩
 obtain⟨rfl,hR⟩:=hk
 have hlen:=aK2 w.parts.length 4
 rcases hR with⟨e,_⟩|⟨hne',b,g3,hb⟩
 ·rw[e]at hlen;simp at hlen;omega
 rw[←hlen]
 (with_reducible repeat' (first|simp only[hb,Vc.down,seval,aMP.down,g3,hb]|refine An ?_ ?_<;>intro hb|refine fd ?_|fail))
def opN(m:Nat):Nat→List (Int × Nat)
 |0=>[]
 |k+1=>opN m k++(adC m).map fun i=>((k:Int)+1,i)
theorem aYO(m:Nat):∀k,opU m k=(opN m k).map fun o=>opR o.1 o.2
 |0=>rfl
 |k+1=>by
  show opU m k++opK m ((k:Int)+1)=_
  rw[aYO m k]
  show _=(opN m k++(adC m).map fun i=>((k:Int)+1,i)).map _
  rw[aoV,List.map_map]
  rfl
theorem aK5{m:Nat}:∀{k:Nat} {o:Int × Nat},o∈opN m k↔∃j:Nat,j<k∧o.1=(j:Int)+1∧o.2<m
 |0,o=>by simp[opN]
 |k+1,o=>by
  show o∈opN m k++(adC m).map _↔_
  rw[List.mem_append,aK5,aA3]
  constructor
  ·rintro(⟨j,h1,h2,h3⟩|⟨i,h1,rfl⟩)
   ·exact⟨j,by omega,h2,h3⟩
   ·exact⟨k,by omega,rfl,by simpa using h1⟩
  ·rintro⟨j,h1,h2,h3⟩
   by_cases e:j=k
   ·subst e
    exact .inr ⟨o.2,by simpa using h3,by rw[←h2]⟩
   ·exact .inl ⟨j,by omega,h2,h3⟩
theorem aN8{m:Nat}{o:Int × Nat}(h:o∈opN m 4):(o.1=1∨o.1=2∨o.1=3∨o.1=4)∧o.2<m:=by
 obtain⟨j,h1,h2,h3⟩:=aK5.1 h
 exact⟨by omega,h3⟩
theorem aL5(m:Nat):∀k,(opN m k).length=k*m
 |0=>by simp[opN]
 |k+1=>by simp[opN,aL5 m k,aBU]
theorem aXW{S T:Type}{Y:Go.Ev.Fj S}{Z:Go.Ev.Fj T}{s:S}{t:T}(top:Nat)(h:∀k,Go.Ev.Can Y s k↔Go.Ev.Can Z t k):Y.bst top s=Z.bst top t:=by
 by_cases e:∃k,Go.Ev.Can Y s k
 ·have e':∃k,Go.Ev.Can Z t k:=by obtain⟨k,hk⟩:=e;exact⟨k,(h k).1 hk⟩
  obtain⟨a1,a2⟩:=Fj.bst_can (top:=top) e
  obtain⟨b1,b2⟩:=Fj.bst_can (top:=top) e'
  exact Nat.le_antisymm (a2 _ ((h _).2 b1)) (b2 _ ((h _).1 a1))
 ·have e':¬∃k,Go.Ev.Can Z t k:=fun⟨k,hk⟩=>e ⟨k,(h k).2 hk⟩
  rw[Fj.bst_none e,Fj.bst_none e']
theorem aTA{w:Af}{N:Nat}{l:List Ci}{s:St}(hv:Lc w.parts s.1=true):(Ld w N l).bst Az s=bs w N l s:=by
 refine aXW Az fun k=>⟨fun h=>?_,fun h=>?_⟩
 ·exact h.sim (fun a b=>a=b) (fun a b e hg=>by subst e;exact hg) (fun a b e o ho=>by
   subst e
   obtain⟨_,c,hc,rfl⟩:=avV.1 ho
   exact⟨_,adL.2 ⟨c,hc,rfl⟩,abX _,fun y hy=>⟨y,hy,rfl⟩⟩) s rfl
 ·exact h.sim (fun a b=>a=b∧Lc w.parts a.1=true) (fun a b e hg=>by obtain⟨rfl,_⟩:=e;exact hg) (fun a b e o ho=>by
   obtain⟨rfl,hva⟩:=e
   obtain⟨c,hc,rfl⟩:=adL.1 ho
   exact⟨_,avV.2 ⟨hva,c,hc,rfl⟩,abX _,fun y hy=>⟨y,hy,rfl,aTQ hva hc y hy⟩⟩) s ⟨rfl,hv⟩
theorem aVS{w:Af}{N:Nat}(hb:Fe w=true)(h6:w.parts.length≤6){l:List Ci}{F:Nat}(hF:F≤4){f:St→Nat}(K:Fj.Kno (Ld w N l) Az (Ja w.parts.length F) f)
 (st:∀g∈adC F,∀n∈adC (6 ^ w.parts.length),∀o∈opN w.parts.length 4,∀c,ay5 w N (Ku w.parts.length g n) o.1 o.2=some c→f (Ku w.parts.length g n)≤min Az (c.c.toNat+Fj.mx f c.to)) {s:St} (hs:s∈Ja w.parts.length F):f s=(Ld w N l).bst Az s:=by
 have hL:(Ja w.parts.length F).length≤186624:=by
  rw[aPE]
  have:6 ^ w.parts.length≤46656:=azY (az0 (by decide) h6) (by decide)
  calc F*6 ^ w.parts.length≤4*46656:=aBV hF this
   _=186624:=rfl
 refine(K.known.bst (fun s hs o ho=>?_) (by unfold Az;omega) hs).1
 obtain⟨g,n,hg,hn,rfl⟩:=Pn.1 hs
 obtain⟨hv,c,hc,rfl⟩:=avV.1 ho
 obtain⟨p,x,I⟩:=Kx.1 hc
 have hil:=(ah1.1 I.hp).1
 refine st g (ai5.2 hg) n (ai5.2 hn) (c.k,c.i) (aK5.2 ⟨(c.k-1).toNat,by have:=I.k4;omega,by have:=I.k4;show c.k=_;omega,hil⟩) c ?_
 unfold ay5
 rw[if_pos hv]
 exact(Na I.k4).2 ⟨rfl,rfl,p,x,I⟩
theorem aLC:∀(m n:Nat),n<6 ^ m→cod (Ho m n)=n
 |0,n,h=>by simp at h;subst h;rfl
 |m+1,n,h=>by
  show cod ((((n % 6 / 2:Nat):Int),n % 2==1)::Ho m (n / 6))=n
  rw[ap6,aLC m (n / 6) (by rw[Nat.pow_succ]at h;omega)]
  have e1:(((n % 6 / 2:Nat):Int)).toNat=n % 6 / 2:=rfl
  simp only[e1]
  have e2:(n % 2==1).toNat=n % 2:=by
   have:n % 2=0∨n % 2=1:=by omega
   rcases this with h|h<;>simp[h]
  rw[e2]
  omega
theorem a9R{m g g' n n':Nat}(hn:n<6 ^ m)(hn':n'<6 ^ m)(h:Ku m g n=Ku m g' n'):g=g'∧n=n':=by
 unfold Ku at h
 simp only[Prod.mk.injEq]at h
 refine⟨h.2,?_⟩
 have h1:=congrArg (fun L=>L.take m) h.1
 have e:∀n,(Jy (Ho m n)).take m=Ho m n:=fun n=>by
  have:=a4Y (L:=Ho m n)
  rwa[aEW]at this
 simp only[e]at h1
 rw[←aLC m n hn,←aLC m n' hn',h1]
theorem aZJ{K:St→Nat}{m g n c:Nat}(hn:n<6 ^ m)(hc:c<Az)(g':Nat):Nv (fun x=>if x=Ku m g n then c else K x) m g'=if g'=g then(Nv K m g).set n [.int .i64 (c:Int)]else Nv K m g':=by
 have ev:∀n',n'<6 ^ m→(if(Jy (Ho m n'),g')=Ku m g n then c else K (Jy (Ho m n'),g'))=if g'=g∧n'=n then c else K (Jy (Ho m n'),g'):=fun n' h'=>by
  by_cases e:(Jy (Ho m n'),g')=Ku m g n
  ·rw[if_pos e,if_pos (a9R h' hn e)]
  ·rw[if_neg e,if_neg (fun h=>e (by rw[h.1,h.2];rfl))]
 by_cases e:g'=g
 ·subst e
  rw[if_pos rfl]
  apply aQC
  intro j
  by_cases hj:j<6 ^ m
  ·rw[Oh _ m g' hj,ev j hj]
   by_cases ej:n=j
   ·subst ej
    rw[if_pos ⟨rfl,rfl⟩,aFV (by rw[Je];exact hj)]
    simp[agV,hc]
   ·rw[if_neg (by omega),aQB ej,Oh K m g' hj]
  ·rw[aoT (by rw[Je];omega),aoT (by rw[abL,Je];omega)]
 ·rw[if_neg e]
  apply aQC
  intro j
  by_cases hj:j<6 ^ m
  ·rw[Oh _ m g' hj,Oh K m g' hj,ev j hj,if_neg (fun h=>e h.1)]
  ·rw[aoT (by rw[Je];omega),aoT (by rw[Je];omega)]
end Go.Proofs.YtcncggaobhbomaaGreatDoor
