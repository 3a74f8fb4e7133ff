/- The functions of the layer, walked. -/
import Derived.Test.YtcncggaobhbomaaGreatDoorLibE
import Derived.Test.YtcncggaobhbomaaGreatDoorPartAC
open List renaming length_map→abT,mem_append→abV,mem_of_getElem?→ac4,getElem?_set_ne→adA,getElem?_append_left→adD,foldl_cons→adP,take_add_one→ad8,take_length→agF,take→ahF,take_of_length_le→ahS,mem_map→ah9,getElem?_append_right→ai3,getElem?_eq_some_iff→ai4,getElem?_set_self→ai5,take_append_of_le_length→ajT,mem_cons→anI,mem_of_mem_take→aoQ,getElem?_map→aoR,nodup_cons→aoS,map_eq_nil_iff→aoT,all_cons→aoU,all_nil→aoV,mem_append_left→apA,take_append_drop→apU,mem_range→aqT,prefix_append→as3,foldl_nil→atB
open Nat renaming le_refl→acG,le_trans→aoP,add_sub_cancel_left→asT
open Int renaming lt_irrefl→adM,natCast_zero→aq9
open Bool renaming and_eq_true→aiF,and_true→aoW,and_false→ao1
set_option linter.unusedSimpArgs false
set_option linter.unusedVariables false
namespace Go.Proofs.YtcncggaobhbomaaGreatDoor
open Go.Ev Go Go.Ev.Net
set_option maxRecDepth 100000
set_option maxHeartbeats 16000000
def cod(L:List (Int × Bool)):Nat:=L.foldr (fun x a=>2*x.1.toNat+x.2.toNat+6*a) 0
theorem qQ(x:Int × Bool)(L:List (Int × Bool)):cod (x::L)=2*x.1.toNat+x.2.toNat+6*cod L:=rfl
theorem anJ(b:Bool):b.toNat≤1:=by cases b<;>decide
theorem av9:∀a b:Bool,a.toNat=b.toNat→a=b:=by decide
theorem al9:∀{L:List (Int × Bool)},(∀x∈L,0≤x.1∧x.1≤2)→cod L<6 ^ L.length
 | [],_=>by decide
 |x::L,h=>by
  have ih:=al9 (L:=L) fun y hy=>h y (by simp[hy])
  have hx:=h x (by simp)
  have hb:=anJ x.2
  rw[qQ,List.length_cons,Nat.pow_succ]
  omega
theorem afM:∀{L M:List (Int × Bool)},L.length=M.length→(∀x∈L,0≤x.1∧x.1≤2)→(∀x∈M,0≤x.1∧x.1≤2)→cod L=cod M→L=M
 | [],[],_,_,_,_=>rfl
 | [],_::_,h,_,_,_=>by simp at h
 |_::_,[],h,_,_,_=>by simp at h
 |x::L,y::M,hl,h1,h2,e=>by
  rw[qQ,qQ]at e
  have hx:=h1 x (by simp)
  have hy:=h2 y (by simp)
  have bx:=anJ x.2
  have by':=anJ y.2
  have e1:x.1=y.1:=by omega
  have e2:x.2=y.2:=av9 _ _ (by omega)
  have e3:cod L=cod M:=by omega
  have e4:=afM (L:=L) (M:=M) (by simpa using hl) (fun z hz=>h1 z (by simp[hz])) (fun z hz=>h2 z (by simp[hz])) e3
  rw[e4,show x=y from Prod.ext e1 e2]
structure InU(n:Nat)(s0 s:St):Prop where
 l12:s.1.length=12
 dg:∀x∈s.1,0≤x.1∧x.1≤2
 tl:s.1.drop n=s0.1.drop n
 fl:s.2≤s0.2
theorem vF{n:Nat}{s0:St}(hn:n≤6)(h3:s0.2≤3)(L:List St)(hd:L.Nodup)(h:∀s∈L,InU n s0 s):L.length≤186624:=by
 have hpow:6 ^ n≤46656:=aoP (Nat.pow_le_pow_right (by decide) hn) (by decide)
 have tk:∀s∈L,(s.1.take n).length=n∧∀x∈s.1.take n,0≤x.1∧x.1≤2:=fun s hs=>⟨by rw[List.length_take,(h s hs).l12];omega,fun x hx=>(h s hs).dg x (aoQ hx)⟩
 have inj:(L.map fun s=>cod (s.1.take n)*4+s.2).Nodup:=by
  rw[List.nodup_iff_pairwise_ne,List.pairwise_map]
  refine List.Pairwise.imp_of_mem (R:=fun a b=>a≠b) ?_ hd
  intro a b ha hb hab e
  have e:cod (a.1.take n)*4+a.2=cod (b.1.take n)*4+b.2:=e
  have fa:=(h a ha).fl
  have fb:=(h b hb).fl
  have e1:cod (a.1.take n)=cod (b.1.take n):=by omega
  have e2:a.2=b.2:=by omega
  have e3:=afM ((tk a ha).1.trans (tk b hb).1.symm) (tk a ha).2 (tk b hb).2 e1
  have e4:a.1=b.1:=by rw[←apU n a.1,←apU n b.1,e3,(h a ha).tl,(h b hb).tl]
  exact hab (Prod.ext e4 e2)
 have:=Snake.nodup_sub (m:=List.range 186624) inj fun x hx=>by
  obtain⟨s,hs,rfl⟩:=ah9.1 hx
  have:=al9 (tk s hs).2
  rw[(tk s hs).1]at this
  have hf:=(h s hs).fl
  rw[aqT]
  show cod (s.1.take n)*4+s.2<186624
  omega
 rw[abT,List.length_range]at this
 exact this
theorem aeH{n:Nat}{s0 s:St}(h:InU n s0 s){i:Nat}(hi:i<n){y:Int × Bool}(hy:0≤y.1∧y.1≤2){f:Nat}(hf:f≤s.2):InU n s0 (s.1.set i y,f):=
 ⟨by simpa using h.l12,fun x hx=>by
   rcases List.mem_or_eq_of_mem_set hx with hx|rfl
   ·exact h.dg x hx
   ·exact hy,by rw[List.drop_set_of_lt hi];exact h.tl,aoP hf h.fl⟩
structure ae3(w:Qj)(N:Nat)(s:St)(o:Yt)(p:Qd)(x:Int × Bool):Prop where
 k4:o.k=1∨o.k=2∨o.k=3∨o.k=4
 hp:w.parts[o.i]?=some p
 hx:s.1[o.i]?=some x
 can:agE p x o.k=true
 safe:uE w N s.1 o.k o.i true x=true
 c:o.c=ag8 p o.k
 to:o.to=toF s.1 s.2 o.k o.i x
theorem aaL{w:Qj}{N:Nat}{s:St}{k:Int}(hk:k=1∨k=2∨k=3∨k=4){i:Nat}{o:Yt}:wT w N s k i=some o↔o.k=k∧o.i=i∧∃p x,ae3 w N s o p x:=by
 constructor
 ·intro h
  unfold wT at h
  cases hp:w.parts[i]? with
  |none=>rw[hp]at h;cases h
  |some p=>
   cases hx:s.1[i]? with
   |none=>rw[hp,hx]at h;cases h
   |some x=>
    rw[hp,hx]at h
    simp only at h
    split at h
    ·rename_i hc
     simp only[aiF]at hc
     cases h
     exact⟨rfl,rfl,p,x,hk,hp,hx,hc.1,hc.2,rfl,rfl⟩
    ·cases h
 ·rintro⟨rfl,rfl,p,x,I⟩
  unfold wT
  rw[I.hp,I.hx]
  simp only[I.can,I.safe,Bool.and_self,if_true]
  obtain⟨k,i,c,to⟩:=o
  have h1:=I.c
  have h2:=I.to
  simp only at h1 h2
  rw[h1,h2]
theorem jK{w:Qj}{N:Nat}{s:St}{k:Int}(hk:k=1∨k=2∨k=3∨k=4){o:Yt}:o∈tJ w N s k↔o.k=k∧∃p x,ae3 w N s o p x:=by
 unfold tJ
 rw[List.mem_filterMap]
 constructor
 ·rintro⟨i,_,h⟩
  obtain⟨h1,_,h3⟩:=(aaL hk).1 h
  exact⟨h1,h3⟩
 ·rintro⟨h1,p,x,I⟩
  exact⟨o.i,aqT.2 (ai4.1 I.hp).1,(aaL hk).2 ⟨h1,rfl,p,x,I⟩⟩
theorem kP{w:Qj}{N:Nat}{s:St}{o:Yt}:o∈Tn w N s↔∃p x,ae3 w N s o p x:=by
 unfold Tn
 simp only[abV,jK (k:=1) (by simp),jK (k:=2) (by simp),jK (k:=3) (by simp),jK (k:=4) (by simp)]
 constructor
 ·rintro(⟨_,h⟩|⟨_,h⟩|⟨_,h⟩|⟨_,h⟩)<;>exact h
 ·rintro⟨p,x,I⟩
  rcases I.k4 with e|e|e|e
  ·exact .inl ⟨e,p,x,I⟩
  ·exact .inr (.inl ⟨e,p,x,I⟩)
  ·exact .inr (.inr (.inl ⟨e,p,x,I⟩))
  ·exact .inr (.inr (.inr ⟨e,p,x,I⟩))
theorem tO{w:Qj}(h:Wj w=true){i:Nat}{p:Qd}(hp:w.parts[i]?=some p)(k:Int):1≤ag8 p k∧ag8 p k≤1000:=by
 have h:=wU h hp
 simp only[Xp,Xw,aiF,decide_eq_true_eq]at h
 obtain⟨⟨_,a7⟩,a8⟩:=h
 unfold ag8
 split
 ·exact a7
 ·split
  ·exact a8
  ·decide
theorem aj0{k:Int}{b:Bool}{x:Int × Bool}(h:0≤x.1∧x.1≤2):0≤(Tv k b x).1∧(Tv k b x).1≤2:=by
 unfold Tv
 split
 ·exact h
 ·split
  ·exact h
  ·split
   ·split<;>exact⟨by simp,by simp⟩
   ·exact⟨by simp,by simp⟩
theorem arL(L:List (Int × Bool))(f:Nat)(k:Int)(i:Nat)(x:Int × Bool):toF L f k i x≠[]∧(toF L f k i x).length≤2:=by
 unfold toF;split<;>simp
theorem oO{L:List (Int × Bool)}{f:Nat}{k:Int}{i:Nat}{x:Int × Bool}{s:St}:s∈toF L f k i x↔s=(L.set i (Tv k true x),f)∨(k=3∧0<f∧s=(L.set i (Tv k false x),f-1)):=by
 unfold toF
 split
 ·rename_i h;simp[h.1,h.2]
 ·rename_i h
  rw[List.mem_singleton]
  constructor
  ·exact .inl
  ·rintro(h'|⟨a,b,_⟩)
   ·exact h'
   ·exact absurd ⟨a,b⟩ h
theorem acJ{w:Qj}{N:Nat}(hb:Wj w=true){s0 s:St}(h:InU w.parts.length s0 s){o:Yt}(ho:o∈Tn w N s):1≤o.c∧o.c≤1000∧o.to≠[]∧o.to.length≤2∧∀x∈o.to,InU w.parts.length s0 x:=by
 obtain⟨p,x,I⟩:=kP.1 ho
 have hv:=tO hb I.hp o.k
 have hl:=arL s.1 s.2 o.k o.i x
 have hil:=(ai4.1 I.hp).1
 have hxd:=h.dg x (ac4 I.hx)
 refine⟨by rw[I.c];exact hv.1,by rw[I.c];exact hv.2,by rw[I.to];exact hl.1,by rw[I.to];exact hl.2,fun y hy=>?_⟩
 rw[I.to]at hy
 rcases oO.1 hy with rfl|⟨_,_,rfl⟩
 ·exact aeH h hil (aj0 hxd) (acG _)
 ·exact aeH h hil (aj0 hxd) (Nat.sub_le _ _)
theorem ayN(w:Qj)(l:List Up)(nn:Bool)(hl:l.length≤maxLen):Uu.call (.fn 33) [.agg [.int .i64 w.rooms,.int .i64 w.need,Rw 9 true w.nn (w.parts.map Qd.cells)],Rw 3 true nn (l.map Up.cells)] []=some (.ret (.bool (dS w l)),[]):=by
 obtain⟨ans,hans⟩:∃a,dS w l=a:=⟨_,rfl⟩
 rw[hans]
 unfold dS at hans
 have hI:=amG w
 generalize hn:IntKind.i64.wrap ((w.parts.length:Int)-1)=n at *
 refine ce Tryz.func33 ?_
 simp only[Tryz.f33]
 (have hb:=trivial;with_reducible repeat' (first|simp only[hb,Vc.down,seval,aaM.down,abT]|refine Qs ?_ ?_<;>intro hb|refine fd ?_|fail))
 refine Xz (lst 38 l (fun i (y:Option Up) t h=>t 1=Rw 3 true nn (l.map Up.cells)∧t 2=.ptr 0 0 0∧t 5=.int .i64 (i:Int)∧(∃fl x,h[0]?=some (.live 3 fl x [[.int .i64 w.rooms,.int .i64 w.need,Rw 9 true w.nn (w.parts.map Qd.cells)]]))∧((i=0∧y=none)∨∃z j,i=j+1∧l[j]?=some z∧y=some z)) (fun rest y=>Su n y rest)
  (fun r e t h=>(e=.exit 0∧r=true)∨(e=.ret∧r=false∧t 4=.bool false)) ?_ ?_ none _ _ ?_) (fun e t h hk=>?_)
 ·rintro y t h Q' kQ ⟨g1,g2,g5,hB,hy⟩
  (have hb:=trivial;with_reducible repeat' (first|simp only[hb,Vc.down,seval,aaM.down,g1,g5,adM,decide_false,abT]|refine Qs ?_ ?_<;>intro hb|refine fd ?_|fail))
  exact kQ _ _ _ (.inl ⟨rfl,by cases y<;>rfl⟩)
 ·rintro x rest i y t h J Q' kJ kQ hx hi ⟨g1,g2,g5,⟨fl,xx,hB⟩,hy⟩
  have hdd:decide ((i:Int)<(l.length:Int))=true:=decide_eq_true (by omega)
  have hii:((i:Int)<(l.length:Int))=True:=eq_true (by omega)
  have hww:=To hi hl
  have hB2:=Qi hB
  replace hI:=hI x.part
  have hxw:(l.map Up.cells)[i]?=some x.cells:=by rw[aoR,hx];rfl
  cases c1:Xw x.part 0 n with
  |false=>
   rw[c1]at hI
   have hf:Su n y (x::rest)=false:=by cases y<;>simp[Su,c1]
   (have hb:=trivial;with_reducible repeat' (first|simp only[hb,Vc.down,seval,aaM.down,g1,g2,g5,hdd,hii,hww,hx,hB,hB2,hn,hI,Up.cells,abT]|refine Qs ?_ ?_<;>intro hb|refine fd ?_|fail))
   exact kQ _ _ _ (.inr ⟨rfl,hf,by simp[up]⟩)
  |true=>
   rw[c1]at hI
   rcases hy with⟨rfl,rfl⟩|⟨z,j,rfl,hz,rfl⟩
   ·have h00:decide ((0:Int)>0)=false:=rfl
    have h01:decide ((0:Int)<0)=false:=rfl
    simp only[aq9]at hdd hii g5
    have hf:Su n none (x::rest)=Su n (some x) rest:=by simp[Su,c1]
    (have hb:=trivial;with_reducible repeat' (first|simp only[hb,Vc.down,seval,aaM.down,g1,g2,g5,hdd,hii,hww,hx,hB,hB2,hn,hI,h00,h01,Up.cells,abT]|refine Qs ?_ ?_<;>intro hb|refine fd ?_|fail))
    exact Ru (kJ _ _ (some x) ⟨by simp[up,g1],by simp[up,g2],by simp[up],⟨fl,xx,hB⟩,.inr ⟨x,0,rfl,hx,rfl⟩⟩ hf.symm)
   ·have h00:decide (((j+1:Nat):Int)>0)=true:=decide_eq_true (by omega)
    have h01:decide ((0:Int)<((j+1:Nat):Int))=true:=decide_eq_true (by omega)
    have hw1:IntKind.i64.wrap (((j+1:Nat):Int)-1)=(j:Int):=by rw[Uf (by unfold maxLen at hl;omega) (by unfold maxLen at hl;omega)];omega
    have hjl:((j:Int)<(l.length:Int))=True:=eq_true (by omega)
    cases c2:decide (x.part≤z.part)with
    |false=>
     have hf:Su n (some z) (x::rest)=Su n (some x) rest:=by simp only[Su,c1,c2];rfl
     (have hb:=trivial;with_reducible repeat' (first|simp only[hb,Vc.down,seval,aaM.down,g1,g2,g5,hdd,hii,hww,hx,hz,hB,hB2,hn,hI,h00,h01,hw1,hjl,c2,Up.cells,abT]|refine Qs ?_ ?_<;>intro hb|refine fd ?_|fail))
     exact Ru (kJ _ _ (some x) ⟨by simp[up,g1],by simp[up,g2],by simp[up];omega,⟨fl,xx,hB⟩,.inr ⟨x,j+1,rfl,hx,rfl⟩⟩ hf.symm)
    |true=>
     have hf:Su n (some z) (x::rest)=false:=by simp only[Su,c1,c2];rfl
     (have hb:=trivial;with_reducible repeat' (first|simp only[hb,Vc.down,seval,aaM.down,g1,g2,g5,hdd,hii,hww,hx,hz,hB,hB2,hn,hI,h00,h01,hw1,hjl,c2,Up.cells,abT]|refine Qs ?_ ?_<;>intro hb|refine fd ?_|fail))
     exact kQ _ _ _ (.inr ⟨rfl,hf,by simp[up]⟩)
 ·exact⟨by simp[up,dU],by simp[up],by simp[up],⟨_,_,rfl⟩,.inl ⟨rfl,rfl⟩⟩
 rw[hans]at hk
 rcases hk with⟨rfl,rfl⟩|⟨rfl,rfl,g4⟩
 ·(have hb:=trivial;with_reducible repeat' (first|simp only[hb,Vc.down,seval,aaM.down]|refine Qs ?_ ?_<;>intro hb|refine fd ?_|fail))
 ·(have hb:=trivial;with_reducible repeat' (first|simp only[hb,Vc.down,seval,aaM.down,g4]|refine Qs ?_ ?_<;>intro hb|refine fd ?_|fail))
def dT(w:Qj)(d:Int)(l:List Up)(f:Int):Int:=if decide ((w.parts.length:Int)>6)=true then 3 else if(!Wj w|| !dA d|| !dS w l||decide (f<0)||decide (f>3))=true then 2 else 0
theorem afV(w:Qj)(hs:w.small)(d:Int)(l:List Up)(nn:Bool)(hl:l.length≤maxLen)(f:Int):Uu.call (.fn 11) [.agg [.int .i64 w.rooms,.int .i64 w.need,Rw 9 true w.nn (w.parts.map Qd.cells)],.int .i64 d,Rw 3 true nn (l.map Up.cells),.int .i64 f] []=some (.ret (.int .i64 (dT w d l f)),[]):=by
 have h1:=amX w hs
 have h2:=afB d
 have h3:=ayN w l nn hl
 unfold dT
 cases c0:decide ((w.parts.length:Int)>6)with
 |true=>
  rw[if_pos rfl]
  (refine ce Tryz.func11 ?_;simp only[Tryz.f11];(have hb:=trivial;with_reducible repeat' (first|simp only[hb,Vc.down,seval,adO.down,c0,abT]|refine Qs ?_ ?_<;>intro hb|refine fd ?_|fail)))
 |false=>
  rw[if_neg (by simp)]
  generalize Wj w=b1 at *
  generalize dA d=b2 at *
  generalize dS w l=b3 at *
  cases b1 with
  |false=>
   rw[if_pos (by simp)]
   (refine ce Tryz.func11 ?_;simp only[Tryz.f11];(have hb:=trivial;with_reducible repeat' (first|simp only[hb,Vc.down,seval,adO.down,c0,h1,abT]|refine Qs ?_ ?_<;>intro hb|refine fd ?_|fail)))
  |true=>
   cases b2 with
   |false=>
    rw[if_pos (by simp)]
    (refine ce Tryz.func11 ?_;simp only[Tryz.f11];(have hb:=trivial;with_reducible repeat' (first|simp only[hb,Vc.down,seval,adO.down,c0,h1,h2,abT]|refine Qs ?_ ?_<;>intro hb|refine fd ?_|fail)))
   |true=>
    cases b3 with
    |false=>
     rw[if_pos (by simp)]
     (refine ce Tryz.func11 ?_;simp only[Tryz.f11];(have hb:=trivial;with_reducible repeat' (first|simp only[hb,Vc.down,seval,adO.down,c0,h1,h2,h3,abT]|refine Qs ?_ ?_<;>intro hb|refine fd ?_|fail)))
    |true=>
     cases b4:decide (f<0)with
     |true=>
      rw[if_pos (by simp)]
      (refine ce Tryz.func11 ?_;simp only[Tryz.f11];(have hb:=trivial;with_reducible repeat' (first|simp only[hb,Vc.down,seval,adO.down,c0,h1,h2,h3,b4,abT]|refine Qs ?_ ?_<;>intro hb|refine fd ?_|fail)))
     |false=>
      cases b5:decide (f>3)with
      |true=>
       rw[if_pos (by simp)]
       (refine ce Tryz.func11 ?_;simp only[Tryz.f11];(have hb:=trivial;with_reducible repeat' (first|simp only[hb,Vc.down,seval,adO.down,c0,h1,h2,h3,b4,b5,abT]|refine Qs ?_ ?_<;>intro hb|refine fd ?_|fail)))
      |false=>
       rw[if_neg (by simp)]
       (refine ce Tryz.func11 ?_;simp only[Tryz.f11];(have hb:=trivial;with_reducible repeat' (first|simp only[hb,Vc.down,seval,adO.down,c0,h1,h2,h3,b4,b5,abT]|refine Qs ?_ ?_<;>intro hb|refine fd ?_|fail)))
theorem gG{d:Nat}{h:Qa}{v:AV}{p:AV × List Nat}{l:Qa}(hr:rd (d+1) (hf h) v=some p)(hd:d+1≤9:=by omega):rd (d+1) (hf (h++l)) v=some p:=by
 have:=dI (g':=hf (h++l)) (Vf hr cA) fun j hj z hz=>by
  show((h++l)[j]?).bind Rl=_
  rw[adD (qX hd (Vf hr cA) j hj)];exact hz
 obtain⟨a,l',R1,R2,e,h1,h2,h3⟩:=Xm this
 cases e
 obtain⟨_,rfl⟩:=cX h2
 simp at h3
 rw[h1,←h3]
theorem kN:Qe .nilm=[.nilm]:=Eq.trans rfl rfl
theorem kV:AV.flat .nilm=false:=Eq.trans rfl rfl
theorem jZ:AV.isCell .nilm=true:=Eq.trans rfl rfl
theorem rK:∀{l:List St} {i j:Nat} {x:St},l.Nodup→l[i]?=some x→l[j]?=some x→i=j
 | [],i,j,x,_,h,_=>by simp at h
 |a::l,0,0,x,_,_,_=>rfl
 |a::l,0,j+1,x,hn,h1,h2=>by
  simp at h1 h2;subst h1
  exact absurd (ac4 h2) (aoS.1 hn).1
 |a::l,i+1,0,x,hn,h1,h2=>by
  simp at h1 h2;subst h2
  exact absurd (ac4 h1) (aoS.1 hn).1
 |a::l,i+1,j+1,x,hn,h1,h2=>congrArg (· +1) (rK (l:=l) (x:=x) (aoS.1 hn).2 (by simpa using h1) (by simpa using h2))
def knT:St→AV:=bA fun _=>Ue
theorem al3{h:Qa}{b:Nat}{L:List St}{s:St}(hb:h[b]?=some (Sz (Uy L knT)))(hL:zI L)(h12:s.1.length=12)(hs:s∉L):ms Tryz.prog h 86 (some (.mapr b)) (some (.agg (Rr s))) (some (.int .i64 1099511627776))=some (.ret (.tup []),[.put b (Sz (Uy (L++[s]) knT))]):=by
 rw[auS hb hL h12 hs]
 have:(fun y=>if y=s then AV.int .i64 1099511627776 else knT y)=knT:=by
  funext y;split<;>rfl
 rw[this]
theorem aqQ{g:HF}{v:AV}{l:List Yt}{R:List Nat}(h:rd 6 g v=some (Rw 4 false false (l.map Yt.cells),R)):ln Tryz.prog 91 (some v)=some (.ret (.int .i64 (l.length:Int)),[]):=by
 rcases fK h with⟨rfl,h0⟩|⟨b,rows',rfl,_⟩
 ·obtain rfl:=aoT.1 h0
  simp only[Vc.down,seval,Yi.down,List.length_nil,aq9]
 ·simp only[Vc.down,seval,Yi.down,abT]
structure CI(w:Qj)(N:Nat)(H:Qa)(s0:St)(U:St→Prop)(L:List St)(i b:Nat)(av:St→AV)(h:Qa):Prop where
 keep:Xl [] H h
 all:h[H.length+1]?=some (Sz (Uy (L.take i) av))
 lst:∃x,h[b]?=some (.live 25 true x (L.map Rr))
 kn:h[H.length+3]?=some (Sz (Uy L knT))
 bx:∃x,h[H.length+4]?=some (.live 1 false x [[.mapr (H.length+3)]])
 b2:H.length+2≤b
 b3:b≠H.length+3
 b4:b≠H.length+4
 ch:∀s∈L.take i,∃R,rd 6 (hf h) (av s)=some (Rw 4 false false ((Tn w N s).map Yt.cells),R)∧∀j∈R,H.length+5≤j∧j≠b
 nd:L.Nodup
 tw:zI L
 un:∀s∈L,U s
 hd:L[0]?=some s0
def Cls(w:Qj)(N:Nat)(L:List St)(i:Nat):Prop:=∀s∈L.take i,∀o∈Tn w N s,∀x∈o.to,x∈L
theorem CI.app{w:Qj}{N:Nat}{H:Qa}{s0:St}{U:St→Prop}{L:List St}{i b:Nat}{av:St→AV}{h:Qa}(I:CI w N H s0 U L i b av h)(l:Qa):CI w N H s0 U L i b av (h++l):=by
 obtain⟨xl,hl⟩:=I.lst
 obtain⟨xb,hb⟩:=I.bx
 exact⟨asF I.keep l,Qi I.all l,⟨xl,Qi hl l⟩,Qi I.kn l,⟨xb,Qi hb l⟩,I.b2,I.b3,I.b4,fun s hs=>by
  obtain⟨R,h1,h2⟩:=I.ch s hs
  exact⟨R,gG h1,h2⟩,I.nd,I.tw,I.un,I.hd⟩
theorem CI.call{w:Qj}{N:Nat}{H:Qa}{s0:St}{U:St→Prop}{L:List St}{i b:Nat}{av:St→AV}{h:Qa}(I:CI w N H s0 U L i b av h){s:St}(hs:L[i]?=some s){v:AV}{R:List Nat}{G M:Qa}{c:CB}
 (e5:(h++[c]).length≤M.length) (e6:∀b,b<(h++[c]).length→M[b]?=(h++[c])[b]?) (e7:∀b,(h++[c]).length≤b→M[b]?=G[b]?) (hv:rd 6 (hf G) v=some (Rw 4 false false ((Tn w N s).map Yt.cells),R)) (hR:∀j∈R,(h++[c]).length≤j):
 CI w N H s0 U L (i+1) b (fun y=>if y=s then v else av y) (M.set (H.length+1) (Sz (Uy (L.take i++[s]) fun y=>if y=s then v else av y))):=by
 obtain⟨xl,hl⟩:=I.lst
 obtain⟨xb,hb⟩:=I.bx
 have lA:=Uo I.all
 have ll:=Uo hl
 have lk:=Uo I.kn
 have lx:=Uo hb
 have b2:=I.b2
 have hlen:(h++[c]).length=h.length+1:=by simp
 have old:∀j,j<h.length→j≠H.length+1→(M.set (H.length+1) (Sz (Uy (L.take i++[s]) fun y=>if y=s then v else av y)))[j]?=h[j]?:=fun j hj hn=>by
  rw[adA (fun e=>hn e.symm),e6 j (by omega),adD hj]
 have htk:L.take (i+1)=L.take i++[s]:=by rw[ad8,hs];rfl
 refine⟨⟨by have:=I.keep.len;simp;omega,fun j hj hn=>by rw[old j (by omega) (by omega)];exact I.keep.same j hj hn⟩,by rw[htk];exact ai5 (by omega),⟨xl,by rw[old b ll (by omega)];exact hl⟩,by rw[old _ lk (by omega)];exact I.kn,⟨xb,by rw[old _ lx (by omega)];exact hb⟩,I.b2,I.b3,I.b4,fun y hy=>?_,I.nd,I.tw,I.un,I.hd⟩
 by_cases e:y=s
 ·subst e
  refine⟨R,?_,fun j hj=>by have:=hR j hj;omega⟩
  rw[if_pos rfl]
  have:=dI (g':=hf (M.set (H.length+1) (Sz (Uy (L.take i++[y]) fun z=>if z=y then v else av z)))) (Vf hv cA) fun j hj z hz=>by
   have hj2:j∈R:=by simpa using hj
   have:=hR j hj2
   show((M.set _ _)[j]?).bind Rl=_
   rw[adA (by omega),e7 j this];exact hz
  obtain⟨a,l',R1,R2,e1,h1,h2,h3⟩:=Xm this
  cases e1
  obtain⟨_,rfl⟩:=cX h2
  simp at h3
  rw[h1,←h3]
 ·rw[htk]at hy
  have hy2:y∈L.take i:=by
   rcases abV.1 hy with h|h
   ·exact h
   ·simp at h;exact absurd h e
  obtain⟨R0,h1,h2⟩:=I.ch y hy2
  refine⟨R0,?_,h2⟩
  rw[if_neg e]
  have:=dI (g':=hf (M.set (H.length+1) (Sz (Uy (L.take i++[s]) fun z=>if z=s then v else av z)))) (Vf h1 cA) fun j hj z hz=>by
   have hj2:j∈R0:=by simpa using hj
   have:=h2 j hj2
   show((M.set _ _)[j]?).bind Rl=_
   rw[old j (qX (by omega) (Vf h1 cA) j hj) (by omega)];exact hz
  obtain⟨a,l',R1,R2,e1,h1',h2',h3⟩:=Xm this
  cases e1
  obtain⟨_,rfl⟩:=cX h2'
  simp at h3
  rw[h1',←h3]
theorem yA{g:HF}{d st b r n:Nat}{x:AV}{R:List Nat}{rows:List (List AV)}(h:rd (d+1) g (.slr st b r n)=some (x,R))(hb:(g b).bind Rl=some (st,true,rows)):b∈R:=by
 simp only[rd,hb,Option.bind_some,cond_true]at h
 split at h
 ·cases h;simp
 ·cases h
theorem afL{H:Qa}{v:AV}{l:List Yt}{R:List Nat}(h:rd 6 (hf H) v=some (Rw 4 false false (l.map Yt.cells),R)){j:Nat}{o:Yt}(hj:l[j]?=some o)(hne:o.to≠[]):
 ∃b bt,v=.slr 4 b 0 l.length∧Yr (H[b]?) j=some [.int .i64 o.k,.int .i64 (o.i:Int),.int .i64 o.c,.slr 25 bt 0 o.to.length]∧(hf H bt).bind Rl=some (25,true,o.to.map Rr)∧bt∈R:=by
 rcases fK h with⟨_,h0⟩|⟨b,rows',rfl,hb,_,_,hr⟩
 ·obtain rfl:=aoT.1 h0;simp at hj
 ·obtain⟨q,hq,rfl,hx⟩:=rX h hb
  have hX:(l.map Yt.cells)[j]?=some o.cells:=by rw[aoR,hj];rfl
  have hq1:q.1=l.map Yt.cells:=by
   have hl:l.map Yt.cells≠[]:=fun e=>by rw[e]at hX;simp at hX
   rw[Yw hl]at hx
   injection hx with _ _ h3
   exact h3.symm
  obtain⟨r,R2,k1,k2⟩:=rY (i:=j) hq (by rw[hq1];exact hX)
  have hs:=rQ hq k1 k2
  obtain⟨a1,l1,_,_,rfl,m1,n1,rfl⟩:=Xm k2
  obtain⟨a2,l2,_,_,rfl,m2,n2,rfl⟩:=Xm n1
  obtain⟨a3,l3,_,_,rfl,m3,n3,rfl⟩:=Xm n2
  obtain⟨a4,l4,_,_,rfl,m4,n4,rfl⟩:=Xm n3
  obtain⟨rfl,rfl⟩:=cX n4
  obtain⟨rfl,rfl⟩:=ad4 m1
  obtain⟨rfl,rfl⟩:=ad4 m2
  obtain⟨rfl,rfl⟩:=ad4 m3
  rcases fK m4 with⟨rfl,h0⟩|⟨bt,rows2,rfl,hb2,_,hfl,_⟩
  ·exact absurd (aoT.1 h0) hne
  ·obtain rfl:=hfl rfl
   refine⟨b,bt,by rw[abT],by rw[aeA hb,k1,abT],hb2,List.mem_cons_of_mem _ (hs bt ?_)⟩
   have:=(yA m4 hb2)
   simpa using this
theorem jR(w:Qj)(N:Nat)(s:St)(k:Int):(tJ w N s k).length≤w.parts.length:=by
 have:=List.length_filterMap_le (wT w N s k) (List.range w.parts.length)
 unfold tJ;simpa using this
theorem sE(w:Qj)(N:Nat)(s:St)(h:w.parts.length≤12):(Tn w N s).length≤48:=by
 have h1:=jR w N s 1
 have h2:=jR w N s 2
 have h3:=jR w N s 3
 have h4:=jR w N s 4
 simp only[Tn,List.length_append];omega
theorem afR{α:Type}{l:List α}{i:Nat}{x:α}(h:l[i]?=some x):i<l.length:=(ai4.1 h).1
theorem CI.grow{w:Qj}{N:Nat}{H:Qa}{s0:St}{U:St→Prop}{L:List St}{i b:Nat}{av:St→AV}{h:Qa}(I:CI w N H s0 U L i b av h)(hi:i≤L.length){x:St}(hx:x∉L)(hx2:x.1.length=12)(hU:U x)(c:CB):
 CI w N H s0 U (L++[x]) i (h.length+1) av ((h.set (H.length+3) (Sz (Uy (L++[x]) knT))).set b .dead++[c,.live 25 true false (L.map Rr++[Rr x])]):=by
 obtain⟨xl,hl⟩:=I.lst
 obtain⟨xb,hb⟩:=I.bx
 have lA:=Uo I.all
 have ll:=Uo hl
 have lk:=Uo I.kn
 have lx:=Uo hb
 have b2:=I.b2
 have b3:=I.b3
 have b4:=I.b4
 have old:∀j,j<h.length→j≠H.length+3→j≠b→((h.set (H.length+3) (Sz (Uy (L++[x]) knT))).set b .dead++[c,.live 25 true false (L.map Rr++[Rr x])])[j]?=h[j]?:=fun j hj h1 h2=>by
  rw[adD (by simpa using hj),adA (fun e=>h2 e.symm),adA (fun e=>h1 e.symm)]
 have htk:(L++[x]).take i=L.take i:=ajT hi
 refine⟨⟨by have:=I.keep.len;simp;omega,fun j hj hn=>by rw[old j (by omega) (by omega) (by omega)];exact I.keep.same j hj hn⟩,by rw[htk,old _ lA (by omega) (by omega)];exact I.all,⟨false,?_⟩,?_,⟨xb,by rw[old _ lx (by omega) (by omega)];exact hb⟩,by omega,by omega,by omega,fun y hy=>?_,?_,?_,?_,?_⟩
 ·rw[ai3 (by simp),List.map_append];simp
 ·rw[adD (by simpa using lk),adA b3,ai5 lk]
 ·rw[htk]at hy
  obtain⟨R0,h1,h2⟩:=I.ch y hy
  have hlt:=qX (by omega) (Vf h1 cA)
  refine⟨R0,?_,fun j hj=>⟨(h2 j hj).1,by have:=hlt j (by simpa using hj);omega⟩⟩
  have:=dI (g':=hf ((h.set (H.length+3) (Sz (Uy (L++[x]) knT))).set b .dead++[c,.live 25 true false (L.map Rr++[Rr x])])) (Vf h1 cA) fun j hj z hz=>by
   have hj2:j∈R0:=by simpa using hj
   have h3:=h2 j hj2
   show((_++_:Qa)[j]?).bind Rl=_
   rw[old j (hlt j hj) (by omega) h3.2];exact hz
  obtain⟨a,l',R1,R2,e1,h1',h2',h3⟩:=Xm this
  cases e1
  obtain⟨_,rfl⟩:=cX h2'
  simp at h3
  rw[h1',←h3]
 ·refine List.nodup_append.2 ⟨I.nd,by simp,fun a ha b hb=>?_⟩
  simp at hb;subst hb;exact fun e=>hx (e▸ha)
 ·intro y hy
  rcases abV.1 hy with h|h
  ·exact I.tw y h
  ·simp at h;rw[h];exact hx2
 ·intro y hy
  rcases abV.1 hy with h|h
  ·exact I.un y h
  ·simp at h;rw[h];exact hU
 ·have h0:=I.hd
  rw[adD (afR h0)];exact h0
structure CK(w:Qj)(N:Nat)(H:Qa)(s0:St)(U:St→Prop)(L:List St)(b:Nat)(av:St→AV)(f:St→Nat)(h:Qa):Prop where
 keep:Xl [] H h
 all:h[H.length+1]?=some (Sz (Uy L av))
 lst:∃x,h[b]?=some (.live 25 true x (L.map Rr))
 kn:h[H.length+3]?=some (Sz (Uy L (bA f)))
 bx:∃x,h[H.length+4]?=some (.live 1 false x [[.mapr (H.length+3)]])
 b2:H.length+2≤b
 b3:b≠H.length+3
 b4:b≠H.length+4
 ch:∀s∈L,∃R,rd 6 (hf h) (av s)=some (Rw 4 false false ((Tn w N s).map Yt.cells),R)∧∀j∈R,H.length+5≤j∧j≠b
 nd:L.Nodup
 tw:zI L
 un:∀s∈L,U s
 hd:L[0]?=some s0
theorem CI.toK{w:Qj}{N:Nat}{H:Qa}{s0:St}{U:St→Prop}{L:List St}{b:Nat}{av:St→AV}{h:Qa}(I:CI w N H s0 U L L.length b av h):CK w N H s0 U L b av (fun _=>Ue) h:=
 ⟨I.keep,by have:=I.all;rwa[agF]at this,I.lst,I.kn,I.bx,I.b2,I.b3,I.b4,fun s hs=>I.ch s (by rwa[agF]),I.nd,I.tw,I.un,I.hd⟩
theorem CK.app{w:Qj}{N:Nat}{H:Qa}{s0:St}{U:St→Prop}{L:List St}{b:Nat}{av:St→AV}{f:St→Nat}{h:Qa}(I:CK w N H s0 U L b av f h)(l:Qa):CK w N H s0 U L b av f (h++l):=by
 obtain⟨xl,hl⟩:=I.lst
 obtain⟨xb,hb⟩:=I.bx
 exact⟨asF I.keep l,Qi I.all l,⟨xl,Qi hl l⟩,Qi I.kn l,⟨xb,Qi hb l⟩,I.b2,I.b3,I.b4,fun s hs=>by
  obtain⟨R,h1,h2⟩:=I.ch s hs
  exact⟨R,gG h1,h2⟩,I.nd,I.tw,I.un,I.hd⟩
theorem CK.put{w:Qj}{N:Nat}{H:Qa}{s0:St}{U:St→Prop}{L:List St}{b:Nat}{av:St→AV}{f:St→Nat}{h:Qa}(I:CK w N H s0 U L b av f h)(g:St→Nat):CK w N H s0 U L b av g (h.set (H.length+3) (Sz (Uy L (bA g)))):=by
 obtain⟨xl,hl⟩:=I.lst
 obtain⟨xb,hb⟩:=I.bx
 have lk:=Uo I.kn
 have b3:=I.b3
 have old:∀j,j≠H.length+3→(h.set (H.length+3) (Sz (Uy L (bA g))))[j]?=h[j]?:=fun j h1=>adA (fun e=>h1 e.symm)
 refine⟨⟨by have:=I.keep.len;simp;omega,fun j hj hn=>by rw[old j (by omega)];exact I.keep.same j hj hn⟩,by rw[old _ (by omega)];exact I.all,⟨xl,by rw[old b b3];exact hl⟩,ai5 lk,⟨xb,by rw[old _ (by omega)];exact hb⟩,I.b2,I.b3,I.b4,fun y hy=>?_,I.nd,I.tw,I.un,I.hd⟩
 obtain⟨R0,h1,h2⟩:=I.ch y hy
 refine⟨R0,?_,h2⟩
 have:=dI (g':=hf (h.set (H.length+3) (Sz (Uy L (bA g))))) (Vf h1 cA) fun j hj z hz=>by
  have hj2:j∈R0:=by simpa using hj
  have h3:=h2 j hj2
  show((h.set _ _)[j]?).bind Rl=_
  rw[old j (by omega)];exact hz
 obtain⟨a,l',R1,R2,e1,h1',h2',h3⟩:=Xm this
 cases e1
 obtain⟨_,rfl⟩:=cX h2'
 simp at h3
 rw[h1',←h3]
def mtS(l:List Up)(f:St→Nat)(x:St):St→Nat:=if oM x.1 l then fun y=>if y=x then 0 else f y else f
theorem aw4{s:St}(h:s.1.length=12):ahF 24 (Rr s)=Sm s.1:=by
 have:(Sm s.1).length=24:=by rw[Rh];omega
 unfold Rr;rw[ajT (by omega),ahS (by omega)]
theorem vQ(f:St→Nat)(x:St)(n:Nat):(fun y=>if y=x then AV.int .i64 (n:Int)else bA f y)=bA fun y=>if y=x then n else f y:=by
 funext y;unfold bA;by_cases e:y=x<;>simp[e]
def jI(w:Qj)(N:Nat)(p:(St→Nat) × Bool)(x:St):(St→Nat) × Bool:=if aV p.1 (p.1 x) (Tn w N x)<p.1 x then(fun y=>if y=x then aV p.1 (p.1 x) (Tn w N x)else p.1 y,true)else p
theorem vA(f:St→Nat):∀(l:List Yt) (n:Nat),aV f n l≤n∧(∀o∈l,aV f n l≤lQ f o)∧(aV f n l=n∨∃o∈l,aV f n l=lQ f o)
 | [],n=>⟨acG _,by simp,.inl rfl⟩
 |o::l,n=>by
  obtain⟨h1,h2,h3⟩:=vA f l (min n (lQ f o))
  have e:aV f n (o::l)=aV f (min n (lQ f o)) l:=rfl
  rw[e]
  refine⟨by omega,fun x hx=>?_,?_⟩
  ·rcases anI.1 hx with rfl|hx
   ·omega
   ·exact h2 x hx
  ·rcases h3 with h|⟨x,hx,h⟩
   ·by_cases c:n≤lQ f o
    ·exact .inl (by omega)
    ·exact .inr ⟨o,by simp,by omega⟩
   ·exact .inr ⟨x,by simp[hx],h⟩
theorem aeP{f:St→Nat}{x:St}{n:Nat}:∀{L:List St},(∀y∈L,y∈L)→n≤f x→(L.map fun y=>if y=x then n else f y).sum≤(L.map f).sum
 | [],_,_=>acG _
 |y::L,_,h=>by
  have:=aeP (L:=L) (fun _ h=>h) h
  simp only[List.map_cons,List.sum_cons]
  split
  ·rename_i e;subst e;omega
  ·omega
theorem lM{f:St→Nat}{x:St}{n:Nat}(h:n<f x):∀{L:List St},x∈L→(L.map fun y=>if y=x then n else f y).sum<(L.map f).sum
 |y::L,hm=>by
  have h0:=aeP (f:=f) (L:=L) (fun _ h=>h) (Nat.le_of_lt h)
  simp only[List.map_cons,List.sum_cons]
  by_cases e:y=x
  ·subst e;rw[if_pos rfl];omega
  ·rw[if_neg e]
   rcases anI.1 hm with e'|hm
   ·exact absurd e'.symm e
   ·have:=lM h hm;omega
theorem kW{w:Qj}{N:Nat}{l:List Up}{L:List St}:∀(r:List St),(∀x∈r,x∈L)→∀p:(St→Nat) × Bool,(Yq w N l).Known Ue L p.1→
 (Yq w N l).Known Ue L (r.foldl (jI w N) p).1∧((L.map (r.foldl (jI w N) p).1).sum≤(L.map p.1).sum)∧((r.foldl (jI w N) p).2=true→p.2=true∨(L.map (r.foldl (jI w N) p).1).sum<(L.map p.1).sum)∧
 ((r.foldl (jI w N) p).2=false→r.foldl (jI w N) p=p∧∀x∈r,∀o∈Tn w N x,p.1 x≤lQ p.1 o)
 | [],_,p,K=>⟨K,acG _,.inl,fun _=>⟨rfl,by simp⟩⟩
 |x::r,hr,p,K=>by
  obtain⟨q1,q2,q3⟩:=vA p.1 (Tn w N x) (p.1 x)
  simp only[adP]
  by_cases c:aV p.1 (p.1 x) (Tn w N x)<p.1 x
  ·have e:jI w N p x=(fun y=>if y=x then aV p.1 (p.1 x) (Tn w N x)else p.1 y,true):=by simp only[jI,if_pos c]
   rw[e]
   rcases q3 with q3|⟨o,ho,q3⟩
   ·omega
   have hs:=lM c (hr x (by simp))
   have K2:(Yq w N l).Known Ue L (fun y=>if y=x then aV p.1 (p.1 x) (Tn w N x)else p.1 y):=K.less (s:=x) (o:=(o.c.toNat,o.to)) (List.mem_map_of_mem ho) (hr x (by simp)) q3 c
   generalize(fun y=>if y=x then aV p.1 (p.1 x) (Tn w N x)else p.1 y)=g at hs K2 ⊢
   obtain⟨a1,a2,a3,a4⟩:=kW r (fun y h=>hr y (by simp[h])) (g,true) K2
   refine⟨a1,by simp only at a2;omega,fun _=>.inr (by simp only at a2;omega),fun h=>?_⟩
   have:=(a4 h).1
   rw[this]at h
   cases h
  ·have e:jI w N p x=p:=by simp only[jI,if_neg c]
   rw[e]
   obtain⟨a1,a2,a3,a4⟩:=kW r (fun y h=>hr y (by simp[h])) p K
   refine⟨a1,a2,a3,fun h=>⟨(a4 h).1,fun y hy o ho=>?_⟩⟩
   rcases anI.1 hy with rfl|hy
   ·have:=q2 o ho;omega
   ·exact(a4 h).2 y hy o ho
theorem kF(l:List Up)(y:St):∀(L:List St) (f:St→Nat),L.foldl (mtS l) f y=if y∈L∧oM y.1 l=true then 0 else f y
 | [],f=>by simp
 |x::L,f=>by
  rw[adP,kF l y L]
  by_cases c:oM x.1 l=true
  ·by_cases e:y=x
   ·subst e;simp[mtS,c]
   ·simp[mtS,c,e]
  ·by_cases e:y=x
   ·subst e;simp[mtS,c]
   ·simp[mtS,c,e]
theorem axQ{w:Qj}{N:Nat}{l:List Up}{L:List St}(ho:∀s∈L,∀o∈Tn w N s,1≤o.c∧o.c≤1000∧o.to≠[]∧∀x∈o.to,x∈L):(Yq w N l).Known Ue L (L.foldl (mtS l) fun _=>Ue):=by
 refine⟨fun s hs o h=>?_,fun s hs=>?_,fun s hs hg=>?_,fun s hs hlt=>?_,fun s hs hlt=>?_⟩
 ·obtain⟨c,hc,rfl⟩:=ah9.1 h
  obtain⟨a1,a2,a3,a4⟩:=ho s hs c hc
  exact⟨by show 1≤c.c.toNat;omega,by show c.c.toNat≤1000;omega,a3,a4⟩
 ·rw[kF];split<;>simp
 ·rw[kF];exact if_pos ⟨hs,hg⟩
 ·rw[kF]at hlt ⊢
  split at hlt
  ·rename_i h;rw[if_pos h];exact .met h.2
  ·simp at hlt
 ·rw[kF]at hlt
  split at hlt
  ·rename_i h;exact .inl h.2
  ·simp at hlt
theorem as5{w:Qj}{N:Nat}(hw:xP w N)(h12:w.parts.length≤12)(d:Int){H:Qa}{lb:Nat}{wf:Bool}(hlb:H[lb]?=some (rP w d wf)){s0:St}(hs:s0.1.length=12)(hf3:s0.2≤3)(l:List Up)(nn:Bool)(hl:l.length≤maxLen)(hlp:∀x∈l,0≤x.part∧x.part<12)
 {U:St→Prop} {B:Nat} (hB39:B≤400000000000) (hU:∀L:List St,L.Nodup→(∀s∈L,U s)→L.length≤B) (hU0:U s0) (hUs:∀s,U s→s.1.length=12∧s.2≤3) (hUc:∀s,U s→∀o∈Tn w N s,1≤o.c∧o.c≤1000∧o.to≠[]∧o.to.length≤2∧∀x∈o.to,U x):
 yR Uu 41 [.ptr lb 0 0,.agg (Rr s0),Rw 3 true nn (l.map Up.cells)] H fun o G=>∃(L:List St) (f:St→Nat) (av:St→AV) (b:Nat),o=.ret (.tup [.mapr (H.length+3),.mapr (H.length+1)])∧CK w N H s0 U L b av f G∧(Yq w N l).Known Ue L f∧∀x∈L,∀o∈Tn w N x,f x≤lQ f o:=by
 have hlen:=hw.len
 have hsl:=Xs hs
 have hsf:=Vx s0
 have hsc:=Wi s0
 have htk:ahF 25 (Rr s0)=Rr s0:=ahS (by omega)
 refine ac9 rfl Tryz.func41 rfl rfl ?_
 simp only[Tryz.f41]
 obtain⟨qC,hqC⟩:∃q,Fn.func 65=q:=⟨_,rfl⟩
 have hins:=al3 (h:=H++[CB.live 25 true false [Rr s0],CB.lp [] Code.skip Code.skip [] Xr.map,CB.live 25 true false [Rr s0],CB.lp [] Code.skip Code.skip [] Xr.map]) (b:=H.length+3) (L:=[]) (s:=s0) (by rw[ai3 (by omega),asT];rfl) (by intro s hs;cases hs) hs (by simp)
 (have hb:=trivial;with_reducible repeat' (first|simp only[hb,Vc.down,seval,Yi.down,hsl,hsf,hsc,htk,hins,Zy.down,kN,kV,jZ,aoU,aoV,aoW,ao1,abT]|refine Qs ?_ ?_<;>intro hb|refine fd ?_|fail))
 refine Xz (cnt 117 (fun n (_:Unit) t h=>t 0=.ptr lb 0 0∧t 2=Rw 3 true nn (l.map Up.cells)∧t 8=.mapr (H.length+1)∧t 10=.ptr (H.length+4) 0 0∧∃(L:List St) (i b:Nat) (av:St→AV),t 9=.slr 25 b 0 L.length∧t 11=.int .i64 (i:Int)∧i+n=B∧i≤L.length∧CI w N H s0 U L i b av h∧Cls w N L i) (fun _ _=>())
  (fun _ e t h=>e=.exit 0∧t 0=.ptr lb 0 0∧t 2=Rw 3 true nn (l.map Up.cells)∧t 8=.mapr (H.length+1)∧t 10=.ptr (H.length+4) 0 0∧∃(L:List St) (b:Nat) (av:St→AV),t 9=.slr 25 b 0 L.length∧CI w N H s0 U L L.length b av h∧Cls w N L L.length) ?_ ?_ B () _ _ ?_) (fun e t h hk=>?_)
 ·rintro _ t h Q' kQ ⟨g0,g2,g8,g10,L,i,b,av,g9,g11,hi,hiL,I,hcl⟩
  have hLB:=hU L I.nd I.un
  obtain rfl:i=L.length:=by omega
  (have hb:=trivial;with_reducible repeat' (first|simp only[hb,Vc.down,seval,Yi.down,g9,g11,adM,decide_false]|refine Qs ?_ ?_<;>intro hb|refine fd ?_|fail))
  exact kQ _ _ _ ⟨rfl,by simp[up,g0],by simp[up,g2],by simp[up,g8],by simp[up,g10],L,b,av,by simp[up,g9],I,hcl⟩
 ·rintro n _ t h J Q' kJ kQ ⟨g0,g2,g8,g10,L,i,b,av,g9,g11,hi,hiL,I,hcl⟩
  have hLB:=hU L I.nd I.un
  by_cases hlt:i<L.length
  ·obtain⟨s,hs'⟩:∃s,L[i]?=some s:=⟨_,List.getElem?_eq_getElem hlt⟩
   have hsm:=ac4 hs'
   obtain⟨hs12,hsf3⟩:=hUs s (I.un s hsm)
   obtain⟨xl,hlst⟩:=I.lst
   have hdd:decide ((i:Int)<(L.length:Int))=true:=decide_eq_true (by omega)
   have hip:((i:Int)<(L.length:Int))=True:=eq_true (by omega)
   have z1:=Xs hs12
   have z2:=Vx s
   have z3:=Wi s
   have z4:ahF 25 (Rr s)=Rr s:=ahS (by omega)
   (have hb:=trivial;with_reducible repeat' (first|simp only[hb,Vc.down,seval,Yi.down,g0,g8,g9,g11,hdd,hip,hlst,hs',z1,z2,z3,z4,hqC,Zy.down,abT]|refine Qs ?_ ?_<;>intro hb|refine fd ?_|fail))
   generalize hE:cl Uu (h++[CB.live 25 true true [Rr s]]) (some (.func qC [] [])) (some [.ptr lb 0 0,.agg (Rr s)])=E
   rw[←hqC]at hE
   have hlb2:(Wm (h++[CB.live 25 true true [Rr s]]))[lb]?=some (rP w d false):=by
    have h1:(h++[CB.live 25 true true [Rr s]])[lb]?=some (rP w d wf):=Qi ((I.keep.same lb (Uo hlb) (by simp)).trans hlb) _
    rw[Ut h1];rfl
   obtain⟨o,G,es,M,e1,e2,⟨v,R,rfl,hv,hR⟩,e4,e5,e6,e7,e8⟩:=ajV (O:=Uu) (f:=65) (H:=h++[CB.live 25 true true [Rr s]]) (args:=[.ptr lb 0 0,.agg (Rr s)]) rfl rfl (ahM hw h12 d hlb2 hs12 hsf3)
   have e9:=hE.symm.trans e1
   subst e9
   rw[Rx]at hR
   have hft:ftC Uu (h++[CB.live 25 true true [Rr s]]) (some (.func qC [] [])) (some [.ptr lb 0 0,.agg (Rr s)])=some [.all]:=by
    rw[←hqC,adH];rfl
   obtain⟨p1,p2⟩:=anK hv
   have hMall:M[H.length+1]?=some (Sz (Uy (L.take i) av)):=(e6 _ (by have:=Uo I.all;simp;omega)).trans (Qi I.all _)
   have hnt:s∉L.take i:=fun hm=>by
    obtain⟨j,hj⟩:=List.getElem?_of_mem hm
    have hji:j<i:=by
     have:=(ai4.1 hj).1
     simp at this;omega
    rw[List.getElem?_take_of_lt hji]at hj
    have:=rK I.nd hj hs'
    omega
   have hms:=axX hMall (fun x hx=>I.tw x (aoQ hx)) hs12 hnt v
   have hMbx:M[h.length]?=some (.live 25 true true [Rr s]):=(e6 _ (by simp)).trans (by rw[ai3 (acG _),Nat.sub_self];rfl)
   obtain⟨av2,hav2⟩:∃av2:St→AV,(fun y=>if y=s then v else av y)=av2:=⟨_,rfl⟩
   rw[hav2]at hms
   have hav2s:av2 s=v:=by rw[←hav2];simp
   have hAM:=Uo hMall
   have hAh:H.length+1≠h.length:=by have:=Uo I.all;omega
   have hM2:(M.set (H.length+1) (Sz (Uy (L.take i++[s]) av2)))[H.length+1]?=some (Sz (Uy (L.take i++[s]) av2)):=ai5 hAM
   have hMb2:(M.set (H.length+1) (Sz (Uy (L.take i++[s]) av2)))[h.length]?=some (.live 25 true true [Rr s]):=by rw[adA hAh];exact hMbx
   have hlk:=adY hM2 (fun x hx=>by
    rcases abV.1 hx with hx|hx
    ·exact I.tw x (aoQ hx)
    ·simp at hx;rw[hx];exact hs12) (s:=s) (by simp)
   rw[hav2s]at hlk
   have hln:=aqQ hv
   have hic:v.isCell=true:=p1
   (have hb:=trivial;with_reducible repeat' (first|simp only[hb,Vc.down,seval,Yi.down,g8,e2,hft,hms,hM2,hMb2,hlk,hln,hic,p2,z1,z2,z3,z4,Zy.down,aoW,ao1,aoU,aoV]|refine Qs ?_ ?_<;>intro hb|refine fdq ?_|fail))
   refine xM (fun b=>if b=h.length then 0 else 1) [([],[]),([],[.cells 0 0 25]),([],[]),([],[.cells 0 0 25]),([.blk 1],[.all]),([.blk 1],[.blk 1])] (by kernel_rfl) ?_ (fun _=>?_)
   ·have hes:∀e∈es,bV (fun b=>if b=h.length then 0 else 1) e.foot=.blk 1:=fun e he=>by
     obtain⟨b',k1,k2⟩:=e8 e he
     have hne:b'≠h.length:=by
      rcases k2 with k2|⟨c,k3,k4⟩
      ·simp at k2;omega
      ·intro e';subst e'
       rw[ai3 (acG _),Nat.sub_self]at k3
       simp at k3;subst k3;cases k4
     rw[k1];simp[bV,hne]
    simp only[gJ,lB]
    refine⟨by simp,by simp,by simp,by simp[bV],by simp,by simp,by simp,by simp[bV],fun e he=>.inr (by rw[hes e he];simp),by simp,by simp[Qb.foot,bV,hAh],by simp[bV,hAh],trivial⟩
   have I1:=I.call hs' e5 e6 e7 hv hR
   rw[hav2]at I1
   have hCl:(Tn w N s).length≤48:=sE w N s h12
   have hUo:=hUc s (I.un s hsm)
   refine Xz (lst 117 (Tn w N s) (fun j (_:Unit) t h=>t 0=.ptr lb 0 0∧t 2=Rw 3 true nn (l.map Up.cells)∧t 8=.mapr (H.length+1)∧t 10=.ptr (H.length+4) 0 0∧t 11=.int .i64 (i:Int)∧t 48=v∧t 49=.int .i64 ((Tn w N s).length:Int)∧t 50=.int .i64 (j:Int)∧∃(L':List St) (b':Nat),t 9=.slr 25 b' 0 L'.length∧L <+:L'∧CI w N H s0 U L' (i+1) b' av2 h∧∀o∈(Tn w N s).take j,∀x∈o.to,x∈L') (fun _ _=>())
    (fun _ e t h=>e=.exit 2∧t 0=.ptr lb 0 0∧t 2=Rw 3 true nn (l.map Up.cells)∧t 8=.mapr (H.length+1)∧t 10=.ptr (H.length+4) 0 0∧t 11=.int .i64 (i:Int)∧∃(L':List St) (b':Nat),t 9=.slr 25 b' 0 L'.length∧L <+:L'∧CI w N H s0 U L' (i+1) b' av2 h∧∀o∈Tn w N s,∀x∈o.to,x∈L') ?_ ?_ () _ _ ?_) (fun e t h hk=>?_)
   ·rintro _ t h Q'' kQ ⟨g0,g2,g8,g10,g11,g48,g49,g50,L',b',g9,hp,I',ho⟩
    rw[agF]at ho
    (have hb:=trivial;with_reducible repeat' (first|simp only[hb,Vc.down,seval,Yi.down,g49,g50,adM,decide_false]|refine Qs ?_ ?_<;>intro hb|refine fd ?_|fail))
    exact kQ _ _ _ ⟨rfl,by simp[up,g0],by simp[up,g2],by simp[up,g8],by simp[up,g10],by simp[up,g11],L',b',by simp[up,g9],hp,I',ho⟩
   ·rintro o rest j _ t h J' Q'' kJ' kQ' hx hj ⟨g0,g2,g8,g10,g11,g48,g49,g50,L',b',g9,hp,I',ho⟩
    have hdj:decide ((j:Int)<((Tn w N s).length:Int))=true:=decide_eq_true (by omega)
    have hij:((j:Int)<((Tn w N s).length:Int))=True:=eq_true (by omega)
    have hwj:=To hj (by unfold maxLen;omega)
    obtain⟨u0,u1,u2,u3,u4⟩:=hUo o (ac4 hx)
    obtain⟨X,rfl⟩:=hp
    have hst:s∈(L++X).take (i+1):=by
     rw[ajT (by omega),ad8,hs'];simp
    obtain⟨R',hv',hR'⟩:=I'.ch s hst
    rw[hav2s]at hv'
    obtain⟨bv,bt,hvv,y1,y2,y3⟩:=afL hv' hx u2
    rw[hvv]at g48
    have hbt:=hR' bt y3
    (have hb:=trivial;with_reducible repeat' (first|simp only[hb,Vc.down,seval,Yi.down,g48,g49,g50,hdj,hij,y1,aoW,ao1,aoU,aoV,abT]|refine Qs ?_ ?_<;>intro hb|refine fd ?_|fail))
    refine Xz (lst 117 o.to (fun m (_:Unit) t h=>t 0=.ptr lb 0 0∧t 2=Rw 3 true nn (l.map Up.cells)∧t 8=.mapr (H.length+1)∧t 10=.ptr (H.length+4) 0 0∧t 11=.int .i64 (i:Int)∧t 48=v∧t 49=.int .i64 ((Tn w N s).length:Int)∧t 50=.int .i64 (j:Int)∧t 55=.slr 25 bt 0 o.to.length∧t 56=.int .i64 (o.to.length:Int)∧t 57=.int .i64 (m:Int)∧(hf h bt).bind Rl=some (25,true,o.to.map Rr)∧∃(L':List St) (b':Nat),t 9=.slr 25 b' 0 L'.length∧bt≠b'∧L <+:L'∧CI w N H s0 U L' (i+1) b' av2 h∧(∀o∈(Tn w N s).take j,∀x∈o.to,x∈L')∧∀x∈o.to.take m,x∈L') (fun _ _=>())
     (fun _ e t h=>e=.exit 4∧t 0=.ptr lb 0 0∧t 2=Rw 3 true nn (l.map Up.cells)∧t 8=.mapr (H.length+1)∧t 10=.ptr (H.length+4) 0 0∧t 11=.int .i64 (i:Int)∧t 48=v∧t 49=.int .i64 ((Tn w N s).length:Int)∧t 50=.int .i64 (j:Int)∧∃(L':List St) (b':Nat),t 9=.slr 25 b' 0 L'.length∧L <+:L'∧CI w N H s0 U L' (i+1) b' av2 h∧(∀o∈(Tn w N s).take j,∀x∈o.to,x∈L')∧∀x∈o.to,x∈L') ?_ ?_ () _ _ ?_) (fun e t h hk=>?_)
    ·rintro _ t h Q3 kQ3 ⟨g0,g2,g8,g10,g11,g48,g49,g50,g55,g56,g57,z5,L',b',g9,hnb,hp,I',ho,hm⟩
     rw[agF]at hm
     (have hb:=trivial;with_reducible repeat' (first|simp only[hb,Vc.down,seval,Yi.down,g56,g57,adM,decide_false]|refine Qs ?_ ?_<;>intro hb|refine fd ?_|fail))
     exact kQ3 _ _ _ ⟨rfl,by simp[up,g0],by simp[up,g2],by simp[up,g8],by simp[up,g10],by simp[up,g11],by simp[up,g48],by simp[up,g49],by simp[up,g50],L',b',by simp[up,g9],hp,I',ho,hm⟩
    ·rintro x rest m _ t h J3 Q3 kJ3 kQ3 hx3 hm3 ⟨g0,g2,g8,g10,g11,g48,g49,g50,g55,g56,g57,z5,L',b',g9,hnb,hp,I',ho,hm⟩
     have hdm:decide ((m:Int)<(o.to.length:Int))=true:=decide_eq_true (by omega)
     have him:((m:Int)<(o.to.length:Int))=True:=eq_true (by omega)
     have hwm:=To hm3 (by unfold maxLen;omega)
     have hxU:=u4 x (ac4 hx3)
     obtain⟨hx12,_⟩:=hUs x hxU
     have w1:=Xs hx12
     have w2:=Vx x
     have w3:=Wi x
     have w4:ahF 25 (Rr x)=Rr x:=ahS (by omega)
     have yx:Yr (h[bt]?) m=some (Rr x):=by rw[aeA z5,aoR,hx3];rfl
     obtain⟨xb,hbx⟩:=I'.bx
     obtain⟨xl',hlst'⟩:=I'.lst
     have hbx2:=Qi hbx
     have hkn2:=Qi I'.kn
     by_cases hin:x∈L'
     ·have hlk2:=fun q=>auW (v:=knT) (hkn2 q) I'.tw hin
      (have hb:=trivial;with_reducible repeat' (first|simp only[hb,Vc.down,seval,Yi.down,g10,g55,g56,g57,hdm,him,hwm,yx,w1,w2,w3,w4,hbx2,hkn2,hlk2,Zy.down,abT]|refine Qs ?_ ?_<;>intro hb|refine fd ?_|fail))
      exact Ru (kJ3 _ _ () ⟨by simp[up,g0],by simp[up,g2],by simp[up,g8],by simp[up,g10],by simp[up,g11],by simp[up,g48],by simp[up,g49],by simp[up,g50],by simp[up,g55],by simp[up,g56],by simp[up],by
       show((_++_:Qa)[bt]?).bind Rl=_
       rw[adD (gK z5)];exact z5,L',b',by simp[up,g9],hnb,hp,I'.app _,ho,fun y hy=>by
       rw[ad8,hx3]at hy
       rcases abV.1 hy with h|h
       ·exact hm y h
       ·simp at h;rw[h];exact hin⟩ rfl)
     ·have hlk2:=fun q=>a0N (hkn2 q) I'.tw hx12 hin
      have hms2:=fun q=>al3 (hkn2 q) I'.tw hx12 hin
      have hLB':=hU L' I'.nd I'.un
      have hkl:=Uo I'.kn
      have hbl:=Uo hlst'
      have hSk:=Zd hkl
      have b3':=I'.b3
      have b4':=I'.b4
      have hbx3:∀q,(h.set (H.length+3) (Sz (Uy (L'++[x]) knT))++q)[H.length+4]?=some (.live 1 false xb [[.mapr (H.length+3)]]):=fun q=>aeB _ (by omega) hbx q
      have hlst3:∀q,(h.set (H.length+3) (Sz (Uy (L'++[x]) knT))++q)[b']?=some (.live 25 true xl' (L'.map Rr)):=fun q=>aeB _ (fun e=>b3' e.symm) hlst' q
      have hSb:∀q c,(h.set (H.length+3) (Sz (Uy (L'++[x]) knT))++q).set b' c=(h.set (H.length+3) (Sz (Uy (L'++[x]) knT))).set b' c++q:=fun q c=>List.set_append_left _ _ (by simpa using hbl)
      have hi39:(L'.length+1≤549755813888)=True:=eq_true (by omega)
      (have hb:=trivial;with_reducible repeat' (first|simp only[hb,Vc.down,seval,Yi.down,g9,g10,g55,g56,g57,hdm,him,hwm,yx,w1,w2,w3,w4,hbx2,hkn2,hlk2,hms2,hSk,hbx3,hlst3,hSb,hi39,cE,cK,List.length_set,Zy.down,abT]|refine Qs ?_ ?_<;>intro hb|refine fd ?_|fail))
      have hIL:i+1≤L'.length:=by have:=hp.length_le;omega
      have hg:=(I'.app [.live 25 true true [Rr x]]).grow hIL hin hx12 hxU (.live 25 true false [Rr x])
      have he:((h++[CB.live 25 true true [Rr x]]).set (H.length+3) (Sz (Uy (L'++[x]) knT))).set b' .dead++[CB.live 25 true false [Rr x],CB.live 25 true false (L'.map Rr++[Rr x])]=(h.set (H.length+3) (Sz (Uy (L'++[x]) knT))).set b' .dead++[CB.live 25 true true [Rr x],CB.live 25 true false [Rr x],CB.live 25 true false (L'.map Rr++[Rr x])]:=by
       rw[hSk,hSb,List.append_assoc];rfl
      rw[he]at hg
      have hbl2:=gK z5
      refine Ru (kJ3 _ _ () ⟨by simp[up,g0],by simp[up,g2],by simp[up,g8],by simp[up,g10],by simp[up,g11],by simp[up,g48],by simp[up,g49],by simp[up,g50],by simp[up,g55],by simp[up,g56],by simp[up],?_,L'++[x],(h++[CB.live 25 true true [Rr x]]).length+1,by simp[up],by simp;omega,hp.trans (as3 _ _),hg,fun o' ho' x' hx'=>apA _ (ho o' ho' x' hx'),fun y hy=>?_⟩ rfl)
      ·show((_++_:Qa)[bt]?).bind Rl=_
       rw[adD (by simpa using hbl2),adA (fun e=>hnb e.symm),adA (by have:=hbt.1;omega)]
       exact z5
      ·rw[ad8,hx3]at hy
       rcases abV.1 hy with h|h
       ·exact apA _ (hm y h)
       ·simp at h;rw[h];simp
    ·exact⟨by simp[up,g0],by simp[up,g2],by simp[up,g8],by simp[up,g10],by simp[up,g11],by simp[up,g48,hvv],by simp[up,g49],by simp[up,g50],by simp[up],by simp[up],by simp[up],by
      show((_++_:Qa)[bt]?).bind Rl=_
      rw[adD (gK y2)];exact y2,L++X,b',by simp[up,g9],hbt.2,as3 _ _,I'.app _,ho,by simp⟩
    obtain⟨rfl,g0,g2,g8,g10,g11,g48,g49,g50,L',b',g9,hp,I',ho,hm⟩:=hk
    (have hb:=trivial;with_reducible repeat' (first|simp only[hb,Vc.down,seval,Yi.down,g50,hwj]|refine Qs ?_ ?_<;>intro hb|refine fd ?_|fail))
    exact Ru (kJ' _ _ () ⟨by simp[up,g0],by simp[up,g2],by simp[up,g8],by simp[up,g10],by simp[up,g11],by simp[up,g48],by simp[up,g49],by simp[up],L',b',by simp[up,g9],hp,I',fun o' ho'=>by
     rw[ad8,hx]at ho'
     rcases abV.1 ho' with h|h
     ·exact ho o' h
     ·simp at h;subst h;exact hm⟩ rfl)
   ·exact⟨by simp[up,g0],by simp[up,g2],by simp[up,g8],by simp[up,g10],by simp[up,g11],by simp[up],by simp[up],by simp[up],L,b,by simp[up,g9],List.prefix_refl _,I1,by simp⟩
   obtain⟨rfl,g0,g2,g8,g10,g11,L',b',g9,⟨X,rfl⟩,I',ho⟩:=hk
   have hwi:IntKind.i64.wrap ((i:Int)+1)=((i+1:Nat):Int):=by rw[Uf (by omega) (by omega)];omega
   (have hb:=trivial;with_reducible repeat' (first|simp only[hb,Vc.down,seval,Yi.down,g11,hwi]|refine Qs ?_ ?_<;>intro hb|refine fd ?_|fail))
   refine Ru (kJ _ _ () ⟨by simp[up,g0],by simp[up,g2],by simp[up,g8],by simp[up,g10],L++X,i+1,b',av2,by simp[up,g9],by simp[up],by omega,by simp;omega,I',fun y hy o' ho' x' hx'=>?_⟩ rfl)
   rw[ajT (by omega),ad8,hs']at hy
   rcases abV.1 hy with hy|hy
   ·exact apA _ (hcl y hy o' ho' x' hx')
   ·simp at hy;subst hy;exact ho o' ho' x' hx'
  ·obtain rfl:i=L.length:=by omega
   (have hb:=trivial;with_reducible repeat' (first|simp only[hb,Vc.down,seval,Yi.down,g9,g11,adM,decide_false]|refine Qs ?_ ?_<;>intro hb|refine fd ?_|fail))
   exact kQ _ _ _ ⟨rfl,by simp[up,g0],by simp[up,g2],by simp[up,g8],by simp[up,g10],L,b,av,by simp[up,g9],I,hcl⟩
 ·refine⟨by simp[up,dU],by simp[up,dU],by simp[up],by simp[up],[s0],0,H.length+2,fun _=>.nils,by simp[up],by simp[up],by omega,by simp,?_,by intro s hs;simp at hs⟩
  have at':∀(j:Nat) (c:CB) (X:Qa),X[j]?=some c→(H++X)[H.length+j]?=some c:=fun j c X h=>by rw[ai3 (by omega),asT];exact h
  exact⟨Xl.app _ _,at' 1 _ _ rfl,⟨_,at' 2 _ _ rfl⟩,at' 3 _ _ rfl,⟨_,at' 4 _ _ rfl⟩,by omega,by omega,by omega,by intro s hs;simp at hs,by simp,by intro s hs';simp at hs';rw[hs'];exact hs,by intro s hs';simp at hs';rw[hs'];exact hU0,rfl⟩
 obtain⟨rfl,g0,g2,g8,g10,L,b,av,g9,I,hcl⟩:=hk
 have hLB:=hU L I.nd I.un
 have K:=I.toK
 have hL9:L.length≤maxLen:=by unfold maxLen;omega
 (have hb:=trivial;with_reducible repeat' (first|simp only[hb,Vc.down,seval,Yi.down,g9]|refine Qs ?_ ?_<;>intro hb|refine fd ?_|fail))
 refine Xz (lst 117 L (fun i (f:St→Nat) t h=>t 0=.ptr lb 0 0∧t 2=Rw 3 true nn (l.map Up.cells)∧t 8=.mapr (H.length+1)∧t 9=.slr 25 b 0 L.length∧t 10=.ptr (H.length+4) 0 0∧t 77=.slr 25 b 0 L.length∧t 78=.int .i64 (L.length:Int)∧t 79=.int .i64 (i:Int)∧CK w N H s0 U L b av f h) (fun rest f=>rest.foldl (mtS l) f)
  (fun f e t h=>e=.exit 6∧t 0=.ptr lb 0 0∧t 2=Rw 3 true nn (l.map Up.cells)∧t 8=.mapr (H.length+1)∧t 9=.slr 25 b 0 L.length∧t 10=.ptr (H.length+4) 0 0∧CK w N H s0 U L b av f h) ?_ ?_ (fun _=>Ue) _ _ ?_) (fun e t h hk=>?_)
 ·rintro f t h Q' kQ ⟨g0,g2,g8,g9,g10,g77,g78,g79,K⟩
  (have hb:=trivial;with_reducible repeat' (first|simp only[hb,Vc.down,seval,Yi.down,g78,g79,adM,decide_false]|refine Qs ?_ ?_<;>intro hb|refine fd ?_|fail))
  exact kQ _ _ _ ⟨rfl,by simp[up,g0],by simp[up,g2],by simp[up,g8],by simp[up,g9],by simp[up,g10],K⟩
 ·rintro x rest i f t h J Q' kJ kQ hx hi ⟨g0,g2,g8,g9,g10,g77,g78,g79,K⟩
  have hdd:decide ((i:Int)<(L.length:Int))=true:=decide_eq_true (by omega)
  have hii:((i:Int)<(L.length:Int))=True:=eq_true (by omega)
  have hww:=To hi hL9
  obtain⟨xl,hlst⟩:=K.lst
  obtain⟨xb,hbx⟩:=K.bx
  have hxm:=ac4 hx
  have hx12:=K.tw x hxm
  have w1:=Xs hx12
  have w2:=Vx x
  have w3:=Wi x
  have w4:ahF 25 (Rr x)=Rr x:=ahS (by omega)
  have hbx2:=Qi hbx
  have hkn2:=Qi K.kn
  have hM:=aC7 hx12 l nn hl hlp
  have hms2:=fun q=>acX (hkn2 q) K.tw K.nd hxm (.int .i64 0)
  have hSk:=Zd (Uo K.kn)
  generalize hmb:oM x.1 l=mb at *
  have w5:=aw4 hx12
  have w6:=eV x.1 6
  cases mb with
  |false=>
   (have hb:=trivial;with_reducible repeat' (first|simp only[hb,Vc.down,seval,Yi.down,g2,g8,g9,g10,g77,g78,g79,hdd,hii,hww,hlst,hx,w1,w2,w3,w4,w5,w6,hbx2,hkn2,hM,hms2,hSk,Zy.down,abT]|refine Qs ?_ ?_<;>intro hb|refine fd ?_|fail))
   have hf:mtS l f x=f:=by simp[mtS,hmb]
   exact Ru (kJ _ _ f ⟨by simp[up,g0],by simp[up,g2],by simp[up,g8],by simp[up,g9],by simp[up,g10],by simp[up,g77],by simp[up,g78],by simp[up],K.app _⟩ (by rw[adP,hf]))
  |true=>
   (have hb:=trivial;with_reducible repeat' (first|simp only[hb,Vc.down,seval,Yi.down,g2,g8,g9,g10,g77,g78,g79,hdd,hii,hww,hlst,hx,w1,w2,w3,w4,w5,w6,hbx2,hkn2,hM,hms2,hSk,Zy.down,abT]|refine Qs ?_ ?_<;>intro hb|refine fd ?_|fail))
   have hf:mtS l f x=fun y=>if y=x then 0 else f y:=by simp[mtS,hmb]
   have hkp:(fun y=>if y=x then AV.int .i64 0 else bA f y)=bA (mtS l f x):=by rw[hf];exact vQ f x 0
   rw[hkp]
   exact Ru (kJ _ _ (mtS l f x) ⟨by simp[up,g0],by simp[up,g2],by simp[up,g8],by simp[up,g9],by simp[up,g10],by simp[up,g77],by simp[up,g78],by simp[up],(K.put (mtS l f x)).app _⟩ rfl)
 ·exact⟨by simp[up,g0],by simp[up,g2],by simp[up,g8],by simp[up,g9],by simp[up,g10],by simp[up],by simp[up],by simp[up],K⟩
 obtain⟨rfl,g0,g2,g8,g9,g10,K⟩:=hk
 have hK0:=axQ (w:=w) (N:=N) (l:=l) (L:=L) fun s hs o ho=>by
  obtain⟨u0,u1,u2,u3,u4⟩:=hUc s (I.un s hs) o ho
  exact⟨u0,u1,u2,fun x hx=>hcl s (by rwa[agF]) o ho x hx⟩
 (have hb:=trivial;with_reducible repeat' (first|simp only[hb,Vc.down,seval,Yi.down]|refine Qs ?_ ?_<;>intro hb|refine fd ?_|fail))
 refine Xz (cnt 117 (fun n (_:Unit) t h=>t 0=.ptr lb 0 0∧t 8=.mapr (H.length+1)∧t 9=.slr 25 b 0 L.length∧t 10=.ptr (H.length+4) 0 0∧∃f,CK w N H s0 U L b av f h∧(Yq w N l).Known Ue L f∧(L.map f).sum<n) (fun _ _=>())
  (fun _ e t h=>e=.exit 8∧t 8=.mapr (H.length+1)∧t 10=.ptr (H.length+4) 0 0∧∃f,CK w N H s0 U L b av f h∧(Yq w N l).Known Ue L f∧∀x∈L,∀o∈Tn w N x,f x≤lQ f o) ?_ ?_ ((L.map (L.foldl (mtS l) fun _=>Ue)).sum+1) () _ _ ?_) (fun e t h hk=>?_)
 ·rintro _ t h Q' kQ ⟨_,_,_,_,f,_,_,hn⟩
  omega
 ·rintro n _ t h J Q' kJ kQ ⟨g0,g8,g9,g10,f,K,hKn,hn⟩
  (have hb:=trivial;with_reducible repeat' (first|simp only[hb,Vc.down,seval,Yi.down,g9]|refine Qs ?_ ?_<;>intro hb|refine fd ?_|fail))
  refine Xz (lst 117 L (fun i (p:(St→Nat) × Bool) t h=>t 0=.ptr lb 0 0∧t 8=.mapr (H.length+1)∧t 9=.slr 25 b 0 L.length∧t 10=.ptr (H.length+4) 0 0∧t 21=.bool p.2∧t 90=.slr 25 b 0 L.length∧t 91=.int .i64 (L.length:Int)∧t 92=.int .i64 (i:Int)∧CK w N H s0 U L b av p.1 h∧(Yq w N l).Known Ue L p.1) (fun rest p=>rest.foldl (jI w N) p)
   (fun p e t h=>e=.exit 10∧t 0=.ptr lb 0 0∧t 8=.mapr (H.length+1)∧t 9=.slr 25 b 0 L.length∧t 10=.ptr (H.length+4) 0 0∧t 21=.bool p.2∧CK w N H s0 U L b av p.1 h) ?_ ?_ (f,false) _ _ ?_) (fun e t h hk=>?_)
  ·rintro p t h Q' kQ ⟨g0,g8,g9,g10,g21,g90,g91,g92,K,_⟩
   (have hb:=trivial;with_reducible repeat' (first|simp only[hb,Vc.down,seval,Yi.down,g91,g92,adM,decide_false]|refine Qs ?_ ?_<;>intro hb|refine fd ?_|fail))
   exact kQ _ _ _ ⟨rfl,by simp[up,g0],by simp[up,g8],by simp[up,g9],by simp[up,g10],by simp[up,g21],K⟩
  ·rintro x rest i p t h J Q' kJ kQ hx hi ⟨g0,g8,g9,g10,g21,g90,g91,g92,K,hKn⟩
   have hdd:decide ((i:Int)<(L.length:Int))=true:=decide_eq_true (by omega)
   have hii:((i:Int)<(L.length:Int))=True:=eq_true (by omega)
   have hww:=To hi hL9
   obtain⟨xl,hlst⟩:=K.lst
   obtain⟨xb,hbx⟩:=K.bx
   have hxm:=ac4 hx
   have hx12:=K.tw x hxm
   have w1:=Xs hx12
   have w2:=Vx x
   have w3:=Wi x
   have w4:ahF 25 (Rr x)=Rr x:=ahS (by omega)
   have hbx2:=Qi hbx
   have hkn2:=Qi K.kn
   have hall2:=Qi K.all
   have hlkA:=fun q=>adY (hall2 q) K.tw hxm
   have hlkK:=fun q=>wH (hkn2 q) K.tw hxm
   obtain⟨R,hrd,hR⟩:=K.ch x hxm
   obtain⟨p1,p2⟩:=anK hrd
   have hic:(av x).isCell=true:=p1
   have hkx:bA p.1 x=.int .i64 (p.1 x:Int):=rfl
   have hCl:(Tn w N x).length≤48:=sE w N x h12
   have hL1:=as9 (f:=p.1) K.tw hKn.le (l:=Tn w N x) (fun o ho=>by
    obtain⟨u0,u1,u2,u3,u4⟩:=hUc x (K.un x hxm) o ho
    exact⟨by omega,u1,fun z hz=>hcl x (by rwa[agF]) o ho z hz,u2,u3⟩) (by unfold maxLen;omega) false (p.1 x) false
   have hrv:=fun q=>oU (e:=12) (by omega) (gG (l:=q) hrd)
   obtain⟨v,hav⟩:∃v,av x=v:=⟨_,rfl⟩
   rw[hav]at hlkA hrd hic p2 hrv
   change ∀q,uT (h++q) v=_ at hrv
   rcases fK hrd with⟨rfl,h0⟩|⟨vb,vr,rfl,hvb,_,_,hvr⟩
   ·rw[h0]at hL1
    rw[show Rw 4 false false []=AV.nils from rfl]at hL1
    have hne1:(H.length+1=H.length)=False:=eq_false (by omega)
    (have hb:=trivial;with_reducible repeat' (first|simp only[hb,Vc.down,seval,Yi.down,g8,g10,g90,g91,g92,hdd,hii,hlst,hx,w1,w2,w3,w4,hbx2,hkn2,hall2,hlkA,hlkK,hic,p2,hkx,hne1,hL1,Zs,bN,bR,eJ,Zy.down,abT]|refine Qs ?_ ?_<;>intro hb|refine fdq ?_|fail))
    refine xM (fun _=>0) [([],[]),([],[.cells 0 0 25]),([],[.blk 0]),([],[]),([],[.cells 0 0 1]),([],[.cells 0 0 25]),([],[.blk 0]),([],[.blk 0]),([],[])] (by kernel_rfl) ?_ (fun _=>?_)
    ·simp only[gJ,lB]
     exact⟨by simp,by simp,by simp,by simp[bV],by simp,by simp[bV],by simp,by simp,by simp,by simp[bV],by simp,by simp[bV],by simp,by simp[bV],by simp,by simp[bV],by simp,by simp,trivial⟩
    ·cases c:decide (((aV p.1 (p.1 x) (Tn w N x):Nat):Int)<((p.1 x:Nat):Int))with
     |false=>
      have hst:jI w N p x=p:=by
       unfold jI;rw[if_neg]
       have:=of_decide_eq_false c
       omega
      (have hb:=trivial;with_reducible repeat' (first|simp only[hb,Vc.down,seval,Yi.down,g92,hww,c]|refine Qs ?_ ?_<;>intro hb|refine fd ?_|fail))
      exact Ru (kJ _ _ p ⟨by simp[up,g0],by simp[up,g8],by simp[up,g9],by simp[up,g10],by simp[up,g21],by simp[up,g90],by simp[up,g91],by simp[up],K.app _,hKn⟩ (by rw[adP,hst]))
     |true=>
      have hst:jI w N p x=(fun y=>if y=x then aV p.1 (p.1 x) (Tn w N x)else p.1 y,true):=by
       unfold jI;rw[if_pos]
       have:=of_decide_eq_true c
       omega
      have hK1:=(kW (w:=w) (N:=N) (l:=l) (L:=L) [x] (fun y hy=>by simp at hy;rw[hy];exact hxm) p hKn).1
      simp only[adP,atB]at hK1
      have hms2:=fun q=>acX (hkn2 q) K.tw K.nd hxm (.int .i64 (aV p.1 (p.1 x) (Tn w N x):Nat))
      have hSk:=Zd (Uo K.kn)
      have hkp:(fun y=>if y=x then AV.int .i64 (aV p.1 (p.1 x) (Tn w N x):Nat)else bA p.1 y)=bA (jI w N p x).1:=by rw[hst];exact vQ p.1 x _
      rw[hkp]at hms2
      (have hb:=trivial;with_reducible repeat' (first|simp only[hb,Vc.down,seval,Yi.down,g8,g10,g92,hww,c,hbx2,hkn2,hms2,hSk,w1,w2,w3,w4,Zy.down]|refine Qs ?_ ?_<;>intro hb|refine fd ?_|fail))
      exact Ru (kJ _ _ (jI w N p x) ⟨by simp[up,g0],by simp[up,g8],by simp[up,g9],by simp[up,g10],by simp[up,hst],by simp[up,g90],by simp[up,g91],by simp[up],(K.put _).app _,hK1⟩ rfl)
   ·simp only[adF,abT]at hrv
    obtain⟨lv,hlv⟩:∃lv,Qn 12 (hf (h++[CB.live 25 true true [Rr x]])) (.slr 4 vb 0 (Tn w N x).length)=lv:=⟨_,rfl⟩
    have hlv2:=hlv
    rw[ab6]at hlv2
    have hlvR:∀j∈lv,H.length+5≤j∧j≠b:=fun j hj=>hR j (jM (e:=12) (gG (l:=[CB.live 25 true true [Rr x]]) hrd) j (by rw[abT,hlv];exact hj))
    have hany:(lv.any fun y=>y==H.length+4||y==H.length+3)=false:=by
     rw[List.any_eq_false]
     intro j hj
     have:=(hlvR j hj).1
     simp
     omega
    have hne1:(H.length+1=H.length)=False:=eq_false (by omega)
    (have hb:=trivial;with_reducible repeat' (first|simp only[hb,Vc.down,seval,Yi.down,g8,g10,g90,g91,g92,hdd,hii,hlst,hx,w1,w2,w3,w4,hbx2,hkn2,hall2,hlkA,hlkK,hic,p2,hkx,hrv,hlv2,hne1,hL1,hany,Zs,bN,bR,eJ,Zy.down,abT]|refine Qs ?_ ?_<;>intro hb|refine fdq ?_|fail))
    refine xM (fun _=>0) [([],[]),([],[.cells 0 0 25]),([],[.blk 0]),([],[]),([],[.cells 0 0 1]),([],[.cells 0 0 25]),([],[.blk 0]),([],[.blk 0]),([],[])] (by kernel_rfl) ?_ (fun _=>?_)
    ·simp only[gJ,lB]
     exact⟨by simp,by simp,by simp,by simp[bV],by simp,by simp[bV],by simp,by simp,by simp,by simp[bV],by simp,by simp[bV],by simp,by simp[bV],by simp,fun y hy=>.inr (by obtain⟨j,_,rfl⟩:=ah9.1 hy;simp[bV]),by simp,by simp,trivial⟩
    ·cases c:decide (((aV p.1 (p.1 x) (Tn w N x):Nat):Int)<((p.1 x:Nat):Int))with
     |false=>
      have hst:jI w N p x=p:=by
       unfold jI;rw[if_neg]
       have:=of_decide_eq_false c
       omega
      (have hb:=trivial;with_reducible repeat' (first|simp only[hb,Vc.down,seval,Yi.down,g92,hww,c]|refine Qs ?_ ?_<;>intro hb|refine fd ?_|fail))
      exact Ru (kJ _ _ p ⟨by simp[up,g0],by simp[up,g8],by simp[up,g9],by simp[up,g10],by simp[up,g21],by simp[up,g90],by simp[up,g91],by simp[up],K.app _,hKn⟩ (by rw[adP,hst]))
     |true=>
      have hst:jI w N p x=(fun y=>if y=x then aV p.1 (p.1 x) (Tn w N x)else p.1 y,true):=by
       unfold jI;rw[if_pos]
       have:=of_decide_eq_true c
       omega
      have hK1:=(kW (w:=w) (N:=N) (l:=l) (L:=L) [x] (fun y hy=>by simp at hy;rw[hy];exact hxm) p hKn).1
      simp only[adP,atB]at hK1
      have hms2:=fun q=>acX (hkn2 q) K.tw K.nd hxm (.int .i64 (aV p.1 (p.1 x) (Tn w N x):Nat))
      have hSk:=Zd (Uo K.kn)
      have hkp:(fun y=>if y=x then AV.int .i64 (aV p.1 (p.1 x) (Tn w N x):Nat)else bA p.1 y)=bA (jI w N p x).1:=by rw[hst];exact vQ p.1 x _
      rw[hkp]at hms2
      (have hb:=trivial;with_reducible repeat' (first|simp only[hb,Vc.down,seval,Yi.down,g8,g10,g92,hww,c,hbx2,hkn2,hms2,hSk,w1,w2,w3,w4,Zy.down]|refine Qs ?_ ?_<;>intro hb|refine fd ?_|fail))
      exact Ru (kJ _ _ (jI w N p x) ⟨by simp[up,g0],by simp[up,g8],by simp[up,g9],by simp[up,g10],by simp[up,hst],by simp[up,g90],by simp[up,g91],by simp[up],(K.put _).app _,hK1⟩ rfl)
  ·exact⟨by simp[up,g0],by simp[up,g8],by simp[up,g9],by simp[up,g10],by simp[up],by simp[up],by simp[up],by simp[up],K,hKn⟩
  obtain⟨rfl,g0,g8,g9,g10,g21,K⟩:=hk
  obtain⟨a1,a2,a3,a4⟩:=kW (w:=w) (N:=N) (l:=l) L (fun _ h=>h) (f,false) hKn
  generalize hp:List.foldl (jI w N) (f,false) L=p at *
  obtain⟨g,c⟩:=p
  cases c with
  |false=>
   (have hb:=trivial;with_reducible repeat' (first|simp only[hb,Vc.down,seval,Yi.down,g21]|refine Qs ?_ ?_<;>intro hb|refine fd ?_|fail))
   obtain⟨a5,a6⟩:=a4 rfl
   cases a5
   exact kQ _ _ _ ⟨rfl,by simp[up,g8],by simp[up,g10],f,K,a1,a6⟩
  |true=>
   (have hb:=trivial;with_reducible repeat' (first|simp only[hb,Vc.down,seval,Yi.down,g21]|refine Qs ?_ ?_<;>intro hb|refine fd ?_|fail))
   have hlt:=(a3 rfl).resolve_left (by simp)
   simp only at hlt
   exact Ru (kJ _ _ () ⟨by simp[up,g0],by simp[up,g8],by simp[up,g9],by simp[up,g10],g,K,a1,by omega⟩ rfl)
 ·exact⟨by simp[up,g0],by simp[up,g8],by simp[up,g9],by simp[up,g10],_,K,hK0,by omega⟩
 obtain⟨rfl,g8,g10,f,K,hKn,hst⟩:=hk
 obtain⟨xb,hbx⟩:=K.bx
 (have hb:=trivial;with_reducible repeat' (first|simp only[hb,Vc.down,seval,Yi.down,g8,g10,hbx,Zy.down]|refine Qs ?_ ?_<;>intro hb|refine fd ?_|fail))
 exact⟨L,f,av,b,K,hKn,hst⟩
theorem anB{w:Qj}{N:Nat}{l l':List Up}(h:∀x∈l',x∈l){s:St}{k:Nat}(hc:Go.Ev.eA (Yq w N l) s k):Go.Ev.eA (Yq w N l') s k:=
 hc.sim (fun a b=>a=b) (fun a b e hg=>by
  subst e
  have hg:oM a.1 l=true:=hg
  show oM a.1 l'=true
  unfold oM at hg ⊢
  rw[List.all_eq_true]at hg ⊢
  exact fun x hx=>hg x (h x hx)) (fun a b e o ho=>by subst e;exact⟨o,ho,acG _,fun y hy=>⟨y,hy,rfl⟩⟩) s rfl
theorem fW{w:Qj}{N:Nat}{l:List Up}{s:St}{o:Nat × List St}:o∈(Yq w N l).ops s↔∃c∈Tn w N s,o=(c.c.toNat,c.to):=by
 show o∈(Tn w N s).map _↔_
 rw[ah9]
 exact⟨fun⟨c,h1,h2⟩=>⟨c,h1,h2.symm⟩,fun⟨c,h1,h2⟩=>⟨c,h1,h2.symm⟩⟩
theorem ahL{w:Qj}{N:Nat}{L:List (Int × Bool)}{f:Nat}{o:Yt}(ho:o∈Tn w N (L,f))(g:Nat):∃p x,ae3 w N (L,f) o p x∧Yt.mk o.k o.i o.c (toF L g o.k o.i x)∈Tn w N (L,g):=by
 obtain⟨p,x,I⟩:=kP.1 ho
 exact⟨p,x,I,kP.2 ⟨p,x,I.k4,I.hp,I.hx,I.can,I.safe,I.c,rfl⟩⟩
theorem af2{w:Qj}{N:Nat}{l:List Up}{L:List (Int × Bool)}{f g:Nat}(hg:g≤f){k:Nat}(hc:Go.Ev.eA (Yq w N l) (L,f) k):Go.Ev.eA (Yq w N l) (L,g) k:=
 hc.sim (fun a b=>a.1=b.1∧b.2≤a.2) (fun a b e h=>by
  have h:oM a.1 l=true:=h
  show oM b.1 l=true
  rw[←e.1];exact h) (fun a b e o ho=>by
  obtain⟨M,m⟩:=a
  obtain⟨M',m'⟩:=b
  obtain⟨e1,e2⟩:=e
  simp only at e1 e2
  subst e1
  obtain⟨c,hc,rfl⟩:=fW.1 ho
  obtain⟨p,x,I,hm⟩:=ahL hc m'
  refine⟨_,fW.2 ⟨_,hm,rfl⟩,acG _,fun y hy=>?_⟩
  rcases oO.1 hy with rfl|⟨h3,h0,rfl⟩
  ·exact⟨(M.set c.i (Tv c.k true x),m),by rw[I.to];exact oO.2 (.inl rfl),rfl,e2⟩
  ·exact⟨(M.set c.i (Tv c.k false x),m-1),by rw[I.to];exact oO.2 (.inr ⟨h3,by show 0<m;omega,rfl⟩),rfl,by show m'-1≤m-1;omega⟩) (L,g) ⟨rfl,hg⟩
noncomputable def bs(w:Qj)(N:Nat)(l:List Up)(s:St):Nat:=(Yq w N l).bst Ue s
theorem arE{w:Qj}{N:Nat}{l:List Up}{s:St}(hs:(Yq w N l).Fine Ue s):bs w N l s<Ue↔∃k,Go.Ev.eA (Yq w N l) s k:=by
 constructor
 ·intro h
  refine Classical.byContradiction fun n=>?_
  unfold bs at h
  rw[pY.bst_none n]at h
  omega
 ·exact hs.lt
theorem afC{w w':Qj}{N:Nat}{l l':List Up}{s s':St}(hs:(Yq w N l).Fine Ue s)(h:∀k,Go.Ev.eA (Yq w N l) s k→Go.Ev.eA (Yq w' N l') s' k):bs w N l s<Ue→bs w' N l' s'≤bs w N l s:=fun hl=>by
 obtain⟨k,hk⟩:=(arE hs).1 hl
 have h1:=(pY.bst_can (top:=Ue) ⟨k,hk⟩).1
 exact(pY.bst_can (top:=Ue) ⟨_,h _ h1⟩).2 _ (h _ h1)
theorem yJ{v v':St→AV}:∀{L:List St},(∀s∈L,v s=v' s)→Uy L v=Uy L v'
 | [],_=>rfl
 |a::L,h=>by
  show AV.agg (Rr a)::v a::Uy L v=.agg (Rr a)::v' a::Uy L v'
  rw[h a (by simp),yJ fun s hs=>h s (by simp[hs])]
theorem CK.congr{w:Qj}{N:Nat}{H:Qa}{s0:St}{U:St→Prop}{L:List St}{b:Nat}{av:St→AV}{f g:St→Nat}{h:Qa}(K:CK w N H s0 U L b av f h)(e:∀s∈L,f s=g s):CK w N H s0 U L b av g h:=
 ⟨K.keep,K.all,K.lst,by rw[←yJ (v:=bA f) (v':=bA g) fun s hs=>by unfold bA;rw[e s hs]];exact K.kn,K.bx,K.b2,K.b3,K.b4,K.ch,K.nd,K.tw,K.un,K.hd⟩
theorem atW(w:Qj)(N:Nat)(l:List Up)(s:St)(hs:(Yq w N l).Fine Ue s):bs w N l s≤Ue:=by
 by_cases e:∃k,Go.Ev.eA (Yq w N l) s k
 ·exact Nat.le_of_lt (hs.lt e)
 ·unfold bs;rw[pY.bst_none e];exact acG _
theorem yM{w:Qj}{N:Nat}(hw:xP w N)(hwb:Wj w=true)(h6:w.parts.length≤6)(d:Int){H:Qa}{lb:Nat}{wf:Bool}(hlb:H[lb]?=some (rP w d wf)){s0:St}(hu:InU w.parts.length s0 s0)(hf3:s0.2≤3)(l:List Up)(nn:Bool)(hl:l.length≤maxLen)(hlp:∀x∈l,0≤x.part∧x.part<12):
 yR Uu 41 [.ptr lb 0 0,.agg (Rr s0),Rw 3 true nn (l.map Up.cells)] H fun o G=>(∃(L:List St) (av:St→AV) (b:Nat),o=.ret (.tup [.mapr (H.length+3),.mapr (H.length+1)])∧CK w N H s0 (InU w.parts.length s0) L b av (bs w N l) G∧s0∈L∧(∀s∈L,(Yq w N l).Fine Ue s)∧∀s∈L,∀o∈Tn w N s,∀x∈o.to,x∈L)∧Xl [] H G:=by
 obtain⟨o,G,hc,L,f,av,b,ho,K,hKn,hst⟩:=as5 hw (by omega) d hlb hu.l12 hf3 l nn hl hlp (U:=InU w.parts.length s0) (B:=186624) (by omega) (fun L hL h=>vF h6 hf3 L hL h) hu (fun s h=>⟨h.l12,aoP h.fl hf3⟩) (fun s h o ho=>acJ hwb h ho)
 have hLB:=vF h6 hf3 L K.nd K.un
 have hst2:∀s∈L,∀o∈(Yq w N l).ops s,f s≤min Ue (o.1+pY.mx f o.2):=fun s hs o ho=>by
  obtain⟨c,hc,rfl⟩:=fW.1 ho
  exact hst s hs c hc
 have hbt:=fun s (hs:s∈L)=>hKn.bst hst2 (by unfold Ue;omega) hs
 have hfb:∀s∈L,f s=bs w N l s:=fun s hs=>(hbt s hs).1
 refine⟨o,G,hc,⟨L,av,b,ho,K.congr hfb,ac4 K.hd,fun s hs=>⟨fun h=>?_⟩,fun s hs o ho x hx=>?_⟩,K.keep⟩
 ·have h1:=(hbt s hs).2 h
  rw[hfb s hs]at h1
  exact h1
 ·exact(hKn.ops s hs _ (fW.2 ⟨o,ho,rfl⟩)).2.2.2 x hx
theorem akQ{w:Qj}{N:Nat}(hw:xP w N)(hwb:Wj w=true)(h6:w.parts.length≤6){s:St}(h12:s.1.length=12)(hd:∀x∈s.1,0≤x.1∧x.1≤2)(hf3:s.2≤3)(l:List Up)(hl:l.length≤maxLen)(hlp:∀x∈l,0≤x.part∧x.part<12):(Yq w N l).Fine Ue s:=by
 obtain⟨o,G,hc,⟨L,av,b,_,K,hm,hF,_⟩,_⟩:=yM hw hwb h6 0 (H:=[rP w 0 false]) (lb:=0) rfl (s0:=s) ⟨h12,hd,rfl,acG _⟩ hf3 l true hl hlp
 exact hF s hm
theorem arO(p:Qd)(d:Int):0≤Xq p d∧Xq p d≤2:=by
 unfold Xq;split
 ·decide
 ·split<;>decide
theorem aa1(w:Qj)(d:Int):∀x∈Qh w d,0≤x.1∧x.1≤2:=by
 intro x hx
 unfold Qh at hx
 rcases abV.1 hx with hx|hx
 ·obtain⟨p,_,rfl⟩:=ah9.1 hx
  exact arO p d
 ·obtain⟨_,rfl⟩:=List.mem_replicate.1 hx
  decide
theorem lI{w:Qj}{d:Int}{l:List Up}{f:Int}(h:dT w d l f=0):w.parts.length≤6∧Wj w=true∧dA d=true∧dS w l=true∧0≤f∧f≤3:=by
 unfold dT at h
 split at h
 ·cases h
 ·rename_i h1
  split at h
  ·cases h
  ·rename_i h2
   simp only[Bool.or_eq_true,Bool.not_eq_true',not_or,Bool.not_eq_false,decide_eq_true_eq]at h1 h2
   exact⟨by omega,h2.1.1.1.1,h2.1.1.1.2,h2.1.1.2,by omega,by omega⟩
theorem aa6{n:Int}:∀{l:List Up} {y:Option Up},Su n y l=true→∀x∈l,Xw x.part 0 n=true
 | [],_,_,x,hx=>by cases hx
 |a::l,y,h,x,hx=>by
  have h1:Xw a.part 0 n=true∧Su n (some a) l=true:=by
   cases y with
   |none=>simp only[Su,aiF]at h;exact h
   |some z=>simp only[Su,aiF]at h;exact⟨h.1.1,h.2⟩
  rcases anI.1 hx with rfl|hx
  ·exact h1.1
  ·exact aa6 h1.2 x hx
theorem vG{w:Qj}(hl:w.parts.length≤1000){l:List Up}(h:dS w l=true):∀x∈l,0≤x.part∧x.part<(w.parts.length:Int):=fun x hx=>by
 have:=aa6 h x hx
 rw[Uf (by omega) (by omega)]at this
 simp only[Xw,aiF,decide_eq_true_eq]at this
 omega
end Go.Proofs.YtcncggaobhbomaaGreatDoor
