/- The functions of the layer, walked. -/
import Derived.Test.YtcncggaobhbomaaGreatDoorLibE
import Derived.Test.YtcncggaobhbomaaGreatDoorPartAC
open List renaming length_map→ad8,take→ahF,take_of_length_le→aoR,length_cons→aoS,length_nil→apA,map_cons→awL,map_nil→ay8,getElem?_append_right→aAO,getElem?_append_left→aCG,take_append_of_le_length→aCH,getElem?_eq_getElem→aEG,drop→aEM,append_assoc→aEX,map_append→aG2,mem_of_getElem?→aHN,getElem?_map→aHP,length_append→aHR,length_replicate→aI5,append_nil→aKF,drop_eq_nil_of_le→aKP,take_append_drop→aL7,mem_range→aNR,getElem?_eq_some_iff→aN4
open Int renaming lt_irrefl→azO,natCast_zero→aL1
open Bool renaming true_and→azV,false_and→aD5,false_eq_true→aJ8,and_eq_true→aN3
open Nat renaming le_refl→aA5,add_sub_cancel_left→aHA
open Option renaming toList_none→aKE
set_option linter.unusedSimpArgs false
set_option linter.unusedVariables false
namespace Go.Proofs.YtcncggaobhbomaaGreatDoor
open Go.Ev Go Go.Ev.Net
set_option maxRecDepth 100000
set_option maxHeartbeats 16000000
def aFY(w:Ah)(d:Int)(x:Bool):CB:=.live 4 false x [[.int .i64 w.rooms,.int .i64 w.need,Bt 9 true w.nn (w.parts.map Ac.cells),.int .i64 d]]
def aB3(w:Ah)(N:Nat)(s:St):Nat→List Jr
 |0=>[]
 |i+1=>aB3 w N s i++ai3 w N s ((i:Int)+1)
theorem a88(w:Ah)(N:Nat)(s:St):aB3 w N s 4=Cm w N s:=by
 simp[aB3,Cm]
def aFB(w:Ah)(N:Nat)(s:St)(k:Int)(j:Nat):List Jr:=(List.range j).filterMap (ay7 w N s k)
theorem aUE(w:Ah)(N:Nat)(s:St)(k:Int)(j:Nat):aFB w N s k (j+1)=aFB w N s k j++(ay7 w N s k j).toList:=by
 unfold aFB
 rw[List.range_succ,List.filterMap_append]
 congr 1
theorem a4P{H h:Aa}(k:Hy [] H h)(l:Aa):Hy [] H (h++l):=k.trans (Hy.app h l)
theorem _root_.Go.Ev.LLG.app{st lo:Nat}{ov:AV}{h:Aa}{rows Q:List (List AV)}{Ro:List Nat}(I:LLG st lo ov h rows Q Ro)(l:Aa):LLG st lo ov (h++l) rows Q Ro:=I.keep (by simp) fun b _ hb=>aCG hb
theorem aP2{st lo:Nat}{ov:AV}{h:Aa}{rows Q:List (List AV)}{Ro:List Nat}(I:LLG st lo ov h rows Q Ro)(l:Aa):kl 0 ov (h++l)=kl 0 ov h++l:=by
 unfold kl
 split
 ·rename_i a b r n
  have:=(I.dov _ _ _ _ rfl).2.2
  rw[List.set_append_left _ _ (by omega)]
 ·rfl
theorem kKl{H h:Aa}{st:Nat}{ov:AV}{rows Q:List (List AV)}{Ro:List Nat}(hK:Hy [] H h)(I:LLG st (H.length+1) ov h rows Q Ro)(l:Aa):Hy [] H (kl 0 ov h++l):=
 ⟨by rw[aHR,aCY];have:=hK.len;omega,fun b hb hn=>by
   rw[aoT _ (by have:=hK.len;omega) fun a c r n e e2=>by have:=(I.dov a c r n e).1;omega]
   exact hK.same b hb hn⟩
theorem aTU{w:Ah}{N:Nat}(hw:WOk w N)(h12:w.parts.length≤12)(d:Int){H:Aa}{lb:Nat}{wf:Bool}(hlb:H[lb]?=some (aFY w d wf)){s:St}(hs:s.1.length=12)(hf3:s.2≤3):
 ShQ Ef 65 [.ptr lb 0 0,.agg (Bv s)] H fun o G=>(∃v R,o=.ret v∧rd 6 (hf G) v=some (Bt 4 false false ((Cm w N s).map Jr.cells),R)∧∀b∈R,H.length≤b)∧Hy [] H G:=by
 have hlen:=hw.len
 have hsl:=Il hs
 have hsf:=Gi s
 have hsc:=Gu s
 have htk:ahF 25 (Bv s)=Bv s:=aoR (by omega)
 refine aPP rfl Tryz.func65 rfl rfl ?_
 simp only[Tryz.f65]
 (have hb:=trivial;with_reducible repeat' (first|simp only[hb,Vc.down,seval,aFM.down,hsl,hsf,hsc,htk,ad8]|refine Au ?_ ?_<;>intro hb|refine fd ?_|fail))
 refine Ie (lst 84 (List.replicate 4 ()) (fun i (_:Unit) t h=>t 0=.ptr lb 0 0∧t 3=.ptr H.length 0 0∧t 6=.int .i64 ((i:Int)+1)∧Hy [] H h∧(∃x,h[H.length]?=some (.live 25 true x [Bv s]))∧∃rows Ro,LLG 4 (H.length+1) (t 5) h rows ((aB3 w N s i).map Jr.cells) Ro∧rows.length≤12*i) (fun _ _=>())
  (fun _ e t h=>e=.exit 0∧Hy [] H h∧∃rows Ro,LLG 4 (H.length+1) (t 5) h rows ((aB3 w N s 4).map Jr.cells) Ro) ?_ ?_ () _ _ ?_) (fun e t h hk=>?_)
 ·rintro _ t h Q' kQ ⟨g0,g3,g6,hK,hB,rows,Ro,hL,_⟩
  rw[aI5]at g6 hL
  have h5:decide (((4:Nat):Int)+1≤4)=false:=rfl
  (have hb:=trivial;with_reducible repeat' (first|simp only[hb,Vc.down,seval,aFM.down,g6,h5]|refine Au ?_ ?_<;>intro hb|refine fd ?_|fail))
  exact kQ _ _ _ ⟨rfl,hK,rows,Ro,by simpa [up]using hL⟩
 ·rintro _ rest i _ t h J Q' kJ kQ hx hi ⟨g0,g3,g6,hK,⟨x,hB⟩,rows,Ro,hL,hrl0⟩
  rw[aI5]at hi
  obtain⟨k,hk⟩:∃k:Int,(i:Int)+1=k:=⟨_,rfl⟩
  have hk4:k=1∨k=2∨k=3∨k=4:=by omega
  rw[hk]at g6
  have h5:decide (k≤4)=true:=decide_eq_true (by omega)
  have hwk:IntKind.i64.wrap (k+1)=k+1:=Ez (by omega) (by omega)
  have hlh:h[lb]?=some (aFY w d wf):=(hK.same lb (Eh hlb) (by simp)).trans hlb
  unfold aFY at hlh
  (have hb:=trivial;with_reducible repeat' (first|simp only[hb,Vc.down,seval,aFM.down,g0,g3,g6,h5,hlh,ad8]|refine Au ?_ ?_<;>intro hb|refine fd ?_|fail))
  refine Ie (lst 84 w.parts (fun j (_:Unit) t h=>t 0=.ptr lb 0 0∧t 3=.ptr H.length 0 0∧t 6=.int .i64 k∧t 19=Bt 9 true w.nn (w.parts.map Ac.cells)∧t 20=.int .i64 (w.parts.length:Nat)∧t 21=.int .i64 (j:Int)∧Hy [] H h∧(∃x,h[H.length]?=some (.live 25 true x [Bv s]))∧∃rows Ro,LLG 4 (H.length+1) (t 5) h rows ((aB3 w N s i++aFB w N s k j).map Jr.cells) Ro∧rows.length≤12*i+j) (fun _ _=>())
   (fun _ e t h=>e=.exit 2∧t 0=.ptr lb 0 0∧t 3=.ptr H.length 0 0∧t 6=.int .i64 k∧Hy [] H h∧(∃x,h[H.length]?=some (.live 25 true x [Bv s]))∧∃rows Ro,LLG 4 (H.length+1) (t 5) h rows ((aB3 w N s i++ai3 w N s k).map Jr.cells) Ro∧rows.length≤12*i+w.parts.length) ?_ ?_ () _ _ ?_) (fun e t h hk'=>?_)
  ·rintro _ t h Q'' kQ ⟨g0,g3,g6,g19,g20,g21,hK,hB,rows,Ro,hL,hrl⟩
   (have hb:=trivial;with_reducible repeat' (first|simp only[hb,Vc.down,seval,aFM.down,g20,g21,azO,decide_false]|refine Au ?_ ?_<;>intro hb|refine fd ?_|fail))
   exact kQ _ _ _ ⟨rfl,by simp[up,g0],by simp[up,g3],by simp[up,g6],hK,hB,rows,Ro,by simp only[up];exact hL,hrl⟩
  ·rintro p rest j _ t h J' Q'' kJ' kQ' hx hj ⟨g0,g3,g6,g19,g20,g21,hK,⟨x,hB⟩,rows,Ro,hL,hrl⟩
   obtain⟨ov,g5⟩:∃ov,t 5=ov:=⟨_,rfl⟩
   rw[g5]at hL
   have hdd:decide ((j:Int)<(w.parts.length:Int))=true:=decide_eq_true (by omega)
   have hww:=Dj hj (by unfold maxLen;omega)
   obtain⟨y,hy⟩:∃y,s.1[j]?=some y:=⟨_,aEG (by omega)⟩
   have hC:=a5K p y hk4
   have hS:=a0G hw h12 d hs hy hk4 true false
   have hcf:ay7 w N s k j=if(am5 p y k&&Ll w N s.1 k j true y)=true then some ⟨k,j,aAY p k,toF s.1 s.2 k j y⟩else none:=by
    unfold ay7;rw[hx,hy]
   have hnx:=aUE w N s k j
   rw[hcf]at hnx
   have i12:((j:Int)<12)=True:=eq_true (by omega)
   have hpz:(j*2≤23)=True:=eq_true (by omega)
   have hpz2:(j*2≤24)=True:=eq_true (by omega)
   have hp25:(j*2+2≤25)=True:=eq_true (by omega)
   have st2:ahF 2 (aEM (j*2) (Bv s))=[.int .i64 y.1,.bool y.2]:=by
    unfold Bv
    rw[List.drop_append_of_le_length (by rw[Be];omega),aCH (by rw[List.length_drop,Be];omega)]
    obtain⟨a,b⟩:=y
    exact aAD s.1 j a b hy
   have st24:ahF 24 (Bv s)=Cj s.1:=by
    unfold Bv;rw[aCH (by rw[Be];omega),aoR (by rw[Be];omega)]
   have hB2:=Aj hB
   have hlh:h[lb]?=some (aFY w d wf):=(hK.same lb (Eh hlb) (by simp)).trans hlb
   unfold aFY at hlh
   have hlh2:=Aj hlh
   simp only[Ac.cells]at hC
   have f0:=Gh s.1
   have k0:=Gj s.1
   have v0:=aAF s.1
   have l0:=az8 s.1
   have r0:=Pl s.1
   have p0:=agI s.1
   have n0:=aCI s.1
   have i0:=aCL s.1
   have hpl:(Cj s.1).length=24:=by rw[Be];omega
   cases cC:am5 p y k with
   |false=>
    rw[cC]at hC hnx
    simp only[aD5,aJ8,if_false,aKE,aKF]at hnx
    (have hb:=trivial;with_reducible repeat' (first|simp only[hb,Vc.down,seval,aFM.down,g0,g3,g6,g19,g20,g21,hdd,hww,hx,hB,hB2,hsl,hC,i12,hpz,hpz2,hp25,st2,st24,Dx,hlh,hlh2,Ac.cells,ad8]|refine Au ?_ ?_<;>intro hb|refine fd ?_|fail))
    exact Bn (kJ' _ _ () ⟨by simp[up,g0],by simp[up,g3],by simp[up,g6],by simp[up,g19],by simp[up,g20],by simp[up],a4P hK _,⟨x,hB2 _⟩,rows,Ro,by rw[hnx];simp only[up];rw[g5];exact hL.app _,by omega⟩ rfl)
   |true=>
    rw[cC]at hC hnx
    simp only[azV]at hnx
    cases cS:Ll w N s.1 k j true y with
    |false=>
     rw[cS]at hS hnx
     simp only[aJ8,if_false,aKE,aKF]at hnx
     (have hb:=trivial;with_reducible repeat' (first|simp only[hb,Vc.down,seval,aFM.down,g0,g3,g6,g19,g20,g21,hdd,hww,hx,hB,hB2,hsl,hC,i12,hpz,hpz2,hp25,st2,st24,Dx,hlh,hlh2,Ac.cells,ad8,hS,f0,k0,v0,l0,r0,p0,n0,i0,hpl]|refine Au ?_ ?_<;>intro hb|refine fd ?_|fail))
     exact Bn (kJ' _ _ () ⟨by simp[up,g0],by simp[up,g3],by simp[up,g6],by simp[up,g19],by simp[up,g20],by simp[up],a4P hK _,⟨x,hB2 _⟩,rows,Ro,by rw[hnx];simp only[up];rw[g5];exact hL.app _,by omega⟩ rfl)
    |true=>
     rw[cS]at hS hnx
     simp only[if_true,Option.toList_some]at hnx
     have hP:=aRJ p hk4
     simp only[Ac.cells]at hP
     have hA:=aI3 hs hy hk4 true
     have hs1:(s.1.set j (Da k true y)).length=12:=by simpa using hs
     have f1:=Gh (s.1.set j (Da k true y))
     have k1:=Gj (s.1.set j (Da k true y))
     have p1:=agI (s.1.set j (Da k true y))
     have r1:=Pl (s.1.set j (Da k true y))
     have n1:=aCI (s.1.set j (Da k true y))
     have i1:=aCL (s.1.set j (Da k true y))
     have hpl1:(Cj (s.1.set j (Da k true y))).length=24:=by rw[Be];omega
     have stf:(Bv s)[24]?=some (.int .i64 (s.2:Int)):=by
      unfold Bv;rw[aAO (by rw[Be];omega),Be,hs];rfl
     have b1:ahF 25 (Cj (s.1.set j (Da k true y)))=Cj (s.1.set j (Da k true y)):=aoR (by omega)
     have b2:∀z,ahF 24 (Cj (s.1.set j (Da k true y))++[z])=Cj (s.1.set j (Da k true y)):=fun z=>by rw[aCH (by omega),aoR (by omega)]
     have b3:∀z,aEM 25 (Cj (s.1.set j (Da k true y))++[z])=[]:=fun z=>aKP (by simp;omega)
     obtain⟨s1,hs1e⟩:∃s1:St,(s.1.set j (Da k true y),s.2)=s1:=⟨_,rfl⟩
     have hst1:Cj (s.1.set j (Da k true y))++[AV.int .i64 (s.2:Int)]=Bv s1:=by rw[←hs1e];rfl
     have c1:=Gu s1
     have c2:=Gi s1
     have c3:(Bv s1).length=25:=Il (by rw[←hs1e];exact hs1)
     have c4:ahF 25 (Bv s1)=Bv s1:=aoR (by omega)
     have hHh:H.length<h.length:=Ap hB
     obtain⟨sf,hsf0,hsf1,hsf2⟩:∃sf:Nat→Nat,sf H.length=0∧sf h.length=10∧∀k,sf (h.length+k)=k+10:=⟨fun b=>if b=H.length then 0 else b-h.length+10,by simp,by show(if _ then _ else _)=_;rw[if_neg (by omega)];omega,fun k=>by show(if _ then _ else _)=_;rw[if_neg (by omega)];omega⟩
     have hap:=fun(q:Aa) (r:List AV)=>a3E hL.own (pre:=[]) rfl q r [] (by simp;omega)
     have hhp:=fun(q:Aa) (r:List (List AV)) (ba:Nat)=>aW7 hL.own (pre:=[]) rfl q 4 false r ba
     simp only[List.nil_append,aoS,aHR,apA,List.length_set,Nat.reduceAdd]at hap hhp
     cases q3:(k==3)with
     |false=>
      (have hb:=trivial;with_reducible repeat' (first|simp only[hb,Vc.down,seval,aFM.down,g0,g3,g5,g6,g19,g20,g21,hdd,hww,hx,hB,hB2,hsl,hC,i12,hpz,hpz2,hp25,st2,st24,Dx,hlh,hlh2,Ac.cells,ad8,hS,hap,hhp,f0,k0,v0,l0,r0,p0,n0,i0,hpl,hP,hA,f1,k1,p1,r1,n1,i1,hpl1,stf,q3,b1,b2,b3,hst1,c1,c2,c3,c4,aA5]|refine Au ?_ ?_<;>intro hb|((refine aGF (aEH (sf) ?_) ?_);(simp (discharger:=decide) only[aAG,ahD,awL,ay8,Nx,az9,aAK,az1,Ob,am0,aoS,apA,hsf0,hsf1,hsf2];kernel_rfl);intro _)|refine fdq ?_|fail))
      have hto:toF s.1 s.2 k j y=[s1]:=by
       unfold toF;rw[if_neg (by rintro⟨h3,_⟩;rw[h3]at q3;cases q3),hs1e]
      refine Bn (kJ' _ _ () ⟨by simp[up,g0],by simp[up,g3],by simp[up,g6],by simp[up,g19],by simp[up,g20],by simp[up],?_,⟨x,?_⟩,rows++[[.int .i64 k,.int .i64 (j:Int),.int .i64 (if k=3 then p.test else if k=4 then p.change else 1),.slr 25 (h.length+2) 0 1]],Ro++[h.length+2],?_,by simp;omega⟩ rfl)
      ·exact kKl hK hL _
      ·rw[aoT _ hHh fun a b r n e e2=>by have:=(hL.dov a b r n e).1;omega];exact hB
      ·have hQ:(aB3 w N s i++aFB w N s k (j+1)).map Jr.cells=(aB3 w N s i++aFB w N s k j).map Jr.cells++[[.int .i64 k,.int .i64 (j:Int),.int .i64 (if k=3 then p.test else if k=4 then p.change else 1),.imm 25 true [Bv s1]]]:=by
        rw[hnx,hto,←aEX,aG2];rfl
       rw[hQ]
       have hsn:=hL.snoc (h':=h++[.live 9 true true [[.int .i64 p.one,.int .i64 p.other,.bool p.valve,.bool p.opn,.int .i64 p.tested,.int .i64 p.valid,.bool p.bad,.int .i64 p.test,.int .i64 p.change]],.live 2 true true [[.int .i64 k,.int .i64 (j:Int)]],.live 25 true false [Bv s1],.live 4 false true [[.int .i64 k,.int .i64 (j:Int),.int .i64 (if k=3 then p.test else if k=4 then p.change else 1),.slr 25 (h.length+2) 0 1]]]) (by simp) (fun b _ hb=>aCG hb) (r:=[.int .i64 k,.int .i64 (j:Int),.int .i64 (if k=3 then p.test else if k=4 then p.change else 1),.slr 25 (h.length+2) 0 1]) (Fe (aA1 ..) (Fe (aA1 ..) (Fe (aA1 ..) (Fe (aVH (rows:=[Bv s1]) (by
        show((h++_)[h.length+2]?).bind Bq=_
        rw[aAO (by omega),aHA];rfl) rfl) abT)))) (by simp) (by omega) (.live 4 false false [[.int .i64 k,.int .i64 (j:Int),.int .i64 (if k=3 then p.test else if k=4 then p.change else 1),.slr 25 (h.length+2) 0 1]]) (m:=h.length+5) (n:=rows.length+1) (by simp) rfl
       rw[aP2 hL]at hsn
       simpa [up]using hsn
     |true=>
      have hk3:k=3:=by simpa using q3
      by_cases hf0:s.2=0
      ·have hgt:decide ((s.2:Int)>0)=false:=decide_eq_false (by omega)
       (have hb:=trivial;with_reducible repeat' (first|simp only[hb,Vc.down,seval,aFM.down,g0,g3,g5,g6,g19,g20,g21,hdd,hww,hx,hB,hB2,hsl,hC,i12,hpz,hpz2,hp25,st2,st24,Dx,hlh,hlh2,Ac.cells,ad8,hS,hap,hhp,f0,k0,v0,l0,r0,p0,n0,i0,hpl,hP,hA,f1,k1,p1,r1,n1,i1,hpl1,stf,q3,hgt,b1,b2,b3,hst1,c1,c2,c3,c4,aA5]|refine Au ?_ ?_<;>intro hb|((refine aGF (aEH (sf) ?_) ?_);(simp (discharger:=decide) only[aAG,ahD,awL,ay8,Nx,az9,aAK,az1,Ob,am0,aoS,apA,hsf0,hsf1,hsf2];kernel_rfl);intro _)|refine fdq ?_|fail))
       have hto:toF s.1 s.2 k j y=[s1]:=by
        unfold toF;rw[if_neg (by rintro⟨_,h3⟩;omega),hs1e]
       refine Bn (kJ' _ _ () ⟨by simp[up,g0],by simp[up,g3],by simp[up,g6],by simp[up,g19],by simp[up,g20],by simp[up],?_,⟨x,?_⟩,rows++[[.int .i64 k,.int .i64 (j:Int),.int .i64 (if k=3 then p.test else if k=4 then p.change else 1),.slr 25 (h.length+2) 0 1]],Ro++[h.length+2],?_,by simp;omega⟩ rfl)
       ·exact kKl hK hL _
       ·rw[aoT _ hHh fun a b r n e e2=>by have:=(hL.dov a b r n e).1;omega];exact hB
       ·have hQ:(aB3 w N s i++aFB w N s k (j+1)).map Jr.cells=(aB3 w N s i++aFB w N s k j).map Jr.cells++[[.int .i64 k,.int .i64 (j:Int),.int .i64 (if k=3 then p.test else if k=4 then p.change else 1),.imm 25 true [Bv s1]]]:=by
         rw[hnx,hto,←aEX,aG2];rfl
        rw[hQ]
        have hsn:=hL.snoc (h':=h++[.live 9 true true [[.int .i64 p.one,.int .i64 p.other,.bool p.valve,.bool p.opn,.int .i64 p.tested,.int .i64 p.valid,.bool p.bad,.int .i64 p.test,.int .i64 p.change]],.live 2 true true [[.int .i64 k,.int .i64 (j:Int)]],.live 25 true false [Bv s1],.live 4 false true [[.int .i64 k,.int .i64 (j:Int),.int .i64 (if k=3 then p.test else if k=4 then p.change else 1),.slr 25 (h.length+2) 0 1]]]) (by simp) (fun b _ hb=>aCG hb) (r:=[.int .i64 k,.int .i64 (j:Int),.int .i64 (if k=3 then p.test else if k=4 then p.change else 1),.slr 25 (h.length+2) 0 1]) (Fe (aA1 ..) (Fe (aA1 ..) (Fe (aA1 ..) (Fe (aVH (rows:=[Bv s1]) (by
         show((h++_)[h.length+2]?).bind Bq=_
         rw[aAO (by omega),aHA];rfl) rfl) abT)))) (by simp) (by omega) (.live 4 false false [[.int .i64 k,.int .i64 (j:Int),.int .i64 (if k=3 then p.test else if k=4 then p.change else 1),.slr 25 (h.length+2) 0 1]]) (m:=h.length+5) (n:=rows.length+1) (by simp) rfl
        rw[aP2 hL]at hsn
        simpa [up]using hsn
      ·have hgt:decide ((s.2:Int)>0)=true:=decide_eq_true (by omega)
       have hA2:=aI3 hs hy hk4 false
       have hs2:(s.1.set j (Da k false y)).length=12:=by simpa using hs
       have e1:=Gh (s.1.set j (Da k false y))
       have e2:=Gj (s.1.set j (Da k false y))
       have e3:=agI (s.1.set j (Da k false y))
       have e4:=Pl (s.1.set j (Da k false y))
       have e5:=aCI (s.1.set j (Da k false y))
       have e6:=aCL (s.1.set j (Da k false y))
       have e7:(Cj (s.1.set j (Da k false y))).length=24:=by rw[Be];omega
       have e8:ahF 25 (Cj (s.1.set j (Da k false y)))=Cj (s.1.set j (Da k false y)):=aoR (by omega)
       have e9:∀z,ahF 24 (Cj (s.1.set j (Da k false y))++[z])=Cj (s.1.set j (Da k false y)):=fun z=>by rw[aCH (by omega),aoR (by omega)]
       have e10:∀z,aEM 25 (Cj (s.1.set j (Da k false y))++[z])=[]:=fun z=>aKP (by simp;omega)
       have hwf:IntKind.i64.wrap ((s.2:Int)-1)=((s.2-1:Nat):Int):=by rw[Ez (by omega) (by omega)];omega
       obtain⟨s2,hs2e⟩:∃s2:St,(s.1.set j (Da k false y),s.2-1)=s2:=⟨_,rfl⟩
       have hst2:Cj (s.1.set j (Da k false y))++[AV.int .i64 ((s.2-1:Nat):Int)]=Bv s2:=by rw[←hs2e];rfl
       have d1:=Gu s2
       have d2:=Gi s2
       have d3:(Bv s2).length=25:=Il (by rw[←hs2e];exact hs2)
       have d4:ahF 25 (Bv s2)=Bv s2:=aoR (by omega)
       (have hb:=trivial;with_reducible repeat' (first|simp only[hb,Vc.down,seval,aFM.down,g0,g3,g5,g6,g19,g20,g21,hdd,hww,hx,hB,hB2,hsl,hC,i12,hpz,hpz2,hp25,st2,st24,Dx,hlh,hlh2,Ac.cells,ad8,hS,hap,hhp,f0,k0,v0,l0,r0,p0,n0,i0,hpl,hP,hA,f1,k1,p1,r1,n1,i1,hpl1,stf,q3,hgt,b1,b2,b3,hst1,c1,c2,c3,c4,aA5,hA2,e1,e2,e3,e4,e5,e6,e7,e8,e9,e10,hwf,hst2,d1,d2,d3,d4]|refine Au ?_ ?_<;>intro hb|((refine aGF (aEH (sf) ?_) ?_);(simp (discharger:=decide) only[aAG,ahD,awL,ay8,Nx,az9,aAK,az1,Ob,am0,aoS,apA,hsf0,hsf1,hsf2];kernel_rfl);intro _)|refine fdq ?_|fail))
       have hto:toF s.1 s.2 k j y=[s1,s2]:=by
        unfold toF;rw[if_pos ⟨hk3,by omega⟩,hs1e,hs2e]
       refine Bn (kJ' _ _ () ⟨by simp[up,g0],by simp[up,g3],by simp[up,g6],by simp[up,g19],by simp[up,g20],by simp[up],?_,⟨x,?_⟩,rows++[[.int .i64 k,.int .i64 (j:Int),.int .i64 (if k=3 then p.test else if k=4 then p.change else 1),.slr 25 (h.length+5) 0 2]],Ro++[h.length+5],?_,by simp;omega⟩ rfl)
       ·exact kKl hK hL _
       ·rw[aoT _ hHh fun a b r n e e2=>by have:=(hL.dov a b r n e).1;omega];exact hB
       ·have hQ:(aB3 w N s i++aFB w N s k (j+1)).map Jr.cells=(aB3 w N s i++aFB w N s k j).map Jr.cells++[[.int .i64 k,.int .i64 (j:Int),.int .i64 (if k=3 then p.test else if k=4 then p.change else 1),.imm 25 true [Bv s1,Bv s2]]]:=by
         rw[hnx,hto,←aEX,aG2];rfl
        rw[hQ]
        have hsn:=hL.snoc (h':=h++[.live 9 true true [[.int .i64 p.one,.int .i64 p.other,.bool p.valve,.bool p.opn,.int .i64 p.tested,.int .i64 p.valid,.bool p.bad,.int .i64 p.test,.int .i64 p.change]],.live 2 true true [[.int .i64 k,.int .i64 (j:Int)]],.dead,.live 4 false true [[.int .i64 k,.int .i64 (j:Int),.int .i64 (if k=3 then p.test else if k=4 then p.change else 1),.slr 25 (h.length+5) 0 2]],.live 25 true false [Bv s2],.live 25 true false [Bv s1,Bv s2]]) (by simp) (fun b _ hb=>aCG hb) (r:=[.int .i64 k,.int .i64 (j:Int),.int .i64 (if k=3 then p.test else if k=4 then p.change else 1),.slr 25 (h.length+5) 0 2]) (Fe (aA1 ..) (Fe (aA1 ..) (Fe (aA1 ..) (Fe (aVH (rows:=[Bv s1,Bv s2]) (by
         show((h++_)[h.length+5]?).bind Bq=_
         rw[aAO (by omega),aHA];rfl) rfl) abT)))) (by simp) (by omega) (.live 4 false false [[.int .i64 k,.int .i64 (j:Int),.int .i64 (if k=3 then p.test else if k=4 then p.change else 1),.slr 25 (h.length+5) 0 2]]) (m:=h.length+7) (n:=rows.length+1) (by simp) rfl
        rw[aP2 hL]at hsn
        simpa [up]using hsn
  ·exact⟨by simp[up,g0],by simp[up,g3],by simp[up,g6],by simp[up],by simp[up],by simp[up],hK,⟨x,hB⟩,rows,Ro,by simpa [up,aFB]using hL,by omega⟩
  obtain⟨rfl,g0,g3,g6,hK,hB,rows,Ro,hL,hrl⟩:=hk'
  (have hb:=trivial;with_reducible repeat' (first|simp only[hb,Vc.down,seval,aFM.down,g6,hwk]|refine Au ?_ ?_<;>intro hb|refine fd ?_|fail))
  exact Bn (kJ _ _ () ⟨by simp[up,g0],by simp[up,g3],by simp[up];omega,hK,hB,rows,Ro,by simp only[up];rw[aB3,hk];exact hL,by omega⟩ rfl)
 ·exact⟨by simp[up,ent],by simp[up],by simp[up],Hy.app _ _,⟨_,by rw[aAO (aA5 _),Nat.sub_self];rfl⟩,[],[],by simp only[up];exact LLG.none,Nat.zero_le _⟩
 obtain⟨rfl,hK,rows,Ro,hL⟩:=hk
 obtain⟨ov,g5⟩:∃ov,t 5=ov:=⟨_,rfl⟩
 rw[g5]at hL
 rw[a88]at hL
 obtain⟨R,r1,r2,_⟩:=hL.read
 (have hb:=trivial;with_reducible repeat' (first|simp only[hb,Vc.down,seval,aFM.down,g5]|refine Au ?_ ?_<;>intro hb|refine fd ?_|fail))
 exact⟨⟨ov,R,rfl,r1,fun b hb=>by have:=r2 b hb;omega⟩,hK⟩
theorem aDM(a b:Bool):Kz Tryz.prog .neq 4 (.bool a) (.bool b)=some (.bool (a !=b)):=by
 simp only[Kz,Js,Tryz.underlying4,Option.map_some]
 cases a<;>cases b<;>rfl
theorem a8R{L:List (Int × Bool)}(hL:L.length=12)(x:Ep)(h0:0≤x.part)(h1:x.part<12):Ef.call (.fn 90) [.agg [.int .i64 x.part,.bool x.opn,.bool x.good],.ptr 0 0 0] [.live 24 true false [Cj L]]=some (.ret (.bool (!aCS L x)),[.live 24 true false [Cj L]]):=by
 obtain⟨i,hi⟩:∃i:Nat,x.part=(i:Int):=⟨x.part.toNat,by omega⟩
 obtain⟨y,hy⟩:∃y,L[i]?=some y:=⟨_,aEG (by omega)⟩
 have i12:((i:Int)<12)=True:=eq_true (by omega)
 have hpz:(i*2≤23)=True:=eq_true (by omega)
 have hp24:(i*2+2≤24)=True:=eq_true (by omega)
 have hpl:(Cj L).length=24:=by rw[Be];omega
 obtain⟨a,b⟩:=y
 have htk:=aAD L i a b hy
 have hm:aCS L x=(b==x.opn&&(!x.good||a==0)):=by
  unfold aCS
  rw[hi,show((i:Nat):Int).toNat=i from rfl,hy]
 rw[hm,hi]
 cases q1:(b==x.opn)with
 |false=>
  have q1':(b !=x.opn)=true:=by simp[bne,q1]
  (refine ce Tryz.func90 ?_;simp only[Tryz.f90];(have hb:=trivial;with_reducible repeat' (first|simp only[hb,Vc.down,seval,a05.down,aDM,q1',i12,hpz,hp24,hpl,htk,Dx]|refine Au ?_ ?_<;>intro hb|refine fd ?_|fail)))
 |true=>
  have q1':(b !=x.opn)=false:=by simp[bne,q1]
  cases q2:x.good with
  |false=>
   (refine ce Tryz.func90 ?_;simp only[Tryz.f90];(have hb:=trivial;with_reducible repeat' (first|simp only[hb,Vc.down,seval,a05.down,aDM,q1',q2,i12,hpz,hp24,hpl,htk,Dx]|refine Au ?_ ?_<;>intro hb|refine fd ?_|fail)))
  |true=>
   cases q3:(a==0)with
   |false=>
    have q3':(a !=0)=true:=by simp[bne,q3]
    (refine ce Tryz.func90 ?_;simp only[Tryz.f90];(have hb:=trivial;with_reducible repeat' (first|simp only[hb,Vc.down,seval,a05.down,aDM,q1',q2,q3,q3',i12,hpz,hp24,hpl,htk,Dx]|refine Au ?_ ?_<;>intro hb|refine fd ?_|fail)))
   |true=>
    have q3':(a !=0)=false:=by simp[bne,q3]
    (refine ce Tryz.func90 ?_;simp only[Tryz.f90];(have hb:=trivial;with_reducible repeat' (first|simp only[hb,Vc.down,seval,a05.down,aDM,q1',q2,q3,q3',i12,hpz,hp24,hpl,htk,Dx]|refine Au ?_ ?_<;>intro hb|refine fd ?_|fail)))
theorem aZC{l:List Ep}{nn:Bool}{g:Nat}{lq:List (Int × Bool)}{p:Ep→Bool}(hp:∀x∈l,Ef.call (.fn g) (.agg [.int .i64 x.part,.bool x.opn,.bool x.good]::[.ptr 0 0 0]) [.live 24 true false [Cj lq]]=some (.ret (.bool (p x)),[.live 24 true false [Cj lq]]))(hl:l.length≤maxLen):
 Ef.call (.fn 37) [Bt 3 true nn (l.map Ep.cells),.func (.func g) [] [.ptr 0 0 0]] [.live 24 true false [Cj lq]]=some (.ret (.int .i64 (idx p l 0)),[.live 24 true false [Cj lq]]):=by
 (refine ce Tryz.func37 ?_;simp only[Tryz.f37];(have hb:=trivial;with_reducible repeat' (first|simp only[hb,Vc.down,seval,aZR.down,ad8]|refine Au ?_ ?_<;>intro hb|refine fd ?_|fail)))
 refine Ie (lst 19 l (fun i (s:Int) t h=>s=i∧h=[.live 24 true false [Cj lq]]∧t 0=Bt 3 true nn (l.map Ep.cells)∧t 1=.func (.func g) [] [.ptr 0 0 0]∧t 7=.int .i64 l.length∧t 8=.int .i64 i)
  (fun rest s=>idx p rest s) (fun r e t h=>h=[.live 24 true false [Cj lq]]∧((e=.exit 0∧r= -1)∨(e=.ret∧t 4=.int .i64 r))) ?_ ?_ 0 _ _ ?_) (fun e t h hk=>?_)
 ·rintro s t h Q' kQ ⟨rfl,rfl,h0,h1,h7,h8⟩
  (have hb:=trivial;with_reducible repeat' (first|simp only[hb,Vc.down,seval,aZR.down,h0,h1,h7,h8,azO,decide_false]|refine Au ?_ ?_<;>intro hb|refine fd ?_|fail))
  exact kQ _ _ _ ⟨rfl,.inl ⟨rfl,rfl⟩⟩
 ·rintro x rest i s t h J Q' kJ kQ hx hi ⟨rfl,rfl,h0,h1,h7,h8⟩
  have hpx:=hp x (aHN hx)
  have hd:decide ((i:Int)<(l.length:Int))=true:=by simpa using hi
  (have hb:=trivial;with_reducible repeat' (first|simp only[hb,Vc.down,seval,aZR.down,h0,h1,h7,h8,hd,hx,Ep.cells,hpx,Dj hi hl]|refine Au ?_ ?_<;>intro hb|refine fd ?_|fail))
  ·exact kQ _ _ _ ⟨rfl,.inr ⟨rfl,by simp[up,idx,hb]⟩⟩
  ·exact Bn (kJ _ _ (i+1) ⟨by simp,rfl,by simp[up,h0],by simp[up,h1],by simp[up,h7],by simp[up]⟩ (by simp[idx,hb]))
 ·exact⟨rfl,rfl,by simp[up,ent],by simp[up,ent],by simp[up],by simp[up]⟩
 ·obtain⟨rfl,⟨rfl,hi⟩|⟨rfl,hi⟩⟩:=hk
  ·(have hb:=trivial;with_reducible repeat' (first|simp only[hb,Vc.down,seval,aZR.down]|refine Au ?_ ?_<;>intro hb|refine fd ?_|fail))
   rw[hi]
  ·(have hb:=trivial;with_reducible repeat' (first|simp only[hb,Vc.down,seval,aZR.down,hi]|refine Au ?_ ?_<;>intro hb|refine fd ?_|fail))
theorem aSZ{l:List Ep}{nn:Bool}{g:Nat}{lq:List (Int × Bool)}{p:Ep→Bool}(hp:∀x∈l,Ef.call (.fn g) (.agg [.int .i64 x.part,.bool x.opn,.bool x.good]::[.ptr 0 0 0]) [.live 24 true false [Cj lq]]=some (.ret (.bool (p x)),[.live 24 true false [Cj lq]]))(hl:l.length≤maxLen):
 Ef.call (.fn 89) [Bt 3 true nn (l.map Ep.cells),.func (.func g) [] [.ptr 0 0 0]] [.live 24 true false [Cj lq]]=some (.ret (.bool (l.any p)),[.live 24 true false [Cj lq]]):=by
 (refine ce Tryz.func89 ?_;simp only[Tryz.f89];(have hb:=trivial;with_reducible repeat' (first|simp only[hb,Vc.down,seval,aZC hp hl,aJP p l 0 (Int.le_refl 0)]|refine Au ?_ ?_<;>intro hb|refine fd ?_|fail)))
theorem bcY{L:List (Int × Bool)}(hL:L.length=12)(l:List Ep)(nn:Bool)(hl:l.length≤maxLen)(h:∀x∈l,0≤x.part∧x.part<12):Ef.call (.fn 66) [.agg (Cj L),Bt 3 true nn (l.map Ep.cells)] []=some (.ret (.bool (aEA L l)),[]):=by
 have hcM:=aSZ (lq:=L) (l:=l) (nn:=nn) (g:=90) (p:=fun x=> !aCS L x) (fun x hx=>a8R hL x (h x hx).1 (h x hx).2) hl
 have hpl:(Cj L).length=24:=by rw[Be];omega
 have hf1:=Gh L
 have hf2:=Gj L
 have htk:=aoR (l:=Cj L) (i:=24) (by omega)
 have q1:aEA L l= !(l.any fun x=> !aCS L x):=List.all_eq_not_any_not
 rw[q1]
 generalize(l.any fun x=> !aCS L x)=c4 at *
 (refine ce Tryz.func66 ?_;simp only[Tryz.f66];(have hb:=trivial;with_reducible repeat' (first|simp only[hb,Vc.down,seval,hcM,hpl,hf1,hf2,htk,ad8]|refine Au ?_ ?_<;>intro hb|refine fd ?_|fail)))
def Fp(n:Int):Option Ep→List Ep→Bool
 |_,[]=>true
 |none,x::l=>Ht x.part 0 n&&Fp n (some x) l
 |some y,x::l=>Ht x.part 0 n&& !decide (x.part≤y.part)&&Fp n (some x) l
def aoP(w:Ah)(l:List Ep):Bool:=Fp (IntKind.i64.wrap ((w.parts.length:Int)-1)) none l
theorem a9R(w:Ah)(l:List Ep)(nn:Bool)(hl:l.length≤maxLen):Ef.call (.fn 35) [.agg [.int .i64 w.rooms,.int .i64 w.need,Bt 9 true w.nn (w.parts.map Ac.cells)],Bt 3 true nn (l.map Ep.cells)] []=some (.ret (.bool (aoP w l)),[]):=by
 obtain⟨ans,hans⟩:∃a,aoP w l=a:=⟨_,rfl⟩
 rw[hans]
 unfold aoP at hans
 generalize hn:IntKind.i64.wrap ((w.parts.length:Int)-1)=n at *
 refine ce Tryz.func35 ?_
 simp only[Tryz.f35]
 (have hb:=trivial;with_reducible repeat' (first|simp only[hb,Vc.down,seval,aN1.down,ad8]|refine Au ?_ ?_<;>intro hb|refine fd ?_|fail))
 refine Ie (lst 38 l (fun i (y:Option Ep) t h=>t 1=Bt 3 true nn (l.map Ep.cells)∧t 2=.ptr 0 0 0∧t 7=Bt 3 true nn (l.map Ep.cells)∧t 8=.int .i64 (l.length:Nat)∧t 9=.int .i64 (i:Int)∧(∃fl x,h[0]?=some (.live 3 fl x [[.int .i64 w.rooms,.int .i64 w.need,Bt 9 true w.nn (w.parts.map Ac.cells)]]))∧((i=0∧y=none)∨∃z j,i=j+1∧l[j]?=some z∧y=some z)) (fun rest y=>Fp n y rest)
  (fun r e t h=>(e=.exit 0∧r=true)∨(e=.ret∧r=false∧t 4=.bool false)) ?_ ?_ none _ _ ?_) (fun e t h hk=>?_)
 ·rintro y t h Q' kQ ⟨g1,g2,g7,g8,g9,hB,hy⟩
  (have hb:=trivial;with_reducible repeat' (first|simp only[hb,Vc.down,seval,aN1.down,g8,g9,azO,decide_false]|refine Au ?_ ?_<;>intro hb|refine fd ?_|fail))
  exact kQ _ _ _ (.inl ⟨rfl,by cases y<;>rfl⟩)
 ·rintro x rest i y t h J Q' kJ kQ hx hi ⟨g1,g2,g7,g8,g9,⟨fl,xx,hB⟩,hy⟩
  have hdd:decide ((i:Int)<(l.length:Int))=true:=decide_eq_true (by omega)
  have hww:=Dj hi hl
  have hB2:=Aj hB
  have hI:=aC1 x.part 0 n
  have hxw:(l.map Ep.cells)[i]?=some x.cells:=by rw[aHP,hx];rfl
  cases c1:Ht x.part 0 n with
  |false=>
   rw[c1]at hI
   have hf:Fp n y (x::rest)=false:=by cases y<;>simp[Fp,c1]
   (have hb:=trivial;with_reducible repeat' (first|simp only[hb,Vc.down,seval,aN1.down,g1,g2,g7,g8,g9,hdd,hww,hx,hB,hB2,hn,hI,Ep.cells,ad8]|refine Au ?_ ?_<;>intro hb|refine fd ?_|fail))
   exact kQ _ _ _ (.inr ⟨rfl,hf,by simp[up]⟩)
  |true=>
   rw[c1]at hI
   rcases hy with⟨rfl,rfl⟩|⟨z,j,rfl,hz,rfl⟩
   ·have h00:decide ((0:Int)>0)=false:=rfl
    simp only[aL1]at hdd g9
    have hf:Fp n none (x::rest)=Fp n (some x) rest:=by simp[Fp,c1]
    (have hb:=trivial;with_reducible repeat' (first|simp only[hb,Vc.down,seval,aN1.down,g1,g2,g7,g8,g9,hdd,hww,hx,hB,hB2,hn,hI,h00,Ep.cells,ad8]|refine Au ?_ ?_<;>intro hb|refine fd ?_|fail))
    exact Bn (kJ _ _ (some x) ⟨by simp[up,g1],by simp[up,g2],by simp[up,g7],by simp[up,g8],by simp[up],⟨fl,xx,hB2 _⟩,.inr ⟨x,0,rfl,hx,rfl⟩⟩ hf.symm)
   ·have h00:decide (((j+1:Nat):Int)>0)=true:=decide_eq_true (by omega)
    have hw1:IntKind.i64.wrap (((j+1:Nat):Int)-1)=(j:Int):=by rw[Ez (by unfold maxLen at hl;omega) (by unfold maxLen at hl;omega)];omega
    have hjl:((j:Int)<(l.length:Int))=True:=eq_true (by omega)
    cases c2:decide (x.part≤z.part)with
    |false=>
     have hf:Fp n (some z) (x::rest)=Fp n (some x) rest:=by simp only[Fp,c1,c2];rfl
     (have hb:=trivial;with_reducible repeat' (first|simp only[hb,Vc.down,seval,aN1.down,g1,g2,g7,g8,g9,hdd,hww,hx,hz,hB,hB2,hn,hI,h00,hw1,hjl,c2,Ep.cells,ad8]|refine Au ?_ ?_<;>intro hb|refine fd ?_|fail))
     exact Bn (kJ _ _ (some x) ⟨by simp[up,g1],by simp[up,g2],by simp[up,g7],by simp[up,g8],by simp[up];omega,⟨fl,xx,hB2 _⟩,.inr ⟨x,j+1,rfl,hx,rfl⟩⟩ hf.symm)
    |true=>
     have hf:Fp n (some z) (x::rest)=false:=by simp only[Fp,c1,c2];rfl
     (have hb:=trivial;with_reducible repeat' (first|simp only[hb,Vc.down,seval,aN1.down,g1,g2,g7,g8,g9,hdd,hww,hx,hz,hB,hB2,hn,hI,h00,hw1,hjl,c2,Ep.cells,ad8]|refine Au ?_ ?_<;>intro hb|refine fd ?_|fail))
     exact kQ _ _ _ (.inr ⟨rfl,hf,by simp[up]⟩)
 ·exact⟨by simp[up,ent],by simp[up],by simp[up],by simp[up],by simp[up],⟨_,_,rfl⟩,.inl ⟨rfl,rfl⟩⟩
 rw[hans]at hk
 rcases hk with⟨rfl,rfl⟩|⟨rfl,rfl,g4⟩
 ·(have hb:=trivial;with_reducible repeat' (first|simp only[hb,Vc.down,seval,aN1.down]|refine Au ?_ ?_<;>intro hb|refine fd ?_|fail))
 ·(have hb:=trivial;with_reducible repeat' (first|simp only[hb,Vc.down,seval,aN1.down,g4]|refine Au ?_ ?_<;>intro hb|refine fd ?_|fail))
def cod(L:List (Int × Bool)):Nat:=L.foldr (fun x a=>2*x.1.toNat+x.2.toNat+6*a) 0
theorem aGU(x:Int × Bool)(L:List (Int × Bool)):cod (x::L)=2*x.1.toNat+x.2.toNat+6*cod L:=rfl
theorem a0H(b:Bool):b.toNat≤1:=by cases b<;>decide
theorem a6M:∀a b:Bool,a.toNat=b.toNat→a=b:=by decide
theorem aZW:∀{L:List (Int × Bool)},(∀x∈L,0≤x.1∧x.1≤2)→cod L<6 ^ L.length
 | [],_=>by decide
 |x::L,h=>by
  have ih:=aZW (L:=L) fun y hy=>h y (by simp[hy])
  have hx:=h x (by simp)
  have hb:=a0H x.2
  rw[aGU,aoS,Nat.pow_succ]
  omega
theorem aRC:∀{L M:List (Int × Bool)},L.length=M.length→(∀x∈L,0≤x.1∧x.1≤2)→(∀x∈M,0≤x.1∧x.1≤2)→cod L=cod M→L=M
 | [],[],_,_,_,_=>rfl
 | [],_::_,h,_,_,_=>by simp at h
 |_::_,[],h,_,_,_=>by simp at h
 |x::L,y::M,hl,h1,h2,e=>by
  rw[aGU,aGU]at e
  have hx:=h1 x (by simp)
  have hy:=h2 y (by simp)
  have bx:=a0H x.2
  have by':=a0H y.2
  have e1:x.1=y.1:=by omega
  have e2:x.2=y.2:=a6M _ _ (by omega)
  have e3:cod L=cod M:=by omega
  have e4:=aRC (L:=L) (M:=M) (by simpa using hl) (fun z hz=>h1 z (by simp[hz])) (fun z hz=>h2 z (by simp[hz])) e3
  rw[e4,show x=y from Prod.ext e1 e2]
structure InU(n:Nat)(s0 s:St):Prop where
 l12:s.1.length=12
 dg:∀x∈s.1,0≤x.1∧x.1≤2
 tl:s.1.drop n=s0.1.drop n
 fl:s.2≤s0.2
theorem aH4{n:Nat}{s0:St}(hn:n≤6)(h3:s0.2≤3)(L:List St)(hd:L.Nodup)(h:∀s∈L,InU n s0 s):L.length≤186624:=by
 have hpow:6 ^ n≤46656:=Nat.le_trans (Nat.pow_le_pow_right (by decide) hn) (by decide)
 have tk:∀s∈L,(s.1.take n).length=n∧∀x∈s.1.take n,0≤x.1∧x.1≤2:=fun s hs=>⟨by rw[List.length_take,(h s hs).l12];omega,fun x hx=>(h s hs).dg x (List.mem_of_mem_take hx)⟩
 have inj:(L.map fun s=>cod (s.1.take n)*4+s.2).Nodup:=by
  rw[List.nodup_iff_pairwise_ne,List.pairwise_map]
  refine List.Pairwise.imp_of_mem (R:=fun a b=>a≠b) ?_ hd
  intro a b ha hb hab e
  have e:cod (a.1.take n)*4+a.2=cod (b.1.take n)*4+b.2:=e
  have fa:=(h a ha).fl
  have fb:=(h b hb).fl
  have e1:cod (a.1.take n)=cod (b.1.take n):=by omega
  have e2:a.2=b.2:=by omega
  have e3:=aRC ((tk a ha).1.trans (tk b hb).1.symm) (tk a ha).2 (tk b hb).2 e1
  have e4:a.1=b.1:=by rw[←aL7 n a.1,←aL7 n b.1,e3,(h a ha).tl,(h b hb).tl]
  exact hab (Prod.ext e4 e2)
 have:=Snake.nodup_sub (m:=List.range 186624) inj fun x hx=>by
  obtain⟨s,hs,rfl⟩:=List.mem_map.1 hx
  have:=aZW (tk s hs).2
  rw[(tk s hs).1]at this
  have hf:=(h s hs).fl
  rw[aNR]
  show cod (s.1.take n)*4+s.2<186624
  omega
 rw[ad8,List.length_range]at this
 exact this
theorem aQR{n:Nat}{s0 s:St}(h:InU n s0 s){i:Nat}(hi:i<n){y:Int × Bool}(hy:0≤y.1∧y.1≤2){f:Nat}(hf:f≤s.2):InU n s0 (s.1.set i y,f):=
 ⟨by simpa using h.l12,fun x hx=>by
   rcases List.mem_or_eq_of_mem_set hx with hx|rfl
   ·exact h.dg x hx
   ·exact hy,by rw[List.drop_set_of_lt hi];exact h.tl,Nat.le_trans hf h.fl⟩
structure aVT(w:Ah)(N:Nat)(s:St)(o:Jr)(p:Ac)(x:Int × Bool):Prop where
 k4:o.k=1∨o.k=2∨o.k=3∨o.k=4
 hp:w.parts[o.i]?=some p
 hx:s.1[o.i]?=some x
 can:am5 p x o.k=true
 safe:Ll w N s.1 o.k o.i true x=true
 c:o.c=aAY p o.k
 to:o.to=toF s.1 s.2 o.k o.i x
theorem Pz{w:Ah}{N:Nat}{s:St}{k:Int}(hk:k=1∨k=2∨k=3∨k=4){i:Nat}{o:Jr}:ay7 w N s k i=some o↔o.k=k∧o.i=i∧∃p x,aVT w N s o p x:=by
 constructor
 ·intro h
  unfold ay7 at h
  cases hp:w.parts[i]? with
  |none=>rw[hp]at h;cases h
  |some p=>
   cases hx:s.1[i]? with
   |none=>rw[hp,hx]at h;cases h
   |some x=>
    rw[hp,hx]at h
    simp only at h
    split at h
    ·rename_i hc
     simp only[aN3]at hc
     cases h
     exact⟨rfl,rfl,p,x,hk,hp,hx,hc.1,hc.2,rfl,rfl⟩
    ·cases h
 ·rintro⟨rfl,rfl,p,x,I⟩
  unfold ay7
  rw[I.hp,I.hx]
  simp only[I.can,I.safe,Bool.and_self,if_true]
  obtain⟨k,i,c,to⟩:=o
  have h1:=I.c
  have h2:=I.to
  simp only at h1 h2
  rw[h1,h2]
theorem La{w:Ah}{N:Nat}{s:St}{k:Int}(hk:k=1∨k=2∨k=3∨k=4){o:Jr}:o∈ai3 w N s k↔o.k=k∧∃p x,aVT w N s o p x:=by
 unfold ai3
 rw[List.mem_filterMap]
 constructor
 ·rintro⟨i,_,h⟩
  obtain⟨h1,_,h3⟩:=(Pz hk).1 h
  exact⟨h1,h3⟩
 ·rintro⟨h1,p,x,I⟩
  exact⟨o.i,aNR.2 (aN4.1 I.hp).1,(Pz hk).2 ⟨h1,rfl,p,x,I⟩⟩
theorem awJ{w:Ah}{N:Nat}{s:St}{o:Jr}:o∈Cm w N s↔∃p x,aVT w N s o p x:=by
 unfold Cm
 simp only[List.mem_append,La (k:=1) (by simp),La (k:=2) (by simp),La (k:=3) (by simp),La (k:=4) (by simp)]
 constructor
 ·rintro(⟨_,h⟩|⟨_,h⟩|⟨_,h⟩|⟨_,h⟩)<;>exact h
 ·rintro⟨p,x,I⟩
  rcases I.k4 with e|e|e|e
  ·exact .inl ⟨e,p,x,I⟩
  ·exact .inr (.inl ⟨e,p,x,I⟩)
  ·exact .inr (.inr (.inl ⟨e,p,x,I⟩))
  ·exact .inr (.inr (.inr ⟨e,p,x,I⟩))
theorem abJ{w:Ah}(h:Gl w=true){i:Nat}{p:Ac}(hp:w.parts[i]?=some p)(k:Int):1≤aAY p k∧aAY p k≤1000:=by
 have h:=aBB h hp
 simp only[Gx,Ht,aN3,decide_eq_true_eq]at h
 obtain⟨⟨_,a7⟩,a8⟩:=h
 unfold aAY
 split
 ·exact a7
 ·split
  ·exact a8
  ·decide
theorem aXL{k:Int}{b:Bool}{x:Int × Bool}(h:0≤x.1∧x.1≤2):0≤(Da k b x).1∧(Da k b x).1≤2:=by
 unfold Da
 split
 ·exact h
 ·split
  ·exact h
  ·split
   ·split<;>exact⟨by simp,by simp⟩
   ·exact⟨by simp,by simp⟩
theorem a47(L:List (Int × Bool))(f:Nat)(k:Int)(i:Nat)(x:Int × Bool):toF L f k i x≠[]∧(toF L f k i x).length≤2:=by
 unfold toF;split<;>simp
theorem aP5{L:List (Int × Bool)}{f:Nat}{k:Int}{i:Nat}{x:Int × Bool}{s:St}:s∈toF L f k i x↔s=(L.set i (Da k true x),f)∨(k=3∧0<f∧s=(L.set i (Da k false x),f-1)):=by
 unfold toF
 split
 ·rename_i h;simp[h.1,h.2]
 ·rename_i h
  rw[List.mem_singleton]
  constructor
  ·exact .inl
  ·rintro(h'|⟨a,b,_⟩)
   ·exact h'
   ·exact absurd ⟨a,b⟩ h
theorem aPY{w:Ah}{N:Nat}(hb:Gl w=true){s0 s:St}(h:InU w.parts.length s0 s){o:Jr}(ho:o∈Cm w N s):1≤o.c∧o.c≤1000∧o.to≠[]∧o.to.length≤2∧∀x∈o.to,InU w.parts.length s0 x:=by
 obtain⟨p,x,I⟩:=awJ.1 ho
 have hv:=abJ hb I.hp o.k
 have hl:=a47 s.1 s.2 o.k o.i x
 have hil:=(aN4.1 I.hp).1
 have hxd:=h.dg x (aHN I.hx)
 refine⟨by rw[I.c];exact hv.1,by rw[I.c];exact hv.2,by rw[I.to];exact hl.1,by rw[I.to];exact hl.2,fun y hy=>?_⟩
 rw[I.to]at hy
 rcases aP5.1 hy with rfl|⟨_,_,rfl⟩
 ·exact aQR h hil (aXL hxd) (aA5 _)
 ·exact aQR h hil (aXL hxd) (Nat.sub_le _ _)
theorem a79(w:Ah)(l:List Ep)(nn:Bool)(hl:l.length≤maxLen):Ef.call (.fn 33) [.agg [.int .i64 w.rooms,.int .i64 w.need,Bt 9 true w.nn (w.parts.map Ac.cells)],Bt 3 true nn (l.map Ep.cells)] []=some (.ret (.bool (aoP w l)),[]):=by
 obtain⟨ans,hans⟩:∃a,aoP w l=a:=⟨_,rfl⟩
 rw[hans]
 unfold aoP at hans
 have hI:=aXA w
 generalize hn:IntKind.i64.wrap ((w.parts.length:Int)-1)=n at *
 refine ce Tryz.func33 ?_
 simp only[Tryz.f33]
 (have hb:=trivial;with_reducible repeat' (first|simp only[hb,Vc.down,seval,aLW.down,ad8]|refine Au ?_ ?_<;>intro hb|refine fd ?_|fail))
 refine Ie (lst 38 l (fun i (y:Option Ep) t h=>t 1=Bt 3 true nn (l.map Ep.cells)∧t 2=.ptr 0 0 0∧t 5=.int .i64 (i:Int)∧(∃fl x,h[0]?=some (.live 3 fl x [[.int .i64 w.rooms,.int .i64 w.need,Bt 9 true w.nn (w.parts.map Ac.cells)]]))∧((i=0∧y=none)∨∃z j,i=j+1∧l[j]?=some z∧y=some z)) (fun rest y=>Fp n y rest)
  (fun r e t h=>(e=.exit 0∧r=true)∨(e=.ret∧r=false∧t 4=.bool false)) ?_ ?_ none _ _ ?_) (fun e t h hk=>?_)
 ·rintro y t h Q' kQ ⟨g1,g2,g5,hB,hy⟩
  (have hb:=trivial;with_reducible repeat' (first|simp only[hb,Vc.down,seval,aLW.down,g1,g5,azO,decide_false,ad8]|refine Au ?_ ?_<;>intro hb|refine fd ?_|fail))
  exact kQ _ _ _ (.inl ⟨rfl,by cases y<;>rfl⟩)
 ·rintro x rest i y t h J Q' kJ kQ hx hi ⟨g1,g2,g5,⟨fl,xx,hB⟩,hy⟩
  have hdd:decide ((i:Int)<(l.length:Int))=true:=decide_eq_true (by omega)
  have hii:((i:Int)<(l.length:Int))=True:=eq_true (by omega)
  have hww:=Dj hi hl
  have hB2:=Aj hB
  replace hI:=hI x.part
  have hxw:(l.map Ep.cells)[i]?=some x.cells:=by rw[aHP,hx];rfl
  cases c1:Ht x.part 0 n with
  |false=>
   rw[c1]at hI
   have hf:Fp n y (x::rest)=false:=by cases y<;>simp[Fp,c1]
   (have hb:=trivial;with_reducible repeat' (first|simp only[hb,Vc.down,seval,aLW.down,g1,g2,g5,hdd,hii,hww,hx,hB,hB2,hn,hI,Ep.cells,ad8]|refine Au ?_ ?_<;>intro hb|refine fd ?_|fail))
   exact kQ _ _ _ (.inr ⟨rfl,hf,by simp[up]⟩)
  |true=>
   rw[c1]at hI
   rcases hy with⟨rfl,rfl⟩|⟨z,j,rfl,hz,rfl⟩
   ·have h00:decide ((0:Int)>0)=false:=rfl
    have h01:decide ((0:Int)<0)=false:=rfl
    simp only[aL1]at hdd hii g5
    have hf:Fp n none (x::rest)=Fp n (some x) rest:=by simp[Fp,c1]
    (have hb:=trivial;with_reducible repeat' (first|simp only[hb,Vc.down,seval,aLW.down,g1,g2,g5,hdd,hii,hww,hx,hB,hB2,hn,hI,h00,h01,Ep.cells,ad8]|refine Au ?_ ?_<;>intro hb|refine fd ?_|fail))
    exact Bn (kJ _ _ (some x) ⟨by simp[up,g1],by simp[up,g2],by simp[up],⟨fl,xx,hB⟩,.inr ⟨x,0,rfl,hx,rfl⟩⟩ hf.symm)
   ·have h00:decide (((j+1:Nat):Int)>0)=true:=decide_eq_true (by omega)
    have h01:decide ((0:Int)<((j+1:Nat):Int))=true:=decide_eq_true (by omega)
    have hw1:IntKind.i64.wrap (((j+1:Nat):Int)-1)=(j:Int):=by rw[Ez (by unfold maxLen at hl;omega) (by unfold maxLen at hl;omega)];omega
    have hjl:((j:Int)<(l.length:Int))=True:=eq_true (by omega)
    cases c2:decide (x.part≤z.part)with
    |false=>
     have hf:Fp n (some z) (x::rest)=Fp n (some x) rest:=by simp only[Fp,c1,c2];rfl
     (have hb:=trivial;with_reducible repeat' (first|simp only[hb,Vc.down,seval,aLW.down,g1,g2,g5,hdd,hii,hww,hx,hz,hB,hB2,hn,hI,h00,h01,hw1,hjl,c2,Ep.cells,ad8]|refine Au ?_ ?_<;>intro hb|refine fd ?_|fail))
     exact Bn (kJ _ _ (some x) ⟨by simp[up,g1],by simp[up,g2],by simp[up];omega,⟨fl,xx,hB⟩,.inr ⟨x,j+1,rfl,hx,rfl⟩⟩ hf.symm)
    |true=>
     have hf:Fp n (some z) (x::rest)=false:=by simp only[Fp,c1,c2];rfl
     (have hb:=trivial;with_reducible repeat' (first|simp only[hb,Vc.down,seval,aLW.down,g1,g2,g5,hdd,hii,hww,hx,hz,hB,hB2,hn,hI,h00,h01,hw1,hjl,c2,Ep.cells,ad8]|refine Au ?_ ?_<;>intro hb|refine fd ?_|fail))
     exact kQ _ _ _ (.inr ⟨rfl,hf,by simp[up]⟩)
 ·exact⟨by simp[up,ent],by simp[up],by simp[up],⟨_,_,rfl⟩,.inl ⟨rfl,rfl⟩⟩
 rw[hans]at hk
 rcases hk with⟨rfl,rfl⟩|⟨rfl,rfl,g4⟩
 ·(have hb:=trivial;with_reducible repeat' (first|simp only[hb,Vc.down,seval,aLW.down]|refine Au ?_ ?_<;>intro hb|refine fd ?_|fail))
 ·(have hb:=trivial;with_reducible repeat' (first|simp only[hb,Vc.down,seval,aLW.down,g4]|refine Au ?_ ?_<;>intro hb|refine fd ?_|fail))
theorem bbA{w:Ah}(h12:w.parts.length≤12)(d:Int)(l:List Ep)(nn:Bool)(hl:l.length≤maxLen)(hp:∀x∈l,0≤x.part∧x.part<(w.parts.length:Int)):Ef.call (.fn 22) [.agg [.int .i64 w.rooms,.int .i64 w.need,Bt 9 true w.nn (w.parts.map Ac.cells)],.int .i64 d,Bt 3 true nn (l.map Ep.cells)] []=some (.ret (.bool (aEA (Ab w d) l)),[]):=by
 obtain⟨ans,hans⟩:∃a,aEA (Ab w d) l=a:=⟨_,rfl⟩
 rw[hans]
 unfold aEA at hans
 refine ce Tryz.func22 ?_
 simp only[Tryz.f22]
 (have hb:=trivial;with_reducible repeat' (first|simp only[hb,Vc.down,seval,aMW.down,ad8]|refine Au ?_ ?_<;>intro hb|refine fd ?_|fail))
 refine Ie (lst 45 l (fun i (_:Unit) t h=>t 1=.int .i64 d∧t 2=Bt 3 true nn (l.map Ep.cells)∧t 3=.ptr 0 0 0∧t 7=.int .i64 (i:Int)∧(∃fl x,h[0]?=some (.live 3 fl x [[.int .i64 w.rooms,.int .i64 w.need,Bt 9 true w.nn (w.parts.map Ac.cells)]]))) (fun rest _=>rest.all (aCS (Ab w d)))
  (fun r e t h=>(e=.exit 0∧r=true)∨(e=.ret∧r=false∧t 6=.bool false)) ?_ ?_ () _ _ ?_) (fun e t h hk=>?_)
 ·rintro _ t h Q' kQ ⟨g1,g2,g3,g7,hB⟩
  (have hb:=trivial;with_reducible repeat' (first|simp only[hb,Vc.down,seval,aMW.down,g2,g7,azO,decide_false,ad8]|refine Au ?_ ?_<;>intro hb|refine fd ?_|fail))
  exact kQ _ _ _ (.inl ⟨rfl,rfl⟩)
 ·rintro x rest i _ t h J Q' kJ kQ hx hi ⟨g1,g2,g3,g7,⟨fl,xx,hB⟩⟩
  have hdd:decide ((i:Int)<(l.length:Int))=true:=decide_eq_true (by omega)
  have hii:((i:Int)<(l.length:Int))=True:=eq_true (by omega)
  have hww:=Dj hi hl
  have hB2:=Aj hB
  have hl0:=Ap hB
  have hs0:aPG (h.length-1) 1 h.length=1001:=by unfold aPG;rw[if_neg (by omega)];omega
  have hsf:∀k,aPG (h.length-1) 1 (h.length+k)=k+1001:=fun k=>by unfold aPG;rw[if_neg (by omega)];omega
  obtain⟨q0,q1⟩:=hp x (aHN hx)
  have hxw:(l.map Ep.cells)[i]?=some x.cells:=by rw[aHP,hx];rfl
  obtain⟨j,hj⟩:∃j:Nat,x.part=(j:Int):=⟨x.part.toNat,by omega⟩
  obtain⟨p,hpj⟩:∃p,w.parts[j]?=some p:=⟨_,aEG (by omega)⟩
  have hjl:((j:Int)<(w.parts.length:Int))=True:=eq_true (by omega)
  have hC:=aNP p d
  have hm:aCS (Ab w d) x=(p.opn==x.opn&&(!x.good||Av p d==0)):=by
   unfold aCS
   rw[hj,show((j:Nat):Int).toNat=j from rfl,ay3 hpj]
  have hal:∀b,aCS (Ab w d) x=b→(x::rest).all (aCS (Ab w d))=(b&&rest.all (aCS (Ab w d))):=fun b hb=>by rw[List.all_cons,hb]
  rw[hm]at hal
  generalize Av p d=cc at *
  obtain⟨p1,p2,p3,p4,p5,p6,p7,p8,p9⟩:=p
  simp only[Ac.cells]at hC
  cases c1:(p4==x.opn)with
  |false=>
   have c1':(p4 !=x.opn)=true:=by simp[bne,c1]
   simp only[c1,aD5]at hal
   (have hb:=trivial;with_reducible repeat' (first|simp only[hb,Vc.down,seval,aMW.down,g1,g2,g3,g7,hdd,hii,hww,hx,hj,hpj,hjl,hB,hB2,hC,aDM,c1',Ep.cells,Ac.cells,ad8]|refine Au ?_ ?_<;>intro hb|((refine aJC (h.length-1) 1 ?_ ?_);(simp (discharger:=decide) only[aAG,ahD,awL,ay8,Nx,az9,aAK,az1,Ob,am0,aoS,apA,hs0,hsf];kernel_rfl);intro _)|refine fdq ?_|fail))
   exact kQ _ _ _ (.inr ⟨rfl,(hal _ rfl).trans (aD5 _),by simp[up]⟩)
  |true=>
   have c1':(p4 !=x.opn)=false:=by simp[bne,c1]
   cases c2:x.good with
   |false=>
    simp only[c1,c2,Bool.not_false,Bool.true_or,Bool.and_self]at hal
    (have hb:=trivial;with_reducible repeat' (first|simp only[hb,Vc.down,seval,aMW.down,g1,g2,g3,g7,hdd,hii,hww,hx,hj,hpj,hjl,hB,hB2,hC,aDM,c1',c2,Ep.cells,Ac.cells,ad8]|refine Au ?_ ?_<;>intro hb|((refine aJC (h.length-1) 1 ?_ ?_);(simp (discharger:=decide) only[aAG,ahD,awL,ay8,Nx,az9,aAK,az1,Ob,am0,aoS,apA,hs0,hsf];kernel_rfl);intro _)|refine fdq ?_|fail))
    exact Bn (kJ _ _ () ⟨by simp[up,g1],by simp[up,g2],by simp[up,g3],by simp[up],⟨fl,xx,hB2 _⟩⟩ ((hal _ rfl).trans (azV _)).symm)
   |true=>
    cases c3:(cc==0)with
    |false=>
     have c3':(cc !=0)=true:=by simp[bne,c3]
     simp only[c1,c2,c3,Bool.not_true,Bool.false_or,azV]at hal
     (have hb:=trivial;with_reducible repeat' (first|simp only[hb,Vc.down,seval,aMW.down,g1,g2,g3,g7,hdd,hii,hww,hx,hj,hpj,hjl,hB,hB2,hC,aDM,c1',c2,c3,c3',Ep.cells,Ac.cells,ad8]|refine Au ?_ ?_<;>intro hb|((refine aJC (h.length-1) 1 ?_ ?_);(simp (discharger:=decide) only[aAG,ahD,awL,ay8,Nx,az9,aAK,az1,Ob,am0,aoS,apA,hs0,hsf];kernel_rfl);intro _)|refine fdq ?_|fail))
     exact kQ _ _ _ (.inr ⟨rfl,(hal _ rfl).trans (aD5 _),by simp[up]⟩)
    |true=>
     have c3':(cc !=0)=false:=by simp[bne,c3]
     simp only[c1,c2,c3,Bool.not_true,Bool.false_or,azV]at hal
     (have hb:=trivial;with_reducible repeat' (first|simp only[hb,Vc.down,seval,aMW.down,g1,g2,g3,g7,hdd,hii,hww,hx,hj,hpj,hjl,hB,hB2,hC,aDM,c1',c2,c3,c3',Ep.cells,Ac.cells,ad8]|refine Au ?_ ?_<;>intro hb|((refine aJC (h.length-1) 1 ?_ ?_);(simp (discharger:=decide) only[aAG,ahD,awL,ay8,Nx,az9,aAK,az1,Ob,am0,aoS,apA,hs0,hsf];kernel_rfl);intro _)|refine fdq ?_|fail))
     exact Bn (kJ _ _ () ⟨by simp[up,g1],by simp[up,g2],by simp[up,g3],by simp[up],⟨fl,xx,hB2 _⟩⟩ ((hal _ rfl).trans (azV _)).symm)
 ·exact⟨by simp[up,ent],by simp[up,ent],by simp[up],by simp[up],⟨_,_,rfl⟩⟩
 rw[hans]at hk
 rcases hk with⟨rfl,rfl⟩|⟨rfl,rfl,g4⟩
 ·(have hb:=trivial;with_reducible repeat' (first|simp only[hb,Vc.down,seval,aMW.down]|refine Au ?_ ?_<;>intro hb|refine fd ?_|fail))
 ·(have hb:=trivial;with_reducible repeat' (first|simp only[hb,Vc.down,seval,aMW.down,g4]|refine Au ?_ ?_<;>intro hb|refine fd ?_|fail))
def Kx(w:Ah)(d:Int)(l:List Ep)(f:Int):Int:=if decide ((w.parts.length:Int)>6)=true then 3 else if(!Gl w|| !Nl d|| !aoP w l||decide (f<0)||decide (f>3))=true then 2 else 0
theorem aUF(w:Ah)(hs:w.small)(d:Int)(l:List Ep)(nn:Bool)(hl:l.length≤maxLen)(f:Int):Ef.call (.fn 11) [.agg [.int .i64 w.rooms,.int .i64 w.need,Bt 9 true w.nn (w.parts.map Ac.cells)],.int .i64 d,Bt 3 true nn (l.map Ep.cells),.int .i64 f] []=some (.ret (.int .i64 (Kx w d l f)),[]):=by
 have h1:=aYV w hs
 have h2:=aWU d
 have h3:=a79 w l nn hl
 unfold Kx
 cases c0:decide ((w.parts.length:Int)>6)with
 |true=>
  rw[if_pos rfl]
  (refine ce Tryz.func11 ?_;simp only[Tryz.f11];(have hb:=trivial;with_reducible repeat' (first|simp only[hb,Vc.down,seval,aOB.down,c0,ad8]|refine Au ?_ ?_<;>intro hb|refine fd ?_|fail)))
 |false=>
  rw[if_neg (by simp)]
  generalize Gl w=b1 at *
  generalize Nl d=b2 at *
  generalize aoP w l=b3 at *
  cases b1 with
  |false=>
   rw[if_pos (by simp)]
   (refine ce Tryz.func11 ?_;simp only[Tryz.f11];(have hb:=trivial;with_reducible repeat' (first|simp only[hb,Vc.down,seval,aOB.down,c0,h1,ad8]|refine Au ?_ ?_<;>intro hb|refine fd ?_|fail)))
  |true=>
   cases b2 with
   |false=>
    rw[if_pos (by simp)]
    (refine ce Tryz.func11 ?_;simp only[Tryz.f11];(have hb:=trivial;with_reducible repeat' (first|simp only[hb,Vc.down,seval,aOB.down,c0,h1,h2,ad8]|refine Au ?_ ?_<;>intro hb|refine fd ?_|fail)))
   |true=>
    cases b3 with
    |false=>
     rw[if_pos (by simp)]
     (refine ce Tryz.func11 ?_;simp only[Tryz.f11];(have hb:=trivial;with_reducible repeat' (first|simp only[hb,Vc.down,seval,aOB.down,c0,h1,h2,h3,ad8]|refine Au ?_ ?_<;>intro hb|refine fd ?_|fail)))
    |true=>
     cases b4:decide (f<0)with
     |true=>
      rw[if_pos (by simp)]
      (refine ce Tryz.func11 ?_;simp only[Tryz.f11];(have hb:=trivial;with_reducible repeat' (first|simp only[hb,Vc.down,seval,aOB.down,c0,h1,h2,h3,b4,ad8]|refine Au ?_ ?_<;>intro hb|refine fd ?_|fail)))
     |false=>
      cases b5:decide (f>3)with
      |true=>
       rw[if_pos (by simp)]
       (refine ce Tryz.func11 ?_;simp only[Tryz.f11];(have hb:=trivial;with_reducible repeat' (first|simp only[hb,Vc.down,seval,aOB.down,c0,h1,h2,h3,b4,b5,ad8]|refine Au ?_ ?_<;>intro hb|refine fd ?_|fail)))
      |false=>
       rw[if_neg (by simp)]
       (refine ce Tryz.func11 ?_;simp only[Tryz.f11];(have hb:=trivial;with_reducible repeat' (first|simp only[hb,Vc.down,seval,aOB.down,c0,h1,h2,h3,b4,b5,ad8]|refine Au ?_ ?_<;>intro hb|refine fd ?_|fail)))
end Go.Proofs.YtcncggaobhbomaaGreatDoor
