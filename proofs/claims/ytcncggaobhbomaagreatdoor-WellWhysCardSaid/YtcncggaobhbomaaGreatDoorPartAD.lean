/- The functions of the layer, walked. -/
import Derived.Test.YtcncggaobhbomaaGreatDoorLibE
import Derived.Test.YtcncggaobhbomaaGreatDoorPartAC
import Derived.Test.YtcncggaobhbomaaGreatDoorLibF
open List renaming length_map→abK,take→abL,take_of_length_le→abX,length_cons→adC,length_nil→adD,map_cons→agI,map_nil→ah1,mem_of_getElem?→ai5,getElem?_eq_some_iff→aoS,getElem?_eq_getElem→aoV,getElem?_append_right→awN,getElem?_append_left→az0,take_append_of_le_length→aA3,getElem?_map→aBV,drop→aDG,append_assoc→aD2,map_append→aEQ,getElem?_set_self→aHY,getElem?_set_ne→aIE,set_append_left→aJN,length_append→aJQ,length_replicate→aJ4,append_nil→aLF,drop_eq_nil_of_le→aNF,ext_getElem?→aOA,getElem?_zipWith→aOB,getElem?_of_mem→aOK,take_append_drop→aQD,mem_range→aQH
open Nat renaming le_refl→af5,add_sub_cancel_left→aFV
open Int renaming lt_irrefl→aoT,reduceEq→aDD,natCast_zero→aNO
open Bool renaming true_and→aoW,and_eq_true→azY,false_and→aBU,false_eq_true→aKO
open Option renaming map_some→aHX,toList_none→aLA,bind_eq_some_iff→aPZ,map_eq_some_iff→aQB,bind_some→aQC
set_option linter.unusedSimpArgs false
set_option linter.unusedVariables false
namespace Go.Proofs.YtcncggaobhbomaaGreatDoor
open Go.Ev Go Go.Ev.Net
set_option maxRecDepth 100000
set_option maxHeartbeats 16000000
def arY(w:Af)(d:Int)(x:Bool):CB:=.live 4 false x [[.int .i64 w.rooms,.int .i64 w.need,Be 9 true w.nn (w.parts.map Ab.cells),.int .i64 d]]
def aAF(w:Af)(N:Nat)(s:St):Nat→List Oc
 |0=>[]
 |i+1=>aAF w N s i++awP w N s ((i:Int)+1)
theorem bgN(w:Af)(N:Nat)(s:St):aAF w N s 4=Ec w N s:=by
 simp[aAF,Ec]
def aE3(w:Af)(N:Nat)(s:St)(k:Int)(j:Nat):List Oc:=(List.range j).filterMap (choF w N s k)
theorem aWE(w:Af)(N:Nat)(s:St)(k:Int)(j:Nat):aE3 w N s k (j+1)=aE3 w N s k j++(choF w N s k j).toList:=by
 unfold aE3
 rw[List.range_succ,List.filterMap_append]
 congr 1
theorem a5Y{H h:Aa}(k:Iw [] H h)(l:Aa):Iw [] H (h++l):=k.trans (Iw.app h l)
theorem _root_.Go.Ev.LLG.app{st lo:Nat}{ov:AV}{h:Aa}{rows Q:List (List AV)}{Ro:List Nat}(I:LLG st lo ov h rows Q Ro)(l:Aa):LLG st lo ov (h++l) rows Q Ro:=I.keep (by simp) fun b _ hb=>az0 hb
theorem aR8{st lo:Nat}{ov:AV}{h:Aa}{rows Q:List (List AV)}{Ro:List Nat}(I:LLG st lo ov h rows Q Ro)(l:Aa):kl 0 ov (h++l)=kl 0 ov h++l:=by
 unfold kl
 split
 ·rename_i a b r n
  have:=(I.dov _ _ _ _ rfl).2.2
  rw[aJN _ _ (by omega)]
 ·rfl
theorem kKl{H h:Aa}{st:Nat}{ov:AV}{rows Q:List (List AV)}{Ro:List Nat}(hK:Iw [] H h)(I:LLG st (H.length+1) ov h rows Q Ro)(l:Aa):Iw [] H (kl 0 ov h++l):=
 ⟨by rw[aJQ,awA];have:=hK.len;omega,fun b hb hn=>by
   rw[ai3 _ (by have:=hK.len;omega) fun a c r n e e2=>by have:=(I.dov a c r n e).1;omega]
   exact hK.same b hb hn⟩
theorem aVA{w:Af}{N:Nat}(hw:WOk w N)(h12:w.parts.length≤12)(d:Int){H:Aa}{lb:Nat}{wf:Bool}(hlb:H[lb]?=some (arY w d wf)){s:St}(hs:s.1.length=12)(hf3:s.2≤3):
 ShQ Dp 65 [.ptr lb 0 0,.agg (Db s)] H fun o G=>(∃v R,o=.ret v∧rd 6 (hf G) v=some (Be 4 false false ((Ec w N s).map Oc.cells),R)∧∀b∈R,H.length≤b)∧Iw [] H G:=by
 have hlen:=hw.len
 have hsl:=Mc hs
 have hsf:=Hu s
 have hsc:=Ix s
 have htk:abL 25 (Db s)=Db s:=abX (by omega)
 refine aRM rfl Tryz.func65 rfl rfl ?_
 simp only[Tryz.f65]
 (have hb:=trivial;with_reducible repeat' (first|simp only[hb,Vc.down,seval,aFA.down,hsl,hsf,hsc,htk,abK]|refine An ?_ ?_<;>intro hb|refine fd ?_|fail))
 refine Dy (lst 84 (List.replicate 4 ()) (fun i (_:Unit) t h=>t 0=.ptr lb 0 0∧t 3=.ptr H.length 0 0∧t 6=.int .i64 ((i:Int)+1)∧Iw [] H h∧(∃x,h[H.length]?=some (.live 25 true x [Db s]))∧∃rows Ro,LLG 4 (H.length+1) (t 5) h rows ((aAF w N s i).map Oc.cells) Ro∧rows.length≤12*i) (fun _ _=>())
  (fun _ e t h=>e=.exit 0∧Iw [] H h∧∃rows Ro,LLG 4 (H.length+1) (t 5) h rows ((aAF w N s 4).map Oc.cells) Ro) ?_ ?_ () _ _ ?_) (fun e t h hk=>?_)
 ·rintro _ t h Q' kQ ⟨g0,g3,g6,hK,hB,rows,Ro,hL,_⟩
  rw[aJ4]at g6 hL
  have h5:decide (((4:Nat):Int)+1≤4)=false:=rfl
  (have hb:=trivial;with_reducible repeat' (first|simp only[hb,Vc.down,seval,aFA.down,g6,h5]|refine An ?_ ?_<;>intro hb|refine fd ?_|fail))
  exact kQ _ _ _ ⟨rfl,hK,rows,Ro,by simpa [up]using hL⟩
 ·rintro _ rest i _ t h J Q' kJ kQ hx hi ⟨g0,g3,g6,hK,⟨x,hB⟩,rows,Ro,hL,hrl0⟩
  rw[aJ4]at hi
  obtain⟨k,hk⟩:∃k:Int,(i:Int)+1=k:=⟨_,rfl⟩
  have hk4:k=1∨k=2∨k=3∨k=4:=by omega
  rw[hk]at g6
  have h5:decide (k≤4)=true:=decide_eq_true (by omega)
  have hwk:IntKind.i64.wrap (k+1)=k+1:=Bf (by omega) (by omega)
  have hlh:h[lb]?=some (arY w d wf):=(hK.same lb (Ce hlb) (by simp)).trans hlb
  unfold arY at hlh
  (have hb:=trivial;with_reducible repeat' (first|simp only[hb,Vc.down,seval,aFA.down,g0,g3,g6,h5,hlh,abK]|refine An ?_ ?_<;>intro hb|refine fd ?_|fail))
  refine Dy (lst 84 w.parts (fun j (_:Unit) t h=>t 0=.ptr lb 0 0∧t 3=.ptr H.length 0 0∧t 6=.int .i64 k∧t 19=Be 9 true w.nn (w.parts.map Ab.cells)∧t 20=.int .i64 (w.parts.length:Nat)∧t 21=.int .i64 (j:Int)∧Iw [] H h∧(∃x,h[H.length]?=some (.live 25 true x [Db s]))∧∃rows Ro,LLG 4 (H.length+1) (t 5) h rows ((aAF w N s i++aE3 w N s k j).map Oc.cells) Ro∧rows.length≤12*i+j) (fun _ _=>())
   (fun _ e t h=>e=.exit 2∧t 0=.ptr lb 0 0∧t 3=.ptr H.length 0 0∧t 6=.int .i64 k∧Iw [] H h∧(∃x,h[H.length]?=some (.live 25 true x [Db s]))∧∃rows Ro,LLG 4 (H.length+1) (t 5) h rows ((aAF w N s i++awP w N s k).map Oc.cells) Ro∧rows.length≤12*i+w.parts.length) ?_ ?_ () _ _ ?_) (fun e t h hk'=>?_)
  ·rintro _ t h Q'' kQ ⟨g0,g3,g6,g19,g20,g21,hK,hB,rows,Ro,hL,hrl⟩
   (have hb:=trivial;with_reducible repeat' (first|simp only[hb,Vc.down,seval,aFA.down,g20,g21,aoT,decide_false]|refine An ?_ ?_<;>intro hb|refine fd ?_|fail))
   exact kQ _ _ _ ⟨rfl,by simp[up,g0],by simp[up,g3],by simp[up,g6],hK,hB,rows,Ro,by simp only[up];exact hL,hrl⟩
  ·rintro p rest j _ t h J' Q'' kJ' kQ' hx hj ⟨g0,g3,g6,g19,g20,g21,hK,⟨x,hB⟩,rows,Ro,hL,hrl⟩
   obtain⟨ov,g5⟩:∃ov,t 5=ov:=⟨_,rfl⟩
   rw[g5]at hL
   have hdd:decide ((j:Int)<(w.parts.length:Int))=true:=decide_eq_true (by omega)
   have hww:=Bv hj (by unfold maxLen;omega)
   obtain⟨y,hy⟩:∃y,s.1[j]?=some y:=⟨_,aoV (by omega)⟩
   have hC:=blM p y hk4
   have hS:=bgB hw h12 d hs hy hk4 true false
   have hcf:choF w N s k j=if(aB9 p y k&&Iy w N s.1 k j true y)=true then some ⟨k,j,awV p k,toF s.1 s.2 k j y⟩else none:=by
    unfold choF;rw[hx,hy]
   have hnx:=aWE w N s k j
   rw[hcf]at hnx
   have i12:((j:Int)<12)=True:=eq_true (by omega)
   have hpz:(j*2≤23)=True:=eq_true (by omega)
   have hpz2:(j*2≤24)=True:=eq_true (by omega)
   have hp25:(j*2+2≤25)=True:=eq_true (by omega)
   have st2:abL 2 (aDG (j*2) (Db s))=[.int .i64 y.1,.bool y.2]:=by
    unfold Db
    rw[List.drop_append_of_le_length (by rw[Cb];omega),aA3 (by rw[List.length_drop,Cb];omega)]
    obtain⟨a,b⟩:=y
    exact aCV s.1 j a b hy
   have st24:abL 24 (Db s)=Do s.1:=by
    unfold Db;rw[aA3 (by rw[Cb];omega),abX (by rw[Cb];omega)]
   have hB2:=Ai hB
   have hlh:h[lb]?=some (arY w d wf):=(hK.same lb (Ce hlb) (by simp)).trans hlb
   unfold arY at hlh
   have hlh2:=Ai hlh
   simp only[Ab.cells]at hC
   have f0:=Hf s.1
   have k0:=Hg s.1
   have v0:=aCL s.1
   have l0:=aCC s.1
   have r0:=am5 s.1
   have p0:=ao2 s.1
   have n0:=aGP s.1
   have i0:=aE5 s.1
   have hpl:(Do s.1).length=24:=by rw[Cb];omega
   cases cC:aB9 p y k with
   |false=>
    rw[cC]at hC hnx
    simp only[aBU,aKO,if_false,aLA,aLF]at hnx
    (have hb:=trivial;with_reducible repeat' (first|simp only[hb,Vc.down,seval,aFA.down,g0,g3,g6,g19,g20,g21,hdd,hww,hx,hB,hB2,hsl,hC,i12,hpz,hpz2,hp25,st2,st24,Gv,hlh,hlh2,Ab.cells,abK]|refine An ?_ ?_<;>intro hb|refine fd ?_|fail))
    exact Aq (kJ' _ _ () ⟨by simp[up,g0],by simp[up,g3],by simp[up,g6],by simp[up,g19],by simp[up,g20],by simp[up],a5Y hK _,⟨x,hB2 _⟩,rows,Ro,by rw[hnx];simp only[up];rw[g5];exact hL.app _,by omega⟩ rfl)
   |true=>
    rw[cC]at hC hnx
    simp only[aoW]at hnx
    cases cS:Iy w N s.1 k j true y with
    |false=>
     rw[cS]at hS hnx
     simp only[aKO,if_false,aLA,aLF]at hnx
     (have hb:=trivial;with_reducible repeat' (first|simp only[hb,Vc.down,seval,aFA.down,g0,g3,g6,g19,g20,g21,hdd,hww,hx,hB,hB2,hsl,hC,i12,hpz,hpz2,hp25,st2,st24,Gv,hlh,hlh2,Ab.cells,abK,hS,f0,k0,v0,l0,r0,p0,n0,i0,hpl]|refine An ?_ ?_<;>intro hb|refine fd ?_|fail))
     exact Aq (kJ' _ _ () ⟨by simp[up,g0],by simp[up,g3],by simp[up,g6],by simp[up,g19],by simp[up,g20],by simp[up],a5Y hK _,⟨x,hB2 _⟩,rows,Ro,by rw[hnx];simp only[up];rw[g5];exact hL.app _,by omega⟩ rfl)
    |true=>
     rw[cS]at hS hnx
     simp only[if_true,Option.toList_some]at hnx
     have hP:=a5V p hk4
     simp only[Ab.cells]at hP
     have hA:=aLW hs hy hk4 true
     have hs1:(s.1.set j (Dc k true y)).length=12:=by simpa using hs
     have f1:=Hf (s.1.set j (Dc k true y))
     have k1:=Hg (s.1.set j (Dc k true y))
     have p1:=ao2 (s.1.set j (Dc k true y))
     have r1:=am5 (s.1.set j (Dc k true y))
     have n1:=aGP (s.1.set j (Dc k true y))
     have i1:=aE5 (s.1.set j (Dc k true y))
     have hpl1:(Do (s.1.set j (Dc k true y))).length=24:=by rw[Cb];omega
     have stf:(Db s)[24]?=some (.int .i64 (s.2:Int)):=by
      unfold Db;rw[awN (by rw[Cb];omega),Cb,hs];rfl
     have b1:abL 25 (Do (s.1.set j (Dc k true y)))=Do (s.1.set j (Dc k true y)):=abX (by omega)
     have b2:∀z,abL 24 (Do (s.1.set j (Dc k true y))++[z])=Do (s.1.set j (Dc k true y)):=fun z=>by rw[aA3 (by omega),abX (by omega)]
     have b3:∀z,aDG 25 (Do (s.1.set j (Dc k true y))++[z])=[]:=fun z=>aNF (by simp;omega)
     obtain⟨s1,hs1e⟩:∃s1:St,(s.1.set j (Dc k true y),s.2)=s1:=⟨_,rfl⟩
     have hst1:Do (s.1.set j (Dc k true y))++[AV.int .i64 (s.2:Int)]=Db s1:=by rw[←hs1e];rfl
     have c1:=Ix s1
     have c2:=Hu s1
     have c3:(Db s1).length=25:=Mc (by rw[←hs1e];exact hs1)
     have c4:abL 25 (Db s1)=Db s1:=abX (by omega)
     have hHh:H.length<h.length:=As hB
     obtain⟨sf,hsf0,hsf1,hsf2⟩:∃sf:Nat→Nat,sf H.length=0∧sf h.length=10∧∀k,sf (h.length+k)=k+10:=⟨fun b=>if b=H.length then 0 else b-h.length+10,by simp,by show(if _ then _ else _)=_;rw[if_neg (by omega)];omega,fun k=>by show(if _ then _ else _)=_;rw[if_neg (by omega)];omega⟩
     have hap:=fun(q:Aa) (r:List AV)=>aTL hL.own (pre:=[]) rfl q r [] (by simp;omega)
     have hhp:=fun(q:Aa) (r:List (List AV)) (ba:Nat)=>aOL hL.own (pre:=[]) rfl q 4 false r ba
     simp only[List.nil_append,adC,aJQ,adD,List.length_set,Nat.reduceAdd]at hap hhp
     cases q3:(k==3)with
     |false=>
      (have hb:=trivial;with_reducible repeat' (first|simp only[hb,Vc.down,seval,aFA.down,g0,g3,g5,g6,g19,g20,g21,hdd,hww,hx,hB,hB2,hsl,hC,i12,hpz,hpz2,hp25,st2,st24,Gv,hlh,hlh2,Ab.cells,abK,hS,hap,hhp,f0,k0,v0,l0,r0,p0,n0,i0,hpl,hP,hA,f1,k1,p1,r1,n1,i1,hpl1,stf,q3,b1,b2,b3,hst1,c1,c2,c3,c4,af5]|refine An ?_ ?_<;>intro hb|((refine aFE (aER (sf) ?_) ?_);(simp (discharger:=decide) only[atB,aeG,agI,ah1,Nj,at6,as4,aq3,Nq,acZ,adC,adD,hsf0,hsf1,hsf2];kernel_rfl);intro _)|refine fdq ?_|fail))
      have hto:toF s.1 s.2 k j y=[s1]:=by
       unfold toF;rw[if_neg (by rintro⟨h3,_⟩;rw[h3]at q3;cases q3),hs1e]
      refine Aq (kJ' _ _ () ⟨by simp[up,g0],by simp[up,g3],by simp[up,g6],by simp[up,g19],by simp[up,g20],by simp[up],?_,⟨x,?_⟩,rows++[[.int .i64 k,.int .i64 (j:Int),.int .i64 (if k=3 then p.test else if k=4 then p.change else 1),.slr 25 (h.length+2) 0 1]],Ro++[h.length+2],?_,by simp;omega⟩ rfl)
      ·exact kKl hK hL _
      ·rw[ai3 _ hHh fun a b r n e e2=>by have:=(hL.dov a b r n e).1;omega];exact hB
      ·have hQ:(aAF w N s i++aE3 w N s k (j+1)).map Oc.cells=(aAF w N s i++aE3 w N s k j).map Oc.cells++[[.int .i64 k,.int .i64 (j:Int),.int .i64 (if k=3 then p.test else if k=4 then p.change else 1),.imm 25 true [Db s1]]]:=by
        rw[hnx,hto,←aD2,aEQ];rfl
       rw[hQ]
       have hsn:=hL.snoc (h':=h++[.live 9 true true [[.int .i64 p.one,.int .i64 p.other,.bool p.valve,.bool p.opn,.int .i64 p.tested,.int .i64 p.valid,.bool p.bad,.int .i64 p.test,.int .i64 p.change]],.live 2 true true [[.int .i64 k,.int .i64 (j:Int)]],.live 25 true false [Db s1],.live 4 false true [[.int .i64 k,.int .i64 (j:Int),.int .i64 (if k=3 then p.test else if k=4 then p.change else 1),.slr 25 (h.length+2) 0 1]]]) (by simp) (fun b _ hb=>az0 hb) (r:=[.int .i64 k,.int .i64 (j:Int),.int .i64 (if k=3 then p.test else if k=4 then p.change else 1),.slr 25 (h.length+2) 0 1]) (Gl (aAS ..) (Gl (aAS ..) (Gl (aAS ..) (Gl (aTE (rows:=[Db s1]) (by
        show((h++_)[h.length+2]?).bind Ax=_
        rw[awN (by omega),aFV];rfl) rfl) aoP)))) (by simp) (by omega) (.live 4 false false [[.int .i64 k,.int .i64 (j:Int),.int .i64 (if k=3 then p.test else if k=4 then p.change else 1),.slr 25 (h.length+2) 0 1]]) (m:=h.length+5) (n:=rows.length+1) (by simp) rfl
       rw[aR8 hL]at hsn
       simpa [up]using hsn
     |true=>
      have hk3:k=3:=by simpa using q3
      by_cases hf0:s.2=0
      ·have hgt:decide ((s.2:Int)>0)=false:=decide_eq_false (by omega)
       (have hb:=trivial;with_reducible repeat' (first|simp only[hb,Vc.down,seval,aFA.down,g0,g3,g5,g6,g19,g20,g21,hdd,hww,hx,hB,hB2,hsl,hC,i12,hpz,hpz2,hp25,st2,st24,Gv,hlh,hlh2,Ab.cells,abK,hS,hap,hhp,f0,k0,v0,l0,r0,p0,n0,i0,hpl,hP,hA,f1,k1,p1,r1,n1,i1,hpl1,stf,q3,hgt,b1,b2,b3,hst1,c1,c2,c3,c4,af5]|refine An ?_ ?_<;>intro hb|((refine aFE (aER (sf) ?_) ?_);(simp (discharger:=decide) only[atB,aeG,agI,ah1,Nj,at6,as4,aq3,Nq,acZ,adC,adD,hsf0,hsf1,hsf2];kernel_rfl);intro _)|refine fdq ?_|fail))
       have hto:toF s.1 s.2 k j y=[s1]:=by
        unfold toF;rw[if_neg (by rintro⟨_,h3⟩;omega),hs1e]
       refine Aq (kJ' _ _ () ⟨by simp[up,g0],by simp[up,g3],by simp[up,g6],by simp[up,g19],by simp[up,g20],by simp[up],?_,⟨x,?_⟩,rows++[[.int .i64 k,.int .i64 (j:Int),.int .i64 (if k=3 then p.test else if k=4 then p.change else 1),.slr 25 (h.length+2) 0 1]],Ro++[h.length+2],?_,by simp;omega⟩ rfl)
       ·exact kKl hK hL _
       ·rw[ai3 _ hHh fun a b r n e e2=>by have:=(hL.dov a b r n e).1;omega];exact hB
       ·have hQ:(aAF w N s i++aE3 w N s k (j+1)).map Oc.cells=(aAF w N s i++aE3 w N s k j).map Oc.cells++[[.int .i64 k,.int .i64 (j:Int),.int .i64 (if k=3 then p.test else if k=4 then p.change else 1),.imm 25 true [Db s1]]]:=by
         rw[hnx,hto,←aD2,aEQ];rfl
        rw[hQ]
        have hsn:=hL.snoc (h':=h++[.live 9 true true [[.int .i64 p.one,.int .i64 p.other,.bool p.valve,.bool p.opn,.int .i64 p.tested,.int .i64 p.valid,.bool p.bad,.int .i64 p.test,.int .i64 p.change]],.live 2 true true [[.int .i64 k,.int .i64 (j:Int)]],.live 25 true false [Db s1],.live 4 false true [[.int .i64 k,.int .i64 (j:Int),.int .i64 (if k=3 then p.test else if k=4 then p.change else 1),.slr 25 (h.length+2) 0 1]]]) (by simp) (fun b _ hb=>az0 hb) (r:=[.int .i64 k,.int .i64 (j:Int),.int .i64 (if k=3 then p.test else if k=4 then p.change else 1),.slr 25 (h.length+2) 0 1]) (Gl (aAS ..) (Gl (aAS ..) (Gl (aAS ..) (Gl (aTE (rows:=[Db s1]) (by
         show((h++_)[h.length+2]?).bind Ax=_
         rw[awN (by omega),aFV];rfl) rfl) aoP)))) (by simp) (by omega) (.live 4 false false [[.int .i64 k,.int .i64 (j:Int),.int .i64 (if k=3 then p.test else if k=4 then p.change else 1),.slr 25 (h.length+2) 0 1]]) (m:=h.length+5) (n:=rows.length+1) (by simp) rfl
        rw[aR8 hL]at hsn
        simpa [up]using hsn
      ·have hgt:decide ((s.2:Int)>0)=true:=decide_eq_true (by omega)
       have hA2:=aLW hs hy hk4 false
       have hs2:(s.1.set j (Dc k false y)).length=12:=by simpa using hs
       have e1:=Hf (s.1.set j (Dc k false y))
       have e2:=Hg (s.1.set j (Dc k false y))
       have e3:=ao2 (s.1.set j (Dc k false y))
       have e4:=am5 (s.1.set j (Dc k false y))
       have e5:=aGP (s.1.set j (Dc k false y))
       have e6:=aE5 (s.1.set j (Dc k false y))
       have e7:(Do (s.1.set j (Dc k false y))).length=24:=by rw[Cb];omega
       have e8:abL 25 (Do (s.1.set j (Dc k false y)))=Do (s.1.set j (Dc k false y)):=abX (by omega)
       have e9:∀z,abL 24 (Do (s.1.set j (Dc k false y))++[z])=Do (s.1.set j (Dc k false y)):=fun z=>by rw[aA3 (by omega),abX (by omega)]
       have e10:∀z,aDG 25 (Do (s.1.set j (Dc k false y))++[z])=[]:=fun z=>aNF (by simp;omega)
       have hwf:IntKind.i64.wrap ((s.2:Int)-1)=((s.2-1:Nat):Int):=by rw[Bf (by omega) (by omega)];omega
       obtain⟨s2,hs2e⟩:∃s2:St,(s.1.set j (Dc k false y),s.2-1)=s2:=⟨_,rfl⟩
       have hst2:Do (s.1.set j (Dc k false y))++[AV.int .i64 ((s.2-1:Nat):Int)]=Db s2:=by rw[←hs2e];rfl
       have d1:=Ix s2
       have d2:=Hu s2
       have d3:(Db s2).length=25:=Mc (by rw[←hs2e];exact hs2)
       have d4:abL 25 (Db s2)=Db s2:=abX (by omega)
       (have hb:=trivial;with_reducible repeat' (first|simp only[hb,Vc.down,seval,aFA.down,g0,g3,g5,g6,g19,g20,g21,hdd,hww,hx,hB,hB2,hsl,hC,i12,hpz,hpz2,hp25,st2,st24,Gv,hlh,hlh2,Ab.cells,abK,hS,hap,hhp,f0,k0,v0,l0,r0,p0,n0,i0,hpl,hP,hA,f1,k1,p1,r1,n1,i1,hpl1,stf,q3,hgt,b1,b2,b3,hst1,c1,c2,c3,c4,af5,hA2,e1,e2,e3,e4,e5,e6,e7,e8,e9,e10,hwf,hst2,d1,d2,d3,d4]|refine An ?_ ?_<;>intro hb|((refine aFE (aER (sf) ?_) ?_);(simp (discharger:=decide) only[atB,aeG,agI,ah1,Nj,at6,as4,aq3,Nq,acZ,adC,adD,hsf0,hsf1,hsf2];kernel_rfl);intro _)|refine fdq ?_|fail))
       have hto:toF s.1 s.2 k j y=[s1,s2]:=by
        unfold toF;rw[if_pos ⟨hk3,by omega⟩,hs1e,hs2e]
       refine Aq (kJ' _ _ () ⟨by simp[up,g0],by simp[up,g3],by simp[up,g6],by simp[up,g19],by simp[up,g20],by simp[up],?_,⟨x,?_⟩,rows++[[.int .i64 k,.int .i64 (j:Int),.int .i64 (if k=3 then p.test else if k=4 then p.change else 1),.slr 25 (h.length+5) 0 2]],Ro++[h.length+5],?_,by simp;omega⟩ rfl)
       ·exact kKl hK hL _
       ·rw[ai3 _ hHh fun a b r n e e2=>by have:=(hL.dov a b r n e).1;omega];exact hB
       ·have hQ:(aAF w N s i++aE3 w N s k (j+1)).map Oc.cells=(aAF w N s i++aE3 w N s k j).map Oc.cells++[[.int .i64 k,.int .i64 (j:Int),.int .i64 (if k=3 then p.test else if k=4 then p.change else 1),.imm 25 true [Db s1,Db s2]]]:=by
         rw[hnx,hto,←aD2,aEQ];rfl
        rw[hQ]
        have hsn:=hL.snoc (h':=h++[.live 9 true true [[.int .i64 p.one,.int .i64 p.other,.bool p.valve,.bool p.opn,.int .i64 p.tested,.int .i64 p.valid,.bool p.bad,.int .i64 p.test,.int .i64 p.change]],.live 2 true true [[.int .i64 k,.int .i64 (j:Int)]],.dead,.live 4 false true [[.int .i64 k,.int .i64 (j:Int),.int .i64 (if k=3 then p.test else if k=4 then p.change else 1),.slr 25 (h.length+5) 0 2]],.live 25 true false [Db s2],.live 25 true false [Db s1,Db s2]]) (by simp) (fun b _ hb=>az0 hb) (r:=[.int .i64 k,.int .i64 (j:Int),.int .i64 (if k=3 then p.test else if k=4 then p.change else 1),.slr 25 (h.length+5) 0 2]) (Gl (aAS ..) (Gl (aAS ..) (Gl (aAS ..) (Gl (aTE (rows:=[Db s1,Db s2]) (by
         show((h++_)[h.length+5]?).bind Ax=_
         rw[awN (by omega),aFV];rfl) rfl) aoP)))) (by simp) (by omega) (.live 4 false false [[.int .i64 k,.int .i64 (j:Int),.int .i64 (if k=3 then p.test else if k=4 then p.change else 1),.slr 25 (h.length+5) 0 2]]) (m:=h.length+7) (n:=rows.length+1) (by simp) rfl
        rw[aR8 hL]at hsn
        simpa [up]using hsn
  ·exact⟨by simp[up,g0],by simp[up,g3],by simp[up,g6],by simp[up],by simp[up],by simp[up],hK,⟨x,hB⟩,rows,Ro,by simpa [up,aE3]using hL,by omega⟩
  obtain⟨rfl,g0,g3,g6,hK,hB,rows,Ro,hL,hrl⟩:=hk'
  (have hb:=trivial;with_reducible repeat' (first|simp only[hb,Vc.down,seval,aFA.down,g6,hwk]|refine An ?_ ?_<;>intro hb|refine fd ?_|fail))
  exact Aq (kJ _ _ () ⟨by simp[up,g0],by simp[up,g3],by simp[up];omega,hK,hB,rows,Ro,by simp only[up];rw[aAF,hk];exact hL,by omega⟩ rfl)
 ·exact⟨by simp[up,Lx],by simp[up],by simp[up],Iw.app _ _,⟨_,by rw[awN (af5 _),Nat.sub_self];rfl⟩,[],[],by simp only[up];exact LLG.none,Nat.zero_le _⟩
 obtain⟨rfl,hK,rows,Ro,hL⟩:=hk
 obtain⟨ov,g5⟩:∃ov,t 5=ov:=⟨_,rfl⟩
 rw[g5]at hL
 rw[bgN]at hL
 obtain⟨R,r1,r2,_⟩:=hL.read
 (have hb:=trivial;with_reducible repeat' (first|simp only[hb,Vc.down,seval,aFA.down,g5]|refine An ?_ ?_<;>intro hb|refine fd ?_|fail))
 exact⟨⟨ov,R,rfl,r1,fun b hb=>by have:=r2 b hb;omega⟩,hK⟩
theorem aDX(a b:Bool):Kr Tryz.prog .neq 4 (.bool a) (.bool b)=some (.bool (a !=b)):=by
 simp only[Kr,Md,Tryz.underlying4,aHX]
 cases a<;>cases b<;>rfl
theorem bhW{L:List (Int × Bool)}(hL:L.length=12)(x:Ci)(h0:0≤x.part)(h1:x.part<12):Dp.call (.fn 90) [.agg [.int .i64 x.part,.bool x.opn,.bool x.good],.ptr 0 0 0] [.live 24 true false [Do L]]=some (.ret (.bool (!aCX L x)),[.live 24 true false [Do L]]):=by
 obtain⟨i,hi⟩:∃i:Nat,x.part=(i:Int):=⟨x.part.toNat,by omega⟩
 obtain⟨y,hy⟩:∃y,L[i]?=some y:=⟨_,aoV (by omega)⟩
 have i12:((i:Int)<12)=True:=eq_true (by omega)
 have hpz:(i*2≤23)=True:=eq_true (by omega)
 have hp24:(i*2+2≤24)=True:=eq_true (by omega)
 have hpl:(Do L).length=24:=by rw[Cb];omega
 obtain⟨a,b⟩:=y
 have htk:=aCV L i a b hy
 have hm:aCX L x=(b==x.opn&&(!x.good||a==0)):=by
  unfold aCX
  rw[hi,show((i:Nat):Int).toNat=i from rfl,hy]
 rw[hm,hi]
 cases q1:(b==x.opn)with
 |false=>
  have q1':(b !=x.opn)=true:=by simp[bne,q1]
  (refine ce Tryz.func90 ?_;simp only[Tryz.f90];(have hb:=trivial;with_reducible repeat' (first|simp only[hb,Vc.down,seval,a6R.down,aDX,q1',i12,hpz,hp24,hpl,htk,Gv]|refine An ?_ ?_<;>intro hb|refine fd ?_|fail)))
 |true=>
  have q1':(b !=x.opn)=false:=by simp[bne,q1]
  cases q2:x.good with
  |false=>
   (refine ce Tryz.func90 ?_;simp only[Tryz.f90];(have hb:=trivial;with_reducible repeat' (first|simp only[hb,Vc.down,seval,a6R.down,aDX,q1',q2,i12,hpz,hp24,hpl,htk,Gv]|refine An ?_ ?_<;>intro hb|refine fd ?_|fail)))
  |true=>
   cases q3:(a==0)with
   |false=>
    have q3':(a !=0)=true:=by simp[bne,q3]
    (refine ce Tryz.func90 ?_;simp only[Tryz.f90];(have hb:=trivial;with_reducible repeat' (first|simp only[hb,Vc.down,seval,a6R.down,aDX,q1',q2,q3,q3',i12,hpz,hp24,hpl,htk,Gv]|refine An ?_ ?_<;>intro hb|refine fd ?_|fail)))
   |true=>
    have q3':(a !=0)=false:=by simp[bne,q3]
    (refine ce Tryz.func90 ?_;simp only[Tryz.f90];(have hb:=trivial;with_reducible repeat' (first|simp only[hb,Vc.down,seval,a6R.down,aDX,q1',q2,q3,q3',i12,hpz,hp24,hpl,htk,Gv]|refine An ?_ ?_<;>intro hb|refine fd ?_|fail)))
theorem aZR{l:List Ci}{nn:Bool}{g:Nat}{lq:List (Int × Bool)}{p:Ci→Bool}(hp:∀x∈l,Dp.call (.fn g) (.agg [.int .i64 x.part,.bool x.opn,.bool x.good]::[.ptr 0 0 0]) [.live 24 true false [Do lq]]=some (.ret (.bool (p x)),[.live 24 true false [Do lq]]))(hl:l.length≤maxLen):
 Dp.call (.fn 37) [Be 3 true nn (l.map Ci.cells),.func (.func g) [] [.ptr 0 0 0]] [.live 24 true false [Do lq]]=some (.ret (.int .i64 (idx p l 0)),[.live 24 true false [Do lq]]):=by
 (refine ce Tryz.func37 ?_;simp only[Tryz.f37];(have hb:=trivial;with_reducible repeat' (first|simp only[hb,Vc.down,seval,aII.down,abK]|refine An ?_ ?_<;>intro hb|refine fd ?_|fail)))
 refine Dy (lst 19 l (fun i (s:Int) t h=>s=i∧h=[.live 24 true false [Do lq]]∧t 0=Be 3 true nn (l.map Ci.cells)∧t 1=.func (.func g) [] [.ptr 0 0 0]∧t 7=.int .i64 l.length∧t 8=.int .i64 i)
  (fun rest s=>idx p rest s) (fun r e t h=>h=[.live 24 true false [Do lq]]∧((e=.exit 0∧r= -1)∨(e=.ret∧t 4=.int .i64 r))) ?_ ?_ 0 _ _ ?_) (fun e t h hk=>?_)
 ·rintro s t h Q' kQ ⟨rfl,rfl,h0,h1,h7,h8⟩
  (have hb:=trivial;with_reducible repeat' (first|simp only[hb,Vc.down,seval,aII.down,h0,h1,h7,h8,aoT,decide_false]|refine An ?_ ?_<;>intro hb|refine fd ?_|fail))
  exact kQ _ _ _ ⟨rfl,.inl ⟨rfl,rfl⟩⟩
 ·rintro x rest i s t h J Q' kJ kQ hx hi ⟨rfl,rfl,h0,h1,h7,h8⟩
  have hpx:=hp x (ai5 hx)
  have hd:decide ((i:Int)<(l.length:Int))=true:=by simpa using hi
  (have hb:=trivial;with_reducible repeat' (first|simp only[hb,Vc.down,seval,aII.down,h0,h1,h7,h8,hd,hx,Ci.cells,hpx,Bv hi hl]|refine An ?_ ?_<;>intro hb|refine fd ?_|fail))
  ·exact kQ _ _ _ ⟨rfl,.inr ⟨rfl,by simp[up,idx,hb]⟩⟩
  ·exact Aq (kJ _ _ (i+1) ⟨by simp,rfl,by simp[up,h0],by simp[up,h1],by simp[up,h7],by simp[up]⟩ (by simp[idx,hb]))
 ·exact⟨rfl,rfl,by simp[up,Lx],by simp[up,Lx],by simp[up],by simp[up]⟩
 ·obtain⟨rfl,⟨rfl,hi⟩|⟨rfl,hi⟩⟩:=hk
  ·(have hb:=trivial;with_reducible repeat' (first|simp only[hb,Vc.down,seval,aII.down]|refine An ?_ ?_<;>intro hb|refine fd ?_|fail))
   rw[hi]
  ·(have hb:=trivial;with_reducible repeat' (first|simp only[hb,Vc.down,seval,aII.down,hi]|refine An ?_ ?_<;>intro hb|refine fd ?_|fail))
theorem aXM{l:List Ci}{nn:Bool}{g:Nat}{lq:List (Int × Bool)}{p:Ci→Bool}(hp:∀x∈l,Dp.call (.fn g) (.agg [.int .i64 x.part,.bool x.opn,.bool x.good]::[.ptr 0 0 0]) [.live 24 true false [Do lq]]=some (.ret (.bool (p x)),[.live 24 true false [Do lq]]))(hl:l.length≤maxLen):
 Dp.call (.fn 89) [Be 3 true nn (l.map Ci.cells),.func (.func g) [] [.ptr 0 0 0]] [.live 24 true false [Do lq]]=some (.ret (.bool (l.any p)),[.live 24 true false [Do lq]]):=by
 (refine ce Tryz.func89 ?_;simp only[Tryz.f89];(have hb:=trivial;with_reducible repeat' (first|simp only[hb,Vc.down,seval,aZR hp hl,aKX p l 0 (Int.le_refl 0)]|refine An ?_ ?_<;>intro hb|refine fd ?_|fail)))
theorem bnY{L:List (Int × Bool)}(hL:L.length=12)(l:List Ci)(nn:Bool)(hl:l.length≤maxLen)(h:∀x∈l,0≤x.part∧x.part<12):Dp.call (.fn 66) [.agg (Do L),Be 3 true nn (l.map Ci.cells)] []=some (.ret (.bool (awW L l)),[]):=by
 have hcM:=aXM (lq:=L) (l:=l) (nn:=nn) (g:=90) (p:=fun x=> !aCX L x) (fun x hx=>bhW hL x (h x hx).1 (h x hx).2) hl
 have hpl:(Do L).length=24:=by rw[Cb];omega
 have hf1:=Hf L
 have hf2:=Hg L
 have htk:=abX (l:=Do L) (i:=24) (by omega)
 have q1:awW L l= !(l.any fun x=> !aCX L x):=List.all_eq_not_any_not
 rw[q1]
 generalize(l.any fun x=> !aCX L x)=c4 at *
 (refine ce Tryz.func66 ?_;simp only[Tryz.f66];(have hb:=trivial;with_reducible repeat' (first|simp only[hb,Vc.down,seval,hcM,hpl,hf1,hf2,htk,abK]|refine An ?_ ?_<;>intro hb|refine fd ?_|fail)))
def Ft(n:Int):Option Ci→List Ci→Bool
 |_,[]=>true
 |none,x::l=>La x.part 0 n&&Ft n (some x) l
 |some y,x::l=>La x.part 0 n&& !decide (x.part≤y.part)&&Ft n (some x) l
def aaD(w:Af)(l:List Ci):Bool:=Ft (IntKind.i64.wrap ((w.parts.length:Int)-1)) none l
theorem a1V(w:Af)(l:List Ci)(nn:Bool)(hl:l.length≤maxLen):Dp.call (.fn 35) [.agg [.int .i64 w.rooms,.int .i64 w.need,Be 9 true w.nn (w.parts.map Ab.cells)],Be 3 true nn (l.map Ci.cells)] []=some (.ret (.bool (aaD w l)),[]):=by
 obtain⟨ans,hans⟩:∃a,aaD w l=a:=⟨_,rfl⟩
 rw[hans]
 unfold aaD at hans
 generalize hn:IntKind.i64.wrap ((w.parts.length:Int)-1)=n at *
 refine ce Tryz.func35 ?_
 simp only[Tryz.f35]
 (have hb:=trivial;with_reducible repeat' (first|simp only[hb,Vc.down,seval,aON.down,abK]|refine An ?_ ?_<;>intro hb|refine fd ?_|fail))
 refine Dy (lst 38 l (fun i (y:Option Ci) t h=>t 1=Be 3 true nn (l.map Ci.cells)∧t 2=.ptr 0 0 0∧t 7=Be 3 true nn (l.map Ci.cells)∧t 8=.int .i64 (l.length:Nat)∧t 9=.int .i64 (i:Int)∧(∃fl x,h[0]?=some (.live 3 fl x [[.int .i64 w.rooms,.int .i64 w.need,Be 9 true w.nn (w.parts.map Ab.cells)]]))∧((i=0∧y=none)∨∃z j,i=j+1∧l[j]?=some z∧y=some z)) (fun rest y=>Ft n y rest)
  (fun r e t h=>(e=.exit 0∧r=true)∨(e=.ret∧r=false∧t 4=.bool false)) ?_ ?_ none _ _ ?_) (fun e t h hk=>?_)
 ·rintro y t h Q' kQ ⟨g1,g2,g7,g8,g9,hB,hy⟩
  (have hb:=trivial;with_reducible repeat' (first|simp only[hb,Vc.down,seval,aON.down,g8,g9,aoT,decide_false]|refine An ?_ ?_<;>intro hb|refine fd ?_|fail))
  exact kQ _ _ _ (.inl ⟨rfl,by cases y<;>rfl⟩)
 ·rintro x rest i y t h J Q' kJ kQ hx hi ⟨g1,g2,g7,g8,g9,⟨fl,xx,hB⟩,hy⟩
  have hdd:decide ((i:Int)<(l.length:Int))=true:=decide_eq_true (by omega)
  have hww:=Bv hi hl
  have hB2:=Ai hB
  have hI:=aFK x.part 0 n
  have hxw:(l.map Ci.cells)[i]?=some x.cells:=by rw[aBV,hx];rfl
  cases c1:La x.part 0 n with
  |false=>
   rw[c1]at hI
   have hf:Ft n y (x::rest)=false:=by cases y<;>simp[Ft,c1]
   (have hb:=trivial;with_reducible repeat' (first|simp only[hb,Vc.down,seval,aON.down,g1,g2,g7,g8,g9,hdd,hww,hx,hB,hB2,hn,hI,Ci.cells,abK]|refine An ?_ ?_<;>intro hb|refine fd ?_|fail))
   exact kQ _ _ _ (.inr ⟨rfl,hf,by simp[up]⟩)
  |true=>
   rw[c1]at hI
   rcases hy with⟨rfl,rfl⟩|⟨z,j,rfl,hz,rfl⟩
   ·have h00:decide ((0:Int)>0)=false:=rfl
    simp only[aNO]at hdd g9
    have hf:Ft n none (x::rest)=Ft n (some x) rest:=by simp[Ft,c1]
    (have hb:=trivial;with_reducible repeat' (first|simp only[hb,Vc.down,seval,aON.down,g1,g2,g7,g8,g9,hdd,hww,hx,hB,hB2,hn,hI,h00,Ci.cells,abK]|refine An ?_ ?_<;>intro hb|refine fd ?_|fail))
    exact Aq (kJ _ _ (some x) ⟨by simp[up,g1],by simp[up,g2],by simp[up,g7],by simp[up,g8],by simp[up],⟨fl,xx,hB2 _⟩,.inr ⟨x,0,rfl,hx,rfl⟩⟩ hf.symm)
   ·have h00:decide (((j+1:Nat):Int)>0)=true:=decide_eq_true (by omega)
    have hw1:IntKind.i64.wrap (((j+1:Nat):Int)-1)=(j:Int):=by rw[Bf (by unfold maxLen at hl;omega) (by unfold maxLen at hl;omega)];omega
    have hjl:((j:Int)<(l.length:Int))=True:=eq_true (by omega)
    cases c2:decide (x.part≤z.part)with
    |false=>
     have hf:Ft n (some z) (x::rest)=Ft n (some x) rest:=by simp only[Ft,c1,c2];rfl
     (have hb:=trivial;with_reducible repeat' (first|simp only[hb,Vc.down,seval,aON.down,g1,g2,g7,g8,g9,hdd,hww,hx,hz,hB,hB2,hn,hI,h00,hw1,hjl,c2,Ci.cells,abK]|refine An ?_ ?_<;>intro hb|refine fd ?_|fail))
     exact Aq (kJ _ _ (some x) ⟨by simp[up,g1],by simp[up,g2],by simp[up,g7],by simp[up,g8],by simp[up];omega,⟨fl,xx,hB2 _⟩,.inr ⟨x,j+1,rfl,hx,rfl⟩⟩ hf.symm)
    |true=>
     have hf:Ft n (some z) (x::rest)=false:=by simp only[Ft,c1,c2];rfl
     (have hb:=trivial;with_reducible repeat' (first|simp only[hb,Vc.down,seval,aON.down,g1,g2,g7,g8,g9,hdd,hww,hx,hz,hB,hB2,hn,hI,h00,hw1,hjl,c2,Ci.cells,abK]|refine An ?_ ?_<;>intro hb|refine fd ?_|fail))
     exact kQ _ _ _ (.inr ⟨rfl,hf,by simp[up]⟩)
 ·exact⟨by simp[up,Lx],by simp[up],by simp[up],by simp[up],by simp[up],⟨_,_,rfl⟩,.inl ⟨rfl,rfl⟩⟩
 rw[hans]at hk
 rcases hk with⟨rfl,rfl⟩|⟨rfl,rfl,g4⟩
 ·(have hb:=trivial;with_reducible repeat' (first|simp only[hb,Vc.down,seval,aON.down]|refine An ?_ ?_<;>intro hb|refine fd ?_|fail))
 ·(have hb:=trivial;with_reducible repeat' (first|simp only[hb,Vc.down,seval,aON.down,g4]|refine An ?_ ?_<;>intro hb|refine fd ?_|fail))
def aSN(p:Ab)(d k:Int)(b:Bool):Ab:=if k=1 then { p with opn:=true }else if k=2 then { p with opn:=false }else if k=3 then(if b=true then { p with bad:=false,tested:=d }else { p with bad:=true })else { p with tested:=d,bad:=false }
theorem be3(w:Af)(i:Int):Dp.call (.fn 19) [.agg [.int .i64 w.rooms,.int .i64 w.need,Be 9 true w.nn (w.parts.map Ab.cells)],.int .i64 i] []=some (.ret (.bool (La i 0 (IntKind.i64.wrap ((w.parts.length:Int)-1)))),[]):=by
 have h:=aLY i 0 (IntKind.i64.wrap ((w.parts.length:Int)-1))
 (refine ce Tryz.func19 ?_;simp only[Tryz.f19];(have hb:=trivial;with_reducible repeat' (first|simp only[hb,Vc.down,seval,bpU.down,h,abK]|refine An ?_ ?_<;>intro hb|refine fd ?_|fail)))
def aG9(p:Ab)(d k:Int):Bool:=if k=1 then p.valve&& !p.opn else if k=2 then p.opn else if k=3 then !p.opn&&Au p d==1 else !p.opn
theorem bi2{w:Af}{d:Int}{i:Nat}{p:Ab}(hp:w.parts[i]?=some p){k:Int}(hk:k=1∨k=2∨k=3∨k=4):Dp.call (.fn 70) [.agg [.int .i64 w.rooms,.int .i64 w.need,Be 9 true w.nn (w.parts.map Ab.cells)],.int .i64 d,.agg [.int .i64 k,.int .i64 (i:Int)]] []=some (.ret (.bool (aG9 p d k)),[]):=by
 have hc:=acP p d
 have hcr:aG9 p d k=if k=1 then p.valve&& !p.opn else if k=2 then p.opn else if k=3 then !p.opn&&Au p d==1 else !p.opn:=rfl
 rw[hcr]
 generalize Au p d=c at *
 obtain⟨p1,p2,p3,p4,p5,p6,p7,p8,p9⟩:=p
 simp only[Ab.cells]at hc
 rcases hk with rfl|rfl|rfl|rfl
 ·cases p3<;>cases p4<;>(refine ce Tryz.func70 ?_;simp only[Tryz.f70];(have hb:=trivial;with_reducible repeat' (first|simp only[hb,Vc.down,seval,a93.down,hp,Ab.cells]|refine An ?_ ?_<;>intro hb|refine fd ?_|fail)))
  all_goals rfl
 ·(refine ce Tryz.func70 ?_;simp only[Tryz.f70];(have hb:=trivial;with_reducible repeat' (first|simp only[hb,Vc.down,seval,a93.down,hp,Ab.cells]|refine An ?_ ?_<;>intro hb|refine fd ?_|fail)))
  try rfl
 ·cases p4<;>cases h:(c==1)<;>(refine ce Tryz.func70 ?_;simp only[Tryz.f70];(have hb:=trivial;with_reducible repeat' (first|simp only[hb,Vc.down,seval,a93.down,hp,Ab.cells,hc,h]|refine An ?_ ?_<;>intro hb|refine fd ?_|fail)))
  all_goals (simp only[h];rfl)
 ·cases p4<;>(refine ce Tryz.func70 ?_;simp only[Tryz.f70];(have hb:=trivial;with_reducible repeat' (first|simp only[hb,Vc.down,seval,a93.down,hp,Ab.cells]|refine An ?_ ?_<;>intro hb|refine fd ?_|fail)))
  all_goals rfl
theorem a2E{w:Af}(hne:w.parts≠[])(hl:w.parts.length≤1000){i:Nat}(hi:i<w.parts.length)(q:Ab):∃wf,Dp.call (.fn 21) [.agg [.int .i64 w.rooms,.int .i64 w.need,Be 9 true w.nn (w.parts.map Ab.cells)],.int .i64 (i:Int),.agg [.int .i64 q.one,.int .i64 q.other,.bool q.valve,.bool q.opn,.int .i64 q.tested,.int .i64 q.valid,.bool q.bad,.int .i64 q.test,.int .i64 q.change]] []=some (.ret (.agg [.int .i64 w.rooms,.int .i64 w.need,.slr 9 0 0 w.parts.length]),[.live 9 true wf ((w.parts.set i q).map Ab.cells)]):=by
 have h2:w.parts.map Ab.cells≠[]:=by simpa using hne
 have h3:(w.parts.length≤549755813888)=True:=eq_true (by omega)
 have h4:=fun(h:Aa)=>a3U (n:=9) (h:=h) (nfl:=true) h2 (by simp;omega)
 have hs:Be 9 true w.nn (w.parts.map Ab.cells)=.imm 9 true (w.parts.map Ab.cells):=Ko h2
 have iln:((i:Int)<(w.parts.length:Int))=True:=eq_true (by omega)
 obtain⟨p,hp⟩:∃p,w.parts[i]?=some p:=⟨_,aoV hi⟩
 have hset:∀a1 a2 a3 a4 a5 a6 a7 a8 a9,(w.parts.map Ab.cells).set i [.int .i64 a1,.int .i64 a2,.bool a3,.bool a4,.int .i64 a5,.int .i64 a6,.bool a7,.int .i64 a8,.int .i64 a9]=(w.parts.set i ⟨a1,a2,a3,a4,a5,a6,a7,a8,a9⟩).map Ab.cells:=fun a1 a2 a3 a4 a5 a6 a7 a8 a9=>by rw[List.map_set];rfl
 rw[hs]
 refine⟨true,?_⟩
 (refine ce Tryz.func21 ?_;simp only[Tryz.f21];(have hb:=trivial;with_reducible repeat' (first|simp only[hb,Vc.down,seval,boU.down,h3,h4,hp,Ab.cells,iln,hset,abK]|refine An ?_ ?_<;>intro hb|refine fd ?_|fail)))
 try rfl
def Np(w:Af)(i:Nat)(q:Ab):Af:={ w with nn:=true,parts:=w.parts.set i q }
theorem avX(w:Af)(i:Nat)(q:Ab):(Np w i q).parts.length=w.parts.length:=by simp[Np]
theorem aOW{w:Af}{d:Int}{i:Nat}{q:Ab}(hi:i<w.parts.length):Ac (Np w i q) d=(Ac w d).set i (Au q d,q.opn):=by
 unfold Ac
 rw[avX,aJN _ _ (by simpa using hi),←List.map_set]
 rfl
theorem a3O{w:Af}{i:Nat}{p q:Ab}(hp:w.parts[i]?=some p)(h1:q.one=p.one)(h2:q.other=p.other)(ts:List Bool):edg (Np w i q) ts=edg w ts:=by
 unfold edg Np
 apply aOA
 intro j
 simp only[aOB]
 by_cases e:i=j
 ·subst e
  rw[aHY (aoS.1 hp).1,hp]
  cases ts[i]? with
  |none=>rfl
  |some t=>simp only[h1,h2]
 ·rw[aIE e]
theorem aZH{w:Af}{N:Nat}{i:Nat}{p q:Ab}(hp:w.parts[i]?=some p)(h1:q.one=p.one)(h2:q.other=p.other)(L:List (Int × Bool)):nmB (Np w i q) N L=nmB w N L:=by
 unfold nmB
 rw[a3O hp h1 h2,avX]
theorem aCB{w:Af}{N:Nat}{d:Int}{i:Nat}{p q:Ab}(hp:w.parts[i]?=some p)(h1:q.one=p.one)(h2:q.other=p.other):ahS (Np w i q) N d=nmB w N ((Ac w d).set i (Au q d,q.opn)):=by
 rw[←aGJ,aOW (aoS.1 hp).1,aZH hp h1 h2]
theorem a9Q{w:Af}{N:Nat}(hw:WOk w N){L:List (Int × Bool)}{i:Nat}{x y:Int × Bool}(hi:i<L.length)(hxy:tgB x=true→tgB y=true):nmB w N (L.set i x)≤nmB w N (L.set i y):=by
 have n2:=hw.n2
 have n8:=hw.n8
 have get:∀(z:Int × Bool) (j:Nat),(edg w (tgt (L.set i z)))[j]?=(w.parts[j]?).bind fun p=>(L[j]?).map fun u=>(p.one.toNat,p.other.toNat,if tgB (if i=j then z else u)=true then 1 else 0):=fun z j=>by
  unfold edg tgt
  rw[aOB,aBV]
  by_cases e:i=j
  ·subst e
   rw[aHY hi,aoV hi]
   cases w.parts[i]?<;>simp
  ·rw[aIE e]
   cases w.parts[j]? with
   |none=>rfl
   |some p=>cases L[j]?<;>simp[e]
 refine a02 n2 (by omega) (aBW hw _) (aBW hw _) (fun a b c' hc=>?_) (fun a b c hc=>?_)
 ·obtain⟨j,hj⟩:=aOK hc
  rw[get]at hj
  obtain⟨p,h1,hj⟩:=aPZ.1 hj
  obtain⟨u,h2,hj⟩:=aQB.1 hj
  refine⟨if tgB (if i=j then x else u)=true then 1 else 0,ai5 (i:=j) ?_,?_⟩
  ·rw[get,h1,h2]
   simp only[aQC,aHX,Option.some.injEq,Prod.mk.injEq]at hj ⊢
   exact⟨hj.1,hj.2.1,trivial⟩
  ·simp only[Prod.mk.injEq]at hj
   rw[←hj.2.2]
   by_cases e:i=j
   ·rw[if_pos e,if_pos e]
    by_cases t:tgB x=true
    ·rw[if_pos t,if_pos (hxy t)];exact af5 _
    ·rw[if_neg t];exact Nat.zero_le _
   ·rw[if_neg e,if_neg e];exact af5 _
 ·obtain⟨j,hj⟩:=aOK hc
  rw[get]at hj
  obtain⟨p,h1,hj⟩:=aPZ.1 hj
  obtain⟨u,h2,hj⟩:=aQB.1 hj
  refine⟨if tgB (if i=j then y else u)=true then 1 else 0,ai5 (i:=j) ?_⟩
  rw[get,h1,h2]
  simp only[aQC,aHX,Option.some.injEq,Prod.mk.injEq]at hj ⊢
  exact⟨hj.1,hj.2.1,trivial⟩
theorem aYZ{α:Type}{L:List α}{i:Nat}{x:α}(hx:L[i]?=some x):L.set i x=L:=by
 apply aOA
 intro j
 by_cases e:i=j
 ·subst e;rw[aHY (aoS.1 hx).1,hx]
 ·rw[aIE e]
theorem aSR{w:Af}(h:Fe w=true){i:Nat}{p:Ab}(hp:w.parts[i]?=some p):aa8 w.rooms p=true:=by
 simp only[Fe,azY,List.all_eq_true]at h
 exact h.2 p (ai5 hp)
theorem a11{N:Int}{p:Ab}(h:aa8 N p=true):(p.opn=true→p.valve=true)∧0≤p.tested∧p.tested≤5000∧0≤p.valid∧p.valid≤5000∧1≤p.test∧1≤p.change:=by
 simp only[aa8,awX,La,azY,decide_eq_true_eq,Bool.not_eq_true',Bool.and_eq_false_iff,Bool.not_eq_false']at h
 obtain⟨⟨⟨⟨⟨⟨⟨a1,a2⟩,a3⟩,a4⟩,a5⟩,a6⟩,a7⟩,a8⟩:=h
 refine⟨fun e=>?_,a5.1,a5.2,a6.1,a6.2,a7.1,a8.1⟩
 rcases a4 with a4|a4
 ·rw[e]at a4;cases a4
 ·exact a4
def aNB(p:Ab)(k:Int):Ab:=if k=1 then { p with opn:=true }else if k=4 then { p with bad:=true }else p
theorem aL8(p:Ab)(k:Int):(aNB p k).one=p.one∧(aNB p k).other=p.other:=by
 unfold aNB
 split
 ·exact⟨rfl,rfl⟩
 ·split<;>exact⟨rfl,rfl⟩
theorem aNW(p:Ab)(d k:Int)(b:Bool):(aSN p d k b).one=p.one∧(aSN p d k b).other=p.other:=by
 unfold aSN
 split
 ·exact⟨rfl,rfl⟩
 ·split
  ·exact⟨rfl,rfl⟩
  ·split
   ·split<;>exact⟨rfl,rfl⟩
   ·exact⟨rfl,rfl⟩
theorem aWM(p:Ab)(d k:Int):(Au (aNB p k) d,(aNB p k).opn)=if k=1 then(Au p d,true)else if k=4 then(2,p.opn)else(Au p d,p.opn):=by
 unfold aNB
 split
 ·rfl
 ·split
  ·simp[Au]
  ·rfl
theorem a6P{w:Af}{N:Nat}{d:Int}{i:Nat}{p:Ab}(hp:w.parts[i]?=some p)(k:Int):ahS (Np w i (aNB p k)) N d=nmB w N ((Ac w d).set i (if k=1 then(Au p d,true)else if k=4 then(2,p.opn)else(Au p d,p.opn))):=by
 rw[aCB hp (aL8 p k).1 (aL8 p k).2,aWM]
theorem a1T(w:Af)(N:Nat)(L:List (Int × Bool)):Ff w N L≤(nmB w N L:Int)∧Ff w N L≤w.need:=by
 unfold Ff
 split<;>omega
theorem aNA{w:Af}{N:Nat}(hw:WOk w N)(h12:w.parts.length≤12){d:Int}{i:Nat}{p:Ab}(hp:w.parts[i]?=some p){k:Int}(hk:k=1∨k=2∨k=3∨k=4)(b:Bool)(hc:aG9 p d k=true):
 Iy w N (Ac w d) k i b (Au p d,p.opn)=decide ((ahS (Np w i (aNB p k)) N d:Int)≥Ff w N (Ac w d)):=by
 have hx:=aCK (d:=d) hp
 have hil:i<(Ac w d).length:=(aoS.1 hx).1
 have hll:=(a1T w N (Ac w d)).1
 rw[a6P hp]
 unfold Iy
 have mono:=fun x y=>a9Q (x:=x) (y:=y) hw hil
 have hself:=aYZ hx
 generalize Ff w N (Ac w d)=lb at *
 generalize Ac w d=L at *
 rcases hk with rfl|rfl|rfl|rfl
 ·rfl
 ·have h1:=mono (Au p d,p.opn) (Au p d,false) (by simp[tgB];exact fun h _=>h)
  rw[hself]at h1
  have e1:Dc 2 b (Au p d,p.opn)=(Au p d,false):=rfl
  simp only[e1,hself,aDD,if_false]
  rw[decide_eq_true (by omega:(nmB w N (L.set i (Au p d,false)):Int)≥lb),decide_eq_true (by omega:(nmB w N L:Int)≥lb)]
  rfl
 ·simp only[aG9,aDD,if_false,if_true,azY,beq_iff_eq]at hc
  have h1:=mono (Au p d,p.opn) (Dc 3 b (Au p d,p.opn)) (by simp[tgB,hc.2])
  rw[hself]at h1
  simp only[hself,aDD,if_false]
  rw[decide_eq_true (by omega:(nmB w N (L.set i (Dc 3 b (Au p d,p.opn))):Int)≥lb),decide_eq_true (by omega:(nmB w N L:Int)≥lb)]
  rfl
 ·have h1:=mono (2,p.opn) (Dc 4 b (Au p d,p.opn)) (by simp[tgB])
  simp only[aDD,if_false,if_true]
  by_cases hq:(nmB w N (L.set i (2,p.opn)):Int)≥lb
  ·rw[decide_eq_true hq,decide_eq_true (by omega:(nmB w N (L.set i (Dc 4 b (Au p d,p.opn))):Int)≥lb),decide_eq_false (by omega)]
   rfl
  ·rw[decide_eq_false hq,decide_eq_true (by omega:(nmB w N (L.set i (2,p.opn)):Int)<lb)]
   rfl
def cod(L:List (Int × Bool)):Nat:=L.foldr (fun x a=>2*x.1.toNat+x.2.toNat+6*a) 0
theorem ap6(x:Int × Bool)(L:List (Int × Bool)):cod (x::L)=2*x.1.toNat+x.2.toNat+6*cod L:=rfl
theorem aTN(b:Bool):b.toNat≤1:=by cases b<;>decide
theorem bf1:∀a b:Bool,a.toNat=b.toNat→a=b:=by decide
theorem aB5:∀{L:List (Int × Bool)},(∀x∈L,0≤x.1∧x.1≤2)→cod L<6 ^ L.length
 | [],_=>by decide
 |x::L,h=>by
  have ih:=aB5 (L:=L) fun y hy=>h y (by simp[hy])
  have hx:=h x (by simp)
  have hb:=aTN x.2
  rw[ap6,adC,Nat.pow_succ]
  omega
theorem aS0:∀{L M:List (Int × Bool)},L.length=M.length→(∀x∈L,0≤x.1∧x.1≤2)→(∀x∈M,0≤x.1∧x.1≤2)→cod L=cod M→L=M
 | [],[],_,_,_,_=>rfl
 | [],_::_,h,_,_,_=>by simp at h
 |_::_,[],h,_,_,_=>by simp at h
 |x::L,y::M,hl,h1,h2,e=>by
  rw[ap6,ap6]at e
  have hx:=h1 x (by simp)
  have hy:=h2 y (by simp)
  have bx:=aTN x.2
  have by':=aTN y.2
  have e1:x.1=y.1:=by omega
  have e2:x.2=y.2:=bf1 _ _ (by omega)
  have e3:cod L=cod M:=by omega
  have e4:=aS0 (L:=L) (M:=M) (by simpa using hl) (fun z hz=>h1 z (by simp[hz])) (fun z hz=>h2 z (by simp[hz])) e3
  rw[e4,show x=y from Prod.ext e1 e2]
structure InU(n:Nat)(s0 s:St):Prop where
 l12:s.1.length=12
 dg:∀x∈s.1,0≤x.1∧x.1≤2
 tl:s.1.drop n=s0.1.drop n
 fl:s.2≤s0.2
theorem aJO{n:Nat}{s0:St}(hn:n≤6)(h3:s0.2≤3)(L:List St)(hd:L.Nodup)(h:∀s∈L,InU n s0 s):L.length≤186624:=by
 have hpow:6 ^ n≤46656:=Nat.le_trans (Nat.pow_le_pow_right (by decide) hn) (by decide)
 have tk:∀s∈L,(s.1.take n).length=n∧∀x∈s.1.take n,0≤x.1∧x.1≤2:=fun s hs=>⟨by rw[List.length_take,(h s hs).l12];omega,fun x hx=>(h s hs).dg x (List.mem_of_mem_take hx)⟩
 have inj:(L.map fun s=>cod (s.1.take n)*4+s.2).Nodup:=by
  rw[List.nodup_iff_pairwise_ne,List.pairwise_map]
  refine List.Pairwise.imp_of_mem (R:=fun a b=>a≠b) ?_ hd
  intro a b ha hb hab e
  have e:cod (a.1.take n)*4+a.2=cod (b.1.take n)*4+b.2:=e
  have fa:=(h a ha).fl
  have fb:=(h b hb).fl
  have e1:cod (a.1.take n)=cod (b.1.take n):=by omega
  have e2:a.2=b.2:=by omega
  have e3:=aS0 ((tk a ha).1.trans (tk b hb).1.symm) (tk a ha).2 (tk b hb).2 e1
  have e4:a.1=b.1:=by rw[←aQD n a.1,←aQD n b.1,e3,(h a ha).tl,(h b hb).tl]
  exact hab (Prod.ext e4 e2)
 have:=Snake.nodup_sub (m:=List.range 186624) inj fun x hx=>by
  obtain⟨s,hs,rfl⟩:=List.mem_map.1 hx
  have:=aB5 (tk s hs).2
  rw[(tk s hs).1]at this
  have hf:=(h s hs).fl
  rw[aQH]
  show cod (s.1.take n)*4+s.2<186624
  omega
 rw[abK,List.length_range]at this
 exact this
theorem aST{n:Nat}{s0 s:St}(h:InU n s0 s){i:Nat}(hi:i<n){y:Int × Bool}(hy:0≤y.1∧y.1≤2){f:Nat}(hf:f≤s.2):InU n s0 (s.1.set i y,f):=
 ⟨by simpa using h.l12,fun x hx=>by
   rcases List.mem_or_eq_of_mem_set hx with hx|rfl
   ·exact h.dg x hx
   ·exact hy,by rw[List.drop_set_of_lt hi];exact h.tl,Nat.le_trans hf h.fl⟩
structure a3C(w:Af)(N:Nat)(s:St)(o:Oc)(p:Ab)(x:Int × Bool):Prop where
 k4:o.k=1∨o.k=2∨o.k=3∨o.k=4
 hp:w.parts[o.i]?=some p
 hx:s.1[o.i]?=some x
 can:aB9 p x o.k=true
 safe:Iy w N s.1 o.k o.i true x=true
 c:o.c=awV p o.k
 to:o.to=toF s.1 s.2 o.k o.i x
theorem Na{w:Af}{N:Nat}{s:St}{k:Int}(hk:k=1∨k=2∨k=3∨k=4){i:Nat}{o:Oc}:choF w N s k i=some o↔o.k=k∧o.i=i∧∃p x,a3C w N s o p x:=by
 constructor
 ·intro h
  unfold choF at h
  cases hp:w.parts[i]? with
  |none=>rw[hp]at h;cases h
  |some p=>
   cases hx:s.1[i]? with
   |none=>rw[hp,hx]at h;cases h
   |some x=>
    rw[hp,hx]at h
    simp only at h
    split at h
    ·rename_i hc
     simp only[azY]at hc
     cases h
     exact⟨rfl,rfl,p,x,hk,hp,hx,hc.1,hc.2,rfl,rfl⟩
    ·cases h
 ·rintro⟨rfl,rfl,p,x,I⟩
  unfold choF
  rw[I.hp,I.hx]
  simp only[I.can,I.safe,Bool.and_self,if_true]
  obtain⟨k,i,c,to⟩:=o
  have h1:=I.c
  have h2:=I.to
  simp only at h1 h2
  rw[h1,h2]
theorem aBL{w:Af}{N:Nat}{s:St}{k:Int}(hk:k=1∨k=2∨k=3∨k=4){o:Oc}:o∈awP w N s k↔o.k=k∧∃p x,a3C w N s o p x:=by
 unfold awP
 rw[List.mem_filterMap]
 constructor
 ·rintro⟨i,_,h⟩
  obtain⟨h1,_,h3⟩:=(Na hk).1 h
  exact⟨h1,h3⟩
 ·rintro⟨h1,p,x,I⟩
  exact⟨o.i,aQH.2 (aoS.1 I.hp).1,(Na hk).2 ⟨h1,rfl,p,x,I⟩⟩
theorem Kx{w:Af}{N:Nat}{s:St}{o:Oc}:o∈Ec w N s↔∃p x,a3C w N s o p x:=by
 unfold Ec
 simp only[List.mem_append,aBL (k:=1) (by simp),aBL (k:=2) (by simp),aBL (k:=3) (by simp),aBL (k:=4) (by simp)]
 constructor
 ·rintro(⟨_,h⟩|⟨_,h⟩|⟨_,h⟩|⟨_,h⟩)<;>exact h
 ·rintro⟨p,x,I⟩
  rcases I.k4 with e|e|e|e
  ·exact .inl ⟨e,p,x,I⟩
  ·exact .inr (.inl ⟨e,p,x,I⟩)
  ·exact .inr (.inr (.inl ⟨e,p,x,I⟩))
  ·exact .inr (.inr (.inr ⟨e,p,x,I⟩))
theorem Lp{w:Af}(h:Fe w=true){i:Nat}{p:Ab}(hp:w.parts[i]?=some p)(k:Int):1≤awV p k∧awV p k≤1000:=by
 have h:=aSR h hp
 simp only[aa8,La,azY,decide_eq_true_eq]at h
 obtain⟨⟨_,a7⟩,a8⟩:=h
 unfold awV
 split
 ·exact a7
 ·split
  ·exact a8
  ·decide
theorem aSE{k:Int}{b:Bool}{x:Int × Bool}(h:0≤x.1∧x.1≤2):0≤(Dc k b x).1∧(Dc k b x).1≤2:=by
 unfold Dc
 split
 ·exact h
 ·split
  ·exact h
  ·split
   ·split<;>exact⟨by simp,by simp⟩
   ·exact⟨by simp,by simp⟩
theorem aUE(L:List (Int × Bool))(f:Nat)(k:Int)(i:Nat)(x:Int × Bool):toF L f k i x≠[]∧(toF L f k i x).length≤2:=by
 unfold toF;split<;>simp
theorem aK7{L:List (Int × Bool)}{f:Nat}{k:Int}{i:Nat}{x:Int × Bool}{s:St}:s∈toF L f k i x↔s=(L.set i (Dc k true x),f)∨(k=3∧0<f∧s=(L.set i (Dc k false x),f-1)):=by
 unfold toF
 split
 ·rename_i h;simp[h.1,h.2]
 ·rename_i h
  rw[List.mem_singleton]
  constructor
  ·exact .inl
  ·rintro(h'|⟨a,b,_⟩)
   ·exact h'
   ·exact absurd ⟨a,b⟩ h
theorem bhA{w:Af}{N:Nat}(hb:Fe w=true){s0 s:St}(h:InU w.parts.length s0 s){o:Oc}(ho:o∈Ec w N s):1≤o.c∧o.c≤1000∧o.to≠[]∧o.to.length≤2∧∀x∈o.to,InU w.parts.length s0 x:=by
 obtain⟨p,x,I⟩:=Kx.1 ho
 have hv:=Lp hb I.hp o.k
 have hl:=aUE s.1 s.2 o.k o.i x
 have hil:=(aoS.1 I.hp).1
 have hxd:=h.dg x (ai5 I.hx)
 refine⟨by rw[I.c];exact hv.1,by rw[I.c];exact hv.2,by rw[I.to];exact hl.1,by rw[I.to];exact hl.2,fun y hy=>?_⟩
 rw[I.to]at hy
 rcases aK7.1 hy with rfl|⟨_,_,rfl⟩
 ·exact aST h hil (aSE hxd) (af5 _)
 ·exact aST h hil (aSE hxd) (Nat.sub_le _ _)
theorem bc4(w:Af)(l:List Ci)(nn:Bool)(hl:l.length≤maxLen):Dp.call (.fn 33) [.agg [.int .i64 w.rooms,.int .i64 w.need,Be 9 true w.nn (w.parts.map Ab.cells)],Be 3 true nn (l.map Ci.cells)] []=some (.ret (.bool (aaD w l)),[]):=by
 obtain⟨ans,hans⟩:∃a,aaD w l=a:=⟨_,rfl⟩
 rw[hans]
 unfold aaD at hans
 have hI:=be3 w
 generalize hn:IntKind.i64.wrap ((w.parts.length:Int)-1)=n at *
 refine ce Tryz.func33 ?_
 simp only[Tryz.f33]
 (have hb:=trivial;with_reducible repeat' (first|simp only[hb,Vc.down,seval,aMB.down,abK]|refine An ?_ ?_<;>intro hb|refine fd ?_|fail))
 refine Dy (lst 38 l (fun i (y:Option Ci) t h=>t 1=Be 3 true nn (l.map Ci.cells)∧t 2=.ptr 0 0 0∧t 5=.int .i64 (i:Int)∧(∃fl x,h[0]?=some (.live 3 fl x [[.int .i64 w.rooms,.int .i64 w.need,Be 9 true w.nn (w.parts.map Ab.cells)]]))∧((i=0∧y=none)∨∃z j,i=j+1∧l[j]?=some z∧y=some z)) (fun rest y=>Ft n y rest)
  (fun r e t h=>(e=.exit 0∧r=true)∨(e=.ret∧r=false∧t 4=.bool false)) ?_ ?_ none _ _ ?_) (fun e t h hk=>?_)
 ·rintro y t h Q' kQ ⟨g1,g2,g5,hB,hy⟩
  (have hb:=trivial;with_reducible repeat' (first|simp only[hb,Vc.down,seval,aMB.down,g1,g5,aoT,decide_false,abK]|refine An ?_ ?_<;>intro hb|refine fd ?_|fail))
  exact kQ _ _ _ (.inl ⟨rfl,by cases y<;>rfl⟩)
 ·rintro x rest i y t h J Q' kJ kQ hx hi ⟨g1,g2,g5,⟨fl,xx,hB⟩,hy⟩
  have hdd:decide ((i:Int)<(l.length:Int))=true:=decide_eq_true (by omega)
  have hii:((i:Int)<(l.length:Int))=True:=eq_true (by omega)
  have hww:=Bv hi hl
  have hB2:=Ai hB
  replace hI:=hI x.part
  have hxw:(l.map Ci.cells)[i]?=some x.cells:=by rw[aBV,hx];rfl
  cases c1:La x.part 0 n with
  |false=>
   rw[c1]at hI
   have hf:Ft n y (x::rest)=false:=by cases y<;>simp[Ft,c1]
   (have hb:=trivial;with_reducible repeat' (first|simp only[hb,Vc.down,seval,aMB.down,g1,g2,g5,hdd,hii,hww,hx,hB,hB2,hn,hI,Ci.cells,abK]|refine An ?_ ?_<;>intro hb|refine fd ?_|fail))
   exact kQ _ _ _ (.inr ⟨rfl,hf,by simp[up]⟩)
  |true=>
   rw[c1]at hI
   rcases hy with⟨rfl,rfl⟩|⟨z,j,rfl,hz,rfl⟩
   ·have h00:decide ((0:Int)>0)=false:=rfl
    have h01:decide ((0:Int)<0)=false:=rfl
    simp only[aNO]at hdd hii g5
    have hf:Ft n none (x::rest)=Ft n (some x) rest:=by simp[Ft,c1]
    (have hb:=trivial;with_reducible repeat' (first|simp only[hb,Vc.down,seval,aMB.down,g1,g2,g5,hdd,hii,hww,hx,hB,hB2,hn,hI,h00,h01,Ci.cells,abK]|refine An ?_ ?_<;>intro hb|refine fd ?_|fail))
    exact Aq (kJ _ _ (some x) ⟨by simp[up,g1],by simp[up,g2],by simp[up],⟨fl,xx,hB⟩,.inr ⟨x,0,rfl,hx,rfl⟩⟩ hf.symm)
   ·have h00:decide (((j+1:Nat):Int)>0)=true:=decide_eq_true (by omega)
    have h01:decide ((0:Int)<((j+1:Nat):Int))=true:=decide_eq_true (by omega)
    have hw1:IntKind.i64.wrap (((j+1:Nat):Int)-1)=(j:Int):=by rw[Bf (by unfold maxLen at hl;omega) (by unfold maxLen at hl;omega)];omega
    have hjl:((j:Int)<(l.length:Int))=True:=eq_true (by omega)
    cases c2:decide (x.part≤z.part)with
    |false=>
     have hf:Ft n (some z) (x::rest)=Ft n (some x) rest:=by simp only[Ft,c1,c2];rfl
     (have hb:=trivial;with_reducible repeat' (first|simp only[hb,Vc.down,seval,aMB.down,g1,g2,g5,hdd,hii,hww,hx,hz,hB,hB2,hn,hI,h00,h01,hw1,hjl,c2,Ci.cells,abK]|refine An ?_ ?_<;>intro hb|refine fd ?_|fail))
     exact Aq (kJ _ _ (some x) ⟨by simp[up,g1],by simp[up,g2],by simp[up];omega,⟨fl,xx,hB⟩,.inr ⟨x,j+1,rfl,hx,rfl⟩⟩ hf.symm)
    |true=>
     have hf:Ft n (some z) (x::rest)=false:=by simp only[Ft,c1,c2];rfl
     (have hb:=trivial;with_reducible repeat' (first|simp only[hb,Vc.down,seval,aMB.down,g1,g2,g5,hdd,hii,hww,hx,hz,hB,hB2,hn,hI,h00,h01,hw1,hjl,c2,Ci.cells,abK]|refine An ?_ ?_<;>intro hb|refine fd ?_|fail))
     exact kQ _ _ _ (.inr ⟨rfl,hf,by simp[up]⟩)
 ·exact⟨by simp[up,Lx],by simp[up],by simp[up],⟨_,_,rfl⟩,.inl ⟨rfl,rfl⟩⟩
 rw[hans]at hk
 rcases hk with⟨rfl,rfl⟩|⟨rfl,rfl,g4⟩
 ·(have hb:=trivial;with_reducible repeat' (first|simp only[hb,Vc.down,seval,aMB.down]|refine An ?_ ?_<;>intro hb|refine fd ?_|fail))
 ·(have hb:=trivial;with_reducible repeat' (first|simp only[hb,Vc.down,seval,aMB.down,g4]|refine An ?_ ?_<;>intro hb|refine fd ?_|fail))
theorem bcG{w:Af}(h12:w.parts.length≤12)(d:Int)(l:List Ci)(nn:Bool)(hl:l.length≤maxLen)(hp:∀x∈l,0≤x.part∧x.part<(w.parts.length:Int)):Dp.call (.fn 22) [.agg [.int .i64 w.rooms,.int .i64 w.need,Be 9 true w.nn (w.parts.map Ab.cells)],.int .i64 d,Be 3 true nn (l.map Ci.cells)] []=some (.ret (.bool (awW (Ac w d) l)),[]):=by
 obtain⟨ans,hans⟩:∃a,awW (Ac w d) l=a:=⟨_,rfl⟩
 rw[hans]
 unfold awW at hans
 refine ce Tryz.func22 ?_
 simp only[Tryz.f22]
 (have hb:=trivial;with_reducible repeat' (first|simp only[hb,Vc.down,seval,aNL.down,abK]|refine An ?_ ?_<;>intro hb|refine fd ?_|fail))
 refine Dy (lst 45 l (fun i (_:Unit) t h=>t 1=.int .i64 d∧t 2=Be 3 true nn (l.map Ci.cells)∧t 3=.ptr 0 0 0∧t 7=.int .i64 (i:Int)∧(∃fl x,h[0]?=some (.live 3 fl x [[.int .i64 w.rooms,.int .i64 w.need,Be 9 true w.nn (w.parts.map Ab.cells)]]))) (fun rest _=>rest.all (aCX (Ac w d)))
  (fun r e t h=>(e=.exit 0∧r=true)∨(e=.ret∧r=false∧t 6=.bool false)) ?_ ?_ () _ _ ?_) (fun e t h hk=>?_)
 ·rintro _ t h Q' kQ ⟨g1,g2,g3,g7,hB⟩
  (have hb:=trivial;with_reducible repeat' (first|simp only[hb,Vc.down,seval,aNL.down,g2,g7,aoT,decide_false,abK]|refine An ?_ ?_<;>intro hb|refine fd ?_|fail))
  exact kQ _ _ _ (.inl ⟨rfl,rfl⟩)
 ·rintro x rest i _ t h J Q' kJ kQ hx hi ⟨g1,g2,g3,g7,⟨fl,xx,hB⟩⟩
  have hdd:decide ((i:Int)<(l.length:Int))=true:=decide_eq_true (by omega)
  have hii:((i:Int)<(l.length:Int))=True:=eq_true (by omega)
  have hww:=Bv hi hl
  have hB2:=Ai hB
  have hl0:=As hB
  have hs0:aHL (h.length-1) 1 h.length=1001:=by unfold aHL;rw[if_neg (by omega)];omega
  have hsf:∀k,aHL (h.length-1) 1 (h.length+k)=k+1001:=fun k=>by unfold aHL;rw[if_neg (by omega)];omega
  obtain⟨q0,q1⟩:=hp x (ai5 hx)
  have hxw:(l.map Ci.cells)[i]?=some x.cells:=by rw[aBV,hx];rfl
  obtain⟨j,hj⟩:∃j:Nat,x.part=(j:Int):=⟨x.part.toNat,by omega⟩
  obtain⟨p,hpj⟩:∃p,w.parts[j]?=some p:=⟨_,aoV (by omega)⟩
  have hjl:((j:Int)<(w.parts.length:Int))=True:=eq_true (by omega)
  have hC:=acP p d
  have hm:aCX (Ac w d) x=(p.opn==x.opn&&(!x.good||Au p d==0)):=by
   unfold aCX
   rw[hj,show((j:Nat):Int).toNat=j from rfl,aCK hpj]
  have hal:∀b,aCX (Ac w d) x=b→(x::rest).all (aCX (Ac w d))=(b&&rest.all (aCX (Ac w d))):=fun b hb=>by rw[List.all_cons,hb]
  rw[hm]at hal
  generalize Au p d=cc at *
  obtain⟨p1,p2,p3,p4,p5,p6,p7,p8,p9⟩:=p
  simp only[Ab.cells]at hC
  cases c1:(p4==x.opn)with
  |false=>
   have c1':(p4 !=x.opn)=true:=by simp[bne,c1]
   simp only[c1,aBU]at hal
   (have hb:=trivial;with_reducible repeat' (first|simp only[hb,Vc.down,seval,aNL.down,g1,g2,g3,g7,hdd,hii,hww,hx,hj,hpj,hjl,hB,hB2,hC,aDX,c1',Ci.cells,Ab.cells,abK]|refine An ?_ ?_<;>intro hb|((refine aHI (h.length-1) 1 ?_ ?_);(simp (discharger:=decide) only[atB,aeG,agI,ah1,Nj,at6,as4,aq3,Nq,acZ,adC,adD,hs0,hsf];kernel_rfl);intro _)|refine fdq ?_|fail))
   exact kQ _ _ _ (.inr ⟨rfl,(hal _ rfl).trans (aBU _),by simp[up]⟩)
  |true=>
   have c1':(p4 !=x.opn)=false:=by simp[bne,c1]
   cases c2:x.good with
   |false=>
    simp only[c1,c2,Bool.not_false,Bool.true_or,Bool.and_self]at hal
    (have hb:=trivial;with_reducible repeat' (first|simp only[hb,Vc.down,seval,aNL.down,g1,g2,g3,g7,hdd,hii,hww,hx,hj,hpj,hjl,hB,hB2,hC,aDX,c1',c2,Ci.cells,Ab.cells,abK]|refine An ?_ ?_<;>intro hb|((refine aHI (h.length-1) 1 ?_ ?_);(simp (discharger:=decide) only[atB,aeG,agI,ah1,Nj,at6,as4,aq3,Nq,acZ,adC,adD,hs0,hsf];kernel_rfl);intro _)|refine fdq ?_|fail))
    exact Aq (kJ _ _ () ⟨by simp[up,g1],by simp[up,g2],by simp[up,g3],by simp[up],⟨fl,xx,hB2 _⟩⟩ ((hal _ rfl).trans (aoW _)).symm)
   |true=>
    cases c3:(cc==0)with
    |false=>
     have c3':(cc !=0)=true:=by simp[bne,c3]
     simp only[c1,c2,c3,Bool.not_true,Bool.false_or,aoW]at hal
     (have hb:=trivial;with_reducible repeat' (first|simp only[hb,Vc.down,seval,aNL.down,g1,g2,g3,g7,hdd,hii,hww,hx,hj,hpj,hjl,hB,hB2,hC,aDX,c1',c2,c3,c3',Ci.cells,Ab.cells,abK]|refine An ?_ ?_<;>intro hb|((refine aHI (h.length-1) 1 ?_ ?_);(simp (discharger:=decide) only[atB,aeG,agI,ah1,Nj,at6,as4,aq3,Nq,acZ,adC,adD,hs0,hsf];kernel_rfl);intro _)|refine fdq ?_|fail))
     exact kQ _ _ _ (.inr ⟨rfl,(hal _ rfl).trans (aBU _),by simp[up]⟩)
    |true=>
     have c3':(cc !=0)=false:=by simp[bne,c3]
     simp only[c1,c2,c3,Bool.not_true,Bool.false_or,aoW]at hal
     (have hb:=trivial;with_reducible repeat' (first|simp only[hb,Vc.down,seval,aNL.down,g1,g2,g3,g7,hdd,hii,hww,hx,hj,hpj,hjl,hB,hB2,hC,aDX,c1',c2,c3,c3',Ci.cells,Ab.cells,abK]|refine An ?_ ?_<;>intro hb|((refine aHI (h.length-1) 1 ?_ ?_);(simp (discharger:=decide) only[atB,aeG,agI,ah1,Nj,at6,as4,aq3,Nq,acZ,adC,adD,hs0,hsf];kernel_rfl);intro _)|refine fdq ?_|fail))
     exact Aq (kJ _ _ () ⟨by simp[up,g1],by simp[up,g2],by simp[up,g3],by simp[up],⟨fl,xx,hB2 _⟩⟩ ((hal _ rfl).trans (aoW _)).symm)
 ·exact⟨by simp[up,Lx],by simp[up,Lx],by simp[up],by simp[up],⟨_,_,rfl⟩⟩
 rw[hans]at hk
 rcases hk with⟨rfl,rfl⟩|⟨rfl,rfl,g4⟩
 ·(have hb:=trivial;with_reducible repeat' (first|simp only[hb,Vc.down,seval,aNL.down]|refine An ?_ ?_<;>intro hb|refine fd ?_|fail))
 ·(have hb:=trivial;with_reducible repeat' (first|simp only[hb,Vc.down,seval,aNL.down,g4]|refine An ?_ ?_<;>intro hb|refine fd ?_|fail))
def Js(w:Af)(d:Int)(l:List Ci)(f:Int):Int:=if decide ((w.parts.length:Int)>6)=true then 3 else if(!Fe w|| !awX d|| !aaD w l||decide (f<0)||decide (f>3))=true then 2 else 0
theorem aWH(w:Af)(hs:w.small)(d:Int)(l:List Ci)(nn:Bool)(hl:l.length≤maxLen)(f:Int):Dp.call (.fn 11) [.agg [.int .i64 w.rooms,.int .i64 w.need,Be 9 true w.nn (w.parts.map Ab.cells)],.int .i64 d,Be 3 true nn (l.map Ci.cells),.int .i64 f] []=some (.ret (.int .i64 (Js w d l f)),[]):=by
 have h1:=bg0 w hs
 have h2:=a4G d
 have h3:=bc4 w l nn hl
 unfold Js
 cases c0:decide ((w.parts.length:Int)>6)with
 |true=>
  rw[if_pos rfl]
  (refine ce Tryz.func11 ?_;simp only[Tryz.f11];(have hb:=trivial;with_reducible repeat' (first|simp only[hb,Vc.down,seval,aQO.down,c0,abK]|refine An ?_ ?_<;>intro hb|refine fd ?_|fail)))
 |false=>
  rw[if_neg (by simp)]
  generalize Fe w=b1 at *
  generalize awX d=b2 at *
  generalize aaD w l=b3 at *
  cases b1 with
  |false=>
   rw[if_pos (by simp)]
   (refine ce Tryz.func11 ?_;simp only[Tryz.f11];(have hb:=trivial;with_reducible repeat' (first|simp only[hb,Vc.down,seval,aQO.down,c0,h1,abK]|refine An ?_ ?_<;>intro hb|refine fd ?_|fail)))
  |true=>
   cases b2 with
   |false=>
    rw[if_pos (by simp)]
    (refine ce Tryz.func11 ?_;simp only[Tryz.f11];(have hb:=trivial;with_reducible repeat' (first|simp only[hb,Vc.down,seval,aQO.down,c0,h1,h2,abK]|refine An ?_ ?_<;>intro hb|refine fd ?_|fail)))
   |true=>
    cases b3 with
    |false=>
     rw[if_pos (by simp)]
     (refine ce Tryz.func11 ?_;simp only[Tryz.f11];(have hb:=trivial;with_reducible repeat' (first|simp only[hb,Vc.down,seval,aQO.down,c0,h1,h2,h3,abK]|refine An ?_ ?_<;>intro hb|refine fd ?_|fail)))
    |true=>
     cases b4:decide (f<0)with
     |true=>
      rw[if_pos (by simp)]
      (refine ce Tryz.func11 ?_;simp only[Tryz.f11];(have hb:=trivial;with_reducible repeat' (first|simp only[hb,Vc.down,seval,aQO.down,c0,h1,h2,h3,b4,abK]|refine An ?_ ?_<;>intro hb|refine fd ?_|fail)))
     |false=>
      cases b5:decide (f>3)with
      |true=>
       rw[if_pos (by simp)]
       (refine ce Tryz.func11 ?_;simp only[Tryz.f11];(have hb:=trivial;with_reducible repeat' (first|simp only[hb,Vc.down,seval,aQO.down,c0,h1,h2,h3,b4,b5,abK]|refine An ?_ ?_<;>intro hb|refine fd ?_|fail)))
      |false=>
       rw[if_neg (by simp)]
       (refine ce Tryz.func11 ?_;simp only[Tryz.f11];(have hb:=trivial;with_reducible repeat' (first|simp only[hb,Vc.down,seval,aQO.down,c0,h1,h2,h3,b4,b5,abK]|refine An ?_ ?_<;>intro hb|refine fd ?_|fail)))
end Go.Proofs.YtcncggaobhbomaaGreatDoor
