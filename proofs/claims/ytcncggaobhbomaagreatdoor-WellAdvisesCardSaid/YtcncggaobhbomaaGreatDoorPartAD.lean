/- The functions of the layer, walked. -/
import Derived.Test.YtcncggaobhbomaaGreatDoorLibE
import Derived.Test.YtcncggaobhbomaaGreatDoorPartAC
import Derived.Test.YtcncggaobhbomaaGreatDoorLibF
open List renaming length_map→aaB,take→aaM,take_of_length_le→abV,length_cons→abZ,length_nil→ab9,map_cons→aeN,map_nil→aeQ,mem_of_getElem?→ae5,getElem?_eq_some_iff→afC,getElem?_eq_getElem→afU,getElem?_append_right→ag1,getElem?_append_left→ag5,take_append_of_le_length→aiJ,getElem?_map→akD,drop→amX,append_assoc→amZ,map_append→apH,getElem?_set_self→apL,getElem?_set_ne→apM,set_append_left→apN,length_append→apP,length_replicate→aqK,append_nil→axH,drop_eq_nil_of_le→axI,ext_getElem?→axK,getElem?_zipWith→axL,getElem?_of_mem→axM,take_append_drop→axS,mem_range→ax2
open Nat renaming le_refl→acH,add_sub_cancel_left→apI
open Int renaming lt_irrefl→afO,reduceEq→amE,natCast_zero→axJ
open Bool renaming true_and→ag0,and_eq_true→ag2,false_and→ai9,false_eq_true→as6
open Option renaming map_some→apJ,toList_none→aw3,bind_eq_some_iff→axP,map_eq_some_iff→axQ,bind_some→axR
set_option linter.unusedSimpArgs false
set_option linter.unusedVariables false
namespace Go.Proofs.YtcncggaobhbomaaGreatDoor
open Go.Ev Go Go.Ev.Net
set_option maxRecDepth 100000
set_option maxHeartbeats 16000000
def tO(w:Qf)(d:Int)(x:Bool):CB:=.live 4 false x [[.int .i64 w.rooms,.int .i64 w.need,Rh 9 true w.nn (w.parts.map Qb.cells),.int .i64 d]]
def nN(w:Qf)(N:Nat)(s:St):Nat→List Zw
 |0=>[]
 |i+1=>nN w N s i++lB w N s ((i:Int)+1)
theorem a7B(w:Qf)(N:Nat)(s:St):nN w N s 4=Tj w N s:=by
 simp[nN,Tj]
def vR(w:Qf)(N:Nat)(s:St)(k:Int)(j:Nat):List Zw:=(List.range j).filterMap (choF w N s k)
theorem amW(w:Qf)(N:Nat)(s:St)(k:Int)(j:Nat):vR w N s k (j+1)=vR w N s k j++(choF w N s k j).toList:=by
 unfold vR
 rw[List.range_succ,List.filterMap_append]
 congr 1
theorem aHR{H h:Qa}(k:Yg [] H h)(l:Qa):Yg [] H (h++l):=k.trans (Yg.app h l)
theorem _root_.Go.Ev.zY.app{st lo:Nat}{ov:AV}{h:Qa}{rows Q:List (List AV)}{Ro:List Nat}(I:zY st lo ov h rows Q Ro)(l:Qa):zY st lo ov (h++l) rows Q Ro:=I.keep (by simp) fun b _ hb=>ag5 hb
theorem ahN{st lo:Nat}{ov:AV}{h:Qa}{rows Q:List (List AV)}{Ro:List Nat}(I:zY st lo ov h rows Q Ro)(l:Qa):kl 0 ov (h++l)=kl 0 ov h++l:=by
 unfold kl
 split
 ·rename_i a b r n
  have:=(I.dov _ _ _ _ rfl).2.2
  rw[apN _ _ (by omega)]
 ·rfl
theorem kKl{H h:Qa}{st:Nat}{ov:AV}{rows Q:List (List AV)}{Ro:List Nat}(hK:Yg [] H h)(I:zY st (H.length+1) ov h rows Q Ro)(l:Qa):Yg [] H (kl 0 ov h++l):=
 ⟨by rw[apP,kS];have:=hK.len;omega,fun b hb hn=>by
   rw[fD _ (by have:=hK.len;omega) fun a c r n e e2=>by have:=(I.dov a c r n e).1;omega]
   exact hK.same b hb hn⟩
theorem anD{w:Qf}{N:Nat}(hw:mX w N)(h12:w.parts.length≤12)(d:Int){H:Qa}{lb:Nat}{wf:Bool}(hlb:H[lb]?=some (tO w d wf)){s:St}(hs:s.1.length=12)(hf3:s.2≤3):
 ShQ Ub 65 [.ptr lb 0 0,.agg (Ss s)] H fun o G=>(∃v R,o=.ret v∧rd 6 (hf G) v=some (Rh 4 false false ((Tj w N s).map Zw.cells),R)∧∀b∈R,H.length≤b)∧Yg [] H G:=by
 have hlen:=hw.len
 have hsl:=Yr hs
 have hsf:=Wl s
 have hsc:=Wz s
 have htk:aaM 25 (Ss s)=Ss s:=abV (by omega)
 refine aiM rfl Tryz.func65 rfl rfl ?_
 simp only[Tryz.f65]
 (have hb:=trivial;with_reducible repeat' (first|simp only[hb,Vc.down,seval,wE.down,hsl,hsf,hsc,htk,aaB]|refine Qm ?_ ?_<;>intro hb|refine fd ?_|fail))
 refine Uj (lst 84 (List.replicate 4 ()) (fun i (_:Unit) t h=>t 0=.ptr lb 0 0∧t 3=.ptr H.length 0 0∧t 6=.int .i64 ((i:Int)+1)∧Yg [] H h∧(∃x,h[H.length]?=some (.live 25 true x [Ss s]))∧∃rows Ro,zY 4 (H.length+1) (t 5) h rows ((nN w N s i).map Zw.cells) Ro∧rows.length≤12*i) (fun _ _=>())
  (fun _ e t h=>e=.exit 0∧Yg [] H h∧∃rows Ro,zY 4 (H.length+1) (t 5) h rows ((nN w N s 4).map Zw.cells) Ro) ?_ ?_ () _ _ ?_) (fun e t h hk=>?_)
 ·rintro _ t h Q' kQ ⟨g0,g3,g6,hK,hB,rows,Ro,hL,_⟩
  rw[aqK]at g6 hL
  have h5:decide (((4:Nat):Int)+1≤4)=false:=rfl
  (have hb:=trivial;with_reducible repeat' (first|simp only[hb,Vc.down,seval,wE.down,g6,h5]|refine Qm ?_ ?_<;>intro hb|refine fd ?_|fail))
  exact kQ _ _ _ ⟨rfl,hK,rows,Ro,by simpa [up]using hL⟩
 ·rintro _ rest i _ t h J Q' kJ kQ hx hi ⟨g0,g3,g6,hK,⟨x,hB⟩,rows,Ro,hL,hrl0⟩
  rw[aqK]at hi
  obtain⟨k,hk⟩:∃k:Int,(i:Int)+1=k:=⟨_,rfl⟩
  have hk4:k=1∨k=2∨k=3∨k=4:=by omega
  rw[hk]at g6
  have h5:decide (k≤4)=true:=decide_eq_true (by omega)
  have hwk:IntKind.i64.wrap (k+1)=k+1:=Re (by omega) (by omega)
  have hlh:h[lb]?=some (tO w d wf):=(hK.same lb (Rw hlb) (by simp)).trans hlb
  unfold tO at hlh
  (have hb:=trivial;with_reducible repeat' (first|simp only[hb,Vc.down,seval,wE.down,g0,g3,g6,h5,hlh,aaB]|refine Qm ?_ ?_<;>intro hb|refine fd ?_|fail))
  refine Uj (lst 84 w.parts (fun j (_:Unit) t h=>t 0=.ptr lb 0 0∧t 3=.ptr H.length 0 0∧t 6=.int .i64 k∧t 19=Rh 9 true w.nn (w.parts.map Qb.cells)∧t 20=.int .i64 (w.parts.length:Nat)∧t 21=.int .i64 (j:Int)∧Yg [] H h∧(∃x,h[H.length]?=some (.live 25 true x [Ss s]))∧∃rows Ro,zY 4 (H.length+1) (t 5) h rows ((nN w N s i++vR w N s k j).map Zw.cells) Ro∧rows.length≤12*i+j) (fun _ _=>())
   (fun _ e t h=>e=.exit 2∧t 0=.ptr lb 0 0∧t 3=.ptr H.length 0 0∧t 6=.int .i64 k∧Yg [] H h∧(∃x,h[H.length]?=some (.live 25 true x [Ss s]))∧∃rows Ro,zY 4 (H.length+1) (t 5) h rows ((nN w N s i++lB w N s k).map Zw.cells) Ro∧rows.length≤12*i+w.parts.length) ?_ ?_ () _ _ ?_) (fun e t h hk'=>?_)
  ·rintro _ t h Q'' kQ ⟨g0,g3,g6,g19,g20,g21,hK,hB,rows,Ro,hL,hrl⟩
   (have hb:=trivial;with_reducible repeat' (first|simp only[hb,Vc.down,seval,wE.down,g20,g21,afO,decide_false]|refine Qm ?_ ?_<;>intro hb|refine fd ?_|fail))
   exact kQ _ _ _ ⟨rfl,by simp[up,g0],by simp[up,g3],by simp[up,g6],hK,hB,rows,Ro,by simp only[up];exact hL,hrl⟩
  ·rintro p rest j _ t h J' Q'' kJ' kQ' hx hj ⟨g0,g3,g6,g19,g20,g21,hK,⟨x,hB⟩,rows,Ro,hL,hrl⟩
   obtain⟨ov,g5⟩:∃ov,t 5=ov:=⟨_,rfl⟩
   rw[g5]at hL
   have hdd:decide ((j:Int)<(w.parts.length:Int))=true:=decide_eq_true (by omega)
   have hww:=Sl hj (by unfold maxLen;omega)
   obtain⟨y,hy⟩:∃y,s.1[j]?=some y:=⟨_,afU (by omega)⟩
   have hC:=bf2 p y hk4
   have hS:=a4U hw h12 d hs hy hk4 true false
   have hcf:choF w N s k j=if(qJ p y k&&Yq w N s.1 k j true y)=true then some ⟨k,j,lE p k,toF s.1 s.2 k j y⟩else none:=by
    unfold choF;rw[hx,hy]
   have hnx:=amW w N s k j
   rw[hcf]at hnx
   have i12:((j:Int)<12)=True:=eq_true (by omega)
   have hpz:(j*2≤23)=True:=eq_true (by omega)
   have hpz2:(j*2≤24)=True:=eq_true (by omega)
   have hp25:(j*2+2≤25)=True:=eq_true (by omega)
   have st2:aaM 2 (amX (j*2) (Ss s))=[.int .i64 y.1,.bool y.2]:=by
    unfold Ss
    rw[List.drop_append_of_le_length (by rw[Rz];omega),aiJ (by rw[List.length_drop,Rz];omega)]
    obtain⟨a,b⟩:=y
    exact pY s.1 j a b hy
   have st24:aaM 24 (Ss s)=To s.1:=by
    unfold Ss;rw[aiJ (by rw[Rz];omega),abV (by rw[Rz];omega)]
   have hB2:=Qh hB
   have hlh:h[lb]?=some (tO w d wf):=(hK.same lb (Rw hlb) (by simp)).trans hlb
   unfold tO at hlh
   have hlh2:=Qh hlh
   simp only[Qb.cells]at hC
   have f0:=Wx s.1
   have k0:=Wy s.1
   have v0:=qA s.1
   have l0:=qR s.1
   have r0:=gJ s.1
   have p0:=iR s.1
   have n0:=uF s.1
   have i0:=tQ s.1
   have hpl:(To s.1).length=24:=by rw[Rz];omega
   cases cC:qJ p y k with
   |false=>
    rw[cC]at hC hnx
    simp only[ai9,as6,if_false,aw3,axH]at hnx
    (have hb:=trivial;with_reducible repeat' (first|simp only[hb,Vc.down,seval,wE.down,g0,g3,g6,g19,g20,g21,hdd,hww,hx,hB,hB2,hsl,hC,i12,hpz,hpz2,hp25,st2,st24,Wn,hlh,hlh2,Qb.cells,aaB]|refine Qm ?_ ?_<;>intro hb|refine fd ?_|fail))
    exact Qq (kJ' _ _ () ⟨by simp[up,g0],by simp[up,g3],by simp[up,g6],by simp[up,g19],by simp[up,g20],by simp[up],aHR hK _,⟨x,hB2 _⟩,rows,Ro,by rw[hnx];simp only[up];rw[g5];exact hL.app _,by omega⟩ rfl)
   |true=>
    rw[cC]at hC hnx
    simp only[ag0]at hnx
    cases cS:Yq w N s.1 k j true y with
    |false=>
     rw[cS]at hS hnx
     simp only[as6,if_false,aw3,axH]at hnx
     (have hb:=trivial;with_reducible repeat' (first|simp only[hb,Vc.down,seval,wE.down,g0,g3,g6,g19,g20,g21,hdd,hww,hx,hB,hB2,hsl,hC,i12,hpz,hpz2,hp25,st2,st24,Wn,hlh,hlh2,Qb.cells,aaB,hS,f0,k0,v0,l0,r0,p0,n0,i0,hpl]|refine Qm ?_ ?_<;>intro hb|refine fd ?_|fail))
     exact Qq (kJ' _ _ () ⟨by simp[up,g0],by simp[up,g3],by simp[up,g6],by simp[up,g19],by simp[up,g20],by simp[up],aHR hK _,⟨x,hB2 _⟩,rows,Ro,by rw[hnx];simp only[up];rw[g5];exact hL.app _,by omega⟩ rfl)
    |true=>
     rw[cS]at hS hnx
     simp only[if_true,Option.toList_some]at hnx
     have hP:=aN3 p hk4
     simp only[Qb.cells]at hP
     have hA:=aa6 hs hy hk4 true
     have hs1:(s.1.set j (Sz k true y)).length=12:=by simpa using hs
     have f1:=Wx (s.1.set j (Sz k true y))
     have k1:=Wy (s.1.set j (Sz k true y))
     have p1:=iR (s.1.set j (Sz k true y))
     have r1:=gJ (s.1.set j (Sz k true y))
     have n1:=uF (s.1.set j (Sz k true y))
     have i1:=tQ (s.1.set j (Sz k true y))
     have hpl1:(To (s.1.set j (Sz k true y))).length=24:=by rw[Rz];omega
     have stf:(Ss s)[24]?=some (.int .i64 (s.2:Int)):=by
      unfold Ss;rw[ag1 (by rw[Rz];omega),Rz,hs];rfl
     have b1:aaM 25 (To (s.1.set j (Sz k true y)))=To (s.1.set j (Sz k true y)):=abV (by omega)
     have b2:∀z,aaM 24 (To (s.1.set j (Sz k true y))++[z])=To (s.1.set j (Sz k true y)):=fun z=>by rw[aiJ (by omega),abV (by omega)]
     have b3:∀z,amX 25 (To (s.1.set j (Sz k true y))++[z])=[]:=fun z=>axI (by simp;omega)
     obtain⟨s1,hs1e⟩:∃s1:St,(s.1.set j (Sz k true y),s.2)=s1:=⟨_,rfl⟩
     have hst1:To (s.1.set j (Sz k true y))++[AV.int .i64 (s.2:Int)]=Ss s1:=by rw[←hs1e];rfl
     have c1:=Wz s1
     have c2:=Wl s1
     have c3:(Ss s1).length=25:=Yr (by rw[←hs1e];exact hs1)
     have c4:aaM 25 (Ss s1)=Ss s1:=abV (by omega)
     have hHh:H.length<h.length:=Qr hB
     obtain⟨sf,hsf0,hsf1,hsf2⟩:∃sf:Nat→Nat,sf H.length=0∧sf h.length=10∧∀k,sf (h.length+k)=k+10:=⟨fun b=>if b=H.length then 0 else b-h.length+10,by simp,by show(if _ then _ else _)=_;rw[if_neg (by omega)];omega,fun k=>by show(if _ then _ else _)=_;rw[if_neg (by omega)];omega⟩
     have hap:=fun(q:Qa) (r:List AV)=>akJ hL.own (pre:=[]) rfl q r [] (by simp;omega)
     have hhp:=fun(q:Qa) (r:List (List AV)) (ba:Nat)=>ae6 hL.own (pre:=[]) rfl q 4 false r ba
     simp only[List.nil_append,abZ,apP,ab9,List.length_set,Nat.reduceAdd]at hap hhp
     cases q3:(k==3)with
     |false=>
      (have hb:=trivial;with_reducible repeat' (first|simp only[hb,Vc.down,seval,wE.down,g0,g3,g5,g6,g19,g20,g21,hdd,hww,hx,hB,hB2,hsl,hC,i12,hpz,hpz2,hp25,st2,st24,Wn,hlh,hlh2,Qb.cells,aaB,hS,hap,hhp,f0,k0,v0,l0,r0,p0,n0,i0,hpl,hP,hA,f1,k1,p1,r1,n1,i1,hpl1,stf,q3,b1,b2,b3,hst1,c1,c2,c3,c4,acH]|refine Qm ?_ ?_<;>intro hb|((refine vB (tG (sf) ?_) ?_);(simp (discharger:=decide) only[iU,dZ,aeN,aeQ,aV,iP,jF,jR,aO,dL,abZ,ab9,hsf0,hsf1,hsf2];kernel_rfl);intro _)|refine fdq ?_|fail))
      have hto:toF s.1 s.2 k j y=[s1]:=by
       unfold toF;rw[if_neg (by rintro⟨h3,_⟩;rw[h3]at q3;cases q3),hs1e]
      refine Qq (kJ' _ _ () ⟨by simp[up,g0],by simp[up,g3],by simp[up,g6],by simp[up,g19],by simp[up,g20],by simp[up],?_,⟨x,?_⟩,rows++[[.int .i64 k,.int .i64 (j:Int),.int .i64 (if k=3 then p.test else if k=4 then p.change else 1),.slr 25 (h.length+2) 0 1]],Ro++[h.length+2],?_,by simp;omega⟩ rfl)
      ·exact kKl hK hL _
      ·rw[fD _ hHh fun a b r n e e2=>by have:=(hL.dov a b r n e).1;omega];exact hB
      ·have hQ:(nN w N s i++vR w N s k (j+1)).map Zw.cells=(nN w N s i++vR w N s k j).map Zw.cells++[[.int .i64 k,.int .i64 (j:Int),.int .i64 (if k=3 then p.test else if k=4 then p.change else 1),.imm 25 true [Ss s1]]]:=by
        rw[hnx,hto,←amZ,apH];rfl
       rw[hQ]
       have hsn:=hL.snoc (h':=h++[.live 9 true true [[.int .i64 p.one,.int .i64 p.other,.bool p.valve,.bool p.opn,.int .i64 p.tested,.int .i64 p.valid,.bool p.bad,.int .i64 p.test,.int .i64 p.change]],.live 2 true true [[.int .i64 k,.int .i64 (j:Int)]],.live 25 true false [Ss s1],.live 4 false true [[.int .i64 k,.int .i64 (j:Int),.int .i64 (if k=3 then p.test else if k=4 then p.change else 1),.slr 25 (h.length+2) 0 1]]]) (by simp) (fun b _ hb=>ag5 hb) (r:=[.int .i64 k,.int .i64 (j:Int),.int .i64 (if k=3 then p.test else if k=4 then p.change else 1),.slr 25 (h.length+2) 0 1]) (Vo (oL ..) (Vo (oL ..) (Vo (oL ..) (Vo (akC (rows:=[Ss s1]) (by
        show((h++_)[h.length+2]?).bind Qw=_
        rw[ag1 (by omega),apI];rfl) rfl) dG)))) (by simp) (by omega) (.live 4 false false [[.int .i64 k,.int .i64 (j:Int),.int .i64 (if k=3 then p.test else if k=4 then p.change else 1),.slr 25 (h.length+2) 0 1]]) (m:=h.length+5) (n:=rows.length+1) (by simp) rfl
       rw[ahN hL]at hsn
       simpa [up]using hsn
     |true=>
      have hk3:k=3:=by simpa using q3
      by_cases hf0:s.2=0
      ·have hgt:decide ((s.2:Int)>0)=false:=decide_eq_false (by omega)
       (have hb:=trivial;with_reducible repeat' (first|simp only[hb,Vc.down,seval,wE.down,g0,g3,g5,g6,g19,g20,g21,hdd,hww,hx,hB,hB2,hsl,hC,i12,hpz,hpz2,hp25,st2,st24,Wn,hlh,hlh2,Qb.cells,aaB,hS,hap,hhp,f0,k0,v0,l0,r0,p0,n0,i0,hpl,hP,hA,f1,k1,p1,r1,n1,i1,hpl1,stf,q3,hgt,b1,b2,b3,hst1,c1,c2,c3,c4,acH]|refine Qm ?_ ?_<;>intro hb|((refine vB (tG (sf) ?_) ?_);(simp (discharger:=decide) only[iU,dZ,aeN,aeQ,aV,iP,jF,jR,aO,dL,abZ,ab9,hsf0,hsf1,hsf2];kernel_rfl);intro _)|refine fdq ?_|fail))
       have hto:toF s.1 s.2 k j y=[s1]:=by
        unfold toF;rw[if_neg (by rintro⟨_,h3⟩;omega),hs1e]
       refine Qq (kJ' _ _ () ⟨by simp[up,g0],by simp[up,g3],by simp[up,g6],by simp[up,g19],by simp[up,g20],by simp[up],?_,⟨x,?_⟩,rows++[[.int .i64 k,.int .i64 (j:Int),.int .i64 (if k=3 then p.test else if k=4 then p.change else 1),.slr 25 (h.length+2) 0 1]],Ro++[h.length+2],?_,by simp;omega⟩ rfl)
       ·exact kKl hK hL _
       ·rw[fD _ hHh fun a b r n e e2=>by have:=(hL.dov a b r n e).1;omega];exact hB
       ·have hQ:(nN w N s i++vR w N s k (j+1)).map Zw.cells=(nN w N s i++vR w N s k j).map Zw.cells++[[.int .i64 k,.int .i64 (j:Int),.int .i64 (if k=3 then p.test else if k=4 then p.change else 1),.imm 25 true [Ss s1]]]:=by
         rw[hnx,hto,←amZ,apH];rfl
        rw[hQ]
        have hsn:=hL.snoc (h':=h++[.live 9 true true [[.int .i64 p.one,.int .i64 p.other,.bool p.valve,.bool p.opn,.int .i64 p.tested,.int .i64 p.valid,.bool p.bad,.int .i64 p.test,.int .i64 p.change]],.live 2 true true [[.int .i64 k,.int .i64 (j:Int)]],.live 25 true false [Ss s1],.live 4 false true [[.int .i64 k,.int .i64 (j:Int),.int .i64 (if k=3 then p.test else if k=4 then p.change else 1),.slr 25 (h.length+2) 0 1]]]) (by simp) (fun b _ hb=>ag5 hb) (r:=[.int .i64 k,.int .i64 (j:Int),.int .i64 (if k=3 then p.test else if k=4 then p.change else 1),.slr 25 (h.length+2) 0 1]) (Vo (oL ..) (Vo (oL ..) (Vo (oL ..) (Vo (akC (rows:=[Ss s1]) (by
         show((h++_)[h.length+2]?).bind Qw=_
         rw[ag1 (by omega),apI];rfl) rfl) dG)))) (by simp) (by omega) (.live 4 false false [[.int .i64 k,.int .i64 (j:Int),.int .i64 (if k=3 then p.test else if k=4 then p.change else 1),.slr 25 (h.length+2) 0 1]]) (m:=h.length+5) (n:=rows.length+1) (by simp) rfl
        rw[ahN hL]at hsn
        simpa [up]using hsn
      ·have hgt:decide ((s.2:Int)>0)=true:=decide_eq_true (by omega)
       have hA2:=aa6 hs hy hk4 false
       have hs2:(s.1.set j (Sz k false y)).length=12:=by simpa using hs
       have e1:=Wx (s.1.set j (Sz k false y))
       have e2:=Wy (s.1.set j (Sz k false y))
       have e3:=iR (s.1.set j (Sz k false y))
       have e4:=gJ (s.1.set j (Sz k false y))
       have e5:=uF (s.1.set j (Sz k false y))
       have e6:=tQ (s.1.set j (Sz k false y))
       have e7:(To (s.1.set j (Sz k false y))).length=24:=by rw[Rz];omega
       have e8:aaM 25 (To (s.1.set j (Sz k false y)))=To (s.1.set j (Sz k false y)):=abV (by omega)
       have e9:∀z,aaM 24 (To (s.1.set j (Sz k false y))++[z])=To (s.1.set j (Sz k false y)):=fun z=>by rw[aiJ (by omega),abV (by omega)]
       have e10:∀z,amX 25 (To (s.1.set j (Sz k false y))++[z])=[]:=fun z=>axI (by simp;omega)
       have hwf:IntKind.i64.wrap ((s.2:Int)-1)=((s.2-1:Nat):Int):=by rw[Re (by omega) (by omega)];omega
       obtain⟨s2,hs2e⟩:∃s2:St,(s.1.set j (Sz k false y),s.2-1)=s2:=⟨_,rfl⟩
       have hst2:To (s.1.set j (Sz k false y))++[AV.int .i64 ((s.2-1:Nat):Int)]=Ss s2:=by rw[←hs2e];rfl
       have d1:=Wz s2
       have d2:=Wl s2
       have d3:(Ss s2).length=25:=Yr (by rw[←hs2e];exact hs2)
       have d4:aaM 25 (Ss s2)=Ss s2:=abV (by omega)
       (have hb:=trivial;with_reducible repeat' (first|simp only[hb,Vc.down,seval,wE.down,g0,g3,g5,g6,g19,g20,g21,hdd,hww,hx,hB,hB2,hsl,hC,i12,hpz,hpz2,hp25,st2,st24,Wn,hlh,hlh2,Qb.cells,aaB,hS,hap,hhp,f0,k0,v0,l0,r0,p0,n0,i0,hpl,hP,hA,f1,k1,p1,r1,n1,i1,hpl1,stf,q3,hgt,b1,b2,b3,hst1,c1,c2,c3,c4,acH,hA2,e1,e2,e3,e4,e5,e6,e7,e8,e9,e10,hwf,hst2,d1,d2,d3,d4]|refine Qm ?_ ?_<;>intro hb|((refine vB (tG (sf) ?_) ?_);(simp (discharger:=decide) only[iU,dZ,aeN,aeQ,aV,iP,jF,jR,aO,dL,abZ,ab9,hsf0,hsf1,hsf2];kernel_rfl);intro _)|refine fdq ?_|fail))
       have hto:toF s.1 s.2 k j y=[s1,s2]:=by
        unfold toF;rw[if_pos ⟨hk3,by omega⟩,hs1e,hs2e]
       refine Qq (kJ' _ _ () ⟨by simp[up,g0],by simp[up,g3],by simp[up,g6],by simp[up,g19],by simp[up,g20],by simp[up],?_,⟨x,?_⟩,rows++[[.int .i64 k,.int .i64 (j:Int),.int .i64 (if k=3 then p.test else if k=4 then p.change else 1),.slr 25 (h.length+5) 0 2]],Ro++[h.length+5],?_,by simp;omega⟩ rfl)
       ·exact kKl hK hL _
       ·rw[fD _ hHh fun a b r n e e2=>by have:=(hL.dov a b r n e).1;omega];exact hB
       ·have hQ:(nN w N s i++vR w N s k (j+1)).map Zw.cells=(nN w N s i++vR w N s k j).map Zw.cells++[[.int .i64 k,.int .i64 (j:Int),.int .i64 (if k=3 then p.test else if k=4 then p.change else 1),.imm 25 true [Ss s1,Ss s2]]]:=by
         rw[hnx,hto,←amZ,apH];rfl
        rw[hQ]
        have hsn:=hL.snoc (h':=h++[.live 9 true true [[.int .i64 p.one,.int .i64 p.other,.bool p.valve,.bool p.opn,.int .i64 p.tested,.int .i64 p.valid,.bool p.bad,.int .i64 p.test,.int .i64 p.change]],.live 2 true true [[.int .i64 k,.int .i64 (j:Int)]],.dead,.live 4 false true [[.int .i64 k,.int .i64 (j:Int),.int .i64 (if k=3 then p.test else if k=4 then p.change else 1),.slr 25 (h.length+5) 0 2]],.live 25 true false [Ss s2],.live 25 true false [Ss s1,Ss s2]]) (by simp) (fun b _ hb=>ag5 hb) (r:=[.int .i64 k,.int .i64 (j:Int),.int .i64 (if k=3 then p.test else if k=4 then p.change else 1),.slr 25 (h.length+5) 0 2]) (Vo (oL ..) (Vo (oL ..) (Vo (oL ..) (Vo (akC (rows:=[Ss s1,Ss s2]) (by
         show((h++_)[h.length+5]?).bind Qw=_
         rw[ag1 (by omega),apI];rfl) rfl) dG)))) (by simp) (by omega) (.live 4 false false [[.int .i64 k,.int .i64 (j:Int),.int .i64 (if k=3 then p.test else if k=4 then p.change else 1),.slr 25 (h.length+5) 0 2]]) (m:=h.length+7) (n:=rows.length+1) (by simp) rfl
        rw[ahN hL]at hsn
        simpa [up]using hsn
  ·exact⟨by simp[up,g0],by simp[up,g3],by simp[up,g6],by simp[up],by simp[up],by simp[up],hK,⟨x,hB⟩,rows,Ro,by simpa [up,vR]using hL,by omega⟩
  obtain⟨rfl,g0,g3,g6,hK,hB,rows,Ro,hL,hrl⟩:=hk'
  (have hb:=trivial;with_reducible repeat' (first|simp only[hb,Vc.down,seval,wE.down,g6,hwk]|refine Qm ?_ ?_<;>intro hb|refine fd ?_|fail))
  exact Qq (kJ _ _ () ⟨by simp[up,g0],by simp[up,g3],by simp[up];omega,hK,hB,rows,Ro,by simp only[up];rw[nN,hk];exact hL,by omega⟩ rfl)
 ·exact⟨by simp[up,bF],by simp[up],by simp[up],Yg.app _ _,⟨_,by rw[ag1 (acH _),Nat.sub_self];rfl⟩,[],[],by simp only[up];exact zY.none,Nat.zero_le _⟩
 obtain⟨rfl,hK,rows,Ro,hL⟩:=hk
 obtain⟨ov,g5⟩:∃ov,t 5=ov:=⟨_,rfl⟩
 rw[g5]at hL
 rw[a7B]at hL
 obtain⟨R,r1,r2,_⟩:=hL.read
 (have hb:=trivial;with_reducible repeat' (first|simp only[hb,Vc.down,seval,wE.down,g5]|refine Qm ?_ ?_<;>intro hb|refine fd ?_|fail))
 exact⟨⟨ov,R,rfl,r1,fun b hb=>by have:=r2 b hb;omega⟩,hK⟩
theorem sA(a b:Bool):Yk Tryz.prog .neq 4 (.bool a) (.bool b)=some (.bool (a !=b)):=by
 simp only[Yk,Zx,Tryz.underlying4,apJ]
 cases a<;>cases b<;>rfl
theorem a78{L:List (Int × Bool)}(hL:L.length=12)(x:Ua)(h0:0≤x.part)(h1:x.part<12):Ub.call (.fn 90) [.agg [.int .i64 x.part,.bool x.opn,.bool x.good],.ptr 0 0 0] [.live 24 true false [To L]]=some (.ret (.bool (!qQ L x)),[.live 24 true false [To L]]):=by
 obtain⟨i,hi⟩:∃i:Nat,x.part=(i:Int):=⟨x.part.toNat,by omega⟩
 obtain⟨y,hy⟩:∃y,L[i]?=some y:=⟨_,afU (by omega)⟩
 have i12:((i:Int)<12)=True:=eq_true (by omega)
 have hpz:(i*2≤23)=True:=eq_true (by omega)
 have hp24:(i*2+2≤24)=True:=eq_true (by omega)
 have hpl:(To L).length=24:=by rw[Rz];omega
 obtain⟨a,b⟩:=y
 have htk:=pY L i a b hy
 have hm:qQ L x=(b==x.opn&&(!x.good||a==0)):=by
  unfold qQ
  rw[hi,show((i:Nat):Int).toNat=i from rfl,hy]
 rw[hm,hi]
 cases q1:(b==x.opn)with
 |false=>
  have q1':(b !=x.opn)=true:=by simp[bne,q1]
  (refine ce Tryz.func90 ?_;simp only[Tryz.f90];(have hb:=trivial;with_reducible repeat' (first|simp only[hb,Vc.down,seval,ayH.down,sA,q1',i12,hpz,hp24,hpl,htk,Wn]|refine Qm ?_ ?_<;>intro hb|refine fd ?_|fail)))
 |true=>
  have q1':(b !=x.opn)=false:=by simp[bne,q1]
  cases q2:x.good with
  |false=>
   (refine ce Tryz.func90 ?_;simp only[Tryz.f90];(have hb:=trivial;with_reducible repeat' (first|simp only[hb,Vc.down,seval,ayH.down,sA,q1',q2,i12,hpz,hp24,hpl,htk,Wn]|refine Qm ?_ ?_<;>intro hb|refine fd ?_|fail)))
  |true=>
   cases q3:(a==0)with
   |false=>
    have q3':(a !=0)=true:=by simp[bne,q3]
    (refine ce Tryz.func90 ?_;simp only[Tryz.f90];(have hb:=trivial;with_reducible repeat' (first|simp only[hb,Vc.down,seval,ayH.down,sA,q1',q2,q3,q3',i12,hpz,hp24,hpl,htk,Wn]|refine Qm ?_ ?_<;>intro hb|refine fd ?_|fail)))
   |true=>
    have q3':(a !=0)=false:=by simp[bne,q3]
    (refine ce Tryz.func90 ?_;simp only[Tryz.f90];(have hb:=trivial;with_reducible repeat' (first|simp only[hb,Vc.down,seval,ayH.down,sA,q1',q2,q3,q3',i12,hpz,hp24,hpl,htk,Wn]|refine Qm ?_ ?_<;>intro hb|refine fd ?_|fail)))
theorem avP{l:List Ua}{nn:Bool}{g:Nat}{lq:List (Int × Bool)}{p:Ua→Bool}(hp:∀x∈l,Ub.call (.fn g) (.agg [.int .i64 x.part,.bool x.opn,.bool x.good]::[.ptr 0 0 0]) [.live 24 true false [To lq]]=some (.ret (.bool (p x)),[.live 24 true false [To lq]]))(hl:l.length≤maxLen):
 Ub.call (.fn 37) [Rh 3 true nn (l.map Ua.cells),.func (.func g) [] [.ptr 0 0 0]] [.live 24 true false [To lq]]=some (.ret (.int .i64 (idx p l 0)),[.live 24 true false [To lq]]):=by
 (refine ce Tryz.func37 ?_;simp only[Tryz.f37];(have hb:=trivial;with_reducible repeat' (first|simp only[hb,Vc.down,seval,aqM.down,aaB]|refine Qm ?_ ?_<;>intro hb|refine fd ?_|fail)))
 refine Uj (lst 19 l (fun i (s:Int) t h=>s=i∧h=[.live 24 true false [To lq]]∧t 0=Rh 3 true nn (l.map Ua.cells)∧t 1=.func (.func g) [] [.ptr 0 0 0]∧t 7=.int .i64 l.length∧t 8=.int .i64 i)
  (fun rest s=>idx p rest s) (fun r e t h=>h=[.live 24 true false [To lq]]∧((e=.exit 0∧r= -1)∨(e=.ret∧t 4=.int .i64 r))) ?_ ?_ 0 _ _ ?_) (fun e t h hk=>?_)
 ·rintro s t h Q' kQ ⟨rfl,rfl,h0,h1,h7,h8⟩
  (have hb:=trivial;with_reducible repeat' (first|simp only[hb,Vc.down,seval,aqM.down,h0,h1,h7,h8,afO,decide_false]|refine Qm ?_ ?_<;>intro hb|refine fd ?_|fail))
  exact kQ _ _ _ ⟨rfl,.inl ⟨rfl,rfl⟩⟩
 ·rintro x rest i s t h J Q' kJ kQ hx hi ⟨rfl,rfl,h0,h1,h7,h8⟩
  have hpx:=hp x (ae5 hx)
  have hd:decide ((i:Int)<(l.length:Int))=true:=by simpa using hi
  (have hb:=trivial;with_reducible repeat' (first|simp only[hb,Vc.down,seval,aqM.down,h0,h1,h7,h8,hd,hx,Ua.cells,hpx,Sl hi hl]|refine Qm ?_ ?_<;>intro hb|refine fd ?_|fail))
  ·exact kQ _ _ _ ⟨rfl,.inr ⟨rfl,by simp[up,idx,hb]⟩⟩
  ·exact Qq (kJ _ _ (i+1) ⟨by simp,rfl,by simp[up,h0],by simp[up,h1],by simp[up,h7],by simp[up]⟩ (by simp[idx,hb]))
 ·exact⟨rfl,rfl,by simp[up,bF],by simp[up,bF],by simp[up],by simp[up]⟩
 ·obtain⟨rfl,⟨rfl,hi⟩|⟨rfl,hi⟩⟩:=hk
  ·(have hb:=trivial;with_reducible repeat' (first|simp only[hb,Vc.down,seval,aqM.down]|refine Qm ?_ ?_<;>intro hb|refine fd ?_|fail))
   rw[hi]
  ·(have hb:=trivial;with_reducible repeat' (first|simp only[hb,Vc.down,seval,aqM.down,hi]|refine Qm ?_ ?_<;>intro hb|refine fd ?_|fail))
theorem anZ{l:List Ua}{nn:Bool}{g:Nat}{lq:List (Int × Bool)}{p:Ua→Bool}(hp:∀x∈l,Ub.call (.fn g) (.agg [.int .i64 x.part,.bool x.opn,.bool x.good]::[.ptr 0 0 0]) [.live 24 true false [To lq]]=some (.ret (.bool (p x)),[.live 24 true false [To lq]]))(hl:l.length≤maxLen):
 Ub.call (.fn 89) [Rh 3 true nn (l.map Ua.cells),.func (.func g) [] [.ptr 0 0 0]] [.live 24 true false [To lq]]=some (.ret (.bool (l.any p)),[.live 24 true false [To lq]]):=by
 (refine ce Tryz.func89 ?_;simp only[Tryz.f89];(have hb:=trivial;with_reducible repeat' (first|simp only[hb,Vc.down,seval,avP hp hl,abA p l 0 (Int.le_refl 0)]|refine Qm ?_ ?_<;>intro hb|refine fd ?_|fail)))
theorem bl4{L:List (Int × Bool)}(hL:L.length=12)(l:List Ua)(nn:Bool)(hl:l.length≤maxLen)(h:∀x∈l,0≤x.part∧x.part<12):Ub.call (.fn 66) [.agg (To L),Rh 3 true nn (l.map Ua.cells)] []=some (.ret (.bool (lG L l)),[]):=by
 have hcM:=anZ (lq:=L) (l:=l) (nn:=nn) (g:=90) (p:=fun x=> !qQ L x) (fun x hx=>a78 hL x (h x hx).1 (h x hx).2) hl
 have hpl:(To L).length=24:=by rw[Rz];omega
 have hf1:=Wx L
 have hf2:=Wy L
 have htk:=abV (l:=To L) (i:=24) (by omega)
 have q1:lG L l= !(l.any fun x=> !qQ L x):=List.all_eq_not_any_not
 rw[q1]
 generalize(l.any fun x=> !qQ L x)=c4 at *
 (refine ce Tryz.func66 ?_;simp only[Tryz.f66];(have hb:=trivial;with_reducible repeat' (first|simp only[hb,Vc.down,seval,hcM,hpl,hf1,hf2,htk,aaB]|refine Qm ?_ ?_<;>intro hb|refine fd ?_|fail)))
def Vx(n:Int):Option Ua→List Ua→Bool
 |_,[]=>true
 |none,x::l=>Yw x.part 0 n&&Vx n (some x) l
 |some y,x::l=>Yw x.part 0 n&& !decide (x.part≤y.part)&&Vx n (some x) l
def jE(w:Qf)(l:List Ua):Bool:=Vx (IntKind.i64.wrap ((w.parts.length:Int)-1)) none l
theorem auO(w:Qf)(l:List Ua)(nn:Bool)(hl:l.length≤maxLen):Ub.call (.fn 35) [.agg [.int .i64 w.rooms,.int .i64 w.need,Rh 9 true w.nn (w.parts.map Qb.cells)],Rh 3 true nn (l.map Ua.cells)] []=some (.ret (.bool (jE w l)),[]):=by
 obtain⟨ans,hans⟩:∃a,jE w l=a:=⟨_,rfl⟩
 rw[hans]
 unfold jE at hans
 generalize hn:IntKind.i64.wrap ((w.parts.length:Int)-1)=n at *
 refine ce Tryz.func35 ?_
 simp only[Tryz.f35]
 (have hb:=trivial;with_reducible repeat' (first|simp only[hb,Vc.down,seval,agM.down,aaB]|refine Qm ?_ ?_<;>intro hb|refine fd ?_|fail))
 refine Uj (lst 38 l (fun i (y:Option Ua) t h=>t 1=Rh 3 true nn (l.map Ua.cells)∧t 2=.ptr 0 0 0∧t 7=Rh 3 true nn (l.map Ua.cells)∧t 8=.int .i64 (l.length:Nat)∧t 9=.int .i64 (i:Int)∧(∃fl x,h[0]?=some (.live 3 fl x [[.int .i64 w.rooms,.int .i64 w.need,Rh 9 true w.nn (w.parts.map Qb.cells)]]))∧((i=0∧y=none)∨∃z j,i=j+1∧l[j]?=some z∧y=some z)) (fun rest y=>Vx n y rest)
  (fun r e t h=>(e=.exit 0∧r=true)∨(e=.ret∧r=false∧t 4=.bool false)) ?_ ?_ none _ _ ?_) (fun e t h hk=>?_)
 ·rintro y t h Q' kQ ⟨g1,g2,g7,g8,g9,hB,hy⟩
  (have hb:=trivial;with_reducible repeat' (first|simp only[hb,Vc.down,seval,agM.down,g8,g9,afO,decide_false]|refine Qm ?_ ?_<;>intro hb|refine fd ?_|fail))
  exact kQ _ _ _ (.inl ⟨rfl,by cases y<;>rfl⟩)
 ·rintro x rest i y t h J Q' kJ kQ hx hi ⟨g1,g2,g7,g8,g9,⟨fl,xx,hB⟩,hy⟩
  have hdd:decide ((i:Int)<(l.length:Int))=true:=decide_eq_true (by omega)
  have hww:=Sl hi hl
  have hB2:=Qh hB
  have hI:=pW x.part 0 n
  have hxw:(l.map Ua.cells)[i]?=some x.cells:=by rw[akD,hx];rfl
  cases c1:Yw x.part 0 n with
  |false=>
   rw[c1]at hI
   have hf:Vx n y (x::rest)=false:=by cases y<;>simp[Vx,c1]
   (have hb:=trivial;with_reducible repeat' (first|simp only[hb,Vc.down,seval,agM.down,g1,g2,g7,g8,g9,hdd,hww,hx,hB,hB2,hn,hI,Ua.cells,aaB]|refine Qm ?_ ?_<;>intro hb|refine fd ?_|fail))
   exact kQ _ _ _ (.inr ⟨rfl,hf,by simp[up]⟩)
  |true=>
   rw[c1]at hI
   rcases hy with⟨rfl,rfl⟩|⟨z,j,rfl,hz,rfl⟩
   ·have h00:decide ((0:Int)>0)=false:=rfl
    simp only[axJ]at hdd g9
    have hf:Vx n none (x::rest)=Vx n (some x) rest:=by simp[Vx,c1]
    (have hb:=trivial;with_reducible repeat' (first|simp only[hb,Vc.down,seval,agM.down,g1,g2,g7,g8,g9,hdd,hww,hx,hB,hB2,hn,hI,h00,Ua.cells,aaB]|refine Qm ?_ ?_<;>intro hb|refine fd ?_|fail))
    exact Qq (kJ _ _ (some x) ⟨by simp[up,g1],by simp[up,g2],by simp[up,g7],by simp[up,g8],by simp[up],⟨fl,xx,hB2 _⟩,.inr ⟨x,0,rfl,hx,rfl⟩⟩ hf.symm)
   ·have h00:decide (((j+1:Nat):Int)>0)=true:=decide_eq_true (by omega)
    have hw1:IntKind.i64.wrap (((j+1:Nat):Int)-1)=(j:Int):=by rw[Re (by unfold maxLen at hl;omega) (by unfold maxLen at hl;omega)];omega
    have hjl:((j:Int)<(l.length:Int))=True:=eq_true (by omega)
    cases c2:decide (x.part≤z.part)with
    |false=>
     have hf:Vx n (some z) (x::rest)=Vx n (some x) rest:=by simp only[Vx,c1,c2];rfl
     (have hb:=trivial;with_reducible repeat' (first|simp only[hb,Vc.down,seval,agM.down,g1,g2,g7,g8,g9,hdd,hww,hx,hz,hB,hB2,hn,hI,h00,hw1,hjl,c2,Ua.cells,aaB]|refine Qm ?_ ?_<;>intro hb|refine fd ?_|fail))
     exact Qq (kJ _ _ (some x) ⟨by simp[up,g1],by simp[up,g2],by simp[up,g7],by simp[up,g8],by simp[up];omega,⟨fl,xx,hB2 _⟩,.inr ⟨x,j+1,rfl,hx,rfl⟩⟩ hf.symm)
    |true=>
     have hf:Vx n (some z) (x::rest)=false:=by simp only[Vx,c1,c2];rfl
     (have hb:=trivial;with_reducible repeat' (first|simp only[hb,Vc.down,seval,agM.down,g1,g2,g7,g8,g9,hdd,hww,hx,hz,hB,hB2,hn,hI,h00,hw1,hjl,c2,Ua.cells,aaB]|refine Qm ?_ ?_<;>intro hb|refine fd ?_|fail))
     exact kQ _ _ _ (.inr ⟨rfl,hf,by simp[up]⟩)
 ·exact⟨by simp[up,bF],by simp[up],by simp[up],by simp[up],by simp[up],⟨_,_,rfl⟩,.inl ⟨rfl,rfl⟩⟩
 rw[hans]at hk
 rcases hk with⟨rfl,rfl⟩|⟨rfl,rfl,g4⟩
 ·(have hb:=trivial;with_reducible repeat' (first|simp only[hb,Vc.down,seval,agM.down]|refine Qm ?_ ?_<;>intro hb|refine fd ?_|fail))
 ·(have hb:=trivial;with_reducible repeat' (first|simp only[hb,Vc.down,seval,agM.down,g4]|refine Qm ?_ ?_<;>intro hb|refine fd ?_|fail))
def ah7(p:Qb)(d k:Int)(b:Bool):Qb:=if k=1 then { p with opn:=true }else if k=2 then { p with opn:=false }else if k=3 then(if b=true then { p with bad:=false,tested:=d }else { p with bad:=true })else { p with tested:=d,bad:=false }
theorem a5R(w:Qf)(i:Int):Ub.call (.fn 19) [.agg [.int .i64 w.rooms,.int .i64 w.need,Rh 9 true w.nn (w.parts.map Qb.cells)],.int .i64 i] []=some (.ret (.bool (Yw i 0 (IntKind.i64.wrap ((w.parts.length:Int)-1)))),[]):=by
 have h:=aaS i 0 (IntKind.i64.wrap ((w.parts.length:Int)-1))
 (refine ce Tryz.func19 ?_;simp only[Tryz.f19];(have hb:=trivial;with_reducible repeat' (first|simp only[hb,Vc.down,seval,bnH.down,h,aaB]|refine Qm ?_ ?_<;>intro hb|refine fd ?_|fail)))
def vH(p:Qb)(d k:Int):Bool:=if k=1 then p.valve&& !p.opn else if k=2 then p.opn else if k=3 then !p.opn&&Qs p d==1 else !p.opn
theorem blZ{w:Qf}{d:Int}{i:Nat}{p:Qb}(hp:w.parts[i]?=some p){k:Int}(hk:k=1∨k=2∨k=3∨k=4):Ub.call (.fn 70) [.agg [.int .i64 w.rooms,.int .i64 w.need,Rh 9 true w.nn (w.parts.map Qb.cells)],.int .i64 d,.agg [.int .i64 k,.int .i64 (i:Int)]] []=some (.ret (.bool (vH p d k)),[]):=by
 have hc:=dN p d
 have hcr:vH p d k=if k=1 then p.valve&& !p.opn else if k=2 then p.opn else if k=3 then !p.opn&&Qs p d==1 else !p.opn:=rfl
 rw[hcr]
 generalize Qs p d=c at *
 obtain⟨p1,p2,p3,p4,p5,p6,p7,p8,p9⟩:=p
 simp only[Qb.cells]at hc
 rcases hk with rfl|rfl|rfl|rfl
 ·cases p3<;>cases p4<;>(refine ce Tryz.func70 ?_;simp only[Tryz.f70];(have hb:=trivial;with_reducible repeat' (first|simp only[hb,Vc.down,seval,ayK.down,hp,Qb.cells]|refine Qm ?_ ?_<;>intro hb|refine fd ?_|fail)))
  all_goals rfl
 ·(refine ce Tryz.func70 ?_;simp only[Tryz.f70];(have hb:=trivial;with_reducible repeat' (first|simp only[hb,Vc.down,seval,ayK.down,hp,Qb.cells]|refine Qm ?_ ?_<;>intro hb|refine fd ?_|fail)))
  try rfl
 ·cases p4<;>cases h:(c==1)<;>(refine ce Tryz.func70 ?_;simp only[Tryz.f70];(have hb:=trivial;with_reducible repeat' (first|simp only[hb,Vc.down,seval,ayK.down,hp,Qb.cells,hc,h]|refine Qm ?_ ?_<;>intro hb|refine fd ?_|fail)))
  all_goals (simp only[h];rfl)
 ·cases p4<;>(refine ce Tryz.func70 ?_;simp only[Tryz.f70];(have hb:=trivial;with_reducible repeat' (first|simp only[hb,Vc.down,seval,ayK.down,hp,Qb.cells]|refine Qm ?_ ?_<;>intro hb|refine fd ?_|fail)))
  all_goals rfl
theorem apZ{w:Qf}(hne:w.parts≠[])(hl:w.parts.length≤1000){i:Nat}(hi:i<w.parts.length)(q:Qb):∃wf,Ub.call (.fn 21) [.agg [.int .i64 w.rooms,.int .i64 w.need,Rh 9 true w.nn (w.parts.map Qb.cells)],.int .i64 (i:Int),.agg [.int .i64 q.one,.int .i64 q.other,.bool q.valve,.bool q.opn,.int .i64 q.tested,.int .i64 q.valid,.bool q.bad,.int .i64 q.test,.int .i64 q.change]] []=some (.ret (.agg [.int .i64 w.rooms,.int .i64 w.need,.slr 9 0 0 w.parts.length]),[.live 9 true wf ((w.parts.set i q).map Qb.cells)]):=by
 have h2:w.parts.map Qb.cells≠[]:=by simpa using hne
 have h3:(w.parts.length≤549755813888)=True:=eq_true (by omega)
 have h4:=fun(h:Qa)=>auY (n:=9) (h:=h) (nfl:=true) h2 (by simp;omega)
 have hs:Rh 9 true w.nn (w.parts.map Qb.cells)=.imm 9 true (w.parts.map Qb.cells):=Yj h2
 have iln:((i:Int)<(w.parts.length:Int))=True:=eq_true (by omega)
 obtain⟨p,hp⟩:∃p,w.parts[i]?=some p:=⟨_,afU hi⟩
 have hset:∀a1 a2 a3 a4 a5 a6 a7 a8 a9,(w.parts.map Qb.cells).set i [.int .i64 a1,.int .i64 a2,.bool a3,.bool a4,.int .i64 a5,.int .i64 a6,.bool a7,.int .i64 a8,.int .i64 a9]=(w.parts.set i ⟨a1,a2,a3,a4,a5,a6,a7,a8,a9⟩).map Qb.cells:=fun a1 a2 a3 a4 a5 a6 a7 a8 a9=>by rw[List.map_set];rfl
 rw[hs]
 refine⟨true,?_⟩
 (refine ce Tryz.func21 ?_;simp only[Tryz.f21];(have hb:=trivial;with_reducible repeat' (first|simp only[hb,Vc.down,seval,bo0.down,h3,h4,hp,Qb.cells,iln,hset,aaB]|refine Qm ?_ ?_<;>intro hb|refine fd ?_|fail)))
 try rfl
def aZ(w:Qf)(i:Nat)(q:Qb):Qf:={ w with nn:=true,parts:=w.parts.set i q }
theorem iV(w:Qf)(i:Nat)(q:Qb):(aZ w i q).parts.length=w.parts.length:=by simp[aZ]
theorem adR{w:Qf}{d:Int}{i:Nat}{q:Qb}(hi:i<w.parts.length):Qc (aZ w i q) d=(Qc w d).set i (Qs q d,q.opn):=by
 unfold Qc
 rw[iV,apN _ _ (by simpa using hi),←List.map_set]
 rfl
theorem asB{w:Qf}{i:Nat}{p q:Qb}(hp:w.parts[i]?=some p)(h1:q.one=p.one)(h2:q.other=p.other)(ts:List Bool):oO (aZ w i q) ts=oO w ts:=by
 unfold oO aZ
 apply axK
 intro j
 simp only[axL]
 by_cases e:i=j
 ·subst e
  rw[apL (afC.1 hp).1,hp]
  cases ts[i]? with
  |none=>rfl
  |some t=>simp only[h1,h2]
 ·rw[apM e]
theorem aqX{w:Qf}{N:Nat}{i:Nat}{p q:Qb}(hp:w.parts[i]?=some p)(h1:q.one=p.one)(h2:q.other=p.other)(L:List (Int × Bool)):iD (aZ w i q) N L=iD w N L:=by
 unfold iD
 rw[asB hp h1 h2,iV]
theorem qY{w:Qf}{N:Nat}{d:Int}{i:Nat}{p q:Qb}(hp:w.parts[i]?=some p)(h1:q.one=p.one)(h2:q.other=p.other):eQ (aZ w i q) N d=iD w N ((Qc w d).set i (Qs q d,q.opn)):=by
 rw[←tX,adR (afC.1 hp).1,aqX hp h1 h2]
theorem aKV{w:Qf}{N:Nat}(hw:mX w N){L:List (Int × Bool)}{i:Nat}{x y:Int × Bool}(hi:i<L.length)(hxy:tgB x=true→tgB y=true):iD w N (L.set i x)≤iD w N (L.set i y):=by
 have n2:=hw.n2
 have n8:=hw.n8
 have get:∀(z:Int × Bool) (j:Nat),(oO w (tgt (L.set i z)))[j]?=(w.parts[j]?).bind fun p=>(L[j]?).map fun u=>(p.one.toNat,p.other.toNat,if tgB (if i=j then z else u)=true then 1 else 0):=fun z j=>by
  unfold oO tgt
  rw[axL,akD]
  by_cases e:i=j
  ·subst e
   rw[apL hi,afU hi]
   cases w.parts[i]?<;>simp
  ·rw[apM e]
   cases w.parts[j]? with
   |none=>rfl
   |some p=>cases L[j]?<;>simp[e]
 refine au8 n2 (by omega) (qP hw _) (qP hw _) (fun a b c' hc=>?_) (fun a b c hc=>?_)
 ·obtain⟨j,hj⟩:=axM hc
  rw[get]at hj
  obtain⟨p,h1,hj⟩:=axP.1 hj
  obtain⟨u,h2,hj⟩:=axQ.1 hj
  refine⟨if tgB (if i=j then x else u)=true then 1 else 0,ae5 (i:=j) ?_,?_⟩
  ·rw[get,h1,h2]
   simp only[axR,apJ,Option.some.injEq,Prod.mk.injEq]at hj ⊢
   exact⟨hj.1,hj.2.1,trivial⟩
  ·simp only[Prod.mk.injEq]at hj
   rw[←hj.2.2]
   by_cases e:i=j
   ·rw[if_pos e,if_pos e]
    by_cases t:tgB x=true
    ·rw[if_pos t,if_pos (hxy t)];exact acH _
    ·rw[if_neg t];exact Nat.zero_le _
   ·rw[if_neg e,if_neg e];exact acH _
 ·obtain⟨j,hj⟩:=axM hc
  rw[get]at hj
  obtain⟨p,h1,hj⟩:=axP.1 hj
  obtain⟨u,h2,hj⟩:=axQ.1 hj
  refine⟨if tgB (if i=j then y else u)=true then 1 else 0,ae5 (i:=j) ?_⟩
  rw[get,h1,h2]
  simp only[axR,apJ,Option.some.injEq,Prod.mk.injEq]at hj ⊢
  exact⟨hj.1,hj.2.1,trivial⟩
theorem awT{α:Type}{L:List α}{i:Nat}{x:α}(hx:L[i]?=some x):L.set i x=L:=by
 apply axK
 intro j
 by_cases e:i=j
 ·subst e;rw[apL (afC.1 hx).1,hx]
 ·rw[apM e]
theorem ajL{w:Qf}(h:Wb w=true){i:Nat}{p:Qb}(hp:w.parts[i]?=some p):cR w.rooms p=true:=by
 simp only[Wb,ag2,List.all_eq_true]at h
 exact h.2 p (ae5 hp)
theorem apR{N:Int}{p:Qb}(h:cR N p=true):(p.opn=true→p.valve=true)∧0≤p.tested∧p.tested≤5000∧0≤p.valid∧p.valid≤5000∧1≤p.test∧1≤p.change:=by
 simp only[cR,lF,Yw,ag2,decide_eq_true_eq,Bool.not_eq_true',Bool.and_eq_false_iff,Bool.not_eq_false']at h
 obtain⟨⟨⟨⟨⟨⟨⟨a1,a2⟩,a3⟩,a4⟩,a5⟩,a6⟩,a7⟩,a8⟩:=h
 refine⟨fun e=>?_,a5.1,a5.2,a6.1,a6.2,a7.1,a8.1⟩
 rcases a4 with a4|a4
 ·rw[e]at a4;cases a4
 ·exact a4
def ad4(p:Qb)(k:Int):Qb:=if k=1 then { p with opn:=true }else if k=4 then { p with bad:=true }else p
theorem aeX(p:Qb)(k:Int):(ad4 p k).one=p.one∧(ad4 p k).other=p.other:=by
 unfold ad4
 split
 ·exact⟨rfl,rfl⟩
 ·split<;>exact⟨rfl,rfl⟩
theorem aeE(p:Qb)(d k:Int)(b:Bool):(ah7 p d k b).one=p.one∧(ah7 p d k b).other=p.other:=by
 unfold ah7
 split
 ·exact⟨rfl,rfl⟩
 ·split
  ·exact⟨rfl,rfl⟩
  ·split
   ·split<;>exact⟨rfl,rfl⟩
   ·exact⟨rfl,rfl⟩
theorem anE(p:Qb)(d k:Int):(Qs (ad4 p k) d,(ad4 p k).opn)=if k=1 then(Qs p d,true)else if k=4 then(2,p.opn)else(Qs p d,p.opn):=by
 unfold ad4
 split
 ·rfl
 ·split
  ·simp[Qs]
  ·rfl
theorem ayF{w:Qf}{N:Nat}{d:Int}{i:Nat}{p:Qb}(hp:w.parts[i]?=some p)(k:Int):eQ (aZ w i (ad4 p k)) N d=iD w N ((Qc w d).set i (if k=1 then(Qs p d,true)else if k=4 then(2,p.opn)else(Qs p d,p.opn))):=by
 rw[qY hp (aeX p k).1 (aeX p k).2,anE]
theorem arM(w:Qf)(N:Nat)(L:List (Int × Bool)):Vl w N L≤(iD w N L:Int)∧Vl w N L≤w.need:=by
 unfold Vl
 split<;>omega
theorem agD{w:Qf}{N:Nat}(hw:mX w N)(h12:w.parts.length≤12){d:Int}{i:Nat}{p:Qb}(hp:w.parts[i]?=some p){k:Int}(hk:k=1∨k=2∨k=3∨k=4)(b:Bool)(hc:vH p d k=true):
 Yq w N (Qc w d) k i b (Qs p d,p.opn)=decide ((eQ (aZ w i (ad4 p k)) N d:Int)≥Vl w N (Qc w d)):=by
 have hx:=pX (d:=d) hp
 have hil:i<(Qc w d).length:=(afC.1 hx).1
 have hll:=(arM w N (Qc w d)).1
 rw[ayF hp]
 unfold Yq
 have mono:=fun x y=>aKV (x:=x) (y:=y) hw hil
 have hself:=awT hx
 generalize Vl w N (Qc w d)=lb at *
 generalize Qc w d=L at *
 rcases hk with rfl|rfl|rfl|rfl
 ·rfl
 ·have h1:=mono (Qs p d,p.opn) (Qs p d,false) (by simp[tgB];exact fun h _=>h)
  rw[hself]at h1
  have e1:Sz 2 b (Qs p d,p.opn)=(Qs p d,false):=rfl
  simp only[e1,hself,amE,if_false]
  rw[decide_eq_true (by omega:(iD w N (L.set i (Qs p d,false)):Int)≥lb),decide_eq_true (by omega:(iD w N L:Int)≥lb)]
  rfl
 ·simp only[vH,amE,if_false,if_true,ag2,beq_iff_eq]at hc
  have h1:=mono (Qs p d,p.opn) (Sz 3 b (Qs p d,p.opn)) (by simp[tgB,hc.2])
  rw[hself]at h1
  simp only[hself,amE,if_false]
  rw[decide_eq_true (by omega:(iD w N (L.set i (Sz 3 b (Qs p d,p.opn))):Int)≥lb),decide_eq_true (by omega:(iD w N L:Int)≥lb)]
  rfl
 ·have h1:=mono (2,p.opn) (Sz 4 b (Qs p d,p.opn)) (by simp[tgB])
  simp only[amE,if_false,if_true]
  by_cases hq:(iD w N (L.set i (2,p.opn)):Int)≥lb
  ·rw[decide_eq_true hq,decide_eq_true (by omega:(iD w N (L.set i (Sz 4 b (Qs p d,p.opn))):Int)≥lb),decide_eq_false (by omega)]
   rfl
  ·rw[decide_eq_false hq,decide_eq_true (by omega:(iD w N (L.set i (2,p.opn)):Int)<lb)]
   rfl
def eK(L:List (Int × Bool)):Nat:=L.foldr (fun x a=>2*x.1.toNat+x.2.toNat+6*a) 0
theorem iI(x:Int × Bool)(L:List (Int × Bool)):eK (x::L)=2*x.1.toNat+x.2.toNat+6*eK L:=rfl
theorem akQ(b:Bool):b.toNat≤1:=by cases b<;>decide
theorem a29:∀a b:Bool,a.toNat=b.toNat→a=b:=by decide
theorem qU:∀{L:List (Int × Bool)},(∀x∈L,0≤x.1∧x.1≤2)→eK L<6 ^ L.length
 | [],_=>by decide
 |x::L,h=>by
  have ih:=qU (L:=L) fun y hy=>h y (by simp[hy])
  have hx:=h x (by simp)
  have hb:=akQ x.2
  rw[iI,abZ,Nat.pow_succ]
  omega
theorem ajC:∀{L M:List (Int × Bool)},L.length=M.length→(∀x∈L,0≤x.1∧x.1≤2)→(∀x∈M,0≤x.1∧x.1≤2)→eK L=eK M→L=M
 | [],[],_,_,_,_=>rfl
 | [],_::_,h,_,_,_=>by simp at h
 |_::_,[],h,_,_,_=>by simp at h
 |x::L,y::M,hl,h1,h2,e=>by
  rw[iI,iI]at e
  have hx:=h1 x (by simp)
  have hy:=h2 y (by simp)
  have bx:=akQ x.2
  have by':=akQ y.2
  have e1:x.1=y.1:=by omega
  have e2:x.2=y.2:=a29 _ _ (by omega)
  have e3:eK L=eK M:=by omega
  have e4:=ajC (L:=L) (M:=M) (by simpa using hl) (fun z hz=>h1 z (by simp[hz])) (fun z hz=>h2 z (by simp[hz])) e3
  rw[e4,show x=y from Prod.ext e1 e2]
structure InU(n:Nat)(s0 s:St):Prop where
 l12:s.1.length=12
 dg:∀x∈s.1,0≤x.1∧x.1≤2
 tl:s.1.drop n=s0.1.drop n
 fl:s.2≤s0.2
theorem aaI{n:Nat}{s0:St}(hn:n≤6)(h3:s0.2≤3)(L:List St)(hd:L.Nodup)(h:∀s∈L,InU n s0 s):L.length≤186624:=by
 have hpow:6 ^ n≤46656:=Nat.le_trans (Nat.pow_le_pow_right (by decide) hn) (by decide)
 have tk:∀s∈L,(s.1.take n).length=n∧∀x∈s.1.take n,0≤x.1∧x.1≤2:=fun s hs=>⟨by rw[List.length_take,(h s hs).l12];omega,fun x hx=>(h s hs).dg x (List.mem_of_mem_take hx)⟩
 have inj:(L.map fun s=>eK (s.1.take n)*4+s.2).Nodup:=by
  rw[List.nodup_iff_pairwise_ne,List.pairwise_map]
  refine List.Pairwise.imp_of_mem (R:=fun a b=>a≠b) ?_ hd
  intro a b ha hb hab e
  have e:eK (a.1.take n)*4+a.2=eK (b.1.take n)*4+b.2:=e
  have fa:=(h a ha).fl
  have fb:=(h b hb).fl
  have e1:eK (a.1.take n)=eK (b.1.take n):=by omega
  have e2:a.2=b.2:=by omega
  have e3:=ajC ((tk a ha).1.trans (tk b hb).1.symm) (tk a ha).2 (tk b hb).2 e1
  have e4:a.1=b.1:=by rw[←axS n a.1,←axS n b.1,e3,(h a ha).tl,(h b hb).tl]
  exact hab (Prod.ext e4 e2)
 have:=Snake.nodup_sub (m:=List.range 186624) inj fun x hx=>by
  obtain⟨s,hs,rfl⟩:=List.mem_map.1 hx
  have:=qU (tk s hs).2
  rw[(tk s hs).1]at this
  have hf:=(h s hs).fl
  rw[ax2]
  show eK (s.1.take n)*4+s.2<186624
  omega
 rw[aaB,List.length_range]at this
 exact this
theorem ajF{n:Nat}{s0 s:St}(h:InU n s0 s){i:Nat}(hi:i<n){y:Int × Bool}(hy:0≤y.1∧y.1≤2){f:Nat}(hf:f≤s.2):InU n s0 (s.1.set i y,f):=
 ⟨by simpa using h.l12,fun x hx=>by
   rcases List.mem_or_eq_of_mem_set hx with hx|rfl
   ·exact h.dg x hx
   ·exact hy,by rw[List.drop_set_of_lt hi];exact h.tl,Nat.le_trans hf h.fl⟩
structure aqA(w:Qf)(N:Nat)(s:St)(o:Zw)(p:Qb)(x:Int × Bool):Prop where
 k4:o.k=1∨o.k=2∨o.k=3∨o.k=4
 hp:w.parts[o.i]?=some p
 hx:s.1[o.i]?=some x
 can:qJ p x o.k=true
 safe:Yq w N s.1 o.k o.i true x=true
 c:o.c=lE p o.k
 to:o.to=toF s.1 s.2 o.k o.i x
theorem bB{w:Qf}{N:Nat}{s:St}{k:Int}(hk:k=1∨k=2∨k=3∨k=4){i:Nat}{o:Zw}:choF w N s k i=some o↔o.k=k∧o.i=i∧∃p x,aqA w N s o p x:=by
 constructor
 ·intro h
  unfold choF at h
  cases hp:w.parts[i]? with
  |none=>rw[hp]at h;cases h
  |some p=>
   cases hx:s.1[i]? with
   |none=>rw[hp,hx]at h;cases h
   |some x=>
    rw[hp,hx]at h
    simp only at h
    split at h
    ·rename_i hc
     simp only[ag2]at hc
     cases h
     exact⟨rfl,rfl,p,x,hk,hp,hx,hc.1,hc.2,rfl,rfl⟩
    ·cases h
 ·rintro⟨rfl,rfl,p,x,I⟩
  unfold choF
  rw[I.hp,I.hx]
  simp only[I.can,I.safe,Bool.and_self,if_true]
  obtain⟨k,i,c,to⟩:=o
  have h1:=I.c
  have h2:=I.to
  simp only at h1 h2
  rw[h1,h2]
theorem pA{w:Qf}{N:Nat}{s:St}{k:Int}(hk:k=1∨k=2∨k=3∨k=4){o:Zw}:o∈lB w N s k↔o.k=k∧∃p x,aqA w N s o p x:=by
 unfold lB
 rw[List.mem_filterMap]
 constructor
 ·rintro⟨i,_,h⟩
  obtain⟨h1,_,h3⟩:=(bB hk).1 h
  exact⟨h1,h3⟩
 ·rintro⟨h1,p,x,I⟩
  exact⟨o.i,ax2.2 (afC.1 I.hp).1,(bB hk).2 ⟨h1,rfl,p,x,I⟩⟩
theorem Zp{w:Qf}{N:Nat}{s:St}{o:Zw}:o∈Tj w N s↔∃p x,aqA w N s o p x:=by
 unfold Tj
 simp only[List.mem_append,pA (k:=1) (by simp),pA (k:=2) (by simp),pA (k:=3) (by simp),pA (k:=4) (by simp)]
 constructor
 ·rintro(⟨_,h⟩|⟨_,h⟩|⟨_,h⟩|⟨_,h⟩)<;>exact h
 ·rintro⟨p,x,I⟩
  rcases I.k4 with e|e|e|e
  ·exact .inl ⟨e,p,x,I⟩
  ·exact .inr (.inl ⟨e,p,x,I⟩)
  ·exact .inr (.inr (.inl ⟨e,p,x,I⟩))
  ·exact .inr (.inr (.inr ⟨e,p,x,I⟩))
theorem aJ{w:Qf}(h:Wb w=true){i:Nat}{p:Qb}(hp:w.parts[i]?=some p)(k:Int):1≤lE p k∧lE p k≤1000:=by
 have h:=ajL h hp
 simp only[cR,Yw,ag2,decide_eq_true_eq]at h
 obtain⟨⟨_,a7⟩,a8⟩:=h
 unfold lE
 split
 ·exact a7
 ·split
  ·exact a8
  ·decide
theorem ah0{k:Int}{b:Bool}{x:Int × Bool}(h:0≤x.1∧x.1≤2):0≤(Sz k b x).1∧(Sz k b x).1≤2:=by
 unfold Sz
 split
 ·exact h
 ·split
  ·exact h
  ·split
   ·split<;>exact⟨by simp,by simp⟩
   ·exact⟨by simp,by simp⟩
theorem alE(L:List (Int × Bool))(f:Nat)(k:Int)(i:Nat)(x:Int × Bool):toF L f k i x≠[]∧(toF L f k i x).length≤2:=by
 unfold toF;split<;>simp
theorem aaT{L:List (Int × Bool)}{f:Nat}{k:Int}{i:Nat}{x:Int × Bool}{s:St}:s∈toF L f k i x↔s=(L.set i (Sz k true x),f)∨(k=3∧0<f∧s=(L.set i (Sz k false x),f-1)):=by
 unfold toF
 split
 ·rename_i h;simp[h.1,h.2]
 ·rename_i h
  rw[List.mem_singleton]
  constructor
  ·exact .inl
  ·rintro(h'|⟨a,b,_⟩)
   ·exact h'
   ·exact absurd ⟨a,b⟩ h
theorem ag9{w:Qf}{N:Nat}(hb:Wb w=true){s0 s:St}(h:InU w.parts.length s0 s){o:Zw}(ho:o∈Tj w N s):1≤o.c∧o.c≤1000∧o.to≠[]∧o.to.length≤2∧∀x∈o.to,InU w.parts.length s0 x:=by
 obtain⟨p,x,I⟩:=Zp.1 ho
 have hv:=aJ hb I.hp o.k
 have hl:=alE s.1 s.2 o.k o.i x
 have hil:=(afC.1 I.hp).1
 have hxd:=h.dg x (ae5 I.hx)
 refine⟨by rw[I.c];exact hv.1,by rw[I.c];exact hv.2,by rw[I.to];exact hl.1,by rw[I.to];exact hl.2,fun y hy=>?_⟩
 rw[I.to]at hy
 rcases aaT.1 hy with rfl|⟨_,_,rfl⟩
 ·exact ajF h hil (ah0 hxd) (acH _)
 ·exact ajF h hil (ah0 hxd) (Nat.sub_le _ _)
theorem a5T(w:Qf)(l:List Ua)(nn:Bool)(hl:l.length≤maxLen):Ub.call (.fn 33) [.agg [.int .i64 w.rooms,.int .i64 w.need,Rh 9 true w.nn (w.parts.map Qb.cells)],Rh 3 true nn (l.map Ua.cells)] []=some (.ret (.bool (jE w l)),[]):=by
 obtain⟨ans,hans⟩:∃a,jE w l=a:=⟨_,rfl⟩
 rw[hans]
 unfold jE at hans
 have hI:=a5R w
 generalize hn:IntKind.i64.wrap ((w.parts.length:Int)-1)=n at *
 refine ce Tryz.func33 ?_
 simp only[Tryz.f33]
 (have hb:=trivial;with_reducible repeat' (first|simp only[hb,Vc.down,seval,af6.down,aaB]|refine Qm ?_ ?_<;>intro hb|refine fd ?_|fail))
 refine Uj (lst 38 l (fun i (y:Option Ua) t h=>t 1=Rh 3 true nn (l.map Ua.cells)∧t 2=.ptr 0 0 0∧t 5=.int .i64 (i:Int)∧(∃fl x,h[0]?=some (.live 3 fl x [[.int .i64 w.rooms,.int .i64 w.need,Rh 9 true w.nn (w.parts.map Qb.cells)]]))∧((i=0∧y=none)∨∃z j,i=j+1∧l[j]?=some z∧y=some z)) (fun rest y=>Vx n y rest)
  (fun r e t h=>(e=.exit 0∧r=true)∨(e=.ret∧r=false∧t 4=.bool false)) ?_ ?_ none _ _ ?_) (fun e t h hk=>?_)
 ·rintro y t h Q' kQ ⟨g1,g2,g5,hB,hy⟩
  (have hb:=trivial;with_reducible repeat' (first|simp only[hb,Vc.down,seval,af6.down,g1,g5,afO,decide_false,aaB]|refine Qm ?_ ?_<;>intro hb|refine fd ?_|fail))
  exact kQ _ _ _ (.inl ⟨rfl,by cases y<;>rfl⟩)
 ·rintro x rest i y t h J Q' kJ kQ hx hi ⟨g1,g2,g5,⟨fl,xx,hB⟩,hy⟩
  have hdd:decide ((i:Int)<(l.length:Int))=true:=decide_eq_true (by omega)
  have hii:((i:Int)<(l.length:Int))=True:=eq_true (by omega)
  have hww:=Sl hi hl
  have hB2:=Qh hB
  replace hI:=hI x.part
  have hxw:(l.map Ua.cells)[i]?=some x.cells:=by rw[akD,hx];rfl
  cases c1:Yw x.part 0 n with
  |false=>
   rw[c1]at hI
   have hf:Vx n y (x::rest)=false:=by cases y<;>simp[Vx,c1]
   (have hb:=trivial;with_reducible repeat' (first|simp only[hb,Vc.down,seval,af6.down,g1,g2,g5,hdd,hii,hww,hx,hB,hB2,hn,hI,Ua.cells,aaB]|refine Qm ?_ ?_<;>intro hb|refine fd ?_|fail))
   exact kQ _ _ _ (.inr ⟨rfl,hf,by simp[up]⟩)
  |true=>
   rw[c1]at hI
   rcases hy with⟨rfl,rfl⟩|⟨z,j,rfl,hz,rfl⟩
   ·have h00:decide ((0:Int)>0)=false:=rfl
    have h01:decide ((0:Int)<0)=false:=rfl
    simp only[axJ]at hdd hii g5
    have hf:Vx n none (x::rest)=Vx n (some x) rest:=by simp[Vx,c1]
    (have hb:=trivial;with_reducible repeat' (first|simp only[hb,Vc.down,seval,af6.down,g1,g2,g5,hdd,hii,hww,hx,hB,hB2,hn,hI,h00,h01,Ua.cells,aaB]|refine Qm ?_ ?_<;>intro hb|refine fd ?_|fail))
    exact Qq (kJ _ _ (some x) ⟨by simp[up,g1],by simp[up,g2],by simp[up],⟨fl,xx,hB⟩,.inr ⟨x,0,rfl,hx,rfl⟩⟩ hf.symm)
   ·have h00:decide (((j+1:Nat):Int)>0)=true:=decide_eq_true (by omega)
    have h01:decide ((0:Int)<((j+1:Nat):Int))=true:=decide_eq_true (by omega)
    have hw1:IntKind.i64.wrap (((j+1:Nat):Int)-1)=(j:Int):=by rw[Re (by unfold maxLen at hl;omega) (by unfold maxLen at hl;omega)];omega
    have hjl:((j:Int)<(l.length:Int))=True:=eq_true (by omega)
    cases c2:decide (x.part≤z.part)with
    |false=>
     have hf:Vx n (some z) (x::rest)=Vx n (some x) rest:=by simp only[Vx,c1,c2];rfl
     (have hb:=trivial;with_reducible repeat' (first|simp only[hb,Vc.down,seval,af6.down,g1,g2,g5,hdd,hii,hww,hx,hz,hB,hB2,hn,hI,h00,h01,hw1,hjl,c2,Ua.cells,aaB]|refine Qm ?_ ?_<;>intro hb|refine fd ?_|fail))
     exact Qq (kJ _ _ (some x) ⟨by simp[up,g1],by simp[up,g2],by simp[up];omega,⟨fl,xx,hB⟩,.inr ⟨x,j+1,rfl,hx,rfl⟩⟩ hf.symm)
    |true=>
     have hf:Vx n (some z) (x::rest)=false:=by simp only[Vx,c1,c2];rfl
     (have hb:=trivial;with_reducible repeat' (first|simp only[hb,Vc.down,seval,af6.down,g1,g2,g5,hdd,hii,hww,hx,hz,hB,hB2,hn,hI,h00,h01,hw1,hjl,c2,Ua.cells,aaB]|refine Qm ?_ ?_<;>intro hb|refine fd ?_|fail))
     exact kQ _ _ _ (.inr ⟨rfl,hf,by simp[up]⟩)
 ·exact⟨by simp[up,bF],by simp[up],by simp[up],⟨_,_,rfl⟩,.inl ⟨rfl,rfl⟩⟩
 rw[hans]at hk
 rcases hk with⟨rfl,rfl⟩|⟨rfl,rfl,g4⟩
 ·(have hb:=trivial;with_reducible repeat' (first|simp only[hb,Vc.down,seval,af6.down]|refine Qm ?_ ?_<;>intro hb|refine fd ?_|fail))
 ·(have hb:=trivial;with_reducible repeat' (first|simp only[hb,Vc.down,seval,af6.down,g4]|refine Qm ?_ ?_<;>intro hb|refine fd ?_|fail))
theorem aTG{w:Qf}(h12:w.parts.length≤12)(d:Int)(l:List Ua)(nn:Bool)(hl:l.length≤maxLen)(hp:∀x∈l,0≤x.part∧x.part<(w.parts.length:Int)):Ub.call (.fn 22) [.agg [.int .i64 w.rooms,.int .i64 w.need,Rh 9 true w.nn (w.parts.map Qb.cells)],.int .i64 d,Rh 3 true nn (l.map Ua.cells)] []=some (.ret (.bool (lG (Qc w d) l)),[]):=by
 obtain⟨ans,hans⟩:∃a,lG (Qc w d) l=a:=⟨_,rfl⟩
 rw[hans]
 unfold lG at hans
 refine ce Tryz.func22 ?_
 simp only[Tryz.f22]
 (have hb:=trivial;with_reducible repeat' (first|simp only[hb,Vc.down,seval,agI.down,aaB]|refine Qm ?_ ?_<;>intro hb|refine fd ?_|fail))
 refine Uj (lst 45 l (fun i (_:Unit) t h=>t 1=.int .i64 d∧t 2=Rh 3 true nn (l.map Ua.cells)∧t 3=.ptr 0 0 0∧t 7=.int .i64 (i:Int)∧(∃fl x,h[0]?=some (.live 3 fl x [[.int .i64 w.rooms,.int .i64 w.need,Rh 9 true w.nn (w.parts.map Qb.cells)]]))) (fun rest _=>rest.all (qQ (Qc w d)))
  (fun r e t h=>(e=.exit 0∧r=true)∨(e=.ret∧r=false∧t 6=.bool false)) ?_ ?_ () _ _ ?_) (fun e t h hk=>?_)
 ·rintro _ t h Q' kQ ⟨g1,g2,g3,g7,hB⟩
  (have hb:=trivial;with_reducible repeat' (first|simp only[hb,Vc.down,seval,agI.down,g2,g7,afO,decide_false,aaB]|refine Qm ?_ ?_<;>intro hb|refine fd ?_|fail))
  exact kQ _ _ _ (.inl ⟨rfl,rfl⟩)
 ·rintro x rest i _ t h J Q' kJ kQ hx hi ⟨g1,g2,g3,g7,⟨fl,xx,hB⟩⟩
  have hdd:decide ((i:Int)<(l.length:Int))=true:=decide_eq_true (by omega)
  have hii:((i:Int)<(l.length:Int))=True:=eq_true (by omega)
  have hww:=Sl hi hl
  have hB2:=Qh hB
  have hl0:=Qr hB
  have hs0:wF (h.length-1) 1 h.length=1001:=by unfold wF;rw[if_neg (by omega)];omega
  have hsf:∀k,wF (h.length-1) 1 (h.length+k)=k+1001:=fun k=>by unfold wF;rw[if_neg (by omega)];omega
  obtain⟨q0,q1⟩:=hp x (ae5 hx)
  have hxw:(l.map Ua.cells)[i]?=some x.cells:=by rw[akD,hx];rfl
  obtain⟨j,hj⟩:∃j:Nat,x.part=(j:Int):=⟨x.part.toNat,by omega⟩
  obtain⟨p,hpj⟩:∃p,w.parts[j]?=some p:=⟨_,afU (by omega)⟩
  have hjl:((j:Int)<(w.parts.length:Int))=True:=eq_true (by omega)
  have hC:=dN p d
  have hm:qQ (Qc w d) x=(p.opn==x.opn&&(!x.good||Qs p d==0)):=by
   unfold qQ
   rw[hj,show((j:Nat):Int).toNat=j from rfl,pX hpj]
  have hal:∀b,qQ (Qc w d) x=b→(x::rest).all (qQ (Qc w d))=(b&&rest.all (qQ (Qc w d))):=fun b hb=>by rw[List.all_cons,hb]
  rw[hm]at hal
  generalize Qs p d=cc at *
  obtain⟨p1,p2,p3,p4,p5,p6,p7,p8,p9⟩:=p
  simp only[Qb.cells]at hC
  cases c1:(p4==x.opn)with
  |false=>
   have c1':(p4 !=x.opn)=true:=by simp[bne,c1]
   simp only[c1,ai9]at hal
   (have hb:=trivial;with_reducible repeat' (first|simp only[hb,Vc.down,seval,agI.down,g1,g2,g3,g7,hdd,hii,hww,hx,hj,hpj,hjl,hB,hB2,hC,sA,c1',Ua.cells,Qb.cells,aaB]|refine Qm ?_ ?_<;>intro hb|((refine uS (h.length-1) 1 ?_ ?_);(simp (discharger:=decide) only[iU,dZ,aeN,aeQ,aV,iP,jF,jR,aO,dL,abZ,ab9,hs0,hsf];kernel_rfl);intro _)|refine fdq ?_|fail))
   exact kQ _ _ _ (.inr ⟨rfl,(hal _ rfl).trans (ai9 _),by simp[up]⟩)
  |true=>
   have c1':(p4 !=x.opn)=false:=by simp[bne,c1]
   cases c2:x.good with
   |false=>
    simp only[c1,c2,Bool.not_false,Bool.true_or,Bool.and_self]at hal
    (have hb:=trivial;with_reducible repeat' (first|simp only[hb,Vc.down,seval,agI.down,g1,g2,g3,g7,hdd,hii,hww,hx,hj,hpj,hjl,hB,hB2,hC,sA,c1',c2,Ua.cells,Qb.cells,aaB]|refine Qm ?_ ?_<;>intro hb|((refine uS (h.length-1) 1 ?_ ?_);(simp (discharger:=decide) only[iU,dZ,aeN,aeQ,aV,iP,jF,jR,aO,dL,abZ,ab9,hs0,hsf];kernel_rfl);intro _)|refine fdq ?_|fail))
    exact Qq (kJ _ _ () ⟨by simp[up,g1],by simp[up,g2],by simp[up,g3],by simp[up],⟨fl,xx,hB2 _⟩⟩ ((hal _ rfl).trans (ag0 _)).symm)
   |true=>
    cases c3:(cc==0)with
    |false=>
     have c3':(cc !=0)=true:=by simp[bne,c3]
     simp only[c1,c2,c3,Bool.not_true,Bool.false_or,ag0]at hal
     (have hb:=trivial;with_reducible repeat' (first|simp only[hb,Vc.down,seval,agI.down,g1,g2,g3,g7,hdd,hii,hww,hx,hj,hpj,hjl,hB,hB2,hC,sA,c1',c2,c3,c3',Ua.cells,Qb.cells,aaB]|refine Qm ?_ ?_<;>intro hb|((refine uS (h.length-1) 1 ?_ ?_);(simp (discharger:=decide) only[iU,dZ,aeN,aeQ,aV,iP,jF,jR,aO,dL,abZ,ab9,hs0,hsf];kernel_rfl);intro _)|refine fdq ?_|fail))
     exact kQ _ _ _ (.inr ⟨rfl,(hal _ rfl).trans (ai9 _),by simp[up]⟩)
    |true=>
     have c3':(cc !=0)=false:=by simp[bne,c3]
     simp only[c1,c2,c3,Bool.not_true,Bool.false_or,ag0]at hal
     (have hb:=trivial;with_reducible repeat' (first|simp only[hb,Vc.down,seval,agI.down,g1,g2,g3,g7,hdd,hii,hww,hx,hj,hpj,hjl,hB,hB2,hC,sA,c1',c2,c3,c3',Ua.cells,Qb.cells,aaB]|refine Qm ?_ ?_<;>intro hb|((refine uS (h.length-1) 1 ?_ ?_);(simp (discharger:=decide) only[iU,dZ,aeN,aeQ,aV,iP,jF,jR,aO,dL,abZ,ab9,hs0,hsf];kernel_rfl);intro _)|refine fdq ?_|fail))
     exact Qq (kJ _ _ () ⟨by simp[up,g1],by simp[up,g2],by simp[up,g3],by simp[up],⟨fl,xx,hB2 _⟩⟩ ((hal _ rfl).trans (ag0 _)).symm)
 ·exact⟨by simp[up,bF],by simp[up,bF],by simp[up],by simp[up],⟨_,_,rfl⟩⟩
 rw[hans]at hk
 rcases hk with⟨rfl,rfl⟩|⟨rfl,rfl,g4⟩
 ·(have hb:=trivial;with_reducible repeat' (first|simp only[hb,Vc.down,seval,agI.down]|refine Qm ?_ ?_<;>intro hb|refine fd ?_|fail))
 ·(have hb:=trivial;with_reducible repeat' (first|simp only[hb,Vc.down,seval,agI.down,g4]|refine Qm ?_ ?_<;>intro hb|refine fd ?_|fail))
def bN(w:Qf)(d:Int)(l:List Ua)(f:Int):Int:=if decide ((w.parts.length:Int)>6)=true then 3 else if(!Wb w|| !lF d|| !jE w l||decide (f<0)||decide (f>3))=true then 2 else 0
theorem anJ(w:Qf)(hs:w.small)(d:Int)(l:List Ua)(nn:Bool)(hl:l.length≤maxLen)(f:Int):Ub.call (.fn 11) [.agg [.int .i64 w.rooms,.int .i64 w.need,Rh 9 true w.nn (w.parts.map Qb.cells)],.int .i64 d,Rh 3 true nn (l.map Ua.cells),.int .i64 f] []=some (.ret (.int .i64 (bN w d l f)),[]):=by
 have h1:=a41 w hs
 have h2:=aq9 d
 have h3:=a5T w l nn hl
 unfold bN
 cases c0:decide ((w.parts.length:Int)>6)with
 |true=>
  rw[if_pos rfl]
  (refine ce Tryz.func11 ?_;simp only[Tryz.f11];(have hb:=trivial;with_reducible repeat' (first|simp only[hb,Vc.down,seval,aiX.down,c0,aaB]|refine Qm ?_ ?_<;>intro hb|refine fd ?_|fail)))
 |false=>
  rw[if_neg (by simp)]
  generalize Wb w=b1 at *
  generalize lF d=b2 at *
  generalize jE w l=b3 at *
  cases b1 with
  |false=>
   rw[if_pos (by simp)]
   (refine ce Tryz.func11 ?_;simp only[Tryz.f11];(have hb:=trivial;with_reducible repeat' (first|simp only[hb,Vc.down,seval,aiX.down,c0,h1,aaB]|refine Qm ?_ ?_<;>intro hb|refine fd ?_|fail)))
  |true=>
   cases b2 with
   |false=>
    rw[if_pos (by simp)]
    (refine ce Tryz.func11 ?_;simp only[Tryz.f11];(have hb:=trivial;with_reducible repeat' (first|simp only[hb,Vc.down,seval,aiX.down,c0,h1,h2,aaB]|refine Qm ?_ ?_<;>intro hb|refine fd ?_|fail)))
   |true=>
    cases b3 with
    |false=>
     rw[if_pos (by simp)]
     (refine ce Tryz.func11 ?_;simp only[Tryz.f11];(have hb:=trivial;with_reducible repeat' (first|simp only[hb,Vc.down,seval,aiX.down,c0,h1,h2,h3,aaB]|refine Qm ?_ ?_<;>intro hb|refine fd ?_|fail)))
    |true=>
     cases b4:decide (f<0)with
     |true=>
      rw[if_pos (by simp)]
      (refine ce Tryz.func11 ?_;simp only[Tryz.f11];(have hb:=trivial;with_reducible repeat' (first|simp only[hb,Vc.down,seval,aiX.down,c0,h1,h2,h3,b4,aaB]|refine Qm ?_ ?_<;>intro hb|refine fd ?_|fail)))
     |false=>
      cases b5:decide (f>3)with
      |true=>
       rw[if_pos (by simp)]
       (refine ce Tryz.func11 ?_;simp only[Tryz.f11];(have hb:=trivial;with_reducible repeat' (first|simp only[hb,Vc.down,seval,aiX.down,c0,h1,h2,h3,b4,b5,aaB]|refine Qm ?_ ?_<;>intro hb|refine fd ?_|fail)))
      |false=>
       rw[if_neg (by simp)]
       (refine ce Tryz.func11 ?_;simp only[Tryz.f11];(have hb:=trivial;with_reducible repeat' (first|simp only[hb,Vc.down,seval,aiX.down,c0,h1,h2,h3,b4,b5,aaB]|refine Qm ?_ ?_<;>intro hb|refine fd ?_|fail)))
end Go.Proofs.YtcncggaobhbomaaGreatDoor
