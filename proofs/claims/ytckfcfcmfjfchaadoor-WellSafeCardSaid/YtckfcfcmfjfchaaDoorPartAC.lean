/- The functions of the layer, walked. -/
import Derived.Test.YtckfcfcmfjfchaaDoorPartAB
open List renaming length_map→aaN,getElem?_eq_some_iff→abZ,range'→ab0,length_cons→ab2,take_of_length_le→ab3,map_set→adC,getElem?_set_self→ag6,getElem?_set_ne→ahC,mem_of_getElem?→ahE,exists_cons_of_ne_nil→ahJ,getElem?_map→ah0,getElem?_eq_getElem→ah8,nil_append→ai6,range'_succ→aj1,filter_cons→akA,ext_getElem?→alS,getElem?_zipWith→alY,all_eq_true→al1,mem_or_eq_of_mem_set→al4,getElem?_of_mem→al6
open Bool renaming and_eq_true→abY,eq_iff_iff→akQ,not_eq_true'→aFK
open Int renaming reduceEq→ag7,ofNat→ahA
open Nat renaming le_succ_of_le→ag8,le_refl→ag9
open Option renaming bind_eq_some_iff→amJ,map_eq_some_iff→am4,bind_some→arW,map_some→ayD
set_option linter.unusedSimpArgs false
set_option linter.unusedVariables false
namespace Go.Proofs.YtckfcfcmfjfchaaDoor
open Go.Ev Go Go.Ev.Net
set_option maxRecDepth 100000
set_option maxHeartbeats 16000000
def opB(w:Rf)(k i:Int):Bool:=decide (1≤k)&&decide (k≤4)&&Yj i 0 (IntKind.i64.wrap ((w.parts.length:Int)-1))
theorem aJ1{n:Nat}{h:Pv}{nfl:Bool}{a b r len:Nat}{rows:List (List AV)}(hr:rows≠[]):apK n h (some (.slr a b r len)) (some (nfl,rows))=apS n h.length b r len nfl rows (h[b]?):=by
 obtain⟨x,l,rfl⟩:=ahJ hr
 rfl
def Uj(p:Px)(d k:Int)(b:Bool):Px:=if k=1 then { p with opn:=true }else if k=2 then { p with opn:=false }else if k=3 then(if b=true then { p with bad:=false,tested:=d }else { p with bad:=true })else { p with tested:=d,bad:=false }
theorem ajL{l:List Px}{nn:Bool}(hne:l≠[])(hl:l.length≤1000):Vf.call (.fn 51) [Ux 9 true nn (l.map Px.cells)] []=some (.ret (.slr 9 0 0 l.length),[.live 9 true false (l.map Px.cells)]):=by
 have h1:(l.map Px.cells).isEmpty=false:=by cases l<;>simp_all
 have h2:l.map Px.cells≠[]:=by simpa using hne
 have h3:((l.map Px.cells).length≤549755813888)=True:=eq_true (by simp;omega)
 have hs:Ux 9 true nn (l.map Px.cells)=.imm 9 true (l.map Px.cells):=vT h2
 rw[hs]
 have h4:=fun(h:Pv) a b r len=>aJ1 (n:=9) (h:=h) (nfl:=true) (a:=a) (b:=b) (r:=r) (len:=len) h2
 simp only[aaN]at h3
 (refine ce Tryd.func51 ?_;simp only[Tryd.f51];(have hb:=trivial;with_reducible repeat' (first|simp only[hb,Vc.down,seval,aSX.down,h3,h4,aaN]|refine Rj ?_ ?_<;>intro hb|refine fd ?_|fail)))
theorem aRB{w:Rf}{N:Nat}(hw:WOk w N)(h12:w.parts.length≤12)(hs:w.small)(d:Int)(hb0:(Xa w&&aN d)=true){i:Nat}{p:Px}(hp:w.parts[i]?=some p){k:Int}(hk:k=1∨k=2∨k=3∨k=4)(b:Bool):
 (uB p (Ri p d,p.opn) k=false→Vf.call (.fn 29) [.agg [.int .i64 w.rooms,.int .i64 w.need,Ux 9 true w.nn (w.parts.map Px.cells)],.int .i64 d,.agg [.int .i64 k,.int .i64 (i:Int)],.bool b] []=some (.ret (.tup [.agg [.int .i64 0,.int .i64 0,.nils],.int .i64 0,.int .i64 6]),[]))∧
 (uB p (Ri p d,p.opn) k=true→eB w N (Qb w d) k i b (Ri p d,p.opn)=false→Vf.call (.fn 29) [.agg [.int .i64 w.rooms,.int .i64 w.need,Ux 9 true w.nn (w.parts.map Px.cells)],.int .i64 d,.agg [.int .i64 k,.int .i64 (i:Int)],.bool b] []=some (.ret (.tup [.agg [.int .i64 0,.int .i64 0,.nils],.int .i64 0,.int .i64 7]),[]))∧
 (uB p (Ri p d,p.opn) k=true→eB w N (Qb w d) k i b (Ri p d,p.opn)=true→∃wf,Vf.call (.fn 29) [.agg [.int .i64 w.rooms,.int .i64 w.need,Ux 9 true w.nn (w.parts.map Px.cells)],.int .i64 d,.agg [.int .i64 k,.int .i64 (i:Int)],.bool b] []=some (.ret (.tup [.agg [.int .i64 w.rooms,.int .i64 w.need,.slr 9 0 0 w.parts.length],.int .i64 (if k=3 then p.test else if k=4 then p.change else 1),.int .i64 0]),[.live 9 true wf ((w.parts.set i (Uj p d k b)).map Px.cells)])):=by
 have hil:i<w.parts.length:=(abZ.1 hp).1
 have h1:=rC w hs d
 rw[hb0]at h1
 have hpc:=nF w d false h12
 have hx:=eJ (d:=d) hp
 have hL:=fX (d:=d) h12
 have h2:=aQJ p (Ri p d,p.opn) hk
 have h3:=aNB hw h12 d hL hx hk b false
 have d1:decide (k<1)=false:=decide_eq_false (by omega)
 have d2:decide (k>4)=false:=decide_eq_false (by omega)
 have hin:=nK (i:Int) 0 (IntKind.i64.wrap ((w.parts.length:Int)-1))
 have d3:Yj (i:Int) 0 (IntKind.i64.wrap ((w.parts.length:Int)-1))=true:=by
  rw[cO (by omega) (by omega)]
  simp[Yj];omega
 rw[d3]at hin
 have hrow:(w.parts.map Px.cells)[i]?=some p.cells:=by rw[ah0,hp];rfl
 have htk:=nM _ _ _ _ hx
 try simp only at htk
 have f0:=Xi (Qb w d)
 have c0:=Xg (Qb w d)
 have v0:=dA (Qb w d)
 have l0:=eF (Qb w d)
 have r0:=cK (Qb w d)
 have p0:=mA (Qb w d)
 have n0:=qV (Qb w d)
 have i0:=qE (Qb w d)
 have hpl:(Ve (Qb w d)).length=24:=by rw[Wt];omega
 have htk24:=ab3 (l:=Ve (Qb w d)) (i:=24) (by omega)
 have hcl:=ajL (nn:=w.nn) hw.ne hw.len
 have hpr:=fun a1 a2 a3 a4 a5 a6 a7 a8 a9=>ah9 ⟨a1,a2,a3,a4,a5,a6,a7,a8,a9⟩ hk
 have i12:((i:Int)<12)=True:=eq_true (by omega)
 have hp24:(i*2+2≤24)=True:=eq_true (by omega)
 have iln:((i:Int)<(w.parts.length:Int))=True:=eq_true (by omega)
 generalize hps:Ve (Qb w d)=ps at *
 generalize uB p (Ri p d,p.opn) k=cb at *
 generalize eB w N (Qb w d) k i b (Ri p d,p.opn)=sb at *
 simp only[Px.cells]at h2
 refine⟨fun e=>?_,fun e1 e2=>?_,fun e1 e2=>?_⟩
 ·subst e
  (refine ce Tryd.func29 ?_;simp only[Tryd.f29];(have hb:=trivial;with_reducible repeat' (first|simp only[hb,Vc.down,seval,xA.down,h1,d1,d2,hin,hpc,h2,hp,Px.cells,htk,f0,c0,v0,l0,r0,p0,n0,i0,hpl,htk24,Us,i12,hp24,iln,aaN]|refine Rj ?_ ?_<;>intro hb|refine fd ?_|fail)))
 ·subst e1 e2
  (refine ce Tryd.func29 ?_;simp only[Tryd.f29];(have hb:=trivial;with_reducible repeat' (first|simp only[hb,Vc.down,seval,xA.down,h1,d1,d2,hin,hpc,h2,h3,hp,Px.cells,htk,f0,c0,v0,l0,r0,p0,n0,i0,hpl,htk24,Us,i12,hp24,iln,aaN]|refine Rj ?_ ?_<;>intro hb|refine fd ?_|fail)))
 ·subst e1 e2
  have hset:∀a1 a2 a3 a4 a5 a6 a7 a8 a9,(w.parts.map Px.cells).set i [.int .i64 a1,.int .i64 a2,.bool a3,.bool a4,.int .i64 a5,.int .i64 a6,.bool a7,.int .i64 a8,.int .i64 a9]=(w.parts.set i ⟨a1,a2,a3,a4,a5,a6,a7,a8,a9⟩).map Px.cells:=fun a1 a2 a3 a4 a5 a6 a7 a8 a9=>by rw[adC];rfl
  have hset2:∀q a1 a2 a3 a4 a5 a6 a7 a8 a9,((w.parts.set i q).map Px.cells).set i [.int .i64 a1,.int .i64 a2,.bool a3,.bool a4,.int .i64 a5,.int .i64 a6,.bool a7,.int .i64 a8,.int .i64 a9]=(w.parts.set i ⟨a1,a2,a3,a4,a5,a6,a7,a8,a9⟩).map Px.cells:=fun q a1 a2 a3 a4 a5 a6 a7 a8 a9=>by
   rw[show([.int .i64 a1,.int .i64 a2,.bool a3,.bool a4,.int .i64 a5,.int .i64 a6,.bool a7,.int .i64 a8,.int .i64 a9]:List AV)=Px.cells ⟨a1,a2,a3,a4,a5,a6,a7,a8,a9⟩from rfl,←adC,List.set_set]
  have hget:∀q,(w.parts.set i q)[i]?=some q:=fun q=>ag6 hil
  simp only[Px.cells]at hpr
  obtain⟨p1,p2,p3,p4,p5,p6,p7,p8,p9⟩:=p
  rcases hk with rfl|rfl|rfl|rfl
  ·refine⟨true,?_⟩
   (refine ce Tryd.func29 ?_;simp only[Tryd.f29];(have hb:=trivial;with_reducible repeat' (first|simp only[hb,Vc.down,seval,xA.down,h1,d1,d2,hin,hpc,h2,h3,hp,Px.cells,htk,f0,c0,v0,l0,r0,p0,n0,i0,hpl,htk24,Us,i12,hp24,iln,hcl,hpr,hset,hset2,hget,aaN]|refine Rj ?_ ?_<;>intro hb|refine fd ?_|fail)))
   rfl
  ·refine⟨true,?_⟩
   (refine ce Tryd.func29 ?_;simp only[Tryd.f29];(have hb:=trivial;with_reducible repeat' (first|simp only[hb,Vc.down,seval,xA.down,h1,d1,d2,hin,hpc,h2,h3,hp,Px.cells,htk,f0,c0,v0,l0,r0,p0,n0,i0,hpl,htk24,Us,i12,hp24,iln,hcl,hpr,hset,hset2,hget,aaN]|refine Rj ?_ ?_<;>intro hb|refine fd ?_|fail)))
   rfl
  ·cases b
   ·refine⟨true,?_⟩
    (refine ce Tryd.func29 ?_;simp only[Tryd.f29];(have hb:=trivial;with_reducible repeat' (first|simp only[hb,Vc.down,seval,xA.down,h1,d1,d2,hin,hpc,h2,h3,hp,Px.cells,htk,f0,c0,v0,l0,r0,p0,n0,i0,hpl,htk24,Us,i12,hp24,iln,hcl,hpr,hset,hset2,hget,aaN]|refine Rj ?_ ?_<;>intro hb|refine fd ?_|fail)))
    rfl
   ·refine⟨true,?_⟩
    (refine ce Tryd.func29 ?_;simp only[Tryd.f29];(have hb:=trivial;with_reducible repeat' (first|simp only[hb,Vc.down,seval,xA.down,h1,d1,d2,hin,hpc,h2,h3,hp,Px.cells,htk,f0,c0,v0,l0,r0,p0,n0,i0,hpl,htk24,Us,i12,hp24,iln,hcl,hpr,hset,hset2,hget,aaN]|refine Rj ?_ ?_<;>intro hb|refine fd ?_|fail)))
    rfl
  ·refine⟨true,?_⟩
   (refine ce Tryd.func29 ?_;simp only[Tryd.f29];(have hb:=trivial;with_reducible repeat' (first|simp only[hb,Vc.down,seval,xA.down,h1,d1,d2,hin,hpc,h2,h3,hp,Px.cells,htk,f0,c0,v0,l0,r0,p0,n0,i0,hpl,htk24,Us,i12,hp24,iln,hcl,hpr,hset,hset2,hget,aaN]|refine Rj ?_ ?_<;>intro hb|refine fd ?_|fail)))
   rfl
theorem anM(w:Rf)(i:Int):Vf.call (.fn 20) [.agg [.int .i64 w.rooms,.int .i64 w.need,Ux 9 true w.nn (w.parts.map Px.cells)],.int .i64 i] []=some (.ret (.bool (Yj i 0 (IntKind.i64.wrap ((w.parts.length:Int)-1)))),[]):=by
 have h:=qL i 0 (IntKind.i64.wrap ((w.parts.length:Int)-1))
 (refine ce Tryd.func20 ?_;simp only[Tryd.f20];(have hb:=trivial;with_reducible repeat' (first|simp only[hb,Vc.down,seval,aTN.down,h,aaN]|refine Rj ?_ ?_<;>intro hb|refine fd ?_|fail)))
theorem aSW(w:Rf)(k i:Int):Vf.call (.fn 28) [.agg [.int .i64 w.rooms,.int .i64 w.need,Ux 9 true w.nn (w.parts.map Px.cells)],.agg [.int .i64 k,.int .i64 i]] []=some (.ret (.bool (opB w k i)),[]):=by
 have h:=anM w i
 have ho:opB w k i=(decide (1≤k)&&decide (k≤4)&&Yj i 0 (IntKind.i64.wrap ((w.parts.length:Int)-1))):=rfl
 rw[ho]
 generalize Yj i 0 (IntKind.i64.wrap ((w.parts.length:Int)-1))=c at *
 cases c
 ·(refine ce Tryd.func28 ?_;simp only[Tryd.f28];(have hb:=trivial;with_reducible repeat' (first|simp only[hb,Vc.down,seval,aoY.down,h,aaN]|refine Rj ?_ ?_<;>intro hb|refine fd ?_|fail)))
  try simp
 ·cases d1:decide (1≤k)
  ·(refine ce Tryd.func28 ?_;simp only[Tryd.f28];(have hb:=trivial;with_reducible repeat' (first|simp only[hb,Vc.down,seval,aoY.down,h,d1,ge_iff_le,aaN]|refine Rj ?_ ?_<;>intro hb|refine fd ?_|fail)))
  ·(refine ce Tryd.func28 ?_;simp only[Tryd.f28];(have hb:=trivial;with_reducible repeat' (first|simp only[hb,Vc.down,seval,aoY.down,h,d1,ge_iff_le,aaN]|refine Rj ?_ ?_<;>intro hb|refine fd ?_|fail)))
   try simp
def mC(p:Px)(d k:Int):Bool:=if k=1 then p.valve&& !p.opn else if k=2 then p.opn else if k=3 then !p.opn&&Ri p d==1 else !p.opn
theorem aRL{w:Rf}{d:Int}{i:Nat}{p:Px}(hp:w.parts[i]?=some p){k:Int}(hk:k=1∨k=2∨k=3∨k=4):Vf.call (.fn 30) [.agg [.int .i64 w.rooms,.int .i64 w.need,Ux 9 true w.nn (w.parts.map Px.cells)],.int .i64 d,.agg [.int .i64 k,.int .i64 (i:Int)]] []=some (.ret (.bool (mC p d k)),[]):=by
 have hc:=tL p d
 have hcr:mC p d k=if k=1 then p.valve&& !p.opn else if k=2 then p.opn else if k=3 then !p.opn&&Ri p d==1 else !p.opn:=rfl
 rw[hcr]
 generalize Ri p d=c at *
 obtain⟨p1,p2,p3,p4,p5,p6,p7,p8,p9⟩:=p
 simp only[Px.cells]at hc
 rcases hk with rfl|rfl|rfl|rfl
 ·cases p3<;>cases p4<;>(refine ce Tryd.func30 ?_;simp only[Tryd.f30];(have hb:=trivial;with_reducible repeat' (first|simp only[hb,Vc.down,seval,ahO.down,hp,Px.cells]|refine Rj ?_ ?_<;>intro hb|refine fd ?_|fail)))
  all_goals rfl
 ·(refine ce Tryd.func30 ?_;simp only[Tryd.f30];(have hb:=trivial;with_reducible repeat' (first|simp only[hb,Vc.down,seval,ahO.down,hp,Px.cells]|refine Rj ?_ ?_<;>intro hb|refine fd ?_|fail)))
  try rfl
 ·cases p4<;>cases h:(c==1)<;>(refine ce Tryd.func30 ?_;simp only[Tryd.f30];(have hb:=trivial;with_reducible repeat' (first|simp only[hb,Vc.down,seval,ahO.down,hp,Px.cells,hc,h]|refine Rj ?_ ?_<;>intro hb|refine fd ?_|fail)))
  all_goals (simp only[h];rfl)
 ·cases p4<;>(refine ce Tryd.func30 ?_;simp only[Tryd.f30];(have hb:=trivial;with_reducible repeat' (first|simp only[hb,Vc.down,seval,ahO.down,hp,Px.cells]|refine Rj ?_ ?_<;>intro hb|refine fd ?_|fail)))
  all_goals rfl
theorem anE{w:Rf}(hne:w.parts≠[])(hl:w.parts.length≤1000){i:Nat}(hi:i<w.parts.length)(q:Px):∃wf,Vf.call (.fn 31) [.agg [.int .i64 w.rooms,.int .i64 w.need,Ux 9 true w.nn (w.parts.map Px.cells)],.int .i64 (i:Int),.agg [.int .i64 q.one,.int .i64 q.other,.bool q.valve,.bool q.opn,.int .i64 q.tested,.int .i64 q.valid,.bool q.bad,.int .i64 q.test,.int .i64 q.change]] []=some (.ret (.agg [.int .i64 w.rooms,.int .i64 w.need,.slr 9 0 0 w.parts.length]),[.live 9 true wf ((w.parts.set i q).map Px.cells)]):=by
 have h2:w.parts.map Px.cells≠[]:=by simpa using hne
 have h3:(w.parts.length≤549755813888)=True:=eq_true (by omega)
 have h4:=fun(h:Pv)=>aMT (n:=9) (h:=h) (nfl:=true) h2 (by simp;omega)
 have hs:Ux 9 true w.nn (w.parts.map Px.cells)=.imm 9 true (w.parts.map Px.cells):=vT h2
 have iln:((i:Int)<(w.parts.length:Int))=True:=eq_true (by omega)
 obtain⟨p,hp⟩:∃p,w.parts[i]?=some p:=⟨_,ah8 hi⟩
 have hset:∀a1 a2 a3 a4 a5 a6 a7 a8 a9,(w.parts.map Px.cells).set i [.int .i64 a1,.int .i64 a2,.bool a3,.bool a4,.int .i64 a5,.int .i64 a6,.bool a7,.int .i64 a8,.int .i64 a9]=(w.parts.set i ⟨a1,a2,a3,a4,a5,a6,a7,a8,a9⟩).map Px.cells:=fun a1 a2 a3 a4 a5 a6 a7 a8 a9=>by rw[adC];rfl
 rw[hs]
 refine⟨true,?_⟩
 (refine ce Tryd.func31 ?_;simp only[Tryd.f31];(have hb:=trivial;with_reducible repeat' (first|simp only[hb,Vc.down,seval,aS6.down,h3,h4,hp,Px.cells,iln,hset,aaN]|refine Rj ?_ ?_<;>intro hb|refine fd ?_|fail)))
 try rfl
def rX(w:Rf)(N:Nat)(L:List (Int × Bool))(i:Nat):Bool:=match L[i]? with
 |some x=>nS x&& !(bP w N L==0)&&bP w N (L.set i (2,x.2))==0
 |none=>false
def qT(w:Rf)(N:Nat)(L:List (Int × Bool)):List Nat:=(List.range w.parts.length).filter (rX w N L)
def nT(v:AV)(l:List Nat)(h:Pv)(lo:Nat):Prop:=(l=[]∧v=.nils)∨(l≠[]∧∃b,lo≤b∧v=.slr 1 b 0 l.length∧h[b]?=some (.live 1 true false (l.map Yx)))
theorem nT.app{v:AV}{l:List Nat}{h:Pv}{lo:Nat}(B:nT v l h lo)(x:Pv):nT v l (h++x) lo:=by
 rcases B with h1|⟨h1,b,h2,h3,h4⟩
 ·exact .inl h1
 ·exact .inr ⟨h1,b,h2,h3,Qe h4 x⟩
theorem yL{w:Rf}{N:Nat}(hw:WOk w N)(h12:w.parts.length≤12)(hs:w.small)(d:Int)(hb0:(Xa w&&aN d)=true)(o:Tn)(h':Pv)
 (c0:qT w N (Qb w d)=[]→(o,h')=(.ret (.tup [.nils,.int .i64 0]),[])) (c1:qT w N (Qb w d)≠[]→(o,h')=(.ret (.tup [.slr 1 0 0 (qT w N (Qb w d)).length,.int .i64 0]),[.live 1 true false ((qT w N (Qb w d)).map Yx)])):
 Vf.call (.fn 22) [.agg [.int .i64 w.rooms,.int .i64 w.need,Ux 9 true w.nn (w.parts.map Px.cells)],.int .i64 d] []=some (o,h'):=by
 have h1:=rC w hs d
 rw[hb0]at h1
 have hpc:=nF w d false h12
 have hL:=fX (d:=d) h12
 have hn0:=aI hw h12 d hL false
 have f0:=Xi (Qb w d)
 have k0:=Xg (Qb w d)
 have v0:=dA (Qb w d)
 have l0:=eF (Qb w d)
 have r0:=cK (Qb w d)
 have p0:=mA (Qb w d)
 have n0:=qV (Qb w d)
 have i0:=qE (Qb w d)
 have hpl:(Ve (Qb w d)).length=24:=by rw[Wt];omega
 have htk24:=ab3 (l:=Ve (Qb w d)) (i:=24) (by omega)
 have hen:=fun(L:List (Int × Bool)) (hL:L.length=12)=>aI hw h12 d hL false
 have hel:∀i x,(Qb w d)[i]?=some x→rX w N (Qb w d) i=(nS x&& !(bP w N (Qb w d)==0)&&bP w N ((Qb w d).set i (2,x.2))==0):=fun i x hx=>by unfold rX;rw[hx]
 have hpa:∀i p,w.parts[i]?=some p→(Qb w d)[i]?=some (Ri p d,p.opn):=fun i p hp=>eJ hp
 unfold qT at c0 c1
 generalize Qb w d=L at *
 (refine ce Tryd.func22 ?_;simp only[Tryd.f22];(have hb:=trivial;with_reducible repeat' (first|simp only[hb,Vc.down,seval,qB.down,h1,hpc,f0,k0,v0,l0,r0,p0,n0,i0,hpl,htk24,aaN]|refine Rj ?_ ?_<;>intro hb|refine fd ?_|fail)))
 refine iP (yQ 57 w.parts (fun i (zz:List Nat × Nat) t h=>t 6=.ptr 1 0 0∧t 8=.ptr 2 0 0∧t 27=.int .i64 (w.parts.length:Nat)∧t 28=.int .i64 i∧(h[1]?=some (.live 4 false false [[.int .i64 w.rooms,.int .i64 w.need,Ux 9 true w.nn (w.parts.map Px.cells),.int .i64 d]])∧h[2]?=some (.live 24 true true [Ve L])∧zz.2=i∧zz.1.length≤i∧nT (t 9) zz.1 h 3)) (fun rest zz=>zz.1++(ab0 zz.2 rest.length).filter (rX w N L)) (fun r e t h=>e=.exit 0∧nT (t 9) r h 3) ?_ ?_ ([],0) _ _ ?_) (fun e t h hk=>?_)
 ·rintro⟨a,c⟩ t h Q' kQ ⟨h6,h8,h27,h28,⟨hA,hP,hcc,hci,hB⟩⟩
  try dsimp only at *
  (have hb:=trivial;with_reducible repeat' (first|simp only[hb,Vc.down,seval,qB.down,h6,h8,h27,h28,Int.lt_irrefl,decide_false,hA,aaN]|refine Rj ?_ ?_<;>intro hb|refine fd ?_|fail))
  exact kQ _ _ _ ⟨rfl,by simpa [up]using hB⟩
 ·rintro x rest i ⟨a,c⟩ t h J Q' kJ kQ hx hi ⟨h6,h8,h27,h28,⟨hA,hP,hcc,hci,hB⟩⟩
  have hd:decide ((i:Int)<(w.parts.length:Int))=true:=decide_eq_true (by omega)
  have hw:=Ya hi (by have:=hw.len;unfold maxLen;omega)
  try dsimp only at *
  subst c
  have hy:=hpa i x hx
  have hly:=hel i _ hy
  generalize hyy:(Ri x d,x.opn)=y at *
  have htt:=xM y.1 y.2
  rw[show(y.1==0&& !y.2)=nS y from rfl]at htt
  have htk:=nM _ _ _ _ hy
  have hn1:=hen (L.set i (2,y.2)) (by simpa using hL)
  have i12:((i:Int)<12)=True:=eq_true (by omega)
  have hpz:(i*2≤23)=True:=eq_true (by omega)
  have hp24:(i*2+2≤24)=True:=eq_true (by omega)
  have hs1:=gA L i y.1 2 y.2 hy
  have ht1:List.take (24-i*2) [AV.int .i64 2]=[AV.int .i64 2]:=ab3 (by simp;omega)
  have f1:=Xi (L.set i (2,y.2))
  have k1:=Xg (L.set i (2,y.2))
  have v1:=dA (L.set i (2,y.2))
  have l1:=eF (L.set i (2,y.2))
  have r1:=cK (L.set i (2,y.2))
  have hpl1:(Ve (L.set i (2,y.2))).length=24:=by rw[Wt];simp;omega
  have htk1:=ab3 (l:=Ve (L.set i (2,y.2))) (i:=24) (by omega)
  simp only[List.cons_append,ai6]at hs1
  generalize bP w N (L.set i (2,y.2))=m1 at *
  generalize hm0:bP w N L=m0 at *
  generalize Ve (L.set i (2,y.2))=ps1 at *
  generalize Ve L=ps at *
  have hA1:=Qe hA
  have hP1:=Qe hP
  have no:rX w N L i=false→(ab0 i (rest.length+1)).filter (rX w N L)=(ab0 (i+1) rest.length).filter (rX w N L):=fun e=>by rw[aj1,akA,e];rfl
  have yes:rX w N L i=true→(ab0 i (rest.length+1)).filter (rX w N L)=i::(ab0 (i+1) rest.length).filter (rX w N L):=fun e=>by rw[aj1,akA,e];rfl
  have ez:∀n:Nat,((n:Int)==0)=(n==0):=fun n=>by cases n<;>rfl
  have hl2:=Pz hP
  cases t1:nS y
  ·rw[t1]at hly
   (have hb:=trivial;with_reducible repeat' (first|simp only[hb,Vc.down,seval,qB.down,h6,h8,h27,h28,hd,hw,hA,hA1,hP,hP1,htt,t1,htk,hn0,hn1,i12,hpz,hp24,hs1,ht1,f1,k1,v1,l1,r1,hpl,hpl1,htk1,htk24,f0,k0,v0,l0,r0,Us,aaN]|refine Rj ?_ ?_<;>intro hb|refine fd ?_|fail))
   (refine Qk (kJ _ _ (a,i+1) ⟨?_,?_,?_,?_,⟨hA1 _,hP1 _,rfl,ag8 hci,hB.app _⟩⟩ ?_);(simp[up,h6]);(simp[up,h8]);(simp[up,h27]);(simp[up]);(rw[ab2,no hly]))
  ·cases z0:(m0==0)
   ·have z0':((m0:Int)==0)=false:=by rw[ez];exact z0
    cases z1:(m1==0)
    ·have z1':((m1:Int)==0)=false:=by rw[ez];exact z1
     rw[t1,z0,z1]at hly
     (have hb:=trivial;with_reducible repeat' (first|simp only[hb,Vc.down,seval,qB.down,z0',z1',bne,h6,h8,h27,h28,hd,hw,hA,hA1,hP,hP1,htt,t1,htk,hn0,hn1,i12,hpz,hp24,hs1,ht1,f1,k1,v1,l1,r1,hpl,hpl1,htk1,htk24,f0,k0,v0,l0,r0,Us,aaN]|refine Rj ?_ ?_<;>intro hb|refine fd ?_|fail))
     (refine Qk (kJ _ _ (a,i+1) ⟨?_,?_,?_,?_,⟨hA1 _,hP1 _,rfl,ag8 hci,hB.app _⟩⟩ ?_);(simp[up,h6]);(simp[up,h8]);(simp[up,h27]);(simp[up]);(rw[ab2,no hly]))
    ·have z1':((m1:Int)==0)=true:=by rw[ez];exact z1
     rw[t1,z0,z1]at hly
     have hal:a.length≤i:=hci
     rcases hB with⟨rfl,ho⟩|⟨hne,b,hb3,ho,hb⟩
     ·(have hb:=trivial;with_reducible repeat' (first|simp only[hb,Vc.down,seval,qB.down,ho,z0',z1',bne,h6,h8,h27,h28,hd,hw,hA,hA1,hP,hP1,htt,t1,htk,hn0,hn1,i12,hpz,hp24,hs1,ht1,f1,k1,v1,l1,r1,hpl,hpl1,htk1,htk24,f0,k0,v0,l0,r0,Us,aaN]|refine Rj ?_ ?_<;>intro hb|refine fd ?_|fail))
      (refine Qk (kJ _ _ ([i],i+1) ⟨?_,?_,?_,?_,⟨hA1 _,hP1 _,rfl,by simp,.inr ⟨by simp,h.length+2,by omega,by simp[up],by rw[List.getElem?_append_right (by omega),Nat.add_sub_cancel_left];rfl⟩⟩⟩ ?_);(simp[up,h6]);(simp[up,h8]);(simp[up,h27]);(simp[up]);(rw[ab2,yes hly];simp))
     ·have hbl:=Pz hb
      have hB2:=Qe hb
      have hS:=aS hbl
      have hi39:(a.length+1≤549755813888)=True:=eq_true (by omega)
      (with_reducible repeat' (first|simp only[hb,Vc.down,seval,qB.down,ho,hb,hB2,hS,bS,Qs,List.length_set,hi39,z0',z1',bne,h6,h8,h27,h28,hd,hw,hA,hA1,hP,hP1,htt,t1,htk,hn0,hn1,i12,hpz,hp24,hs1,ht1,f1,k1,v1,l1,r1,hpl,hpl1,htk1,htk24,f0,k0,v0,l0,r0,Us,aaN]|refine Rj ?_ ?_<;>intro hb|refine fd ?_|fail))
      (refine Qk (kJ _ _ (a++[i],i+1) ⟨?_,?_,?_,?_,⟨xR _ (by omega) hA _,xR _ (by omega) hP _,rfl,by simp;omega,.inr ⟨by simp,h.length+2,by omega,by simp[up],by rw[Qs];simp[Yx]⟩⟩⟩ ?_);(simp[up,h6]);(simp[up,h8]);(simp[up,h27]);(simp[up]);(rw[ab2,yes hly];simp))
   ·have z0':((m0:Int)==0)=true:=by rw[ez];exact z0
    rw[t1,z0]at hly
    (have hb:=trivial;with_reducible repeat' (first|simp only[hb,Vc.down,seval,qB.down,z0',bne,h6,h8,h27,h28,hd,hw,hA,hA1,hP,hP1,htt,t1,htk,hn0,hn1,i12,hpz,hp24,hs1,ht1,f1,k1,v1,l1,r1,hpl,hpl1,htk1,htk24,f0,k0,v0,l0,r0,Us,aaN]|refine Rj ?_ ?_<;>intro hb|refine fd ?_|fail))
    (refine Qk (kJ _ _ (a,i+1) ⟨?_,?_,?_,?_,⟨hA1 _,hP1 _,rfl,ag8 hci,hB.app _⟩⟩ ?_);(simp[up,h6]);(simp[up,h8]);(simp[up,h27]);(simp[up]);(rw[ab2,no hly]))
 ·exact⟨by simp[up,eU],by simp[up,eU],by simp[up,eU],by simp[up],⟨rfl,rfl,rfl,ag9 _,.inl ⟨rfl,by simp[up]⟩⟩⟩
 obtain⟨rfl,hB⟩:=hk
 simp only[ai6,←List.range_eq_range']at hB
 rcases hB with⟨hn,ho⟩|⟨hn,b,hb3,ho,hb⟩
 ·rw[c0 hn]
  (have hb:=trivial;with_reducible repeat' (first|simp only[hb,Vc.down,seval,qB.down,ho]|refine Rj ?_ ?_<;>intro hb|refine fd ?_|fail))
 ·rw[c1 hn]
  generalize hr:List.filter (rX w N L) (List.range w.parts.length)=r at *
  obtain⟨x,l,rfl⟩:=ahJ hn
  (with_reducible repeat' (first|simp only[hb,Vc.down,seval,qB.down,ho,hb]|refine Rj ?_ ?_<;>intro hb|refine fd ?_|fail))
theorem aRT(l:List Int)(nn:Bool)(n:Int)(hl:l.length≤maxLen):Vf.call (.fn 21) [Ux 1 true nn (l.map iv),.int .i64 n] []=some (.ret (.bool (l.any (· ==n))),[]):=by
 (refine ce Tryd.func21 ?_;simp only[Tryd.f21];(have hb:=trivial;with_reducible repeat' (first|simp only[hb,Vc.down,seval,abL.down,aaN]|refine Rj ?_ ?_<;>intro hb|refine fd ?_|fail)))
 refine iP (yQ 18 l (fun i (zz:Unit) t h=>t 0=Ux 1 true nn (l.map iv)∧t 1=.int .i64 n∧t 5=.int .i64 i∧(h=[])) (fun rest zz=>rest.any (· ==n)) (fun r e t h=>h=[]∧((e=.exit 0∧r=false)∨(e=.ret∧t 4=.bool true∧r=true))) ?_ ?_ () _ _ ?_) (fun e t h hk=>?_)
 ·rintro _ t h Q' kQ ⟨h0,h1,h5,rfl⟩
  (have hb:=trivial;with_reducible repeat' (first|simp only[hb,Vc.down,seval,abL.down,h0,h1,h5,Int.lt_irrefl,decide_false,aaN]|refine Rj ?_ ?_<;>intro hb|refine fd ?_|fail))
  exact kQ _ _ _ ⟨rfl,.inl ⟨rfl,rfl⟩⟩
 ·rintro x rest i _ t h J Q' kJ kQ hx hi ⟨h0,h1,h5,rfl⟩
  have hd:decide ((i:Int)<(l.length:Int))=true:=decide_eq_true (by omega)
  have hw:=Ya hi hl
  cases q:(x==n)
  ·(have hb:=trivial;with_reducible repeat' (first|simp only[hb,Vc.down,seval,abL.down,h0,h1,h5,hd,hw,hx,iv,q,aaN]|refine Rj ?_ ?_<;>intro hb|refine fd ?_|fail))
   (refine Qk (kJ _ _ () ⟨?_,?_,?_,rfl⟩ ?_);(simp[up,h0]);(simp[up,h1]);(simp[up]);(simp[q]))
  ·(have hb:=trivial;with_reducible repeat' (first|simp only[hb,Vc.down,seval,abL.down,h0,h1,h5,hd,hw,hx,iv,q,aaN]|refine Rj ?_ ?_<;>intro hb|refine fd ?_|fail))
   exact kQ _ _ _ ⟨rfl,.inr ⟨rfl,by simp[up],by simp[q]⟩⟩
 ·exact⟨by simp[up,eU],by simp[up,eU],by simp[up],rfl⟩
 obtain⟨rfl,⟨rfl,hr⟩|⟨rfl,h4,hr⟩⟩:=hk
 ·rw[hr]
  (have hb:=trivial;with_reducible repeat' (first|simp only[hb,Vc.down,seval,abL.down]|refine Rj ?_ ?_<;>intro hb|refine fd ?_|fail))
 ·rw[hr]
  (have hb:=trivial;with_reducible repeat' (first|simp only[hb,Vc.down,seval,abL.down,h4]|refine Rj ?_ ?_<;>intro hb|refine fd ?_|fail))
theorem ao1(l:List Nat)(nn:Bool)(n:Nat)(hl:l.length≤maxLen):Vf.call (.fn 21) [Ux 1 true nn (l.map Yx),.int .i64 (n:Int)] []=some (.ret (.bool (l.contains n)),[]):=by
 have h:=aRT (l.map ahA) nn n (by simpa using hl)
 have e:(l.map ahA).map iv=l.map Yx:=by rw[List.map_map];rfl
 have e2:(l.map ahA).any (· ==(n:Int))=l.contains n:=by
  clear h e hl
  induction l with
  |nil=>rfl
  |cons a l ih=>
   rw[List.map_cons,List.any_cons,ih,List.contains_cons]
   congr 1
   rw[akQ];simp
   omega
 rw[e,e2]at h
 exact h
def Ti(w:Rf)(i:Nat)(q:Px):Rf:={ w with nn:=true,parts:=w.parts.set i q }
theorem Qu(w:Rf)(i:Nat)(q:Px):(Ti w i q).parts.length=w.parts.length:=by simp[Ti]
theorem uZ{w:Rf}{d:Int}{i:Nat}{q:Px}(hi:i<w.parts.length):Qb (Ti w i q) d=(Qb w d).set i (Ri q d,q.opn):=by
 unfold Qb
 rw[Qu,List.set_append_left _ _ (by simpa using hi),←adC]
 rfl
theorem acO{w:Rf}{i:Nat}{p q:Px}(hp:w.parts[i]?=some p)(h1:q.one=p.one)(h2:q.other=p.other)(ts:List Bool):rK (Ti w i q) ts=rK w ts:=by
 unfold rK Ti
 apply alS
 intro j
 simp only[alY]
 by_cases e:i=j
 ·subst e
  rw[ag6 (abZ.1 hp).1,hp]
  cases ts[i]? with
  |none=>rfl
  |some t=>simp only[h1,h2]
 ·rw[ahC e]
theorem afM{w:Rf}{N:Nat}{i:Nat}{p q:Px}(hp:w.parts[i]?=some p)(h1:q.one=p.one)(h2:q.other=p.other)(L:List (Int × Bool)):bP (Ti w i q) N L=bP w N L:=by
 unfold bP
 rw[acO hp h1 h2,Qu]
theorem oU{w:Rf}{N:Nat}{d:Int}{i:Nat}{p q:Px}(hp:w.parts[i]?=some p)(h1:q.one=p.one)(h2:q.other=p.other):jD (Ti w i q) N d=bP w N ((Qb w d).set i (Ri q d,q.opn)):=by
 rw[←fY,uZ (abZ.1 hp).1,afM hp h1 h2]
theorem oQ{w:Rf}(h:Xa w=true){i:Nat}{q:Px}(hq:Vx w.rooms q=true):Xa (Ti w i q)=true:=by
 simp only[Xa,sD,abY]at h ⊢
 obtain⟨⟨⟨h1,h2⟩,h3⟩,h4⟩:=h
 refine⟨⟨⟨h1,h2⟩,by rw[Qu];exact h3⟩,?_⟩
 rw[al1]at h4 ⊢
 intro x hx
 rcases al4 hx with hx|rfl
 ·exact h4 x hx
 ·exact hq
theorem mG{w:Rf}(hs:w.small){i:Nat}{q:Px}(hq:q.fits):(Ti w i q).small:=⟨by rw[Qu];exact hs.parts,fun x hx=>by
 rcases al4 hx with hx|rfl
 ·exact hs.fits x hx
 ·exact hq,hs.rooms,hs.need⟩
theorem rB{w:Rf}{N:Nat}(hw:WOk w N){L:List (Int × Bool)}{i:Nat}{x y:Int × Bool}(hi:i<L.length)(hxy:nS x=true→nS y=true):bP w N (L.set i x)≤bP w N (L.set i y):=by
 have n2:=hw.n2
 have n8:=hw.n8
 have get:∀(z:Int × Bool) (j:Nat),(rK w (tgt (L.set i z)))[j]?=(w.parts[j]?).bind fun p=>(L[j]?).map fun u=>(p.one.toNat,p.other.toNat,if nS (if i=j then z else u)=true then 1 else 0):=fun z j=>by
  unfold rK tgt
  rw[alY,ah0]
  by_cases e:i=j
  ·subst e
   rw[ag6 hi,ah8 hi]
   cases w.parts[i]?<;>simp
  ·rw[ahC e]
   cases w.parts[j]? with
   |none=>rfl
   |some p=>cases L[j]?<;>simp[e]
 refine af6 n2 (by omega) (nL hw _) (nL hw _) (fun a b c' hc=>?_) (fun a b c hc=>?_)
 ·obtain⟨j,hj⟩:=al6 hc
  rw[get]at hj
  obtain⟨p,h1,hj⟩:=amJ.1 hj
  obtain⟨u,h2,hj⟩:=am4.1 hj
  refine⟨if nS (if i=j then x else u)=true then 1 else 0,ahE (i:=j) ?_,?_⟩
  ·rw[get,h1,h2]
   simp only[arW,ayD,Option.some.injEq,Prod.mk.injEq]at hj ⊢
   exact⟨hj.1,hj.2.1,trivial⟩
  ·simp only[Prod.mk.injEq]at hj
   rw[←hj.2.2]
   by_cases e:i=j
   ·rw[if_pos e,if_pos e]
    by_cases t:nS x=true
    ·rw[if_pos t,if_pos (hxy t)];exact ag9 _
    ·rw[if_neg t];exact Nat.zero_le _
   ·rw[if_neg e,if_neg e];exact ag9 _
 ·obtain⟨j,hj⟩:=al6 hc
  rw[get]at hj
  obtain⟨p,h1,hj⟩:=amJ.1 hj
  obtain⟨u,h2,hj⟩:=am4.1 hj
  refine⟨if nS (if i=j then y else u)=true then 1 else 0,ahE (i:=j) ?_⟩
  rw[get,h1,h2]
  simp only[arW,ayD,Option.some.injEq,Prod.mk.injEq]at hj ⊢
  exact⟨hj.1,hj.2.1,trivial⟩
theorem aiM{w:Rf}{N:Nat}(hw:WOk w N){L:List (Int × Bool)}{i:Nat}{x y:Int × Bool}(hi:i<L.length)(hxy:nS x=nS y):bP w N (L.set i x)=bP w N (L.set i y):=
 Nat.le_antisymm (rB hw hi (fun h=>hxy▸h)) (rB hw hi (fun h=>hxy▸h))
theorem acP{α:Type}{L:List α}{i:Nat}{x:α}(hx:L[i]?=some x):L.set i x=L:=by
 apply alS
 intro j
 by_cases e:i=j
 ·subst e;rw[ag6 (abZ.1 hx).1,hx]
 ·rw[ahC e]
theorem lG{w:Rf}(h:Xa w=true){i:Nat}{p:Px}(hp:w.parts[i]?=some p):Vx w.rooms p=true:=by
 simp only[Xa,abY,al1]at h
 exact h.2 p (ahE hp)
theorem uX{N:Int}{p:Px}(h:Vx N p=true):(p.opn=true→p.valve=true)∧0≤p.tested∧p.tested≤5000∧0≤p.valid∧p.valid≤5000∧1≤p.test∧1≤p.change:=by
 simp only[Vx,aN,Yj,abY,decide_eq_true_eq,aFK,Bool.and_eq_false_iff,Bool.not_eq_false']at h
 obtain⟨⟨⟨⟨⟨⟨⟨a1,a2⟩,a3⟩,a4⟩,a5⟩,a6⟩,a7⟩,a8⟩:=h
 refine⟨fun e=>?_,a5.1,a5.2,a6.1,a6.2,a7.1,a8.1⟩
 rcases a4 with a4|a4
 ·rw[e]at a4;cases a4
 ·exact a4
theorem aoC{w:Rf}(h:Xa w=true){i:Nat}{p:Px}(hp:w.parts[i]?=some p)(d k:Int):uB p (Ri p d,p.opn) k=mC p d k:=by
 have hv:=(uX (lG h hp)).1
 unfold uB mC
 by_cases k1:k=1
 ·rw[if_pos k1,if_pos k1]
 by_cases k2:k=2
 ·rw[if_neg k1,if_neg k1,if_pos k2,if_pos k2]
  cases ho:p.opn
  ·simp
  ·simp[hv ho]
 rw[if_neg k1,if_neg k1,if_neg k2,if_neg k2]
def Zp(p:Px)(k:Int):Px:=if k=1 then { p with opn:=true }else if k=4 then { p with bad:=true }else p
theorem sK(p:Px)(k:Int):(Zp p k).one=p.one∧(Zp p k).other=p.other:=by
 unfold Zp
 split
 ·exact⟨rfl,rfl⟩
 ·split<;>exact⟨rfl,rfl⟩
theorem sS(p:Px)(d k:Int)(b:Bool):(Uj p d k b).one=p.one∧(Uj p d k b).other=p.other:=by
 unfold Uj
 split
 ·exact⟨rfl,rfl⟩
 ·split
  ·exact⟨rfl,rfl⟩
  ·split
   ·split<;>exact⟨rfl,rfl⟩
   ·exact⟨rfl,rfl⟩
theorem adO{N:Int}{p:Px}(h:Vx N p=true){d k:Int}(hc:mC p d k=true):Vx N (Zp p k)=true:=by
 unfold Zp
 split
 ·rename_i e
  subst e
  simp only[mC,if_true,abY]at hc
  simp only[Vx,hc.1,abY]at h ⊢
  simpa using h
 ·split
  ·exact h
  ·exact h
theorem afD{N:Int}{p:Px}(h:Vx N p=true){d k:Int}(hd:aN d=true)(hc:mC p d k=true)(b:Bool):Vx N (Uj p d k b)=true:=by
 unfold Uj
 split
 ·rename_i e
  subst e
  simp only[mC,if_true,abY]at hc
  simp only[Vx,hc.1,abY]at h ⊢
  simpa using h
 ·split
  ·simp only[Vx,abY]at h ⊢
   simp only[Bool.false_and,Bool.not_false]
   simp_all
  ·split
   ·split
    ·simp only[Vx,abY]at h ⊢
     simp_all
    ·exact h
   ·simp only[Vx,abY]at h ⊢
    simp_all
theorem sC{p:Px}{d:Int}(hd:aN d=true)(hv:0≤p.valid∧p.valid≤5000):Ri { p with bad:=false,tested:=d } d=0:=by
 simp only[aN,Yj,abY,decide_eq_true_eq]at hd
 simp only[Ri,Bool.false_eq_true,if_false]
 rw[cO (by omega) (by omega),if_neg (by omega)]
theorem abK{N:Int}{p:Px}(h:Vx N p=true){d k:Int}(hk:k=1∨k=2∨k=3∨k=4)(hd:aN d=true)(b:Bool):(Ri (Uj p d k b) d,(Uj p d k b).opn)=Zg k b (Ri p d,p.opn):=by
 obtain⟨_,_,_,h4,h5,_⟩:=uX h
 rcases hk with rfl|rfl|rfl|rfl
 ·rfl
 ·rfl
 ·cases b
  ·show(Ri { p with bad:=true } d,p.opn)=(2,p.opn)
   simp[Ri]
  ·show(Ri { p with bad:=false,tested:=d } d,p.opn)=(0,p.opn)
   rw[sC hd ⟨h4,h5⟩]
 ·show(Ri { p with bad:=false,tested:=d } d,p.opn)=(0,p.opn)
  rw[sC hd ⟨h4,h5⟩]
theorem zD(p:Px)(d k:Int):(Ri (Zp p k) d,(Zp p k).opn)=if k=1 then(Ri p d,true)else if k=4 then(2,p.opn)else(Ri p d,p.opn):=by
 unfold Zp
 split
 ·rfl
 ·split
  ·simp[Ri]
  ·rfl
theorem alM{w:Rf}{N:Nat}{d:Int}{i:Nat}{p:Px}(hp:w.parts[i]?=some p)(k:Int):jD (Ti w i (Zp p k)) N d=bP w N ((Qb w d).set i (if k=1 then(Ri p d,true)else if k=4 then(2,p.opn)else(Ri p d,p.opn))):=by
 rw[oU hp (sK p k).1 (sK p k).2,zD]
theorem akB{w:Rf}{N:Nat}{d:Int}(hd:aN d=true){i:Nat}{p:Px}(hp:w.parts[i]?=some p)(h:Xa w=true){k:Int}(hk:k=1∨k=2∨k=3∨k=4)(b:Bool):jD (Ti w i (Uj p d k b)) N d=bP w N ((Qb w d).set i (Zg k b (Ri p d,p.opn))):=by
 rw[oU hp (sS p d k b).1 (sS p d k b).2,abK (lG h hp) hk hd]
theorem adJ(w:Rf)(N:Nat)(L:List (Int × Bool)):Vl w N L≤(bP w N L:Int)∧Vl w N L≤w.need:=by
 unfold Vl
 split<;>omega
theorem ae0{w:Rf}{N:Nat}(hw:WOk w N)(h12:w.parts.length≤12){d:Int}{i:Nat}{p:Px}(hp:w.parts[i]?=some p){k:Int}(hk:k=1∨k=2∨k=3∨k=4)(b:Bool)(hc:mC p d k=true):
 eB w N (Qb w d) k i b (Ri p d,p.opn)=decide ((jD (Ti w i (Zp p k)) N d:Int)≥Vl w N (Qb w d)):=by
 have hx:=eJ (d:=d) hp
 have hil:i<(Qb w d).length:=(abZ.1 hx).1
 have hll:=(adJ w N (Qb w d)).1
 rw[alM hp]
 unfold eB
 have mono:=fun x y=>rB (x:=x) (y:=y) hw hil
 have hself:=acP hx
 generalize Vl w N (Qb w d)=lb at *
 generalize Qb w d=L at *
 rcases hk with rfl|rfl|rfl|rfl
 ·rfl
 ·have h1:=mono (Ri p d,p.opn) (Ri p d,false) (by simp[nS];exact fun h _=>h)
  rw[hself]at h1
  have e1:Zg 2 b (Ri p d,p.opn)=(Ri p d,false):=rfl
  simp only[e1,hself,ag7,if_false]
  rw[decide_eq_true (by omega:(bP w N (L.set i (Ri p d,false)):Int)≥lb),decide_eq_true (by omega:(bP w N L:Int)≥lb)]
  rfl
 ·simp only[mC,ag7,if_false,if_true,abY,beq_iff_eq]at hc
  have h1:=mono (Ri p d,p.opn) (Zg 3 b (Ri p d,p.opn)) (by simp[nS,hc.2])
  rw[hself]at h1
  simp only[hself,ag7,if_false]
  rw[decide_eq_true (by omega:(bP w N (L.set i (Zg 3 b (Ri p d,p.opn))):Int)≥lb),decide_eq_true (by omega:(bP w N L:Int)≥lb)]
  rfl
 ·have h1:=mono (2,p.opn) (Zg 4 b (Ri p d,p.opn)) (by simp[nS])
  simp only[ag7,if_false,if_true]
  by_cases hq:(bP w N (L.set i (2,p.opn)):Int)≥lb
  ·rw[decide_eq_true hq,decide_eq_true (by omega:(bP w N (L.set i (Zg 4 b (Ri p d,p.opn))):Int)≥lb),decide_eq_false (by omega)]
   rfl
  ·rw[decide_eq_false hq,decide_eq_true (by omega:(bP w N (L.set i (2,p.opn)):Int)<lb)]
   rfl
theorem aeR{w:Rf}{N:Nat}(hw:WOk w N){d:Int}{i:Nat}{p:Px}(hp:w.parts[i]?=some p){k:Int}(hk:k=1∨k=4)(b:Bool)(hn:0<w.need)(ha:rX w N (Qb w d) i=true):eB w N (Qb w d) k i b (Ri p d,p.opn)=false:=by
 have hx:=eJ (d:=d) hp
 have hil:i<(Qb w d).length:=(abZ.1 hx).1
 unfold rX at ha
 rw[hx]at ha
 simp only[abY,aFK,beq_eq_false_iff_ne,ne_eq,beq_iff_eq]at ha
 obtain⟨⟨_,h0⟩,h1⟩:=ha
 have hl:1≤Vl w N (Qb w d):=by
  unfold Vl
  split<;>omega
 unfold eB
 rcases hk with rfl|rfl
 ·have e:Zg 1 b (Ri p d,p.opn)=(Ri p d,true):=rfl
  rw[e,aiM hw hil (x:=(Ri p d,true)) (y:=(2,p.opn)) (by simp[nS]),h1]
  rw[decide_eq_false (by omega:¬(((0:Nat):Int)≥Vl w N (Qb w d)))]
  simp
 ·rw[h1,decide_eq_true (by omega:((0:Nat):Int)<Vl w N (Qb w d))]
  rfl
theorem amZ{w:Rf}{N:Nat}{L:List (Int × Bool)}{i:Nat}(hi:i<w.parts.length):(qT w N L).contains i=rX w N L i:=by
 rw[akQ,List.contains_iff_mem]
 unfold qT
 rw[List.mem_filter,List.mem_range]
 exact⟨fun h=>h.2,fun h=>⟨hi,h⟩⟩
end Go.Proofs.YtckfcfcmfjfchaaDoor
