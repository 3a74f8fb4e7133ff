/- The functions of the layer, walked. -/
import Derived.Test.YtcncggaobhbomaaGreatDoorPartAF
import Derived.Test.YtcncggaobhbomaaGreatDoorPartAE
open List renaming length_map→aaB,range→aaM,getElem?_set_ne→abZ,getElem?_append_right→ab9,length_range→aeQ,getElem?_append_left→afC,length_set→afO,foldl_cons→afU,getElem?_set_self→ag5,replicate→aiJ,length_replicate→ai9,set_set→akD,find?_cons_of_neg→amE,mem_range→amX,append_assoc→amZ,take→apL,take_of_length_le→apM,getElem?_range→apN,getElem?_map→apP,filterMap_append→aqK,find?_cons_of_pos→as6,set_append_right→axH,range_succ→axI,map_append→axJ,replicate_succ→axK,set_cons_succ→axL,set_cons_zero→axM,nil_append→axP,length_cons→axQ,length_nil→axR,map_congr_left→axS,mem_of_getElem?→ax2,getElem?_eq_getElem→ax3,getElem?_of_mem→ayP
open Nat renaming le_refl→abV,sub_self→ae5,add_sub_cancel_left→ag1,le_trans→apH,pow_le_pow_right→apI,pow_succ→apJ
open Bool renaming not_false→acH,not_true→aeN,eq_iff_iff→ayV,and_eq_true→aJY
open Int renaming lt_irrefl→ag0
open Option renaming bind_some→ag2,map_some→aw3
set_option linter.unusedSimpArgs false
set_option linter.unusedVariables false
namespace Go.Proofs.YtcncggaobhbomaaGreatDoor
open Go.Ev Go Go.Ev.Net
set_option maxRecDepth 100000
set_option maxHeartbeats 16000000
structure yF(K:St→Nat)(m F:Nat)(ib:Nat→Nat)(ob:Nat)(h:Qa):Prop where
 out:∃x,h[ob]?=some (.live 1 false x ((aaM F).map fun g=>[.slr 1 (ib g) 0 (6 ^ m)]))
 row:∀g,g<F→∃y,h[ib g]?=some (.live 1 true y (aN K m g))
structure CSp(F:Nat)(ib:Nat→Nat)(ob:Nat):Prop where
 ne:∀g,g<F→ib g≠ob∧1≤ib g
 inj:∀g g',g<F→g'<F→ib g=ib g'→g=g'
 ob1:1≤ob
theorem yF.keep{K:St→Nat}{m F:Nat}{ib:Nat→Nat}{ob:Nat}{h h':Qa}(C:yF K m F ib ob h)(k:∀b,b<h.length→h'[b]?=h[b]?):yF K m F ib ob h':=by
 obtain⟨x,hx⟩:=C.out
 refine⟨⟨x,by rw[k _ (Rw hx)];exact hx⟩,fun g hg=>?_⟩
 obtain⟨y,hy⟩:=C.row g hg
 exact⟨y,by rw[k _ (Rw hy)];exact hy⟩
theorem afV{K:St→Nat}{m F:Nat}{ib:Nat→Nat}{h:Qa}(hr:∀g,g<F→∃y,h[ib g]?=some (.live 1 true y (aN K m g))):∀l:List Nat,(∀g∈l,g<F)→Ri (rd 5 (hf h)) (l.map fun g=>[AV.slr 1 (ib g) 0 (6 ^ m)])=some (l.map fun g=>[AV.imm 1 true (aN K m g)],l.map ib)
 | [],_=>rfl
 |g::l,hl=>by
  obtain⟨y,hy⟩:=hr g (hl g (by simp))
  have h1:rd 5 (hf h) (.slr 1 (ib g) 0 (6 ^ m))=some (.imm 1 true (aN K m g),[ib g]):=akC (d:=4) (by show(h[ib g]?).bind Qw=_;rw[hy];rfl) (Yp K m g).symm
  have h2:=afV hr l fun g hg=>hl g (by simp[hg])
  have h3:=Vo h1 dG
  simp only[List.map_cons,Ri,h3,h2,ag2,aw3]
  rfl
theorem yF.read{K:St→Nat}{m F:Nat}{ib:Nat→Nat}{ob:Nat}{h:Qa}(C:yF K m F ib ob h)(hF:0<F):rd 6 (hf h) (.slr 1 ob 0 F)=some (.imm 1 false (qX K m F),ob::(aaM F).map ib):=by
 obtain⟨x,hx⟩:=C.out
 have h2:=afV C.row (aaM F) fun g hg=>amX.1 hg
 have hb:(hf h ob).bind Qw=some (1,false,(aaM F).map fun g=>[AV.slr 1 (ib g) 0 (6 ^ m)]):=by show(h[ob]?).bind Qw=_;rw[hx];rfl
 have key:∀d,Ri (rd d (hf h)) ((aaM F).map fun g=>[AV.slr 1 (ib g) 0 (6 ^ m)])=some ((aaM F).map fun g=>[AV.imm 1 true (aN K m g)],(aaM F).map ib)→rd (d+1) (hf h) (.slr 1 ob 0 F)=some (.imm 1 false (qX K m F),ob::(aaM F).map ib):=fun d hq=>by
  simp only[rd,hb,ag2]
  rw[if_pos ⟨trivial,trivial,by simp⟩]
  simp only[cond_false,hq,aw3]
  rfl
 exact key 5 h2
theorem yF.put{K:St→Nat}{m F:Nat}{ib:Nat→Nat}{ob:Nat}{h:Qa}(C:yF K m F ib ob h)(P:CSp F ib ob){g n c:Nat}(hg:g<F)(hn:n<6 ^ m)(hc:c<Qx)(y:Bool):yF (fun x=>if x=Zm m g n then c else K x) m F ib ob (h.set (ib g) (.live 1 true y ((aN K m g).set n [.int .i64 (c:Int)]))):=by
 obtain⟨x,hx⟩:=C.out
 obtain⟨z,hz⟩:=C.row g hg
 refine⟨⟨x,by rw[abZ (P.ne g hg).1];exact hx⟩,fun g' hg'=>?_⟩
 rw[au6 hn hc]
 by_cases e:g'=g
 ·subst e
  rw[if_pos rfl]
  exact⟨y,ag5 (Rw hz)⟩
 ·rw[if_neg e]
  obtain⟨u,hu⟩:=C.row g' hg'
  exact⟨u,by rw[abZ fun h=>e (P.inj _ _ hg hg' h).symm];exact hu⟩
def oJ(l:List Ua)(m g n:Nat):List (List AV):=((aaM n).map fun n'=>[AV.int .i64 (eF (K0 l (Zm m g n')))])++aiJ (6 ^ m-n) [.int .i64 0]
theorem arI(l:List Ua)(m g:Nat){n:Nat}(h:n≤6 ^ m):(oJ l m g n).length=6 ^ m:=by unfold oJ;simp;omega
theorem avQ(l:List Ua)(m g:Nat){n:Nat}(h:n<6 ^ m):(oJ l m g n).set n [.int .i64 (eF (K0 l (Zm m g n)))]=oJ l m g (n+1):=by
 unfold oJ
 rw[axH _ _ (by simp),axI,axJ,amZ]
 congr 1
 rw[aaB,aeQ,ae5,show 6 ^ m-n=(6 ^ m-(n+1))+1 by omega,axK]
 rfl
theorem az5(l:List Ua)(m g:Nat){n:Nat}(h:n<6 ^ m):(oJ l m g n)[n]?=some [.int .i64 0]:=by
 unfold oJ
 rw[ab9 (by simp),aaB,aeQ,ae5,show 6 ^ m-n=(6 ^ m-(n+1))+1 by omega,axK]
 rfl
theorem arS(l:List Ua)(m g:Nat):oJ l m g (6 ^ m)=aN (K0 l) m g:=by
 unfold oJ aN;rw[ae5,List.replicate_zero,List.append_nil];rfl
theorem aFV{w:Qf}{N:Nat}(hw:mX w N)(hwb:Wb w=true)(h6:w.parts.length≤6){d:Int}(hd:1≤d∧d≤6000)(l:List Ua)(nn:Bool)(hl:l.length≤maxLen)(hlp:∀x∈l,0≤x.part∧x.part<(w.parts.length:Int)){f:Nat}(hf:f≤3):
 RdV Ub 45 [.agg [.int .i64 w.rooms,.int .i64 w.need,Rh 9 true w.nn (w.parts.map Qb.cells)],.int .i64 d,Rh 3 true nn (l.map Ua.cells),.int .i64 (f:Int)] (.imm 1 false (qX ((Zy w N l).bst Qx) w.parts.length (f+1))) 14:=by
 have hlen:=hw.len
 obtain⟨m,hm⟩:∃m,w.parts.length=m:=⟨_,rfl⟩
 have hpow:6 ^ m≤46656:=apH (apI (by decide) (by omega:m≤6)) (by decide)
 have hpow1:1≤6 ^ m:=Nat.one_le_pow _ _ (by decide)
 have hsl:Rh 9 true w.nn (w.parts.map Qb.cells)=.imm 9 true (w.parts.map Qb.cells):=Yj (by simpa using hw.ne)
 have hdec:=fun n (hn:n<2 ^ 40)=>ad3 hw.ne (by omega) (d:=d) (by omega) hd.2 hn
 rw[hsl]at hdec ⊢
 refine RdV.of ?_
 refine aAE rfl Tryz.func45 rfl rfl ?_
 simp only[Tryz.f45]
 refine Uk (fun KK iN hK=>?_)
 (have hb:=trivial;with_reducible repeat' (first|simp only[hb,Vc.down,seval,Zk.down,aaB]|refine Qm ?_ ?_<;>intro hb|refine fd ?_|fail))
 refine Uj (lst 133 w.parts (fun i (_:Unit) t h=>t 1=.int .i64 d∧t 2=Rh 3 true nn (l.map Ua.cells)∧t 3=.int .i64 (f:Int)∧t 4=.ptr 0 0 0∧t 9=.int .i64 ((6 ^ i:Nat):Int)∧t 10=.int .i64 (i:Int)∧(∃x,h=[.live 3 false x [[.int .i64 w.rooms,.int .i64 w.need,.imm 9 true (w.parts.map Qb.cells)]]])) (fun _ _=>())
  (fun _ e t h=>e=.exit 0∧t 1=.int .i64 d∧t 2=Rh 3 true nn (l.map Ua.cells)∧t 3=.int .i64 (f:Int)∧t 4=.ptr 0 0 0∧t 9=.int .i64 ((6 ^ m:Nat):Int)∧(∃x,h=[.live 3 false x [[.int .i64 w.rooms,.int .i64 w.need,.imm 9 true (w.parts.map Qb.cells)]]])) ?_ ?_ () _ _ ?_) (fun e t h hk=>?_)
 ·rintro _ t h Q' kQ ⟨g1,g2,g3,g4,g9,g10,x,rfl⟩
  (have hb:=trivial;with_reducible repeat' (first|simp only[hb,Vc.down,seval,Zk.down,g4,g10,ag0,decide_false,aaB]|refine Qm ?_ ?_<;>intro hb|refine fd ?_|fail))
  exact kQ _ _ _ ⟨rfl,by simp[up,g1],by simp[up,g2],by simp[up,g3],by simp[up,g4],by simp only[up];rw[hm]at g9;simpa using g9,x,rfl⟩
 ·rintro p rest i _ t h J Q' kJ kQ hx hi ⟨g1,g2,g3,g4,g9,g10,x,rfl⟩
  have hdd:decide ((i:Int)<(w.parts.length:Int))=true:=decide_eq_true (by omega)
  have hww:=Sl hi (by unfold maxLen;omega)
  have hpi:6 ^ (i+1)≤46656:=apH (apI (by decide) (by omega:i+1≤6)) (by decide)
  have hmul:IntKind.i64.wrap (6*((6 ^ i:Nat):Int))=((6 ^ (i+1):Nat):Int):=by
   rw[Re (by rw[apJ]at hpi;omega) (by rw[apJ]at hpi;omega),apJ];omega
  (have hb:=trivial;with_reducible repeat' (first|simp only[hb,Vc.down,seval,Zk.down,g4,g9,g10,hdd,hww,hmul,aaB]|refine Qm ?_ ?_<;>intro hb|refine fd ?_|fail))
  exact Qq (kJ _ _ () ⟨by simp[up,g1],by simp[up,g2],by simp[up,g3],by simp[up,g4],by simp[up],by simp[up],x,rfl⟩ rfl)
 ·exact⟨by simp[up,bF],by simp[up,bF],by simp[up,bF],by simp[up],by simp[up],by simp[up],_,rfl⟩
 obtain⟨rfl,g1,g2,g3,g4,g9,x0,rfl⟩:=hk
 (have hb:=trivial;with_reducible repeat' (first|simp only[hb,Vc.down,seval,Zk.down]|refine Qm ?_ ?_<;>intro hb|refine fd ?_|fail))
 have hbox:∀(q:Qa),(CB.live 3 false x0 [[.int .i64 w.rooms,.int .i64 w.need,.imm 9 true (w.parts.map Qb.cells)]]::q)[0]?=some (.live 3 false x0 [[.int .i64 w.rooms,.int .i64 w.need,.imm 9 true (w.parts.map Qb.cells)]]):=fun q=>rfl
 obtain⟨wc,hwc⟩:∃wc:List (List AV),[[AV.int .i64 w.rooms,.int .i64 w.need,.imm 9 true (w.parts.map Qb.cells)]]=wc:=⟨_,rfl⟩
 refine Uj (lst 133 (aiJ (f+1) ()) (fun g (_:Unit) t h=>t 1=.int .i64 d∧t 2=Rh 3 true nn (l.map Ua.cells)∧t 3=.int .i64 (f:Int)∧t 4=.ptr 0 0 0∧t 9=.int .i64 ((6 ^ m:Nat):Int)∧t 12=.int .i64 (g:Int)∧h[0]?=some (.live 3 false x0 wc)∧∃ib ob,CSp g ib ob∧((g=0∧t 11=.nils)∨(0<g∧t 11=.slr 1 ob 0 g∧yF (K0 l) m g ib ob h))) (fun _ _=>())
  (fun _ e t h=>e=.exit 2∧t 1=.int .i64 d∧t 3=.int .i64 (f:Int)∧t 4=.ptr 0 0 0∧t 9=.int .i64 ((6 ^ m:Nat):Int)∧h[0]?=some (.live 3 false x0 wc)∧∃ib ob,CSp (f+1) ib ob∧t 11=.slr 1 ob 0 (f+1)∧yF (K0 l) m (f+1) ib ob h) ?_ ?_ () _ _ ?_) (fun e t h hk=>?_)
 ·rintro _ t h Q' kQ ⟨g1,g2,g3,g4,g9,g12,hB,ib,ob,P,hC⟩
  rw[ai9]at g12 P hC
  have h5:decide (((f+1:Nat):Int)≤(f:Int))=false:=decide_eq_false (by omega)
  obtain⟨_,g11,C⟩:=hC.resolve_left (by omega)
  (have hb:=trivial;with_reducible repeat' (first|simp only[hb,Vc.down,seval,Zk.down,g3,g12,h5]|refine Qm ?_ ?_<;>intro hb|refine fd ?_|fail))
  exact kQ _ _ _ ⟨rfl,by simp[up,g1],by simp[up,g3],by simp[up,g4],by simp[up,g9],hB,ib,ob,P,by simp[up,g11],C⟩
 ·rintro _ rest g _ t h J Q' kJ kQ hx hi ⟨g1,g2,g3,g4,g9,g12,hB,ib,ob,P,hC⟩
  rw[ai9]at hi
  have h5:decide ((g:Int)≤(f:Int))=true:=decide_eq_true (by omega)
  have hwg:IntKind.i64.wrap ((g:Int)+1)=((g+1:Nat):Int):=by rw[Re (by omega) (by omega)];omega
  have hml:=Rw hB
  obtain⟨t11,g11⟩:∃v,t 11=v:=⟨_,rfl⟩
  rw[g11]at hC
  have mk1:(0≤((6 ^ m:Nat):Int))=True:=eq_true (by omega)
  have mk2:(((6 ^ m:Nat):Int)≤1099511627776)=True:=eq_true (by omega)
  (have hb:=trivial;with_reducible repeat' (first|simp only[hb,Vc.down,seval,Zk.down,g3,g9,g12,h5,mk1,mk2,Int.le_refl,and_self]|refine Qm ?_ ?_<;>intro hb|refine fd ?_|fail))
  refine Uj (lst 133 (aiJ (6 ^ m) ()) (fun n (_:Unit) t h'=>t 1=.int .i64 d∧t 2=Rh 3 true nn (l.map Ua.cells)∧t 3=.int .i64 (f:Int)∧t 4=.ptr 0 0 0∧t 9=.int .i64 ((6 ^ m:Nat):Int)∧t 11=t11∧t 12=.int .i64 (g:Int)∧t 13=.slr 1 h.length 0 (6 ^ m)∧t 14=.int .i64 (n:Int)∧(∀b,b<h.length→h'[b]?=h[b]?)∧∃y,h'[h.length]?=some (.live 1 true y (oJ l m g n))) (fun _ _=>())
   (fun _ e t h'=>e=.exit 4∧t 1=.int .i64 d∧t 2=Rh 3 true nn (l.map Ua.cells)∧t 3=.int .i64 (f:Int)∧t 4=.ptr 0 0 0∧t 9=.int .i64 ((6 ^ m:Nat):Int)∧t 11=t11∧t 12=.int .i64 (g:Int)∧t 13=.slr 1 h.length 0 (6 ^ m)∧(∀b,b<h.length→h'[b]?=h[b]?)∧∃y,h'[h.length]?=some (.live 1 true y (aN (K0 l) m g))) ?_ ?_ () _ _ ?_) (fun e t' h' hk=>?_)
  ·rintro _ t h' Q'' kQ ⟨g1,g2,g3,g4,g9,g11,g12,g13,g14,hk,y,hy⟩
   rw[ai9]at g14 hy
   rw[arS]at hy
   (have hb:=trivial;with_reducible repeat' (first|simp only[hb,Vc.down,seval,Zk.down,g9,g14,ag0,decide_false]|refine Qm ?_ ?_<;>intro hb|refine fd ?_|fail))
   exact kQ _ _ _ ⟨rfl,by simp[up,g1],by simp[up,g2],by simp[up,g3],by simp[up,g4],by simp[up,g9],by simp[up,g11],by simp[up,g12],by simp[up,g13],hk,y,hy⟩
  ·rintro _ rest n _ t h' J' Q'' kJ' kQ' hx hn ⟨g1,g2,g3,g4,g9,g11,g12,g13,g14,hk,y,hy⟩
   rw[ai9]at hn
   have hdd:decide ((n:Int)<((6 ^ m:Nat):Int))=true:=decide_eq_true (by omega)
   have hii:((n:Int)<((6 ^ m:Nat):Int))=True:=eq_true (by omega)
   have hwn:IntKind.i64.wrap ((n:Int)+1)=((n+1:Nat):Int):=by rw[Re (by omega) (by omega)];omega
   have hyl:=Rw hy
   have hB0:h'[0]?=some (.live 3 false x0 wc):=(hk 0 hml).trans hB
   rw[←hwc]at hB0
   have hrl:=arI l m g (Nat.le_of_lt hn)
   obtain⟨wd,hD⟩:=hdec n (by omega)
   rw[hm]at hD
   have htk:apL m ((Xd d w.parts n).map Qb.cells)=(Xd d w.parts n).map Qb.cells:=apM (by rw[aaB,cL,hm];omega)
   have hM:=aTG (w:=fX w d n) (by rw[(Wj w d n).len];omega) d l nn hl (by rw[(Wj w d n).len];exact hlp)
   have eW:(fX w d n).cells=[.int .i64 w.rooms,.int .i64 w.need,.imm 9 true ((Xd d w.parts n).map Qb.cells)]:=by
    show [_,_,Rh 9 true true _]=_
    rw[fE];rfl
   change Ub.call _ [AV.agg (fX w d n).cells,.int .i64 d,Rh 3 true nn (l.map Ua.cells)] []=_ at hM
   rw[eW,mR w hd n,hm]at hM
   have hset:=avQ l m g hn
   have hK:K0 l (Zm m g n)=if lG (Zj (Xu m n)) l=true then 0 else Qx:=rfl
   have hrb0:h.length≠0:=by omega
   have hRn:=az5 l m g hn
   have hRs:∀r,((oJ l m g n).set n r)[n]?=some r:=fun r=>ag5 (by rw[hrl];exact hn)
   have hS1:∀c,(h'.set h.length c)[h.length]?=some c:=fun c=>ag5 hyl
   have hS2:∀c q,(h'.set h.length c++q)[h.length]?=some c:=fun c q=>by rw[afC (by simpa using hyl)];exact hS1 c
   have hS3:∀c c2 q,(h'.set h.length c++q).set h.length c2=h'.set h.length c2++q:=fun c c2 q=>by rw[List.set_append_left _ _ (by simpa using hyl),akD]
   have hB1:∀c,(h'.set h.length c)[0]?=some (.live 3 false x0 [[.int .i64 w.rooms,.int .i64 w.need,.imm 9 true (w.parts.map Qb.cells)]]):=fun c=>by rw[abZ hrb0];exact hB0
   have hB2:∀c q,(h'.set h.length c++q)[0]?=some (.live 3 false x0 [[.int .i64 w.rooms,.int .i64 w.need,.imm 9 true (w.parts.map Qb.cells)]]):=fun c q=>by rw[afC (by have:=Rw hB0;simpa using this)];exact hB1 c
   have hss:∀c c2,(h'.set h.length c).set h.length c2=h'.set h.length c2:=fun c c2=>akD ..
   have hSk:∀c q k X,(h'.set h.length c++q).set (h'.length+k) X=h'.set h.length c++q.set k X:=fun c q k X=>by rw[axH _ _ (by simp),afO,ag1]
   have hdl:(m≤(Xd d w.parts n).length)=True:=eq_true (by rw[cL,hm];exact abV _)
   cases hmet:lG (Zj (Xu m n)) l with
   |false=>
    rw[hmet]at hM
    rw[hK,hmet,if_neg (by simp),show eF Qx= -1 from if_neg (Nat.lt_irrefl _)]at hset
    generalize hR:oJ l m g n=R at *
    (have hb:=trivial;with_reducible repeat' (first|simp only[hb,Vc.down,seval,Zk.down,g1,g2,g4,g9,g13,g14,hdd,hii,hwn,hy,hB0,hB1,hB2,hS1,hS2,hS3,hSk,hss,hrl,hRn,hRs,akD,hD,htk,hdl,hM,Xg,Vz,afO,axL,axM,abV,Int.reduceNeg]|refine Qm ?_ ?_<;>intro hb|refine fdl ?_|fail))
    refine Qq (kJ' _ _ () ⟨by simp[up,g1],by simp[up,g2],by simp[up,g3],by simp[up,g4],by simp[up,g9],by simp[up,g11],by simp[up,g12],by simp[up,g13],by simp[up],fun b hb=>?_,true,?_⟩ rfl)
    ·rw[afC (by rw[afO];omega),abZ (by omega)];exact hk b hb
    ·rw[←hset];exact hS2 _ _
   |true=>
    rw[hmet]at hM
    rw[hK,hmet,if_pos rfl,show eF 0=0 from if_pos (by decide)]at hset
    generalize hR:oJ l m g n=R at *
    (have hb:=trivial;with_reducible repeat' (first|simp only[hb,Vc.down,seval,Zk.down,g1,g2,g4,g9,g13,g14,hdd,hii,hwn,hy,hB0,hB1,hB2,hS1,hS2,hS3,hSk,hss,hrl,hRn,hRs,akD,hD,htk,hdl,hM,Xg,Vz,afO,axL,axM,abV,Int.reduceNeg]|refine Qm ?_ ?_<;>intro hb|refine fdl ?_|fail))
    refine Qq (kJ' _ _ () ⟨by simp[up,g1],by simp[up,g2],by simp[up,g3],by simp[up,g4],by simp[up,g9],by simp[up,g11],by simp[up,g12],by simp[up,g13],by simp[up],fun b hb=>?_,true,?_⟩ rfl)
    ·rw[afC (by rw[afO];omega),abZ (by omega)];exact hk b hb
    ·rw[←hset];exact hS2 _ _
  ·refine⟨by simp[up,g1],by simp[up,g2],by simp[up,g3],by simp[up,g4],by simp[up,g9],by simp[up,g11],by simp[up,g12],by simp[up],by simp[up],fun b hb=>afC hb,false,?_⟩
   rw[ab9 (abV _),ae5]
   unfold oJ
   simp
  obtain⟨rfl,g1,g2,g3,g4,g9,g11',g12,g13,hk,y,hy⟩:=hk
  have hyl:=Rw hy
  have hiblt:∀z,z<g→ib z<h.length:=fun z hz=>by
   obtain⟨_,_,C⟩:=hC.resolve_left (by omega)
   obtain⟨_,hr⟩:=C.row z hz
   exact Rw hr
  have hOwn:aL7 0 1 false ((aaM g).map fun z=>[AV.slr 1 (ib z) 0 (6 ^ m)]) t11 h':=by
   rcases hC with⟨rfl,e⟩|⟨hg,e,C⟩
   ·exact .inl ⟨rfl,e⟩
   ·obtain⟨x,hx⟩:=C.out
    exact .inr ⟨ob,x,by rw[e];simp,by rw[hk ob (Rw hx)];exact hx⟩
  have hrl:((aaM g).map fun z=>[AV.slr 1 (ib z) 0 (6 ^ m)]).length=g:=by simp
  have hov:∀st b r n,t11=.slr st b r n→b=ob∧0<g:=fun st b r n e=>by
   rcases hC with⟨_,e'⟩|⟨hg,e',_⟩
   ·rw[e]at e';cases e'
   ·rw[e]at e';cases e';exact⟨rfl,hg⟩
  have hap:=fun(q:Qa) (r:List AV)=>akJ hOwn (pre:=[]) rfl q r [] (by simp;omega)
  have hhp:=fun(q:Qa) (r:List (List AV)) (ba:Nat)=>ae6 hOwn (pre:=[]) rfl q 1 false r ba
  simp only[axP,axQ,List.length_append,axR,afO,Nat.reduceAdd,hrl]at hap hhp
  generalize hrows:((aaM g).map fun z=>[AV.slr 1 (ib z) 0 (6 ^ m)])=rows0 at *
  (have hb:=trivial;with_reducible repeat' (first|simp only[hb,Vc.down,seval,Zk.down,g11',g12,g13,hwg,hap,hhp,Bool.and_true,Bool.and_false,List.all_cons,List.all_nil]|refine Qm ?_ ?_<;>intro hb|refine fd ?_|fail))
  have hkll:(kl 0 t11 h').length=h'.length:=kS ..
  have low:∀j,j<h'.length→(∀hg:0<g,j≠ob)→(kl 0 t11 h'++[CB.live 1 false false [[.slr 1 h.length 0 (6 ^ m)]],CB.live 1 false false (rows0++[[.slr 1 h.length 0 (6 ^ m)]])])[j]?=h'[j]?:=fun j hj ho=>fD _ hj fun st b r n e=>by
   obtain⟨rfl,hg⟩:=hov st b r n e
   exact fun e'=>ho hg e'.symm
  refine Qq (kJ _ _ () ⟨by simp[up,g1],by simp[up,g2],by simp[up,g3],by simp[up,g4],by simp[up,g9],by simp[up],?_,fun z=>if z=g then h.length else ib z,h'.length+1,⟨fun z hz=>?_,fun z z' hz hz' e=>?_,by omega⟩,.inr ⟨by omega,by simp[up],⟨false,?_⟩,fun z hz=>?_⟩⟩ rfl)
  ·rw[low 0 (by omega) (fun _=>by have:=P.ob1;omega),hk 0 hml];exact hB
  ·by_cases ez:z=g
   ·rw[if_pos ez];omega
   ·rw[if_neg ez]
    have:=hiblt z (by omega)
    have:=(P.ne z (by omega)).2
    omega
  ·replace e:(if z=g then h.length else ib z)=(if z'=g then h.length else ib z'):=e
   by_cases ez:z=g
   ·rw[if_pos ez]at e
    by_cases ez':z'=g
    ·omega
    ·rw[if_neg ez']at e
     have:=hiblt z' (by omega)
     omega
   ·rw[if_neg ez]at e
    by_cases ez':z'=g
    ·rw[if_pos ez']at e
     have:=hiblt z (by omega)
     omega
    ·rw[if_neg ez']at e
     exact P.inj z z' (by omega) (by omega) e
  ·rw[ab9 (by rw[hkll];omega),hkll,show h'.length+1-h'.length=1 by omega]
   show some _=some _
   congr 2
   rw[axI,axJ,←hrows]
   congr 1
   ·exact axS fun z hz=>by
     have:=amX.1 hz
     rw[if_neg (by omega)]
   ·simp
  ·by_cases ez:z=g
   ·subst ez
    rw[if_pos rfl]
    have hno:∀hg:0<z,h.length≠ob:=fun hg=>by
     obtain⟨_,_,C⟩:=hC.resolve_left (by omega)
     obtain⟨_,hx⟩:=C.out
     have:=Rw hx
     omega
    refine⟨y,?_⟩
    rw[low _ hyl hno]
    exact hy
   ·rw[if_neg ez]
    obtain⟨_,_,C⟩:=hC.resolve_left (by omega)
    obtain⟨u,hu⟩:=C.row z (by omega)
    exact⟨u,by rw[low _ (by have:=Rw hu;omega) (fun _=>(P.ne z (by omega)).1),hk _ (Rw hu)];exact hu⟩
 ·refine⟨by simp[up,g1],by simp[up,g2],by simp[up,g3],by simp[up,g4],by simp[up,g9],by simp[up],by rw[←hwc];rfl,fun _=>1,2,⟨fun g hg=>by omega,fun g g' hg=>by omega,by omega⟩,.inl ⟨rfl,by simp[up]⟩⟩
 obtain⟨rfl,g1,g3,g4,g9,hB,ib,ob,P,g11,C⟩:=hk
 subst hm
 obtain⟨ops,hops⟩:∃ops,opN w.parts.length 4=ops:=⟨_,rfl⟩
 have hopk:∀o∈ops,(o.1=1∨o.1=2∨o.1=3∨o.1=4)∧o.2<w.parts.length:=fun o ho=>agH (by rw[hops];exact ho)
 have hopk1:∀o∈ops,o.1=1∨o.1=2∨o.1=3∨o.1=4:=fun o ho=>(hopk o ho).1
 have hKn0:=bkL (N:=N) hwb l (f+1)
 have hf1:((f:Int)+1)=((f+1:Nat):Int):=by omega
 have hobl:=fun {K:St→Nat} {h:Qa} (C:yF K w.parts.length (f+1) ib ob h)=>(show ob<h.length by obtain⟨_,hx⟩:=C.out;exact Rw hx)
 (have hb:=trivial;with_reducible repeat' (first|simp only[hb,Vc.down,seval,Zk.down]|refine Qm ?_ ?_<;>intro hb|refine fd ?_|fail))
 refine Uj (cnt 133 (fun n (_:Unit) t h=>t 1=.int .i64 d∧t 3=.int .i64 (f:Int)∧t 4=.ptr 0 0 0∧t 9=.int .i64 ((6 ^ w.parts.length:Nat):Int)∧t 11=.slr 1 ob 0 (f+1)∧h[0]?=some (.live 3 false x0 wc)∧∃K,yF K w.parts.length (f+1) ib ob h∧Vd.Kno (Zy w N l) Qx (Yn w.parts.length (f+1)) K∧
  ((t 16=.bool true∧((Yn w.parts.length (f+1)).map K).sum<n)∨(t 16=.bool false∧∀g∈aaM (f+1),∀n∈aaM (6 ^ w.parts.length),∀o∈ops,∀c,mL w N (Zm w.parts.length g n) o.1 o.2=some c→K (Zm w.parts.length g n)≤min Qx (c.c.toNat+Vd.mx K c.to)))) (fun _ _=>())
  (fun _ e t h=>e=.exit 6∧t 11=.slr 1 ob 0 (f+1)∧∃K,yF K w.parts.length (f+1) ib ob h∧Vd.Kno (Zy w N l) Qx (Yn w.parts.length (f+1)) K∧∀g∈aaM (f+1),∀n∈aaM (6 ^ w.parts.length),∀o∈ops,∀c,mL w N (Zm w.parts.length g n) o.1 o.2=some c→K (Zm w.parts.length g n)≤min Qx (c.c.toNat+Vd.mx K c.to)) ?_ ?_ (((Yn w.parts.length (f+1)).map (K0 l)).sum+1) () _ _ ?_) (fun e t h hk=>?_)
 ·rintro _ t h Q' kQ ⟨g1,g3,g4,g9,g11,hB,K,C,hKn,hS⟩
  obtain⟨g16,hst⟩:=hS.resolve_left (fun h=>by omega)
  (have hb:=trivial;with_reducible repeat' (first|simp only[hb,Vc.down,seval,Zk.down,g16]|refine Qm ?_ ?_<;>intro hb|refine fd ?_|fail))
  exact kQ _ _ _ ⟨rfl,by simp[up,g11],K,C,hKn,hst⟩
 ·rintro n _ t h J Q' kJ kQ ⟨g1,g3,g4,g9,g11,hB,K,C,hKn,hS⟩
  rcases hS with⟨g16,hsum⟩|⟨g16,hst⟩
  rotate_left
  ·(have hb:=trivial;with_reducible repeat' (first|simp only[hb,Vc.down,seval,Zk.down,g16]|refine Qm ?_ ?_<;>intro hb|refine fd ?_|fail))
   exact kQ _ _ _ ⟨rfl,by simp[up,g11],K,C,hKn,hst⟩
  (have hb:=trivial;with_reducible repeat' (first|simp only[hb,Vc.down,seval,Zk.down,g16]|refine Qm ?_ ?_<;>intro hb|refine fd ?_|fail))
  refine Uj (lst 133 (aaM (f+1)) (fun i (p:(St→Nat) × Bool) t h=>t 1=.int .i64 d∧t 3=.int .i64 (f:Int)∧t 4=.ptr 0 0 0∧t 9=.int .i64 ((6 ^ w.parts.length:Nat):Int)∧t 11=.slr 1 ob 0 (f+1)∧t 16=.bool p.2∧t 17=.int .i64 (i:Int)∧h[0]?=some (.live 3 false x0 wc)∧yF p.1 w.parts.length (f+1) ib ob h∧Vd.Kno (Zy w N l) Qx (Yn w.parts.length (f+1)) p.1) (fun rest p=>rest.foldl (fS w N ops) p)
   (fun p e t h=>e=.exit 8∧t 1=.int .i64 d∧t 3=.int .i64 (f:Int)∧t 4=.ptr 0 0 0∧t 9=.int .i64 ((6 ^ w.parts.length:Nat):Int)∧t 11=.slr 1 ob 0 (f+1)∧t 16=.bool p.2∧h[0]?=some (.live 3 false x0 wc)∧yF p.1 w.parts.length (f+1) ib ob h) ?_ ?_ (K,false) _ _ ?_) (fun e t h hk=>?_)
  ·rintro p t h Q' kQ ⟨g1,g3,g4,g9,g11,g16,g17,hB,C,_⟩
   rw[aeQ]at g17
   have h5:decide (((f+1:Nat):Int)≤(f:Int))=false:=decide_eq_false (by omega)
   (have hb:=trivial;with_reducible repeat' (first|simp only[hb,Vc.down,seval,Zk.down,g3,g17,h5]|refine Qm ?_ ?_<;>intro hb|refine fd ?_|fail))
   exact kQ _ _ _ ⟨rfl,by simp[up,g1],by simp[up,g3],by simp[up,g4],by simp[up,g9],by simp[up,g11],by simp[up,g16],hB,C⟩
  ·rintro g' rest g p t h J Q' kJ kQ hx hi ⟨g1,g3,g4,g9,g11,g16,g17,hB,C,hKn⟩
   rw[aeQ]at hi
   obtain rfl:g=g':=by rw[apN hi]at hx;exact Option.some.inj hx
   have h5:decide ((g:Int)≤(f:Int))=true:=decide_eq_true (by omega)
   have hwg:IntKind.i64.wrap ((g:Int)+1)=((g+1:Nat):Int):=by rw[Re (by omega) (by omega)];omega
   (have hb:=trivial;with_reducible repeat' (first|simp only[hb,Vc.down,seval,Zk.down,g3,g17,h5]|refine Qm ?_ ?_<;>intro hb|refine fd ?_|fail))
   refine Uj (lst 133 (aaM (6 ^ w.parts.length)) (fun i (p:(St→Nat) × Bool) t h=>t 1=.int .i64 d∧t 3=.int .i64 (f:Int)∧t 4=.ptr 0 0 0∧t 9=.int .i64 ((6 ^ w.parts.length:Nat):Int)∧t 11=.slr 1 ob 0 (f+1)∧t 16=.bool p.2∧t 17=.int .i64 (g:Int)∧t 18=.int .i64 (i:Int)∧h[0]?=some (.live 3 false x0 wc)∧yF p.1 w.parts.length (f+1) ib ob h∧Vd.Kno (Zy w N l) Qx (Yn w.parts.length (f+1)) p.1) (fun rest p=>rest.foldl (fun p n=>nS w N ops p (Zm w.parts.length g n)) p)
    (fun p e t h=>e=.exit 10∧t 1=.int .i64 d∧t 3=.int .i64 (f:Int)∧t 4=.ptr 0 0 0∧t 9=.int .i64 ((6 ^ w.parts.length:Nat):Int)∧t 11=.slr 1 ob 0 (f+1)∧t 16=.bool p.2∧t 17=.int .i64 (g:Int)∧h[0]?=some (.live 3 false x0 wc)∧yF p.1 w.parts.length (f+1) ib ob h∧Vd.Kno (Zy w N l) Qx (Yn w.parts.length (f+1)) p.1) ?_ ?_ p _ _ ?_) (fun e t h hk=>?_)
   ·rintro p t h Q' kQ ⟨g1,g3,g4,g9,g11,g16,g17,g18,hB,C,hKn⟩
    rw[aeQ]at g18
    (have hb:=trivial;with_reducible repeat' (first|simp only[hb,Vc.down,seval,Zk.down,g9,g18,ag0,decide_false]|refine Qm ?_ ?_<;>intro hb|refine fd ?_|fail))
    exact kQ _ _ _ ⟨rfl,by simp[up,g1],by simp[up,g3],by simp[up,g4],by simp[up,g9],by simp[up,g11],by simp[up,g16],by simp[up,g17],hB,C,hKn⟩
   ·rintro n' rest n p t h J' Q'' kJ' kQ' hx hn ⟨g1,g3,g4,g9,g11,g16,g17,g18,hB,C,hKn⟩
    rw[aeQ]at hn
    obtain rfl:n=n':=by rw[apN hn]at hx;exact Option.some.inj hx
    have hdd:decide ((n:Int)<((6 ^ w.parts.length:Nat):Int))=true:=decide_eq_true (by omega)
    have hii:((n:Int)<((6 ^ w.parts.length:Nat):Int))=True:=eq_true (by omega)
    have hgF:((g:Int)<((f+1:Nat):Int))=True:=eq_true (by omega)
    have hwn:IntKind.i64.wrap ((n:Int)+1)=((n+1:Nat):Int):=by rw[Re (by omega) (by omega)];omega
    obtain⟨xo,hxo⟩:=C.out
    obtain⟨y,hy⟩:=C.row g (by omega)
    have hRO:((aaM (f+1)).map fun g=>[AV.slr 1 (ib g) 0 (6 ^ w.parts.length)])[g]?=some [AV.slr 1 (ib g) 0 (6 ^ w.parts.length)]:=by rw[apP,apN (by omega)];rfl
    have hRn:=bT p.1 w.parts.length g hn
    rw[show(Zj (Xu w.parts.length n),g)=Zm w.parts.length g n from rfl]at hRn
    have hsL:Zm w.parts.length g n∈Yn w.parts.length (f+1):=cP.2 ⟨g,n,by omega,hn,rfl⟩
    have hKle:=hKn.known.le _ hsL
    have htop:Qx=1099511627776:=rfl
    have hiblt:∀z,z<f+1→ib z<h.length:=fun z hz=>by obtain⟨_,hr⟩:=C.row z hz;exact Rw hr
    have hoblt:=Rw hxo
    have hB0:=hB
    rw[←hwc]at hB0
    by_cases h0:p.1 (Zm w.parts.length g n)=0
    ·have q0:(eF (p.1 (Zm w.parts.length g n))==0)=true:=by rw[h0];rfl
     have hn0:nS w N ops p (Zm w.parts.length g n)=p:=if_pos h0
     generalize((aaM (f+1)).map fun g=>[AV.slr 1 (ib g) 0 (6 ^ w.parts.length)])=RO at *
     generalize hRK:aN p.1 w.parts.length g=R at *
     (have hb:=trivial;with_reducible repeat' (first|simp only[hb,Vc.down,seval,Zk.down,g9,g11,g17,g18,hdd,hii,hgF,hwn,hxo,hy,hRO,hRn,q0]|refine Qm ?_ ?_<;>intro hb|refine fd ?_|fail))
     subst hRK
     exact Qq (kJ' _ _ p ⟨by simp[up,g1],by simp[up,g3],by simp[up,g4],by simp[up,g9],by simp[up,g11],by simp[up,g16],by simp[up,g17],by simp[up],hB,C,hKn⟩ (by rw[afU,hn0]))
    ·have q0:(eF (p.1 (Zm w.parts.length g n))==0)=false:=by
      refine beq_eq_false_iff_ne.2 ?_
      unfold eF;split<;>omega
     have hn0:nS w N ops p (Zm w.parts.length g n)=ops.foldl (fun p o=>stR w N p (Zm w.parts.length g n) o.1 o.2) p:=if_neg h0
     obtain⟨wd,hD⟩:=hdec n (by omega)
     have hO:=aUJ (w:=w) hw.ne (by omega)
     rw[hsl]at hO
     have hBa:=Qh hB0
     have hol:ops.length=4*w.parts.length:=by rw[←hops,acB]
     generalize hRO2:((aaM (f+1)).map fun g=>[AV.slr 1 (ib g) 0 (6 ^ w.parts.length)])=RO at *
     generalize hRK:aN p.1 w.parts.length g=R at *
     (have hb:=trivial;with_reducible repeat' (first|simp only[hb,Vc.down,seval,Zk.down,g1,g4,g9,g11,g17,g18,hdd,hii,hgF,hxo,hy,hRO,hRn,q0,hB0,hBa,hD,hO]|refine Qm ?_ ?_<;>intro hb|refine fdl ?_|fail))
     refine Uj (lst 133 ops (fun j (p2:(St→Nat) × Bool) t h'=>t 1=.int .i64 d∧t 3=.int .i64 (f:Int)∧t 4=.ptr 0 0 0∧t 9=.int .i64 ((6 ^ w.parts.length:Nat):Int)∧t 11=.slr 1 ob 0 (f+1)∧t 16=.bool p2.2∧t 17=.int .i64 (g:Int)∧t 18=.int .i64 (n:Int)∧t 19=.ptr (h.length+1) 0 0∧t 20=.slr 2 (h.length+2) 0 (4*w.parts.length)∧t 21=.int .i64 (j:Int)∧h'[0]?=some (.live 3 false x0 wc)∧yF p2.1 w.parts.length (f+1) ib ob h'∧Vd.Kno (Zy w N l) Qx (Yn w.parts.length (f+1)) p2.1∧(∃x,h'[h.length]?=some (.live 9 true x ((Xd d w.parts n).map Qb.cells)))∧(∃x,h'[h.length+1]?=some (.live 3 false x [[.int .i64 w.rooms,.int .i64 w.need,.slr 9 h.length 0 w.parts.length]]))∧∃x,h'[h.length+2]?=some (.live 2 true x (vW w.parts.length 4))) (fun rest p2=>rest.foldl (fun p o=>stR w N p (Zm w.parts.length g n) o.1 o.2) p2)
      (fun p2 e t h'=>e=.exit 12∧t 1=.int .i64 d∧t 3=.int .i64 (f:Int)∧t 4=.ptr 0 0 0∧t 9=.int .i64 ((6 ^ w.parts.length:Nat):Int)∧t 11=.slr 1 ob 0 (f+1)∧t 16=.bool p2.2∧t 17=.int .i64 (g:Int)∧t 18=.int .i64 (n:Int)∧h'[0]?=some (.live 3 false x0 wc)∧yF p2.1 w.parts.length (f+1) ib ob h'∧Vd.Kno (Zy w N l) Qx (Yn w.parts.length (f+1)) p2.1) ?_ ?_ p _ _ ?_) (fun e t h' hk=>?_)
     ·rintro p2 t h' Q3 kQ ⟨g1,g3,g4,g9,g11,g16,g17,g18,g19,g20,g21,hB,C,hKn,_⟩
      rw[hol]at g21
      (have hb:=trivial;with_reducible repeat' (first|simp only[hb,Vc.down,seval,Zk.down,g20,g21,ag0,decide_false]|refine Qm ?_ ?_<;>intro hb|refine fd ?_|fail))
      exact kQ _ _ _ ⟨rfl,by simp[up,g1],by simp[up,g3],by simp[up,g4],by simp[up,g9],by simp[up,g11],by simp[up,g16],by simp[up,g17],by simp[up,g18],hB,C,hKn⟩
     ·rintro o rest j p2 t h' J3 Q3 kJ kQ hx hj ⟨g1,g3,g4,g9,g11,g16,g17,g18,g19,g20,g21,hB,C,hKn,⟨x9,h9⟩,⟨x3,h3⟩,⟨x2,h2⟩⟩
      have hom:=ax2 hx
      obtain⟨hk4,hol2⟩:=hopk o hom
      have djj:decide ((j:Int)<((4*w.parts.length:Nat):Int))=true:=decide_eq_true (by omega)
      have djI:((j:Int)<((4*w.parts.length:Nat):Int))=True:=eq_true (by omega)
      have hwj:IntKind.i64.wrap ((j:Int)+1)=((j+1:Nat):Int):=by rw[Re (by omega) (by omega)];omega
      have hoR:(vW w.parts.length 4)[j]?=some [.int .i64 o.1,.int .i64 (o.2:Int)]:=by
       rw[auH,hops,apP,hx];rfl
      have hdl:=(Wj w d n).len
      obtain⟨px,hpx⟩:∃px,(fX w d n).parts[o.2]?=some px:=⟨_,ax3 (by omega)⟩
      have hBeh:=adZ (ajX hw d n) (by omega) hd (fun p hp=>by
       have:=mU w d w.parts n p hp
       omega) (fun p hp k=>by
       obtain⟨z,hz⟩:=ayP hp
       obtain⟨q,hq,hkq⟩:=(Wj w d n).get hz
       have:=aJ hwb hq k
       simp only[mN,Prod.mk.injEq]at hkq
       unfold lE at this ⊢
       rw[←hkq.2.2.2.1,←hkq.2.2.2.2]
       exact this) hk4 hpx p2.1 (g:=g) (F:=f+1) (by omega) (by omega)
      have eW:(fX w d n).cells=[.int .i64 w.rooms,.int .i64 w.need,.imm 9 true ((Xd d w.parts n).map Qb.cells)]:=by
       show [_,_,Rh 9 true true _]=_
       rw[fE];rfl
      change Ub.call _ [AV.agg (fX w d n).cells,.int .i64 d,.agg [.int .i64 o.1,.int .i64 (o.2:Int)],.int .i64 (g:Int),_] []=_ at hBeh
      rw[eW,hdl]at hBeh
      have hstep:=arP (N:=N) hwb h6 (F:=f+1) (by omega) hd (g:=g) (n:=n) (by omega) hn p2 hKn hk4 o.2
      generalize ae1 (fX w d n) N d p2.1 g o.1 o.2=bv at *
      have hrd:=C.read (by omega)
      have hrv:=kT (e:=12) (by omega) hrd
      change qG h' (.slr 1 ob 0 (f+1))=_ at hrv
      simp only[uD]at hrv
      obtain⟨lv,hlv⟩:∃lv,Qp 12 (Go.Ev.hf h') (.slr 1 ob 0 (f+1))=lv:=⟨_,rfl⟩
      have hlv2:=hlv
      rw[wS]at hlv2
      have htk:apL w.parts.length ((Xd d w.parts n).map Qb.cells)=(Xd d w.parts n).map Qb.cells:=apM (by rw[aaB,cL];omega)
      have hdl2:(w.parts.length≤(Xd d w.parts n).length)=True:=eq_true (by rw[cL];exact abV _)
      generalize hdc:Xd d w.parts n=dl at *
      generalize hou:vW w.parts.length 4=OU at *
      have hKn':Vd.Kno (Zy w N l) Qx (Yn w.parts.length (f+1)) (stR w N p2 (Zm w.parts.length g n) o.1 o.2).1:=by
       unfold stR
       cases hc:mL w N (Zm w.parts.length g n) o.1 o.2 with
       |none=>exact hKn
       |some c=>exact(Vd.stepO_ok hsL (wG hk4 hc l) p2 hKn).inv
      have hKle2:=hKn.known.le _ hsL
      rcases hstep with⟨rfl,hst⟩|⟨c,rfl,hct,hst⟩
      ·(have hb:=trivial;with_reducible repeat' (first|simp only[hb,Vc.down,seval,Zk.down,g1,g11,g17,g18,g19,g20,g21,djj,djI,hwj,h9,h3,h2,hoR,htk,hdl2,hrv,hlv2,hBeh,abV,aaB]|refine Qm ?_ ?_<;>intro hb|refine fdq ?_|fail))
       exact Qq (kJ _ _ p2 ⟨by simp[up,g1],by simp[up,g3],by simp[up,g4],by simp[up,g9],by simp[up,g11],by simp[up,g16],by simp[up,g17],by simp[up,g18],by simp[up,g19],by simp[up,g20],by simp[up],hB,C,hKn,⟨x9,h9⟩,⟨x3,h3⟩,⟨x2,h2⟩⟩ (by rw[afU,hst]))
      ·have m1:decide ((c:Int)≥0)=true:=decide_eq_true (by omega)
       obtain⟨xo',hxo'⟩:=C.out
       obtain⟨y',hy'⟩:=C.row g (by omega)
       rw[hRO2]at hxo'
       have hr1:Yz (h'[ob]?) g=some [AV.slr 1 (ib g) 0 (6 ^ w.parts.length)]:=by rw[hxo'];exact hRO
       have hRn':=bT p2.1 w.parts.length g hn
       rw[show(Zj (Xu w.parts.length n),g)=Zm w.parts.length g n from rfl]at hRn'
       have hgl:=hiblt g (by omega)
       have hg1:=(P.ne g (by omega)).2
       by_cases hlt:c<p2.1 (Zm w.parts.length g n)
       ·have Cp:=C.put P (g:=g) (n:=n) (c:=c) (by omega) hn hct true
        rw[if_pos hlt]at hst
        have fin:∀T,mk 133 T=mk 133 T:=fun _=>rfl
        have e9:∀c',(h'.set (ib g) c')[h.length]?=some (.live 9 true x9 (dl.map Qb.cells)):=fun c'=>by rw[abZ (by omega)];exact h9
        have e3:∀c',(h'.set (ib g) c')[h.length+1]?=some (.live 3 false x3 [[.int .i64 w.rooms,.int .i64 w.need,.slr 9 h.length 0 w.parts.length]]):=fun c'=>by rw[abZ (by omega)];exact h3
        have e2:∀c',(h'.set (ib g) c')[h.length+2]?=some (.live 2 true x2 OU):=fun c'=>by rw[abZ (by omega)];exact h2
        have eB:∀c',(h'.set (ib g) c')[0]?=some (.live 3 false x0 wc):=fun c'=>by rw[abZ (by omega)];exact hB
        rw[hst]at hKn'
        generalize hRK':aN p2.1 w.parts.length g=R2 at *
        by_cases b1:p2.1 (Zm w.parts.length g n)<Qx
        ·rw[show eF (p2.1 (Zm w.parts.length g n))=(p2.1 (Zm w.parts.length g n):Int)from if_pos b1]at hRn'
         have m2:decide ((p2.1 (Zm w.parts.length g n):Int)<0)=false:=decide_eq_false (by omega)
         have m3:decide ((c:Int)<(p2.1 (Zm w.parts.length g n):Int))=true:=decide_eq_true (by omega)
         (have hb:=trivial;with_reducible repeat' (first|simp only[hb,Vc.down,seval,Zk.down,g1,g11,g17,g18,g19,g20,g21,djj,djI,hwj,h9,h3,h2,hoR,htk,hdl2,hrv,hlv2,hBeh,m1,m2,m3,hgF,hii,hr1,hy',hRn',abV,aaB]|refine Qm ?_ ?_<;>intro hb|refine fdq ?_|fail))
         exact Qq (kJ _ _ (fun x=>if x=Zm w.parts.length g n then c else p2.1 x,true) ⟨by simp[up,g1],by simp[up,g3],by simp[up,g4],by simp[up,g9],by simp[up,g11],by simp[up],by simp[up,g17],by simp[up,g18],by simp[up,g19],by simp[up,g20],by simp[up],eB _,Cp,hKn',⟨x9,e9 _⟩,⟨x3,e3 _⟩,⟨x2,e2 _⟩⟩ (by rw[afU,hst]))
        ·rw[show eF (p2.1 (Zm w.parts.length g n))= -1 from if_neg b1]at hRn'
         (have hb:=trivial;with_reducible repeat' (first|simp only[hb,Vc.down,seval,Zk.down,g1,g11,g17,g18,g19,g20,g21,djj,djI,hwj,h9,h3,h2,hoR,htk,hdl2,hrv,hlv2,hBeh,m1,hgF,hii,hr1,hy',hRn',abV,aaB]|refine Qm ?_ ?_<;>intro hb|refine fdq ?_|fail))
         exact Qq (kJ _ _ (fun x=>if x=Zm w.parts.length g n then c else p2.1 x,true) ⟨by simp[up,g1],by simp[up,g3],by simp[up,g4],by simp[up,g9],by simp[up,g11],by simp[up],by simp[up,g17],by simp[up,g18],by simp[up,g19],by simp[up,g20],by simp[up],eB _,Cp,hKn',⟨x9,e9 _⟩,⟨x3,e3 _⟩,⟨x2,e2 _⟩⟩ (by rw[afU,hst]))
       ·rw[if_neg hlt]at hst
        have b1:p2.1 (Zm w.parts.length g n)<Qx:=by omega
        rw[show eF (p2.1 (Zm w.parts.length g n))=(p2.1 (Zm w.parts.length g n):Int)from if_pos b1]at hRn'
        generalize hRK':aN p2.1 w.parts.length g=R2 at *
        have m2:decide ((p2.1 (Zm w.parts.length g n):Int)<0)=false:=decide_eq_false (by omega)
        have m3:decide ((c:Int)<(p2.1 (Zm w.parts.length g n):Int))=false:=decide_eq_false (by omega)
        (have hb:=trivial;with_reducible repeat' (first|simp only[hb,Vc.down,seval,Zk.down,g1,g11,g17,g18,g19,g20,g21,djj,djI,hwj,h9,h3,h2,hoR,htk,hdl2,hrv,hlv2,hBeh,m1,m2,m3,hgF,hii,hr1,hy',hRn',abV,aaB]|refine Qm ?_ ?_<;>intro hb|refine fdq ?_|fail))
        exact Qq (kJ _ _ p2 ⟨by simp[up,g1],by simp[up,g3],by simp[up,g4],by simp[up,g9],by simp[up,g11],by simp[up,g16],by simp[up,g17],by simp[up,g18],by simp[up,g19],by simp[up,g20],by simp[up],hB,C,hKn,⟨x9,h9⟩,⟨x3,h3⟩,⟨x2,h2⟩⟩ (by rw[afU,hst]))
     ·exact⟨by simp[up,g1],by simp[up,g3],by simp[up,g4],by simp[up,g9],by simp[up,g11],by simp[up,g16],by simp[up,g17],by simp[up,g18],by simp[up],by simp[up],by simp[up],Qh hB _,C.keep fun b hb=>afC hb,hKn,⟨wd,by rw[ab9 (abV _),ae5];rfl⟩,⟨true,by rw[ab9 (by omega),ag1];rfl⟩,⟨false,by rw[ab9 (by omega),ag1];rfl⟩⟩
     obtain⟨rfl,g1,g3,g4,g9,g11,g16,g17,g18,hB,C,hKn⟩:=hk
     (have hb:=trivial;with_reducible repeat' (first|simp only[hb,Vc.down,seval,Zk.down,g18,hwn]|refine Qm ?_ ?_<;>intro hb|refine fd ?_|fail))
     exact Qq (kJ' _ _ _ ⟨by simp[up,g1],by simp[up,g3],by simp[up,g4],by simp[up,g9],by simp[up,g11],by simp[up,g16],by simp[up,g17],by simp[up],hB,C,hKn⟩ (by rw[afU,hn0]))
   ·exact⟨by simp[up,g1],by simp[up,g3],by simp[up,g4],by simp[up,g9],by simp[up,g11],by simp[up,g16],by simp[up,g17],by simp[up],hB,C,hKn⟩
   obtain⟨rfl,g1,g3,g4,g9,g11,g16,g17,hB,C,hKn'⟩:=hk
   (have hb:=trivial;with_reducible repeat' (first|simp only[hb,Vc.down,seval,Zk.down,g17,hwg]|refine Qm ?_ ?_<;>intro hb|refine fd ?_|fail))
   exact Qq (kJ _ _ (fS w N ops p g) ⟨by simp[up,g1],by simp[up,g3],by simp[up,g4],by simp[up,g9],by simp[up,g11],by simp[up,g16];rfl,by simp[up],hB,C,hKn'⟩ rfl)
  ·exact⟨by simp[up,g1],by simp[up,g3],by simp[up,g4],by simp[up,g9],by simp[up,g11],by simp[up],by simp[up],hB,C,hKn⟩
  obtain⟨rfl,g1,g3,g4,g9,g11,g16,hB,C⟩:=hk
  have A:=bgT hwb hopk1 K hKn
  change yF (rS w N ops (f+1) K).1 _ _ _ _ _ at C
  change t 16=.bool (rS w N ops (f+1) K).2 at g16
  generalize rS w N ops (f+1) K=p at *
  obtain⟨K2,ch⟩:=p
  cases ch with
  |true=>
   have hlt:=(A.ch rfl).resolve_left (by simp)
   simp only at hlt
   (have hb:=trivial;with_reducible repeat' (first|simp only[hb,Vc.down,seval,Zk.down]|refine Qm ?_ ?_<;>intro hb|refine fd ?_|fail))
   exact Qq (kJ _ _ () ⟨by simp[up,g1],by simp[up,g3],by simp[up,g4],by simp[up,g9],by simp[up,g11],hB,K2,C,A.inv,.inl ⟨by simp[up,g16],by omega⟩⟩ rfl)
  |false=>
   obtain⟨e1,hst⟩:=A.st rfl
   cases e1
   (have hb:=trivial;with_reducible repeat' (first|simp only[hb,Vc.down,seval,Zk.down]|refine Qm ?_ ?_<;>intro hb|refine fd ?_|fail))
   exact Qq (kJ _ _ () ⟨by simp[up,g1],by simp[up,g3],by simp[up,g4],by simp[up,g9],by simp[up,g11],hB,K,C,A.inv,.inr ⟨by simp[up,g16],hst⟩⟩ rfl)
 ·exact⟨by simp[up,g1],by simp[up,g3],by simp[up,g4],by simp[up,g9],by simp[up,g11],hB,K0 l,C,hKn0,.inl ⟨by simp[up],Nat.lt_succ_self _⟩⟩
 obtain⟨rfl,g11,K,C,hKn,hst⟩:=hk
 (have hb:=trivial;with_reducible repeat' (first|simp only[hb,Vc.down,seval,Zk.down,g11]|refine Qm ?_ ?_<;>intro hb|refine fd ?_|fail))
 subst hops
 have hbest:=fun s hs=>aoF hwb h6 (by omega) hKn hst (s:=s) hs
 have C2:yF ((Zy w N l).bst Qx) w.parts.length (f+1) ib ob h:=⟨C.out,fun g hg=>by
  obtain⟨y,hy⟩:=C.row g hg
  refine⟨y,hy.trans ?_⟩
  congr 2
  unfold aN
  refine axS fun n hn=>?_
  have e:=hbest (Zj (Xu w.parts.length n),g) (cP.2 ⟨g,n,hg,amX.1 hn,rfl⟩)
  rw[e]⟩
 have r1:=C2.read (by omega)
 refine hK _ ?_
 rw[awC]
 refine baE (vs:=[.slr 1 ob 0 (f+1)]) ?_ (atS r1 (by simp;omega) fun v h' R' k1 k2 k3=>⟨v,R',rfl,k1,by simp at k2 ⊢;omega,k3⟩)
 simp only[Vc.down,seval,Zk.down]
theorem alV{w:Qf}{N:Nat}(hw:mX w N){d:Int}{l:List Ua}(hl:l.length≤maxLen){f:Nat}(h:bN w d l f=0){k:Int}(hk:k=1∨k=2∨k=3∨k=4)(i:Nat):
 (lD w N l (Qc w d,f) k i= -1∨(0≤lD w N l (Qc w d,f) k i∧bs w N l (Qc w d,f)<Qx∧(bs w N l (Qc w d,f):Int)≤lD w N l (Qc w d,f) k i∧∃o∈Tj w N (Qc w d,f),o.k=k∧o.i=i∧((lD w N l (Qc w d,f) k i=(bs w N l (Qc w d,f):Int))→kW (bs w N l) o=bs w N l (Qc w d,f)))):=by
 have hF:=abU hw hl h
 obtain⟨_,hwb,_⟩:=dY h
 unfold lD
 cases hc:choF w N (Qc w d,f) k i with
 |none=>exact .inl rfl
 |some o=>
  obtain⟨h1,h2,p,x,I⟩:=(bB hk).1 hc
  have ho:o∈Tj w N (Qc w d,f):=Zp.2 ⟨p,x,I⟩
  have hpr:=aJ hwb I.hp o.k
  rw[←I.c]at hpr
  simp only
  by_cases hm:Vd.mx (bs w N l) o.to<Qx
  ·rw[if_pos hm]
   have hcan:∃k,Go.Ev.iC (cK w N l) (Qc w d,f) k:=⟨_,.op (bW.2 ⟨o,ho,rfl⟩) (k':=Vd.mx (bs w N l) o.to) (fun y hy=>by
    have hy2:=Vd.mx_le (f:=bs w N l) hy
    have:∃k,Go.Ev.iC (cK w N l) y k:=Classical.byContradiction fun n=>by
     have:=Vd.bst_none (top:=Qx) n
     have e:bs w N l y=Qx:=this
     omega
    exact(Vd.bst_can (top:=Qx) this).1.mono hy2) (abV _)⟩
   have hlt:=hF.lt hcan
   have hle:=Vd.bst_le hF (bW (l:=l).2 ⟨o,ho,rfl⟩)
   change bs w N l (Qc w d,f)<Qx at hlt
   change bs w N l (Qc w d,f)≤min Qx (o.c.toNat+Vd.mx (bs w N l) o.to)at hle
   refine .inr ⟨by omega,hlt,by omega,o,ho,h1,h2,fun e=>?_⟩
   unfold kW
   omega
  ·rw[if_neg hm];exact .inl rfl
theorem a62{w:Qf}{N:Nat}(hw:mX w N){d:Int}{l:List Ua}(hl:l.length≤maxLen){f:Nat}(h:bN w d l f=0):bs w N l (Qc w d,f)=0↔lG (Qc w d) l=true:=by
 obtain⟨_,hwb,_⟩:=dY h
 exact Vd.bst_pos (abU hw hl h) (by unfold Qx;omega) (aa3 hwb)
theorem auF{f g:St→Nat}:∀{l:List St},(∀x∈l,f x=g x)→Vd.mx f l=Vd.mx g l:=fun {l} h=>
 Nat.le_antisymm (Vd.mx_mono fun x hx=>Nat.le_of_eq (h x hx)) (Vd.mx_mono fun x hx=>Nat.le_of_eq (h x hx).symm)
theorem uT{w:Qf}{d:Int}:Xu w.parts.length (eK (bQ w.parts d))=bQ w.parts d:=by
 have:=sX (aa7 w.parts d)
 rwa[show(bQ w.parts d).length=w.parts.length by unfold bQ;simp]at this
theorem baQ(w:Qf)(d:Int):eK (bQ w.parts d)<6 ^ w.parts.length:=by
 have:=qU (aa7 w.parts d)
 rwa[show(bQ w.parts d).length=w.parts.length by unfold bQ;simp]at this
theorem aKP{w:Qf}{N:Nat}(hb:Wb w=true){d D:Int}(hD:1≤D∧D≤6000)(l:List Ua)(g:Nat){k:Int}(hk:k=1∨k=2∨k=3∨k=4)(i:Nat):ae1 (fX w D (eK (bQ w.parts d))) N D ((Zy w N l).bst Qx) g k i=lD w N l (Qc w d,g) k i:=by
 have hv:pL (fX w D (eK (bQ w.parts d))).parts=true:=by
  show pL (Xd D w.parts _)=true
  have h1:=tL D w.parts (eK (bQ w.parts d)) (aiJ (12-(bQ w.parts d).length) (0,false))
  rw[uT]at h1
  have h2:=mP hb d
  rw[cQ]at h2
  rw[←h1]
  exact h2
 have hp:Qc (fX w D (eK (bQ w.parts d))) D=Qc w d:=by
  rw[mR w hD,uT,cQ]
 unfold ae1 lD
 rw[if_pos hv,hp,(Wj w D _).choF]
 cases hc:choF w N (Qc w d,g) k i with
 |none=>rfl
 |some o=>
  obtain⟨_,_,p,x,I⟩:=(bB hk).1 hc
  have ho:=Zp.2 ⟨p,x,I⟩
  have e:Vd.mx ((Zy w N l).bst Qx) o.to=Vd.mx (bs w N l) o.to:=auF fun y hy=>akG (akW (mP hb d) ho y hy)
  simp only[e]
theorem auC(w:Qf)(N:Nat)(s:St):Tj w N s=(opN w.parts.length 4).filterMap fun o=>choF w N s o.1 o.2:=by
 have e:∀k:Int,((aaM w.parts.length).map fun i=>(k,i)).filterMap (fun o=>choF w N s o.1 o.2)=lB w N s k:=fun k=>by
  unfold lB;rw[List.filterMap_map];rfl
 show lB w N s 1++(lB w N s 2++(lB w N s 3++lB w N s 4))=(((([]++(aaM w.parts.length).map fun i=>(((0:Nat):Int)+1,i))++(aaM w.parts.length).map fun i=>(((1:Nat):Int)+1,i))++(aaM w.parts.length).map fun i=>(((2:Nat):Int)+1,i))++(aaM w.parts.length).map fun i=>(((3:Nat):Int)+1,i)).filterMap _
 rw[axP,aqK,aqK,aqK]
 rw[show(((0:Nat):Int)+1)=1 from rfl,show(((1:Nat):Int)+1)=2 from rfl,show(((2:Nat):Int)+1)=3 from rfl,show(((3:Nat):Int)+1)=4 from rfl,e,e,e,e,amZ,amZ]
noncomputable def ag8(w:Qf)(N:Nat)(l:List Ua)(s:St)(o:Int × Nat):Bool:=decide (lD w N l s o.1 o.2≥0)&&lD w N l s o.1 o.2==eF (bs w N l s)
theorem aqW{w:Qf}{N:Nat}(hw:mX w N){d:Int}{l:List Ua}(hl:l.length≤maxLen){f:Nat}(h:bN w d l f=0):
 (¬bs w N l (Qc w d,f)<Qx→(opN w.parts.length 4).find? (ag8 w N l (Qc w d,f))=none)∧
 (bs w N l (Qc w d,f)<Qx→bs w N l (Qc w d,f)≠0→∃c o,(Tj w N (Qc w d,f)).find? (fun o=>kW (bs w N l) o==bs w N l (Qc w d,f))=some c∧(opN w.parts.length 4).find? (ag8 w N l (Qc w d,f))=some o∧o.1=c.k∧o.2=c.i):=by
 obtain⟨_,hwb,_⟩:=dY h
 constructor
 ·intro hn
  rw[List.find?_eq_none]
  intro o ho
  have hk:=(agH ho).1
  have:=(alV hw hl h hk o.2).resolve_right fun h=>hn h.2.1
  unfold ag8
  rw[this]
  simp
 ·intro hlt h0
  have hF:=abU hw hl h
  have hop:=Vd.bst_op hF
  change bs w N l (Qc w d,f)<Qx→_ at hop
  have hg:(cK w N l).goal (Qc w d,f)=false:=by
   cases hg:(cK w N l).goal (Qc w d,f)with
   |false=>rfl
   |true=>exact absurd (Vd.bst_goal hg) h0
  obtain⟨o1,ho1,e1,_⟩:=hop hlt hg (aa3 hwb)
  obtain⟨c1,hc1,rfl⟩:=bW.1 ho1
  obtain⟨c,hc⟩:=Option.isSome_iff_exists.1 (List.find?_isSome (p:=fun o=>kW (bs w N l) o==bs w N l (Qc w d,f)).2 ⟨c1,hc1,by rw[beq_iff_eq];exact e1.symm⟩)
  refine⟨c,?_⟩
  have hc':=hc
  rw[auC,List.find?_filterMap]at hc'
  obtain⟨o,ho,hoc⟩:=Option.bind_eq_some_iff.1 hc'
  have hom:=List.mem_of_find?_eq_some ho
  have hk:=(agH hom).1
  obtain⟨i1,i2,_⟩:=(bB hk).1 hoc
  refine⟨o,hc,?_,i1.symm,i2.symm⟩
  rw[←ho]
  have fc:∀{α:Type} {p q:α→Bool} {L:List α},(∀x∈L,p x=q x)→L.find? p=L.find? q:=fun {α p q L} hpq=>by
   induction L with
   |nil=>rfl
   |cons a L ih=>
    have ha:=hpq a (by simp)
    cases hp:p a with
    |true=>rw[as6 hp,as6 (ha▸hp)]
    |false=>
     rw[amE (by simp[hp]),amE (by simp[←ha,hp])]
     exact ih fun x hx=>hpq x (by simp[hx])
  refine fc fun x hx=>?_
  have hkx:=(agH hx).1
  have hco:eF (bs w N l (Qc w d,f))=(bs w N l (Qc w d,f):Int):=if_pos hlt
  unfold ag8
  rw[hco]
  cases hcx:choF w N (Qc w d,f) x.1 x.2 with
  |none=>
   have:lD w N l (Qc w d,f) x.1 x.2= -1:=by unfold lD;rw[hcx]
   rw[this]
   simp
  |some y=>
   obtain⟨j1,j2,p,z,I⟩:=(bB hkx).1 hcx
   have hy:=Zp.2 ⟨p,z,I⟩
   have hav:lD w N l (Qc w d,f) x.1 x.2=if Vd.mx (bs w N l) y.to<Qx then((Vd.mx (bs w N l) y.to:Nat):Int)+y.c else -1:=by unfold lD;rw[hcx]
   have hpr:=aJ hwb I.hp y.k
   rw[←I.c]at hpr
   rw[hav]
   show _=(kW (bs w N l) y==bs w N l (Qc w d,f))
   unfold kW
   by_cases hm:Vd.mx (bs w N l) y.to<Qx
   ·rw[if_pos hm,ayV]
    simp only[aJY,decide_eq_true_eq,beq_iff_eq]
    omega
   ·rw[if_neg hm,ayV]
    simp only[aJY,decide_eq_true_eq,beq_iff_eq]
    omega
theorem alD{K:St→Nat}{m F:Nat}{H:Qa}{v:AV}{R:List Nat}(h:rd 6 (hf H) v=some (.imm 1 false (qX K m F),R)){g:Nat}(hg:g<F):
 ∃vb bg,v=.slr 1 vb 0 F∧Yz (H[vb]?) g=some [.slr 1 bg 0 (6 ^ m)]∧∀n,n<6 ^ m→Yz (H[bg]?) n=some [.int .i64 (eF (K (Zj (Xu m n),g)))]:=by
 have hne:qX K m F≠[]:=fun e=>by have:=congrArg List.length e;rw[vS]at this;simp at this;omega
 rw[←Yj (n:=1) (fl:=false) (nn:=false) hne]at h
 rcases cJ h with⟨_,h0⟩|⟨vb,rows',rfl,hb,_,_,_⟩
 ·exact absurd h0 hne
 ·obtain⟨q,hq,rfl,hx⟩:=mK h hb
  have hq1:q.1=qX K m F:=by
   rw[Yj hne]at hx
   injection hx with _ _ h3
   exact h3.symm
  obtain⟨r,R2,k1,k2⟩:=mS (i:=g) hq (by rw[hq1];exact abH K m F hg)
  obtain⟨a1,l1,_,_,rfl,m1,n1,rfl⟩:=Xl k2
  obtain⟨rfl,rfl⟩:=dH n1
  have hne2:aN K m g≠[]:=fun e=>by
   have:=congrArg List.length e
   rw[Yp]at this
   have h6:1≤6 ^ m:=Nat.one_le_pow _ _ (by decide)
   simp at this
  rw[←Yj (n:=1) (fl:=true) (nn:=true) hne2]at m1
  rcases cJ m1 with⟨_,h0⟩|⟨bg,rows2,rfl,hb2,_,hfl,_⟩
  ·exact absurd h0 hne2
  ·obtain rfl:=hfl rfl
   refine⟨vb,bg,by rw[vS],by rw[tK hb,k1,Yp],fun n hn=>?_⟩
   rw[tK hb2,bT K m g hn]
theorem amG{H:Qa}{args:List AV}(hp:args.all (Qv 8)=true):Qo (qG H) args=some args∧args.flatMap (Qp 12 (hf H))=[]:=by
 rw[List.all_eq_true]at hp
 constructor
 ·have:∀l:List AV,(∀x∈l,Qv 8 x=true)→Qo (qG H) l=some l:=by
   intro l
   induction l with
   |nil=>intro _;rfl
   |cons a l ih=>
    intro h
    rw[zS,ih fun x hx=>h x (by simp[hx]),show qG H a=some a from cH _ (d:=8) (by omega) (h a (by simp)),wZ]
  exact this args hp
 ·rw[List.flatMap_eq_nil_iff]
  exact fun x hx=>cX _ (d:=8) (by omega) (hp x hx)
noncomputable def aiT(w:Qf)(N:Nat)(l:List Ua)(s:St):List AV:=
 if bs w N l s=0 then [.agg [.int .i64 0,.int .i64 0],.int .i64 0]else match(opN w.parts.length 4).find? (ag8 w N l s)with
  |some o=>[.agg [.int .i64 o.1,.int .i64 (o.2:Int)],.int .i64 (bs w N l s:Nat)]
  |none=>[.agg [.int .i64 0,.int .i64 0],.int .i64 (-1)]
theorem alX{w:Qf}{N:Nat}(hw:mX w N)(d:Int)(l:List Ua)(nn:Bool)(hl:l.length≤maxLen)(f:Nat)(h:bN w d l f=0):
 Ub.call (.fn 16) [.agg [.int .i64 w.rooms,.int .i64 w.need,Rh 9 true w.nn (w.parts.map Qb.cells)],.int .i64 d,Rh 3 true nn (l.map Ua.cells),.int .i64 (f:Int)] []=some (.ret (.tup (aiT w N l (Qc w d,f))),[]):=by
 obtain⟨h6,hwb,hdb,hgb,_,hf3'⟩:=dY h
 have hf3:f≤3:=by omega
 have hdd:0≤d∧d≤5000:=by simpa [lF,Yw]using hdb
 have hD:1≤d+1∧d+1≤6000:=by omega
 have hlp:=qS (by omega) hgb
 have hM:=aTG (w:=w) (by omega) d l nn hl hlp
 have hmet:=a62 hw hl h
 have hsl:Rh 9 true w.nn (w.parts.map Qb.cells)=.imm 9 true (w.parts.map Qb.cells):=Yj (by simpa using hw.ne)
 have hwd:IntKind.i64.wrap (d+1)=d+1:=Re (by omega) (by omega)
 cases c1:lG (Qc w d) l with
 |true=>
  rw[c1]at hM
  unfold aiT
  rw[if_pos (hmet.2 c1)]
  (refine ce Tryz.func16 ?_;simp only[Tryz.f16];(have hb:=trivial;with_reducible repeat' (first|simp only[hb,Vc.down,seval,aa1.down,hM,aaB]|refine Qm ?_ ?_<;>intro hb|refine fd ?_|fail)))
 |false=>
 rw[c1]at hM hmet
 have hn0:bs w N l (Qc w d,f)≠0:=fun e=>by have:=hmet.1 e;cases this
 have hC:=aFV (N:=N) hw hwb h6 hD l nn hl hlp (f:=f) hf3
 have hcode:=axG w (by omega) d
 have hOp:=aUJ (w:=w) hw.ne (by omega)
 have hlt0:=baQ w d
 have hpow:6 ^ w.parts.length≤46656:=apH (apI (by decide) h6) (by decide)
 obtain⟨wd,hDec⟩:=ad3 hw.ne (by omega) (d:=d+1) (by omega) hD.2 (n:=eK (bQ w.parts d)) (by omega)
 rw[hsl]at hM hC hcode hOp hDec ⊢
 obtain⟨qC,hqC⟩:∃q,Fn.func 45=q:=⟨_,rfl⟩
 refine ce Tryz.func16 ?_
 simp only[Tryz.f16]
 (have hb:=trivial;with_reducible repeat' (first|simp only[hb,Vc.down,seval,aa1.down,hM,hwd,hqC,aaB]|refine Qm ?_ ?_<;>intro hb|refine fd ?_|fail))
 generalize hE:cl Ub _ (some (.func qC [] [])) (some _)=E1
 rw[←hqC]at hE
 obtain⟨Hc,hHc⟩:∃Hc:Qa,[CB.live 3 false false [[AV.int .i64 w.rooms,.int .i64 w.need,.imm 9 true (w.parts.map Qb.cells)]],CB.live 2 true false [[AV.int .i64 0,.int .i64 0]]]=Hc:=⟨_,rfl⟩
 rw[hHc]at hE ⊢
 have hpa:[AV.agg [AV.int .i64 w.rooms,.int .i64 w.need,.imm 9 true (w.parts.map Qb.cells)],.int .i64 (d+1),Rh 3 true nn (l.map Ua.cells),.int .i64 (f:Int)].all (Qv 8)=true:=by
  simp only[List.all_cons,List.all_nil,cT 7,Bool.and_true]
  rfl
 obtain⟨ha,hle⟩:=amG (H:=Hc) hpa
 obtain⟨v,es,M,R,e1,e2,Kp,hrd,hRl,hRg⟩:=hC.cl (H:=Hc) (bcL rfl) ha hpa
 have e9:=hE.symm.trans e1
 subst e9
 rw[hle]at Kp
 have hM0:M[0]?=some (.live 3 false false [[AV.int .i64 w.rooms,.int .i64 w.need,.imm 9 true (w.parts.map Qb.cells)]]):=by rw[Kp.same 0 (by rw[←hHc];simp) (by simp),←hHc];rfl
 have hM1:M[1]?=some (.live 2 true false [[AV.int .i64 0,.int .i64 0]]):=by rw[Kp.same 1 (by rw[←hHc];simp) (by simp),←hHc];rfl
 have hMl:2≤M.length:=by have:=Kp.len;rw[←hHc]at this;simpa using this
 obtain⟨vb,bg,rfl,hr1,hr2⟩:=alD hrd (g:=f) (by omega)
 have hMa:=Qh hM0
 have hMb:=Qh hM1
 have hs0:wF (M.length-1) 1 M.length=1001:=by unfold wF;rw[if_neg (by omega)];omega
 have hsf:∀k,wF (M.length-1) 1 (M.length+k)=k+1001:=fun k=>by unfold wF;rw[if_neg (by omega)];omega
 (have hb:=trivial;with_reducible repeat' (first|simp only[hb,Vc.down,seval,aa1.down,e2,hM0,hM1,hMa,hMb,hwd,hcode,hDec,hOp,aaB]|refine Qm ?_ ?_<;>intro hb|((refine uS (M.length-1) 1 ?_ ?_);(simp (discharger:=decide) only[iU,dZ,List.map_cons,List.map_nil,aV,iP,jF,jR,aO,dL,axQ,axR,hs0,hsf];kernel_rfl);intro _)|refine fdx ?_|fail))
 obtain⟨ops,hops⟩:∃ops,opN w.parts.length 4=ops:=⟨_,rfl⟩
 have hopk:∀o∈ops,(o.1=1∨o.1=2∨o.1=3∨o.1=4)∧o.2<w.parts.length:=fun o ho=>agH (by rw[hops];exact ho)
 have hol:ops.length=4*w.parts.length:=by rw[←hops,acB]
 obtain⟨c0,hc0⟩:∃c0,eK (bQ w.parts d)=c0:=⟨_,rfl⟩
 rw[hc0]at hlt0 hcode
 have hdl:=(Wj w (d+1) c0).len
 have eW:(fX w (d+1) c0).cells=[.int .i64 w.rooms,.int .i64 w.need,.imm 9 true ((Xd (d+1) w.parts c0).map Qb.cells)]:=by
  show [_,_,Rh 9 true true _]=_
  rw[fE];rfl
 have hself:Zj (Xu w.parts.length c0)=Qc w d:=by rw[←hc0,uT,cQ]
 have hbR:=akG (N:=N) (l:=l) (s:=(Qc w d,f)) (mP hwb d)
 obtain⟨H2,hH2⟩:∃H2:Qa,M++[CB.live 9 true wd ((Xd (d+1) w.parts (eK (bQ w.parts d))).map Qb.cells),CB.live 3 false true [[AV.int .i64 w.rooms,.int .i64 w.need,.slr 9 M.length 0 w.parts.length]],CB.live 2 true false (vW w.parts.length 4)]=H2:=⟨_,rfl⟩
 have k0:H2[0]?=some (.live 3 false false [[AV.int .i64 w.rooms,.int .i64 w.need,.imm 9 true (w.parts.map Qb.cells)]]):=by rw[←hH2];exact hMa _
 have k1:H2[1]?=some (.live 2 true false [[AV.int .i64 0,.int .i64 0]]):=by rw[←hH2];exact hMb _
 have k9:H2[M.length]?=some (.live 9 true wd ((Xd (d+1) w.parts c0).map Qb.cells)):=by rw[←hH2,ab9 (abV _),ae5,hc0];rfl
 have k3:H2[M.length+1]?=some (.live 3 false true [[AV.int .i64 w.rooms,.int .i64 w.need,.slr 9 M.length 0 w.parts.length]]):=by rw[←hH2,ab9 (by omega),ag1];rfl
 have k2:H2[M.length+2]?=some (.live 2 true false (vW w.parts.length 4)):=by rw[←hH2,ab9 (by omega),ag1];rfl
 have hrd2:rd 6 (Go.Ev.hf H2) (.slr 1 vb 0 (f+1))=some (.imm 1 false (qX ((Zy w N l).bst Qx) w.parts.length (f+1)),R):=by rw[←hH2];exact gQ hrd
 obtain⟨vb',bg',ev,hr1',hr2'⟩:=alD hrd2 (g:=f) (by omega)
 injection ev with _ ev1 _ _
 subst ev1
 have hr3:=hr2' c0 hlt0
 rw[hself,hbR]at hr3
 have hrv:=kT (e:=12) (by omega) hrd2
 change qG H2 (.slr 1 vb 0 (f+1))=_ at hrv
 simp only[uD]at hrv
 obtain⟨lv,hlv⟩:∃lv,Qp 12 (Go.Ev.hf H2) (.slr 1 vb 0 (f+1))=lv:=⟨_,rfl⟩
 have hlv2:=hlv
 rw[wS]at hlv2
 have htk:apL w.parts.length ((Xd (d+1) w.parts c0).map Qb.cells)=(Xd (d+1) w.parts c0).map Qb.cells:=apM (by rw[aaB,cL];omega)
 have hdl2:(w.parts.length≤(Xd (d+1) w.parts c0).length)=True:=eq_true (by rw[cL];exact abV _)
 have hfF:((f:Int)<((f+1:Nat):Int))=True:=eq_true (by omega)
 have hcF:((c0:Int)<((6 ^ w.parts.length:Nat):Int))=True:=eq_true (by omega)
 have hset:∀c,(H2.set 1 c)[1]?=some c:=fun c=>ag5 (Rw k1)
 rw[hH2]
 refine Uj (lst 72 ops (fun j (_:Unit) t h=>t 1=.int .i64 d∧t 3=.int .i64 (f:Int)∧t 4=.ptr 0 0 0∧t 8=.ptr 1 0 0∧t 10=.slr 1 vb 0 (f+1)∧t 11=.ptr (M.length+1) 0 0∧t 12=.slr 2 (M.length+2) 0 (4*w.parts.length)∧t 13=.int .i64 (j:Int)∧h=H2) (fun rest _=>rest.find? (ag8 w N l (Qc w d,f)))
  (fun r e t h=>(e=.exit 0∧r=none∧t 8=.ptr 1 0 0∧h=H2)∨∃o,r=some o∧e=.ret∧t 8=.ptr 1 0 0∧t 9=.int .i64 (bs w N l (Qc w d,f):Nat)∧h=H2.set 1 (.live 2 true true [[.int .i64 o.1,.int .i64 (o.2:Int)]])) ?_ ?_ () _ _ ?_) (fun e t h hk=>?_)
 ·rintro _ t h Q' kQ ⟨g1,g3,g4,g8,g10,g11,g12,g13,rfl⟩
  rw[hol]at g13
  (have hb:=trivial;with_reducible repeat' (first|simp only[hb,Vc.down,seval,aa1.down,g12,g13,ag0,decide_false]|refine Qm ?_ ?_<;>intro hb|refine fd ?_|fail))
  exact kQ _ _ _ (.inl ⟨rfl,rfl,by simp[up,g8],rfl⟩)
 ·rintro o rest j _ t h J Q' kJ kQ hx hj ⟨g1,g3,g4,g8,g10,g11,g12,g13,rfl⟩
  have hom:=ax2 hx
  obtain⟨hk4,hol2⟩:=hopk o hom
  have djj:decide ((j:Int)<((4*w.parts.length:Nat):Int))=true:=decide_eq_true (by omega)
  have djI:((j:Int)<((4*w.parts.length:Nat):Int))=True:=eq_true (by omega)
  have hwj:IntKind.i64.wrap ((j:Int)+1)=((j+1:Nat):Int):=by rw[Re (by omega) (by omega)];omega
  have hoR:(vW w.parts.length 4)[j]?=some [.int .i64 o.1,.int .i64 (o.2:Int)]:=by
   rw[auH,hops,apP,hx];rfl
  obtain⟨px,hpx⟩:∃px,(fX w (d+1) c0).parts[o.2]?=some px:=⟨_,ax3 (by omega)⟩
  have hBeh:=adZ (ajX hw (d+1) c0) (by omega) hD (fun p hp=>by
   have:=mU w (d+1) w.parts c0 p hp
   omega) (fun p hp k=>by
   obtain⟨z,hz⟩:=ayP hp
   obtain⟨q,hq,hkq⟩:=(Wj w (d+1) c0).get hz
   have:=aJ hwb hq k
   simp only[mN,Prod.mk.injEq]at hkq
   unfold lE at this ⊢
   rw[←hkq.2.2.2.1,←hkq.2.2.2.2]
   exact this) hk4 hpx ((Zy w N l).bst Qx) (g:=f) (F:=f+1) (by omega) (by omega)
  change Ub.call _ [AV.agg (fX w (d+1) c0).cells,.int .i64 (d+1),.agg [.int .i64 o.1,.int .i64 (o.2:Int)],.int .i64 (f:Int),_] []=_ at hBeh
  rw[eW,hdl,←hc0,aKP hwb hD l f hk4 o.2,hc0]at hBeh
  have htak:ag8 w N l (Qc w d,f) o=(decide (lD w N l (Qc w d,f) o.1 o.2≥0)&&lD w N l (Qc w d,f) o.1 o.2==eF (bs w N l (Qc w d,f))):=rfl
  generalize lD w N l (Qc w d,f) o.1 o.2=bv at *
  generalize Xd (d+1) w.parts c0=dl at *
  generalize vW w.parts.length 4=OU at *
  cases m1:decide (bv≥0)with
  |false=>
   rw[m1,Bool.false_and]at htak
   (have hb:=trivial;with_reducible repeat' (first|simp only[hb,Vc.down,seval,aa1.down,g1,g3,g4,g8,g10,g11,g12,g13,djj,djI,hwj,hwd,k0,k1,k9,k3,k2,hoR,htk,hdl2,hrv,hlv2,hBeh,m1,abV,aaB]|refine Qm ?_ ?_<;>intro hb|refine fdq ?_|fail))
   exact Qq (kJ _ _ () ⟨by simp[up,g1],by simp[up,g3],by simp[up,g4],by simp[up,g8],by simp[up,g10],by simp[up,g11],by simp[up,g12],by simp[up],rfl⟩ (by rw[amE (by simp[htak])]))
  |true=>
   rw[m1,Bool.true_and]at htak
   cases m2:(bv==eF (bs w N l (Qc w d,f)))with
   |false=>
    rw[m2]at htak
    (have hb:=trivial;with_reducible repeat' (first|simp only[hb,Vc.down,seval,aa1.down,g1,g3,g4,g8,g10,g11,g12,g13,djj,djI,hwj,hwd,k0,k1,k9,k3,k2,hoR,htk,hdl2,hrv,hlv2,hBeh,m1,hcode,hr1',hr3,hfF,hcF,m2,abV,aaB]|refine Qm ?_ ?_<;>intro hb|refine fdq ?_|fail))
    exact Qq (kJ _ _ () ⟨by simp[up,g1],by simp[up,g3],by simp[up,g4],by simp[up,g8],by simp[up,g10],by simp[up,g11],by simp[up,g12],by simp[up],rfl⟩ (by rw[amE (by simp[htak])]))
   |true=>
    rw[m2]at htak
    have hbv:bv=(bs w N l (Qc w d,f):Int):=by
     have e1:=eq_of_beq m2
     have e2:=of_decide_eq_true m1
     unfold eF at e1
     split at e1
     ·exact e1
     ·omega
    (have hb:=trivial;with_reducible repeat' (first|simp only[hb,Vc.down,seval,aa1.down,g1,g3,g4,g8,g10,g11,g12,g13,djj,djI,hwj,hwd,k0,k1,k9,k3,k2,hoR,htk,hdl2,hrv,hlv2,hBeh,m1,hcode,hr1',hr3,hfF,hcF,m2,abV,aaB]|refine Qm ?_ ?_<;>intro hb|refine fdq ?_|fail))
    exact kQ _ _ _ (.inr ⟨o,as6 htak,rfl,by simp[up,g8],by simp[up,hbv],rfl⟩)
 ·exact⟨by simp[up,bF],by simp[up,bF],by simp[up],by simp[up],by simp[up],by simp[up],by simp[up],by simp[up],rfl⟩
 rw[←hops]at hk
 unfold aiT
 rw[if_neg hn0]
 rcases hk with⟨rfl,e,g8,rfl⟩|⟨o,e,rfl,g8,g9,rfl⟩
 ·rw[e]
  (have hb:=trivial;with_reducible repeat' (first|simp only[hb,Vc.down,seval,aa1.down,g8,k1,hset]|refine Qm ?_ ?_<;>intro hb|refine fd ?_|fail))
 ·rw[e]
  (have hb:=trivial;with_reducible repeat' (first|simp only[hb,Vc.down,seval,aa1.down,g8,g9,hset]|refine Qm ?_ ?_<;>intro hb|refine fd ?_|fail))
theorem aVP(k i k' i':Int):Yk Tryz.prog .eql 36 (.agg [.int .i64 k,.int .i64 i]) (.agg [.int .i64 k',.int .i64 i'])=some (.bool (k==k'&&i==i')):=by
 have h0:Tryz.prog.stoodInHeld 36=false:=by kernel_rfl
 have h1:cU Tryz.prog 34=some false:=by kernel_rfl
 have h2:cU Tryz.prog 3=some false:=by kernel_rfl
 simp only[Yk]
 unfold Zx
 simp only[Tryz.underlying36,h0,Bool.false_eq_true,if_false,Zx.eqL,Zx.partOf,h1,h2,ag2,List.getElem?_cons_zero,List.getElem?_cons_succ]
 unfold Zx
 simp only[Tryz.underlying34,Tryz.underlying3,if_true,ag2]
 by_cases q1:k=k'<;>by_cases q2:i=i'<;>simp[q1,q2]
theorem yH(kn:Ub.call (.fn 10) [] []=some (.ret (.bool true),[]))(w:Qf)(hs:w.small)(d:Int)(l:List Ua)(nn:Bool)(hl:l.length≤maxLen)(f:Int):Ub.call (.fn 4) [.agg [.int .i64 w.rooms,.int .i64 w.need,Rh 9 true w.nn (w.parts.map Qb.cells)],.int .i64 d,Rh 3 true nn (l.map Ua.cells),.int .i64 f] []=some (.ret (.bool true),[]):=by
 have h1:=az0 w
 have hpl:=anJ w hs d l nn hl f
 have z0:=aVP 0 0 0 0
 rw[show((0:Int)==0&&(0:Int)==0)=true from rfl]at z0
 cases c1:aiY w with
 |false=>
  rw[c1]at h1
  (refine ce Tryz.func4 ?_;simp only[Tryz.f4];(have hb:=trivial;with_reducible repeat' (first|simp only[hb,Vc.down,seval,TY4.down,h1,kn,aaB]|refine Qm ?_ ?_<;>intro hb|refine fd ?_|fail)))
 |true=>
 rw[c1]at h1
 cases c2:decide ((l.length:Int)>10)with
 |true=>
  (refine ce Tryz.func4 ?_;simp only[Tryz.f4];(have hb:=trivial;with_reducible repeat' (first|simp only[hb,Vc.down,seval,TY4.down,h1,kn,aaB,c2]|refine Qm ?_ ?_<;>intro hb|refine fd ?_|fail)))
 |false=>
 by_cases c3:bN w d l f=0
 rotate_left
 ·have c3':(bN w d l f==0)=false:=by simpa using c3
  have hA:=aoV w hs d l nn hl f c3
  (refine ce Tryz.func4 ?_;simp only[Tryz.f4];(have hb:=trivial;with_reducible repeat' (first|simp only[hb,Vc.down,seval,TY4.down,h1,kn,c2,hpl,c3',hA,z0,bne,beq_self_eq_true,acH,aeN,aaB]|refine Qm ?_ ?_<;>intro hb|refine fd ?_|fail)))
 rw[c3]at hpl
 cases c4:decide ((w.parts.length:Int)>4)with
 |true=>
  (refine ce Tryz.func4 ?_;simp only[Tryz.f4];(have hb:=trivial;with_reducible repeat' (first|simp only[hb,Vc.down,seval,TY4.down,h1,kn,c2,hpl,c4,bne,beq_self_eq_true,acH,aeN,aaB]|refine Qm ?_ ?_<;>intro hb|refine fd ?_|fail)))
 |false=>
 cases c5:decide (f>1)with
 |true=>
  (refine ce Tryz.func4 ?_;simp only[Tryz.f4];(have hb:=trivial;with_reducible repeat' (first|simp only[hb,Vc.down,seval,TY4.down,h1,kn,c2,hpl,c4,c5,bne,beq_self_eq_true,acH,aeN,aaB]|refine Qm ?_ ?_<;>intro hb|refine fd ?_|fail)))
 |false=>
 obtain⟨h6,hwb,hdb,hgb,hf0,hf3⟩:=dY c3
 obtain⟨fN,rfl⟩:∃n:Nat,f=(n:Int):=⟨f.toNat,by omega⟩
 obtain⟨N,hw,h12⟩:=akR hwb
 obtain⟨k,i,hA,hop,hz⟩:=blI hw hs d l nn hl fN c3
 have hS:=alX hw d l nn hl fN c3
 obtain⟨t1,t2⟩:=aqW hw hl c3
 have hcost:(bs w N l (Qc w d,fN)<Qx∧al6 (bs w N l (Qc w d,fN))=0∧aiT w N l (Qc w d,fN)=[.agg [.int .i64 k,.int .i64 i],.int .i64 (abW (bs w N l (Qc w d,fN)))]∧decide (abW (bs w N l (Qc w d,fN))<0)=false)∨
  (k=0∧i=0∧al6 (bs w N l (Qc w d,fN))=5∧abW (bs w N l (Qc w d,fN))=0∧aiT w N l (Qc w d,fN)=[.agg [.int .i64 0,.int .i64 0],.int .i64 (-1)]):=by
  by_cases hlt:bs w N l (Qc w d,fN)<Qx
  ·refine .inl ⟨hlt,if_pos hlt,?_,?_⟩
   ·unfold aiT abW
    rw[if_pos hlt]
    by_cases h0:bs w N l (Qc w d,fN)=0
    ·obtain⟨rfl,rfl⟩:=hz (.inl h0)
     rw[if_pos h0,h0]
     rfl
    ·rw[if_neg h0]
     obtain⟨c,o,hc,ho,e1,e2⟩:=t2 hlt h0
     obtain⟨c',hc',rfl,rfl⟩:=hop h0 hlt
     rw[hc]at hc'
     cases hc'
     rw[ho]
     simp only[e1,e2]
   ·unfold abW;rw[if_pos hlt];exact decide_eq_false (by omega)
  ·obtain⟨rfl,rfl⟩:=hz (.inr (by omega))
   refine .inr ⟨rfl,rfl,if_neg hlt,if_neg hlt,?_⟩
   unfold aiT
   rw[if_neg (fun e=>hlt (by rw[e];unfold Qx;omega)),t1 hlt]
 clear hop hz t1 t2
 generalize al6 (bs w N l (Qc w d,fN))=ee at *
 generalize abW (bs w N l (Qc w d,fN))=cc at *
 have z1:=aVP k i k i
 rw[beq_self_eq_true,beq_self_eq_true,Bool.and_self]at z1
 cases c6:((w.parts.length:Int)==4)with
 |true=>
  cases c7:decide ((fN:Int)>0)with
  |true=>
   (refine ce Tryz.func4 ?_;simp only[Tryz.f4];(have hb:=trivial;with_reducible repeat' (first|simp only[hb,Vc.down,seval,TY4.down,h1,kn,c2,hpl,c4,c5,c6,c7,bne,beq_self_eq_true,acH,aeN,aaB]|refine Qm ?_ ?_<;>intro hb|refine fd ?_|fail)))
  |false=>
   rcases hcost with⟨hlt,rfl,e,m1⟩|⟨rfl,rfl,rfl,rfl,e⟩
   ·rw[e]at hS
    (refine ce Tryz.func4 ?_;simp only[Tryz.f4];(have hb:=trivial;with_reducible repeat' (first|simp only[hb,Vc.down,seval,TY4.down,h1,kn,c2,hpl,c4,c5,c6,c7,hA,hS,z1,m1,bne,beq_self_eq_true,acH,aeN,aaB]|refine Qm ?_ ?_<;>intro hb|refine fd ?_|fail)))
   ·rw[e]at hS
    (refine ce Tryz.func4 ?_;simp only[Tryz.f4];(have hb:=trivial;with_reducible repeat' (first|simp only[hb,Vc.down,seval,TY4.down,h1,kn,c2,hpl,c4,c5,c6,c7,hA,hS,z0,bne,beq_self_eq_true,acH,aeN,aaB]|refine Qm ?_ ?_<;>intro hb|refine fd ?_|fail)))
 |false=>
  rcases hcost with⟨hlt,rfl,e,m1⟩|⟨rfl,rfl,rfl,rfl,e⟩
  ·rw[e]at hS
   (refine ce Tryz.func4 ?_;simp only[Tryz.f4];(have hb:=trivial;with_reducible repeat' (first|simp only[hb,Vc.down,seval,TY4.down,h1,kn,c2,hpl,c4,c5,c6,hA,hS,z1,m1,bne,beq_self_eq_true,acH,aeN,aaB]|refine Qm ?_ ?_<;>intro hb|refine fd ?_|fail)))
  ·rw[e]at hS
   (refine ce Tryz.func4 ?_;simp only[Tryz.f4];(have hb:=trivial;with_reducible repeat' (first|simp only[hb,Vc.down,seval,TY4.down,h1,kn,c2,hpl,c4,c5,c6,hA,hS,z0,bne,beq_self_eq_true,acH,aeN,aaB]|refine Qm ?_ ?_<;>intro hb|refine fd ?_|fail)))
theorem yD(hk:Ub.call (.fn 10) [] []=some (.ret (.bool true),[])):∀avs,aiQ Tryz.prog 7 Tryz.f4.params.toList avs→Ub.call (.fn 4) avs []=some (.ret (.bool true),[]):=by
 intro avs h
 rw[show Tryz.f4.params.toList=[24,3,25,3]from rfl]at h
 match avs,h with
 | [a,b,c,e],h=>
   obtain⟨w,rfl,hs⟩:=axU h.1
   obtain⟨d,rfl,_⟩:=arT h.2.1
   obtain⟨nn,l,rfl,hl⟩:=aPN h.2.2.1
   obtain⟨f,rfl,_⟩:=arT h.2.2.2.1
   exact yH hk w hs d l nn hl f
 | [],h=>exact h.elim
 | [_],h=>exact h.2.elim
 | [_,_],h=>exact h.2.2.elim
 | [_,_,_],h=>exact h.2.2.2.elim
 |_::_::_::_::_::_,h=>exact h.2.2.2.2.elim
end Go.Proofs.YtcncggaobhbomaaGreatDoor
