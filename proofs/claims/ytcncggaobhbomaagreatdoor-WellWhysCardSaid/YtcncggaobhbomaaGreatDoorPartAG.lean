/- The functions of the layer, walked. -/
import Derived.Test.YtcncggaobhbomaaGreatDoorPartAF
import Derived.Test.YtcncggaobhbomaaGreatDoorPartAE
open List renaming length_map→abK,range→abL,getElem?_set_ne→adC,getElem?_append_right→adD,length_range→af5,getElem?_append_left→ai5,length_set→aoS,foldl_cons→aoT,getElem?_set_self→aoW,replicate→awN,length_replicate→azY,set_set→az0,find?_cons_of_neg→aA3,mem_range→aDD,append_assoc→aDG,take→aHX,take_of_length_le→aHY,getElem?_range→aIE,getElem?_map→aJN,mem_of_getElem?→aJQ,filterMap_append→aJ4,find?_cons_of_pos→aKO,set_append_right→aNF,range_succ→aNO,map_append→aOA,replicate_succ→aOB,set_cons_succ→aOK,set_cons_zero→aPZ,nil_append→aQB,length_cons→aQC,length_nil→aQD,map_congr_left→aQH,getElem?_eq_getElem→aQR,getElem?_of_mem→aQ3
open Nat renaming le_refl→abX,sub_self→agI,add_sub_cancel_left→aoV,le_trans→aD2,pow_le_pow_right→aEQ,pow_succ→aFV
open Int renaming lt_irrefl→ah1
open Bool renaming not_false→aBU,not_true→aBV,eq_iff_iff→aRX,and_eq_true→aTG
open Option renaming bind_some→aLA,map_some→aLF
set_option linter.unusedSimpArgs false
set_option linter.unusedVariables false
namespace Go.Proofs.YtcncggaobhbomaaGreatDoor
open Go.Ev Go Go.Ev.Net
set_option maxRecDepth 100000
set_option maxHeartbeats 16000000
structure CSx(K:St→Nat)(m F:Nat)(ib:Nat→Nat)(ob:Nat)(h:Aa):Prop where
 out:∃x,h[ob]?=some (.live 1 false x ((abL F).map fun g=>[.slr 1 (ib g) 0 (6 ^ m)]))
 row:∀g,g<F→∃y,h[ib g]?=some (.live 1 true y (Nv K m g))
structure CSp(F:Nat)(ib:Nat→Nat)(ob:Nat):Prop where
 ne:∀g,g<F→ib g≠ob∧1≤ib g
 inj:∀g g',g<F→g'<F→ib g=ib g'→g=g'
 ob1:1≤ob
theorem CSx.keep{K:St→Nat}{m F:Nat}{ib:Nat→Nat}{ob:Nat}{h h':Aa}(C:CSx K m F ib ob h)(k:∀b,b<h.length→h'[b]?=h[b]?):CSx K m F ib ob h':=by
 obtain⟨x,hx⟩:=C.out
 refine⟨⟨x,by rw[k _ (Ce hx)];exact hx⟩,fun g hg=>?_⟩
 obtain⟨y,hy⟩:=C.row g hg
 exact⟨y,by rw[k _ (Ce hy)];exact hy⟩
theorem aM8{K:St→Nat}{m F:Nat}{ib:Nat→Nat}{h:Aa}(hr:∀g,g<F→∃y,h[ib g]?=some (.live 1 true y (Nv K m g))):∀l:List Nat,(∀g∈l,g<F)→Bh (rd 5 (hf h)) (l.map fun g=>[AV.slr 1 (ib g) 0 (6 ^ m)])=some (l.map fun g=>[AV.imm 1 true (Nv K m g)],l.map ib)
 | [],_=>rfl
 |g::l,hl=>by
  obtain⟨y,hy⟩:=hr g (hl g (by simp))
  have h1:rd 5 (hf h) (.slr 1 (ib g) 0 (6 ^ m))=some (.imm 1 true (Nv K m g),[ib g]):=aTE (d:=4) (by show(h[ib g]?).bind Ax=_;rw[hy];rfl) (Je K m g).symm
  have h2:=aM8 hr l fun g hg=>hl g (by simp[hg])
  have h3:=Gl h1 aoP
  simp only[List.map_cons,Bh,h3,h2,aLA,aLF]
  rfl
theorem CSx.read{K:St→Nat}{m F:Nat}{ib:Nat→Nat}{ob:Nat}{h:Aa}(C:CSx K m F ib ob h)(hF:0<F):rd 6 (hf h) (.slr 1 ob 0 F)=some (.imm 1 false (aB6 K m F),ob::(abL F).map ib):=by
 obtain⟨x,hx⟩:=C.out
 have h2:=aM8 C.row (abL F) fun g hg=>aDD.1 hg
 have hb:(hf h ob).bind Ax=some (1,false,(abL F).map fun g=>[AV.slr 1 (ib g) 0 (6 ^ m)]):=by show(h[ob]?).bind Ax=_;rw[hx];rfl
 have key:∀d,Bh (rd d (hf h)) ((abL F).map fun g=>[AV.slr 1 (ib g) 0 (6 ^ m)])=some ((abL F).map fun g=>[AV.imm 1 true (Nv K m g)],(abL F).map ib)→rd (d+1) (hf h) (.slr 1 ob 0 F)=some (.imm 1 false (aB6 K m F),ob::(abL F).map ib):=fun d hq=>by
  simp only[rd,hb,aLA]
  rw[if_pos ⟨trivial,trivial,by simp⟩]
  simp only[cond_false,hq,aLF]
  rfl
 exact key 5 h2
theorem CSx.put{K:St→Nat}{m F:Nat}{ib:Nat→Nat}{ob:Nat}{h:Aa}(C:CSx K m F ib ob h)(P:CSp F ib ob){g n c:Nat}(hg:g<F)(hn:n<6 ^ m)(hc:c<Az)(y:Bool):CSx (fun x=>if x=Ku m g n then c else K x) m F ib ob (h.set (ib g) (.live 1 true y ((Nv K m g).set n [.int .i64 (c:Int)]))):=by
 obtain⟨x,hx⟩:=C.out
 obtain⟨z,hz⟩:=C.row g hg
 refine⟨⟨x,by rw[adC (P.ne g hg).1];exact hx⟩,fun g' hg'=>?_⟩
 rw[aZJ hn hc]
 by_cases e:g'=g
 ·subst e
  rw[if_pos rfl]
  exact⟨y,aoW (Ce hz)⟩
 ·rw[if_neg e]
  obtain⟨u,hu⟩:=C.row g' hg'
  exact⟨u,by rw[adC fun h=>e (P.inj _ _ hg hg' h).symm];exact hu⟩
def aBO(l:List Ci)(m g n:Nat):List (List AV):=((abL n).map fun n'=>[AV.int .i64 (agV (K0 l (Ku m g n')))])++awN (6 ^ m-n) [.int .i64 0]
theorem a0J(l:List Ci)(m g:Nat){n:Nat}(h:n≤6 ^ m):(aBO l m g n).length=6 ^ m:=by unfold aBO;simp;omega
theorem aZ0(l:List Ci)(m g:Nat){n:Nat}(h:n<6 ^ m):(aBO l m g n).set n [.int .i64 (agV (K0 l (Ku m g n)))]=aBO l m g (n+1):=by
 unfold aBO
 rw[aNF _ _ (by simp),aNO,aOA,aDG]
 congr 1
 rw[abK,af5,agI,show 6 ^ m-n=(6 ^ m-(n+1))+1 by omega,aOB]
 rfl
theorem a8O(l:List Ci)(m g:Nat){n:Nat}(h:n<6 ^ m):(aBO l m g n)[n]?=some [.int .i64 0]:=by
 unfold aBO
 rw[adD (by simp),abK,af5,agI,show 6 ^ m-n=(6 ^ m-(n+1))+1 by omega,aOB]
 rfl
theorem aZI(l:List Ci)(m g:Nat):aBO l m g (6 ^ m)=Nv (K0 l) m g:=by
 unfold aBO Nv;rw[agI,List.replicate_zero,List.append_nil];rfl
theorem bbN{w:Af}{N:Nat}(hw:WOk w N)(hwb:Fe w=true)(h6:w.parts.length≤6){d:Int}(hd:1≤d∧d≤6000)(l:List Ci)(nn:Bool)(hl:l.length≤maxLen)(hlp:∀x∈l,0≤x.part∧x.part<(w.parts.length:Int)){f:Nat}(hf:f≤3):
 RdV Dp 45 [.agg [.int .i64 w.rooms,.int .i64 w.need,Be 9 true w.nn (w.parts.map Ab.cells)],.int .i64 d,Be 3 true nn (l.map Ci.cells),.int .i64 (f:Int)] (.imm 1 false (aB6 ((Ld w N l).bst Az) w.parts.length (f+1))) 14:=by
 have hlen:=hw.len
 obtain⟨m,hm⟩:∃m,w.parts.length=m:=⟨_,rfl⟩
 have hpow:6 ^ m≤46656:=aD2 (aEQ (by decide) (by omega:m≤6)) (by decide)
 have hpow1:1≤6 ^ m:=Nat.one_le_pow _ _ (by decide)
 have hsl:Be 9 true w.nn (w.parts.map Ab.cells)=.imm 9 true (w.parts.map Ab.cells):=Ko (by simpa using hw.ne)
 have hdec:=fun n (hn:n<2 ^ 40)=>aNY hw.ne (by omega) (d:=d) (by omega) hd.2 hn
 rw[hsl]at hdec ⊢
 refine RdV.of ?_
 refine a9I rfl Tryz.func45 rfl rfl ?_
 simp only[Tryz.f45]
 refine Ed (fun KK iN hK=>?_)
 (have hb:=trivial;with_reducible repeat' (first|simp only[hb,Vc.down,seval,Jx.down,abK]|refine An ?_ ?_<;>intro hb|refine fd ?_|fail))
 refine Dy (lst 133 w.parts (fun i (_:Unit) t h=>t 1=.int .i64 d∧t 2=Be 3 true nn (l.map Ci.cells)∧t 3=.int .i64 (f:Int)∧t 4=.ptr 0 0 0∧t 9=.int .i64 ((6 ^ i:Nat):Int)∧t 10=.int .i64 (i:Int)∧(∃x,h=[.live 3 false x [[.int .i64 w.rooms,.int .i64 w.need,.imm 9 true (w.parts.map Ab.cells)]]])) (fun _ _=>())
  (fun _ e t h=>e=.exit 0∧t 1=.int .i64 d∧t 2=Be 3 true nn (l.map Ci.cells)∧t 3=.int .i64 (f:Int)∧t 4=.ptr 0 0 0∧t 9=.int .i64 ((6 ^ m:Nat):Int)∧(∃x,h=[.live 3 false x [[.int .i64 w.rooms,.int .i64 w.need,.imm 9 true (w.parts.map Ab.cells)]]])) ?_ ?_ () _ _ ?_) (fun e t h hk=>?_)
 ·rintro _ t h Q' kQ ⟨g1,g2,g3,g4,g9,g10,x,rfl⟩
  (have hb:=trivial;with_reducible repeat' (first|simp only[hb,Vc.down,seval,Jx.down,g4,g10,ah1,decide_false,abK]|refine An ?_ ?_<;>intro hb|refine fd ?_|fail))
  exact kQ _ _ _ ⟨rfl,by simp[up,g1],by simp[up,g2],by simp[up,g3],by simp[up,g4],by simp only[up];rw[hm]at g9;simpa using g9,x,rfl⟩
 ·rintro p rest i _ t h J Q' kJ kQ hx hi ⟨g1,g2,g3,g4,g9,g10,x,rfl⟩
  have hdd:decide ((i:Int)<(w.parts.length:Int))=true:=decide_eq_true (by omega)
  have hww:=Bv hi (by unfold maxLen;omega)
  have hpi:6 ^ (i+1)≤46656:=aD2 (aEQ (by decide) (by omega:i+1≤6)) (by decide)
  have hmul:IntKind.i64.wrap (6*((6 ^ i:Nat):Int))=((6 ^ (i+1):Nat):Int):=by
   rw[Bf (by rw[aFV]at hpi;omega) (by rw[aFV]at hpi;omega),aFV];omega
  (have hb:=trivial;with_reducible repeat' (first|simp only[hb,Vc.down,seval,Jx.down,g4,g9,g10,hdd,hww,hmul,abK]|refine An ?_ ?_<;>intro hb|refine fd ?_|fail))
  exact Aq (kJ _ _ () ⟨by simp[up,g1],by simp[up,g2],by simp[up,g3],by simp[up,g4],by simp[up],by simp[up],x,rfl⟩ rfl)
 ·exact⟨by simp[up,Lx],by simp[up,Lx],by simp[up,Lx],by simp[up],by simp[up],by simp[up],_,rfl⟩
 obtain⟨rfl,g1,g2,g3,g4,g9,x0,rfl⟩:=hk
 (have hb:=trivial;with_reducible repeat' (first|simp only[hb,Vc.down,seval,Jx.down]|refine An ?_ ?_<;>intro hb|refine fd ?_|fail))
 have hbox:∀(q:Aa),(CB.live 3 false x0 [[.int .i64 w.rooms,.int .i64 w.need,.imm 9 true (w.parts.map Ab.cells)]]::q)[0]?=some (.live 3 false x0 [[.int .i64 w.rooms,.int .i64 w.need,.imm 9 true (w.parts.map Ab.cells)]]):=fun q=>rfl
 obtain⟨wc,hwc⟩:∃wc:List (List AV),[[AV.int .i64 w.rooms,.int .i64 w.need,.imm 9 true (w.parts.map Ab.cells)]]=wc:=⟨_,rfl⟩
 refine Dy (lst 133 (awN (f+1) ()) (fun g (_:Unit) t h=>t 1=.int .i64 d∧t 2=Be 3 true nn (l.map Ci.cells)∧t 3=.int .i64 (f:Int)∧t 4=.ptr 0 0 0∧t 9=.int .i64 ((6 ^ m:Nat):Int)∧t 12=.int .i64 (g:Int)∧h[0]?=some (.live 3 false x0 wc)∧∃ib ob,CSp g ib ob∧((g=0∧t 11=.nils)∨(0<g∧t 11=.slr 1 ob 0 g∧CSx (K0 l) m g ib ob h))) (fun _ _=>())
  (fun _ e t h=>e=.exit 2∧t 1=.int .i64 d∧t 3=.int .i64 (f:Int)∧t 4=.ptr 0 0 0∧t 9=.int .i64 ((6 ^ m:Nat):Int)∧h[0]?=some (.live 3 false x0 wc)∧∃ib ob,CSp (f+1) ib ob∧t 11=.slr 1 ob 0 (f+1)∧CSx (K0 l) m (f+1) ib ob h) ?_ ?_ () _ _ ?_) (fun e t h hk=>?_)
 ·rintro _ t h Q' kQ ⟨g1,g2,g3,g4,g9,g12,hB,ib,ob,P,hC⟩
  rw[azY]at g12 P hC
  have h5:decide (((f+1:Nat):Int)≤(f:Int))=false:=decide_eq_false (by omega)
  obtain⟨_,g11,C⟩:=hC.resolve_left (by omega)
  (have hb:=trivial;with_reducible repeat' (first|simp only[hb,Vc.down,seval,Jx.down,g3,g12,h5]|refine An ?_ ?_<;>intro hb|refine fd ?_|fail))
  exact kQ _ _ _ ⟨rfl,by simp[up,g1],by simp[up,g3],by simp[up,g4],by simp[up,g9],hB,ib,ob,P,by simp[up,g11],C⟩
 ·rintro _ rest g _ t h J Q' kJ kQ hx hi ⟨g1,g2,g3,g4,g9,g12,hB,ib,ob,P,hC⟩
  rw[azY]at hi
  have h5:decide ((g:Int)≤(f:Int))=true:=decide_eq_true (by omega)
  have hwg:IntKind.i64.wrap ((g:Int)+1)=((g+1:Nat):Int):=by rw[Bf (by omega) (by omega)];omega
  have hml:=Ce hB
  obtain⟨t11,g11⟩:∃v,t 11=v:=⟨_,rfl⟩
  rw[g11]at hC
  have mk1:(0≤((6 ^ m:Nat):Int))=True:=eq_true (by omega)
  have mk2:(((6 ^ m:Nat):Int)≤1099511627776)=True:=eq_true (by omega)
  (have hb:=trivial;with_reducible repeat' (first|simp only[hb,Vc.down,seval,Jx.down,g3,g9,g12,h5,mk1,mk2,Int.le_refl,and_self]|refine An ?_ ?_<;>intro hb|refine fd ?_|fail))
  refine Dy (lst 133 (awN (6 ^ m) ()) (fun n (_:Unit) t h'=>t 1=.int .i64 d∧t 2=Be 3 true nn (l.map Ci.cells)∧t 3=.int .i64 (f:Int)∧t 4=.ptr 0 0 0∧t 9=.int .i64 ((6 ^ m:Nat):Int)∧t 11=t11∧t 12=.int .i64 (g:Int)∧t 13=.slr 1 h.length 0 (6 ^ m)∧t 14=.int .i64 (n:Int)∧(∀b,b<h.length→h'[b]?=h[b]?)∧∃y,h'[h.length]?=some (.live 1 true y (aBO l m g n))) (fun _ _=>())
   (fun _ e t h'=>e=.exit 4∧t 1=.int .i64 d∧t 2=Be 3 true nn (l.map Ci.cells)∧t 3=.int .i64 (f:Int)∧t 4=.ptr 0 0 0∧t 9=.int .i64 ((6 ^ m:Nat):Int)∧t 11=t11∧t 12=.int .i64 (g:Int)∧t 13=.slr 1 h.length 0 (6 ^ m)∧(∀b,b<h.length→h'[b]?=h[b]?)∧∃y,h'[h.length]?=some (.live 1 true y (Nv (K0 l) m g))) ?_ ?_ () _ _ ?_) (fun e t' h' hk=>?_)
  ·rintro _ t h' Q'' kQ ⟨g1,g2,g3,g4,g9,g11,g12,g13,g14,hk,y,hy⟩
   rw[azY]at g14 hy
   rw[aZI]at hy
   (have hb:=trivial;with_reducible repeat' (first|simp only[hb,Vc.down,seval,Jx.down,g9,g14,ah1,decide_false]|refine An ?_ ?_<;>intro hb|refine fd ?_|fail))
   exact kQ _ _ _ ⟨rfl,by simp[up,g1],by simp[up,g2],by simp[up,g3],by simp[up,g4],by simp[up,g9],by simp[up,g11],by simp[up,g12],by simp[up,g13],hk,y,hy⟩
  ·rintro _ rest n _ t h' J' Q'' kJ' kQ' hx hn ⟨g1,g2,g3,g4,g9,g11,g12,g13,g14,hk,y,hy⟩
   rw[azY]at hn
   have hdd:decide ((n:Int)<((6 ^ m:Nat):Int))=true:=decide_eq_true (by omega)
   have hii:((n:Int)<((6 ^ m:Nat):Int))=True:=eq_true (by omega)
   have hwn:IntKind.i64.wrap ((n:Int)+1)=((n+1:Nat):Int):=by rw[Bf (by omega) (by omega)];omega
   have hyl:=Ce hy
   have hB0:h'[0]?=some (.live 3 false x0 wc):=(hk 0 hml).trans hB
   rw[←hwc]at hB0
   have hrl:=a0J l m g (Nat.le_of_lt hn)
   obtain⟨wd,hD⟩:=hdec n (by omega)
   rw[hm]at hD
   have htk:aHX m ((Hm d w.parts n).map Ab.cells)=(Hm d w.parts n).map Ab.cells:=aHY (by rw[abK,Pv,hm];omega)
   have hM:=bcG (w:=ak2 w d n) (by rw[(Gu w d n).len];omega) d l nn hl (by rw[(Gu w d n).len];exact hlp)
   have eW:(ak2 w d n).cells=[.int .i64 w.rooms,.int .i64 w.need,.imm 9 true ((Hm d w.parts n).map Ab.cells)]:=by
    show [_,_,Be 9 true true _]=_
    rw[ajY];rfl
   change Dp.call _ [AV.agg (ak2 w d n).cells,.int .i64 d,Be 3 true nn (l.map Ci.cells)] []=_ at hM
   rw[eW,azK w hd n,hm]at hM
   have hset:=aZ0 l m g hn
   have hK:K0 l (Ku m g n)=if awW (Jy (Ho m n)) l=true then 0 else Az:=rfl
   have hrb0:h.length≠0:=by omega
   have hRn:=a8O l m g hn
   have hRs:∀r,((aBO l m g n).set n r)[n]?=some r:=fun r=>aoW (by rw[hrl];exact hn)
   have hS1:∀c,(h'.set h.length c)[h.length]?=some c:=fun c=>aoW hyl
   have hS2:∀c q,(h'.set h.length c++q)[h.length]?=some c:=fun c q=>by rw[ai5 (by simpa using hyl)];exact hS1 c
   have hS3:∀c c2 q,(h'.set h.length c++q).set h.length c2=h'.set h.length c2++q:=fun c c2 q=>by rw[List.set_append_left _ _ (by simpa using hyl),az0]
   have hB1:∀c,(h'.set h.length c)[0]?=some (.live 3 false x0 [[.int .i64 w.rooms,.int .i64 w.need,.imm 9 true (w.parts.map Ab.cells)]]):=fun c=>by rw[adC hrb0];exact hB0
   have hB2:∀c q,(h'.set h.length c++q)[0]?=some (.live 3 false x0 [[.int .i64 w.rooms,.int .i64 w.need,.imm 9 true (w.parts.map Ab.cells)]]):=fun c q=>by rw[ai5 (by have:=Ce hB0;simpa using this)];exact hB1 c
   have hss:∀c c2,(h'.set h.length c).set h.length c2=h'.set h.length c2:=fun c c2=>az0 ..
   have hSk:∀c q k X,(h'.set h.length c++q).set (h'.length+k) X=h'.set h.length c++q.set k X:=fun c q k X=>by rw[aNF _ _ (by simp),aoS,aoV]
   have hdl:(m≤(Hm d w.parts n).length)=True:=eq_true (by rw[Pv,hm];exact abX _)
   cases hmet:awW (Jy (Ho m n)) l with
   |false=>
    rw[hmet]at hM
    rw[hK,hmet,if_neg (by simp),show agV Az= -1 from if_neg (Nat.lt_irrefl _)]at hset
    generalize hR:aBO l m g n=R at *
    (have hb:=trivial;with_reducible repeat' (first|simp only[hb,Vc.down,seval,Jx.down,g1,g2,g4,g9,g13,g14,hdd,hii,hwn,hy,hB0,hB1,hB2,hS1,hS2,hS3,hSk,hss,hrl,hRn,hRs,az0,hD,htk,hdl,hM,Ht,Gg,aoS,aOK,aPZ,abX,Int.reduceNeg]|refine An ?_ ?_<;>intro hb|refine fdl ?_|fail))
    refine Aq (kJ' _ _ () ⟨by simp[up,g1],by simp[up,g2],by simp[up,g3],by simp[up,g4],by simp[up,g9],by simp[up,g11],by simp[up,g12],by simp[up,g13],by simp[up],fun b hb=>?_,true,?_⟩ rfl)
    ·rw[ai5 (by rw[aoS];omega),adC (by omega)];exact hk b hb
    ·rw[←hset];exact hS2 _ _
   |true=>
    rw[hmet]at hM
    rw[hK,hmet,if_pos rfl,show agV 0=0 from if_pos (by decide)]at hset
    generalize hR:aBO l m g n=R at *
    (have hb:=trivial;with_reducible repeat' (first|simp only[hb,Vc.down,seval,Jx.down,g1,g2,g4,g9,g13,g14,hdd,hii,hwn,hy,hB0,hB1,hB2,hS1,hS2,hS3,hSk,hss,hrl,hRn,hRs,az0,hD,htk,hdl,hM,Ht,Gg,aoS,aOK,aPZ,abX,Int.reduceNeg]|refine An ?_ ?_<;>intro hb|refine fdl ?_|fail))
    refine Aq (kJ' _ _ () ⟨by simp[up,g1],by simp[up,g2],by simp[up,g3],by simp[up,g4],by simp[up,g9],by simp[up,g11],by simp[up,g12],by simp[up,g13],by simp[up],fun b hb=>?_,true,?_⟩ rfl)
    ·rw[ai5 (by rw[aoS];omega),adC (by omega)];exact hk b hb
    ·rw[←hset];exact hS2 _ _
  ·refine⟨by simp[up,g1],by simp[up,g2],by simp[up,g3],by simp[up,g4],by simp[up,g9],by simp[up,g11],by simp[up,g12],by simp[up],by simp[up],fun b hb=>ai5 hb,false,?_⟩
   rw[adD (abX _),agI]
   unfold aBO
   simp
  obtain⟨rfl,g1,g2,g3,g4,g9,g11',g12,g13,hk,y,hy⟩:=hk
  have hyl:=Ce hy
  have hiblt:∀z,z<g→ib z<h.length:=fun z hz=>by
   obtain⟨_,_,C⟩:=hC.resolve_left (by omega)
   obtain⟨_,hr⟩:=C.row z hz
   exact Ce hr
  have hOwn:baD 0 1 false ((abL g).map fun z=>[AV.slr 1 (ib z) 0 (6 ^ m)]) t11 h':=by
   rcases hC with⟨rfl,e⟩|⟨hg,e,C⟩
   ·exact .inl ⟨rfl,e⟩
   ·obtain⟨x,hx⟩:=C.out
    exact .inr ⟨ob,x,by rw[e];simp,by rw[hk ob (Ce hx)];exact hx⟩
  have hrl:((abL g).map fun z=>[AV.slr 1 (ib z) 0 (6 ^ m)]).length=g:=by simp
  have hov:∀st b r n,t11=.slr st b r n→b=ob∧0<g:=fun st b r n e=>by
   rcases hC with⟨_,e'⟩|⟨hg,e',_⟩
   ·rw[e]at e';cases e'
   ·rw[e]at e';cases e';exact⟨rfl,hg⟩
  have hap:=fun(q:Aa) (r:List AV)=>aTL hOwn (pre:=[]) rfl q r [] (by simp;omega)
  have hhp:=fun(q:Aa) (r:List (List AV)) (ba:Nat)=>aOL hOwn (pre:=[]) rfl q 1 false r ba
  simp only[aQB,aQC,List.length_append,aQD,aoS,Nat.reduceAdd,hrl]at hap hhp
  generalize hrows:((abL g).map fun z=>[AV.slr 1 (ib z) 0 (6 ^ m)])=rows0 at *
  (have hb:=trivial;with_reducible repeat' (first|simp only[hb,Vc.down,seval,Jx.down,g11',g12,g13,hwg,hap,hhp,Bool.and_true,Bool.and_false,List.all_cons,List.all_nil]|refine An ?_ ?_<;>intro hb|refine fd ?_|fail))
  have hkll:(kl 0 t11 h').length=h'.length:=awA ..
  have low:∀j,j<h'.length→(∀hg:0<g,j≠ob)→(kl 0 t11 h'++[CB.live 1 false false [[.slr 1 h.length 0 (6 ^ m)]],CB.live 1 false false (rows0++[[.slr 1 h.length 0 (6 ^ m)]])])[j]?=h'[j]?:=fun j hj ho=>ai3 _ hj fun st b r n e=>by
   obtain⟨rfl,hg⟩:=hov st b r n e
   exact fun e'=>ho hg e'.symm
  refine Aq (kJ _ _ () ⟨by simp[up,g1],by simp[up,g2],by simp[up,g3],by simp[up,g4],by simp[up,g9],by simp[up],?_,fun z=>if z=g then h.length else ib z,h'.length+1,⟨fun z hz=>?_,fun z z' hz hz' e=>?_,by omega⟩,.inr ⟨by omega,by simp[up],⟨false,?_⟩,fun z hz=>?_⟩⟩ rfl)
  ·rw[low 0 (by omega) (fun _=>by have:=P.ob1;omega),hk 0 hml];exact hB
  ·by_cases ez:z=g
   ·rw[if_pos ez];omega
   ·rw[if_neg ez]
    have:=hiblt z (by omega)
    have:=(P.ne z (by omega)).2
    omega
  ·replace e:(if z=g then h.length else ib z)=(if z'=g then h.length else ib z'):=e
   by_cases ez:z=g
   ·rw[if_pos ez]at e
    by_cases ez':z'=g
    ·omega
    ·rw[if_neg ez']at e
     have:=hiblt z' (by omega)
     omega
   ·rw[if_neg ez]at e
    by_cases ez':z'=g
    ·rw[if_pos ez']at e
     have:=hiblt z (by omega)
     omega
    ·rw[if_neg ez']at e
     exact P.inj z z' (by omega) (by omega) e
  ·rw[adD (by rw[hkll];omega),hkll,show h'.length+1-h'.length=1 by omega]
   show some _=some _
   congr 2
   rw[aNO,aOA,←hrows]
   congr 1
   ·exact aQH fun z hz=>by
     have:=aDD.1 hz
     rw[if_neg (by omega)]
   ·simp
  ·by_cases ez:z=g
   ·subst ez
    rw[if_pos rfl]
    have hno:∀hg:0<z,h.length≠ob:=fun hg=>by
     obtain⟨_,_,C⟩:=hC.resolve_left (by omega)
     obtain⟨_,hx⟩:=C.out
     have:=Ce hx
     omega
    refine⟨y,?_⟩
    rw[low _ hyl hno]
    exact hy
   ·rw[if_neg ez]
    obtain⟨_,_,C⟩:=hC.resolve_left (by omega)
    obtain⟨u,hu⟩:=C.row z (by omega)
    exact⟨u,by rw[low _ (by have:=Ce hu;omega) (fun _=>(P.ne z (by omega)).1),hk _ (Ce hu)];exact hu⟩
 ·refine⟨by simp[up,g1],by simp[up,g2],by simp[up,g3],by simp[up,g4],by simp[up,g9],by simp[up],by rw[←hwc];rfl,fun _=>1,2,⟨fun g hg=>by omega,fun g g' hg=>by omega,by omega⟩,.inl ⟨rfl,by simp[up]⟩⟩
 obtain⟨rfl,g1,g3,g4,g9,hB,ib,ob,P,g11,C⟩:=hk
 subst hm
 obtain⟨ops,hops⟩:∃ops,opN w.parts.length 4=ops:=⟨_,rfl⟩
 have hopk:∀o∈ops,(o.1=1∨o.1=2∨o.1=3∨o.1=4)∧o.2<w.parts.length:=fun o ho=>aN8 (by rw[hops];exact ho)
 have hopk1:∀o∈ops,o.1=1∨o.1=2∨o.1=3∨o.1=4:=fun o ho=>(hopk o ho).1
 have hKn0:=bjX (N:=N) hwb l (f+1)
 have hf1:((f:Int)+1)=((f+1:Nat):Int):=by omega
 have hobl:=fun {K:St→Nat} {h:Aa} (C:CSx K w.parts.length (f+1) ib ob h)=>(show ob<h.length by obtain⟨_,hx⟩:=C.out;exact Ce hx)
 (have hb:=trivial;with_reducible repeat' (first|simp only[hb,Vc.down,seval,Jx.down]|refine An ?_ ?_<;>intro hb|refine fd ?_|fail))
 refine Dy (cnt 133 (fun n (_:Unit) t h=>t 1=.int .i64 d∧t 3=.int .i64 (f:Int)∧t 4=.ptr 0 0 0∧t 9=.int .i64 ((6 ^ w.parts.length:Nat):Int)∧t 11=.slr 1 ob 0 (f+1)∧h[0]?=some (.live 3 false x0 wc)∧∃K,CSx K w.parts.length (f+1) ib ob h∧Fj.Kno (Ld w N l) Az (Ja w.parts.length (f+1)) K∧
  ((t 16=.bool true∧((Ja w.parts.length (f+1)).map K).sum<n)∨(t 16=.bool false∧∀g∈abL (f+1),∀n∈abL (6 ^ w.parts.length),∀o∈ops,∀c,ay5 w N (Ku w.parts.length g n) o.1 o.2=some c→K (Ku w.parts.length g n)≤min Az (c.c.toNat+Fj.mx K c.to)))) (fun _ _=>())
  (fun _ e t h=>e=.exit 6∧t 11=.slr 1 ob 0 (f+1)∧∃K,CSx K w.parts.length (f+1) ib ob h∧Fj.Kno (Ld w N l) Az (Ja w.parts.length (f+1)) K∧∀g∈abL (f+1),∀n∈abL (6 ^ w.parts.length),∀o∈ops,∀c,ay5 w N (Ku w.parts.length g n) o.1 o.2=some c→K (Ku w.parts.length g n)≤min Az (c.c.toNat+Fj.mx K c.to)) ?_ ?_ (((Ja w.parts.length (f+1)).map (K0 l)).sum+1) () _ _ ?_) (fun e t h hk=>?_)
 ·rintro _ t h Q' kQ ⟨g1,g3,g4,g9,g11,hB,K,C,hKn,hS⟩
  obtain⟨g16,hst⟩:=hS.resolve_left (fun h=>by omega)
  (have hb:=trivial;with_reducible repeat' (first|simp only[hb,Vc.down,seval,Jx.down,g16]|refine An ?_ ?_<;>intro hb|refine fd ?_|fail))
  exact kQ _ _ _ ⟨rfl,by simp[up,g11],K,C,hKn,hst⟩
 ·rintro n _ t h J Q' kJ kQ ⟨g1,g3,g4,g9,g11,hB,K,C,hKn,hS⟩
  rcases hS with⟨g16,hsum⟩|⟨g16,hst⟩
  rotate_left
  ·(have hb:=trivial;with_reducible repeat' (first|simp only[hb,Vc.down,seval,Jx.down,g16]|refine An ?_ ?_<;>intro hb|refine fd ?_|fail))
   exact kQ _ _ _ ⟨rfl,by simp[up,g11],K,C,hKn,hst⟩
  (have hb:=trivial;with_reducible repeat' (first|simp only[hb,Vc.down,seval,Jx.down,g16]|refine An ?_ ?_<;>intro hb|refine fd ?_|fail))
  refine Dy (lst 133 (abL (f+1)) (fun i (p:(St→Nat) × Bool) t h=>t 1=.int .i64 d∧t 3=.int .i64 (f:Int)∧t 4=.ptr 0 0 0∧t 9=.int .i64 ((6 ^ w.parts.length:Nat):Int)∧t 11=.slr 1 ob 0 (f+1)∧t 16=.bool p.2∧t 17=.int .i64 (i:Int)∧h[0]?=some (.live 3 false x0 wc)∧CSx p.1 w.parts.length (f+1) ib ob h∧Fj.Kno (Ld w N l) Az (Ja w.parts.length (f+1)) p.1) (fun rest p=>rest.foldl (fS w N ops) p)
   (fun p e t h=>e=.exit 8∧t 1=.int .i64 d∧t 3=.int .i64 (f:Int)∧t 4=.ptr 0 0 0∧t 9=.int .i64 ((6 ^ w.parts.length:Nat):Int)∧t 11=.slr 1 ob 0 (f+1)∧t 16=.bool p.2∧h[0]?=some (.live 3 false x0 wc)∧CSx p.1 w.parts.length (f+1) ib ob h) ?_ ?_ (K,false) _ _ ?_) (fun e t h hk=>?_)
  ·rintro p t h Q' kQ ⟨g1,g3,g4,g9,g11,g16,g17,hB,C,_⟩
   rw[af5]at g17
   have h5:decide (((f+1:Nat):Int)≤(f:Int))=false:=decide_eq_false (by omega)
   (have hb:=trivial;with_reducible repeat' (first|simp only[hb,Vc.down,seval,Jx.down,g3,g17,h5]|refine An ?_ ?_<;>intro hb|refine fd ?_|fail))
   exact kQ _ _ _ ⟨rfl,by simp[up,g1],by simp[up,g3],by simp[up,g4],by simp[up,g9],by simp[up,g11],by simp[up,g16],hB,C⟩
  ·rintro g' rest g p t h J Q' kJ kQ hx hi ⟨g1,g3,g4,g9,g11,g16,g17,hB,C,hKn⟩
   rw[af5]at hi
   obtain rfl:g=g':=by rw[aIE hi]at hx;exact Option.some.inj hx
   have h5:decide ((g:Int)≤(f:Int))=true:=decide_eq_true (by omega)
   have hwg:IntKind.i64.wrap ((g:Int)+1)=((g+1:Nat):Int):=by rw[Bf (by omega) (by omega)];omega
   (have hb:=trivial;with_reducible repeat' (first|simp only[hb,Vc.down,seval,Jx.down,g3,g17,h5]|refine An ?_ ?_<;>intro hb|refine fd ?_|fail))
   refine Dy (lst 133 (abL (6 ^ w.parts.length)) (fun i (p:(St→Nat) × Bool) t h=>t 1=.int .i64 d∧t 3=.int .i64 (f:Int)∧t 4=.ptr 0 0 0∧t 9=.int .i64 ((6 ^ w.parts.length:Nat):Int)∧t 11=.slr 1 ob 0 (f+1)∧t 16=.bool p.2∧t 17=.int .i64 (g:Int)∧t 18=.int .i64 (i:Int)∧h[0]?=some (.live 3 false x0 wc)∧CSx p.1 w.parts.length (f+1) ib ob h∧Fj.Kno (Ld w N l) Az (Ja w.parts.length (f+1)) p.1) (fun rest p=>rest.foldl (fun p n=>nS w N ops p (Ku w.parts.length g n)) p)
    (fun p e t h=>e=.exit 10∧t 1=.int .i64 d∧t 3=.int .i64 (f:Int)∧t 4=.ptr 0 0 0∧t 9=.int .i64 ((6 ^ w.parts.length:Nat):Int)∧t 11=.slr 1 ob 0 (f+1)∧t 16=.bool p.2∧t 17=.int .i64 (g:Int)∧h[0]?=some (.live 3 false x0 wc)∧CSx p.1 w.parts.length (f+1) ib ob h∧Fj.Kno (Ld w N l) Az (Ja w.parts.length (f+1)) p.1) ?_ ?_ p _ _ ?_) (fun e t h hk=>?_)
   ·rintro p t h Q' kQ ⟨g1,g3,g4,g9,g11,g16,g17,g18,hB,C,hKn⟩
    rw[af5]at g18
    (have hb:=trivial;with_reducible repeat' (first|simp only[hb,Vc.down,seval,Jx.down,g9,g18,ah1,decide_false]|refine An ?_ ?_<;>intro hb|refine fd ?_|fail))
    exact kQ _ _ _ ⟨rfl,by simp[up,g1],by simp[up,g3],by simp[up,g4],by simp[up,g9],by simp[up,g11],by simp[up,g16],by simp[up,g17],hB,C,hKn⟩
   ·rintro n' rest n p t h J' Q'' kJ' kQ' hx hn ⟨g1,g3,g4,g9,g11,g16,g17,g18,hB,C,hKn⟩
    rw[af5]at hn
    obtain rfl:n=n':=by rw[aIE hn]at hx;exact Option.some.inj hx
    have hdd:decide ((n:Int)<((6 ^ w.parts.length:Nat):Int))=true:=decide_eq_true (by omega)
    have hii:((n:Int)<((6 ^ w.parts.length:Nat):Int))=True:=eq_true (by omega)
    have hgF:((g:Int)<((f+1:Nat):Int))=True:=eq_true (by omega)
    have hwn:IntKind.i64.wrap ((n:Int)+1)=((n+1:Nat):Int):=by rw[Bf (by omega) (by omega)];omega
    obtain⟨xo,hxo⟩:=C.out
    obtain⟨y,hy⟩:=C.row g (by omega)
    have hRO:((abL (f+1)).map fun g=>[AV.slr 1 (ib g) 0 (6 ^ w.parts.length)])[g]?=some [AV.slr 1 (ib g) 0 (6 ^ w.parts.length)]:=by rw[aJN,aIE (by omega)];rfl
    have hRn:=Oh p.1 w.parts.length g hn
    rw[show(Jy (Ho w.parts.length n),g)=Ku w.parts.length g n from rfl]at hRn
    have hsL:Ku w.parts.length g n∈Ja w.parts.length (f+1):=Pn.2 ⟨g,n,by omega,hn,rfl⟩
    have hKle:=hKn.known.le _ hsL
    have htop:Az=1099511627776:=rfl
    have hiblt:∀z,z<f+1→ib z<h.length:=fun z hz=>by obtain⟨_,hr⟩:=C.row z hz;exact Ce hr
    have hoblt:=Ce hxo
    have hB0:=hB
    rw[←hwc]at hB0
    by_cases h0:p.1 (Ku w.parts.length g n)=0
    ·have q0:(agV (p.1 (Ku w.parts.length g n))==0)=true:=by rw[h0];rfl
     have hn0:nS w N ops p (Ku w.parts.length g n)=p:=if_pos h0
     generalize((abL (f+1)).map fun g=>[AV.slr 1 (ib g) 0 (6 ^ w.parts.length)])=RO at *
     generalize hRK:Nv p.1 w.parts.length g=R at *
     (have hb:=trivial;with_reducible repeat' (first|simp only[hb,Vc.down,seval,Jx.down,g9,g11,g17,g18,hdd,hii,hgF,hwn,hxo,hy,hRO,hRn,q0]|refine An ?_ ?_<;>intro hb|refine fd ?_|fail))
     subst hRK
     exact Aq (kJ' _ _ p ⟨by simp[up,g1],by simp[up,g3],by simp[up,g4],by simp[up,g9],by simp[up,g11],by simp[up,g16],by simp[up,g17],by simp[up],hB,C,hKn⟩ (by rw[aoT,hn0]))
    ·have q0:(agV (p.1 (Ku w.parts.length g n))==0)=false:=by
      refine beq_eq_false_iff_ne.2 ?_
      unfold agV;split<;>omega
     have hn0:nS w N ops p (Ku w.parts.length g n)=ops.foldl (fun p o=>stR w N p (Ku w.parts.length g n) o.1 o.2) p:=if_neg h0
     obtain⟨wd,hD⟩:=hdec n (by omega)
     have hO:=bcE (w:=w) hw.ne (by omega)
     rw[hsl]at hO
     have hBa:=Ai hB0
     have hol:ops.length=4*w.parts.length:=by rw[←hops,aL5]
     generalize hRO2:((abL (f+1)).map fun g=>[AV.slr 1 (ib g) 0 (6 ^ w.parts.length)])=RO at *
     generalize hRK:Nv p.1 w.parts.length g=R at *
     (have hb:=trivial;with_reducible repeat' (first|simp only[hb,Vc.down,seval,Jx.down,g1,g4,g9,g11,g17,g18,hdd,hii,hgF,hxo,hy,hRO,hRn,q0,hB0,hBa,hD,hO]|refine An ?_ ?_<;>intro hb|refine fdl ?_|fail))
     refine Dy (lst 133 ops (fun j (p2:(St→Nat) × Bool) t h'=>t 1=.int .i64 d∧t 3=.int .i64 (f:Int)∧t 4=.ptr 0 0 0∧t 9=.int .i64 ((6 ^ w.parts.length:Nat):Int)∧t 11=.slr 1 ob 0 (f+1)∧t 16=.bool p2.2∧t 17=.int .i64 (g:Int)∧t 18=.int .i64 (n:Int)∧t 19=.ptr (h.length+1) 0 0∧t 20=.slr 2 (h.length+2) 0 (4*w.parts.length)∧t 21=.int .i64 (j:Int)∧h'[0]?=some (.live 3 false x0 wc)∧CSx p2.1 w.parts.length (f+1) ib ob h'∧Fj.Kno (Ld w N l) Az (Ja w.parts.length (f+1)) p2.1∧(∃x,h'[h.length]?=some (.live 9 true x ((Hm d w.parts n).map Ab.cells)))∧(∃x,h'[h.length+1]?=some (.live 3 false x [[.int .i64 w.rooms,.int .i64 w.need,.slr 9 h.length 0 w.parts.length]]))∧∃x,h'[h.length+2]?=some (.live 2 true x (opU w.parts.length 4))) (fun rest p2=>rest.foldl (fun p o=>stR w N p (Ku w.parts.length g n) o.1 o.2) p2)
      (fun p2 e t h'=>e=.exit 12∧t 1=.int .i64 d∧t 3=.int .i64 (f:Int)∧t 4=.ptr 0 0 0∧t 9=.int .i64 ((6 ^ w.parts.length:Nat):Int)∧t 11=.slr 1 ob 0 (f+1)∧t 16=.bool p2.2∧t 17=.int .i64 (g:Int)∧t 18=.int .i64 (n:Int)∧h'[0]?=some (.live 3 false x0 wc)∧CSx p2.1 w.parts.length (f+1) ib ob h'∧Fj.Kno (Ld w N l) Az (Ja w.parts.length (f+1)) p2.1) ?_ ?_ p _ _ ?_) (fun e t h' hk=>?_)
     ·rintro p2 t h' Q3 kQ ⟨g1,g3,g4,g9,g11,g16,g17,g18,g19,g20,g21,hB,C,hKn,_⟩
      rw[hol]at g21
      (have hb:=trivial;with_reducible repeat' (first|simp only[hb,Vc.down,seval,Jx.down,g20,g21,ah1,decide_false]|refine An ?_ ?_<;>intro hb|refine fd ?_|fail))
      exact kQ _ _ _ ⟨rfl,by simp[up,g1],by simp[up,g3],by simp[up,g4],by simp[up,g9],by simp[up,g11],by simp[up,g16],by simp[up,g17],by simp[up,g18],hB,C,hKn⟩
     ·rintro o rest j p2 t h' J3 Q3 kJ kQ hx hj ⟨g1,g3,g4,g9,g11,g16,g17,g18,g19,g20,g21,hB,C,hKn,⟨x9,h9⟩,⟨x3,h3⟩,⟨x2,h2⟩⟩
      have hom:=aJQ hx
      obtain⟨hk4,hol2⟩:=hopk o hom
      have djj:decide ((j:Int)<((4*w.parts.length:Nat):Int))=true:=decide_eq_true (by omega)
      have djI:((j:Int)<((4*w.parts.length:Nat):Int))=True:=eq_true (by omega)
      have hwj:IntKind.i64.wrap ((j:Int)+1)=((j+1:Nat):Int):=by rw[Bf (by omega) (by omega)];omega
      have hoR:(opU w.parts.length 4)[j]?=some [.int .i64 o.1,.int .i64 (o.2:Int)]:=by
       rw[aYO,hops,aJN,hx];rfl
      have hdl:=(Gu w d n).len
      obtain⟨px,hpx⟩:∃px,(ak2 w d n).parts[o.2]?=some px:=⟨_,aQR (by omega)⟩
      have hBeh:=aMI (aUC hw d n) (by omega) hd (fun p hp=>by
       have:=azG w d w.parts n p hp
       omega) (fun p hp k=>by
       obtain⟨z,hz⟩:=aQ3 hp
       obtain⟨q,hq,hkq⟩:=(Gu w d n).get hz
       have:=Lp hwb hq k
       simp only[azU,Prod.mk.injEq]at hkq
       unfold awV at this ⊢
       rw[←hkq.2.2.2.1,←hkq.2.2.2.2]
       exact this) hk4 hpx p2.1 (g:=g) (F:=f+1) (by omega) (by omega)
      have eW:(ak2 w d n).cells=[.int .i64 w.rooms,.int .i64 w.need,.imm 9 true ((Hm d w.parts n).map Ab.cells)]:=by
       show [_,_,Be 9 true true _]=_
       rw[ajY];rfl
      change Dp.call _ [AV.agg (ak2 w d n).cells,.int .i64 d,.agg [.int .i64 o.1,.int .i64 (o.2:Int)],.int .i64 (g:Int),_] []=_ at hBeh
      rw[eW,hdl]at hBeh
      have hstep:=a3K (N:=N) hwb h6 (F:=f+1) (by omega) hd (g:=g) (n:=n) (by omega) hn p2 hKn hk4 o.2
      generalize aO9 (ak2 w d n) N d p2.1 g o.1 o.2=bv at *
      have hrd:=C.read (by omega)
      have hrv:=aAW (e:=12) (by omega) hrd
      change rdV h' (.slr 1 ob 0 (f+1))=_ at hrv
      simp only[aKA]at hrv
      obtain⟨lv,hlv⟩:∃lv,Ar 12 (Go.Ev.hf h') (.slr 1 ob 0 (f+1))=lv:=⟨_,rfl⟩
      have hlv2:=hlv
      rw[aKM]at hlv2
      have htk:aHX w.parts.length ((Hm d w.parts n).map Ab.cells)=(Hm d w.parts n).map Ab.cells:=aHY (by rw[abK,Pv];omega)
      have hdl2:(w.parts.length≤(Hm d w.parts n).length)=True:=eq_true (by rw[Pv];exact abX _)
      generalize hdc:Hm d w.parts n=dl at *
      generalize hou:opU w.parts.length 4=OU at *
      have hKn':Fj.Kno (Ld w N l) Az (Ja w.parts.length (f+1)) (stR w N p2 (Ku w.parts.length g n) o.1 o.2).1:=by
       unfold stR
       cases hc:ay5 w N (Ku w.parts.length g n) o.1 o.2 with
       |none=>exact hKn
       |some c=>exact(Fj.stepO_ok hsL (aFB hk4 hc l) p2 hKn).inv
      have hKle2:=hKn.known.le _ hsL
      rcases hstep with⟨rfl,hst⟩|⟨c,rfl,hct,hst⟩
      ·(have hb:=trivial;with_reducible repeat' (first|simp only[hb,Vc.down,seval,Jx.down,g1,g11,g17,g18,g19,g20,g21,djj,djI,hwj,h9,h3,h2,hoR,htk,hdl2,hrv,hlv2,hBeh,abX,abK]|refine An ?_ ?_<;>intro hb|refine fdq ?_|fail))
       exact Aq (kJ _ _ p2 ⟨by simp[up,g1],by simp[up,g3],by simp[up,g4],by simp[up,g9],by simp[up,g11],by simp[up,g16],by simp[up,g17],by simp[up,g18],by simp[up,g19],by simp[up,g20],by simp[up],hB,C,hKn,⟨x9,h9⟩,⟨x3,h3⟩,⟨x2,h2⟩⟩ (by rw[aoT,hst]))
      ·have m1:decide ((c:Int)≥0)=true:=decide_eq_true (by omega)
       obtain⟨xo',hxo'⟩:=C.out
       obtain⟨y',hy'⟩:=C.row g (by omega)
       rw[hRO2]at hxo'
       have hr1:Jk (h'[ob]?) g=some [AV.slr 1 (ib g) 0 (6 ^ w.parts.length)]:=by rw[hxo'];exact hRO
       have hRn':=Oh p2.1 w.parts.length g hn
       rw[show(Jy (Ho w.parts.length n),g)=Ku w.parts.length g n from rfl]at hRn'
       have hgl:=hiblt g (by omega)
       have hg1:=(P.ne g (by omega)).2
       by_cases hlt:c<p2.1 (Ku w.parts.length g n)
       ·have Cp:=C.put P (g:=g) (n:=n) (c:=c) (by omega) hn hct true
        rw[if_pos hlt]at hst
        have fin:∀T,mk 133 T=mk 133 T:=fun _=>rfl
        have e9:∀c',(h'.set (ib g) c')[h.length]?=some (.live 9 true x9 (dl.map Ab.cells)):=fun c'=>by rw[adC (by omega)];exact h9
        have e3:∀c',(h'.set (ib g) c')[h.length+1]?=some (.live 3 false x3 [[.int .i64 w.rooms,.int .i64 w.need,.slr 9 h.length 0 w.parts.length]]):=fun c'=>by rw[adC (by omega)];exact h3
        have e2:∀c',(h'.set (ib g) c')[h.length+2]?=some (.live 2 true x2 OU):=fun c'=>by rw[adC (by omega)];exact h2
        have eB:∀c',(h'.set (ib g) c')[0]?=some (.live 3 false x0 wc):=fun c'=>by rw[adC (by omega)];exact hB
        rw[hst]at hKn'
        generalize hRK':Nv p2.1 w.parts.length g=R2 at *
        by_cases b1:p2.1 (Ku w.parts.length g n)<Az
        ·rw[show agV (p2.1 (Ku w.parts.length g n))=(p2.1 (Ku w.parts.length g n):Int)from if_pos b1]at hRn'
         have m2:decide ((p2.1 (Ku w.parts.length g n):Int)<0)=false:=decide_eq_false (by omega)
         have m3:decide ((c:Int)<(p2.1 (Ku w.parts.length g n):Int))=true:=decide_eq_true (by omega)
         (have hb:=trivial;with_reducible repeat' (first|simp only[hb,Vc.down,seval,Jx.down,g1,g11,g17,g18,g19,g20,g21,djj,djI,hwj,h9,h3,h2,hoR,htk,hdl2,hrv,hlv2,hBeh,m1,m2,m3,hgF,hii,hr1,hy',hRn',abX,abK]|refine An ?_ ?_<;>intro hb|refine fdq ?_|fail))
         exact Aq (kJ _ _ (fun x=>if x=Ku w.parts.length g n then c else p2.1 x,true) ⟨by simp[up,g1],by simp[up,g3],by simp[up,g4],by simp[up,g9],by simp[up,g11],by simp[up],by simp[up,g17],by simp[up,g18],by simp[up,g19],by simp[up,g20],by simp[up],eB _,Cp,hKn',⟨x9,e9 _⟩,⟨x3,e3 _⟩,⟨x2,e2 _⟩⟩ (by rw[aoT,hst]))
        ·rw[show agV (p2.1 (Ku w.parts.length g n))= -1 from if_neg b1]at hRn'
         (have hb:=trivial;with_reducible repeat' (first|simp only[hb,Vc.down,seval,Jx.down,g1,g11,g17,g18,g19,g20,g21,djj,djI,hwj,h9,h3,h2,hoR,htk,hdl2,hrv,hlv2,hBeh,m1,hgF,hii,hr1,hy',hRn',abX,abK]|refine An ?_ ?_<;>intro hb|refine fdq ?_|fail))
         exact Aq (kJ _ _ (fun x=>if x=Ku w.parts.length g n then c else p2.1 x,true) ⟨by simp[up,g1],by simp[up,g3],by simp[up,g4],by simp[up,g9],by simp[up,g11],by simp[up],by simp[up,g17],by simp[up,g18],by simp[up,g19],by simp[up,g20],by simp[up],eB _,Cp,hKn',⟨x9,e9 _⟩,⟨x3,e3 _⟩,⟨x2,e2 _⟩⟩ (by rw[aoT,hst]))
       ·rw[if_neg hlt]at hst
        have b1:p2.1 (Ku w.parts.length g n)<Az:=by omega
        rw[show agV (p2.1 (Ku w.parts.length g n))=(p2.1 (Ku w.parts.length g n):Int)from if_pos b1]at hRn'
        generalize hRK':Nv p2.1 w.parts.length g=R2 at *
        have m2:decide ((p2.1 (Ku w.parts.length g n):Int)<0)=false:=decide_eq_false (by omega)
        have m3:decide ((c:Int)<(p2.1 (Ku w.parts.length g n):Int))=false:=decide_eq_false (by omega)
        (have hb:=trivial;with_reducible repeat' (first|simp only[hb,Vc.down,seval,Jx.down,g1,g11,g17,g18,g19,g20,g21,djj,djI,hwj,h9,h3,h2,hoR,htk,hdl2,hrv,hlv2,hBeh,m1,m2,m3,hgF,hii,hr1,hy',hRn',abX,abK]|refine An ?_ ?_<;>intro hb|refine fdq ?_|fail))
        exact Aq (kJ _ _ p2 ⟨by simp[up,g1],by simp[up,g3],by simp[up,g4],by simp[up,g9],by simp[up,g11],by simp[up,g16],by simp[up,g17],by simp[up,g18],by simp[up,g19],by simp[up,g20],by simp[up],hB,C,hKn,⟨x9,h9⟩,⟨x3,h3⟩,⟨x2,h2⟩⟩ (by rw[aoT,hst]))
     ·exact⟨by simp[up,g1],by simp[up,g3],by simp[up,g4],by simp[up,g9],by simp[up,g11],by simp[up,g16],by simp[up,g17],by simp[up,g18],by simp[up],by simp[up],by simp[up],Ai hB _,C.keep fun b hb=>ai5 hb,hKn,⟨wd,by rw[adD (abX _),agI];rfl⟩,⟨true,by rw[adD (by omega),aoV];rfl⟩,⟨false,by rw[adD (by omega),aoV];rfl⟩⟩
     obtain⟨rfl,g1,g3,g4,g9,g11,g16,g17,g18,hB,C,hKn⟩:=hk
     (have hb:=trivial;with_reducible repeat' (first|simp only[hb,Vc.down,seval,Jx.down,g18,hwn]|refine An ?_ ?_<;>intro hb|refine fd ?_|fail))
     exact Aq (kJ' _ _ _ ⟨by simp[up,g1],by simp[up,g3],by simp[up,g4],by simp[up,g9],by simp[up,g11],by simp[up,g16],by simp[up,g17],by simp[up],hB,C,hKn⟩ (by rw[aoT,hn0]))
   ·exact⟨by simp[up,g1],by simp[up,g3],by simp[up,g4],by simp[up,g9],by simp[up,g11],by simp[up,g16],by simp[up,g17],by simp[up],hB,C,hKn⟩
   obtain⟨rfl,g1,g3,g4,g9,g11,g16,g17,hB,C,hKn'⟩:=hk
   (have hb:=trivial;with_reducible repeat' (first|simp only[hb,Vc.down,seval,Jx.down,g17,hwg]|refine An ?_ ?_<;>intro hb|refine fd ?_|fail))
   exact Aq (kJ _ _ (fS w N ops p g) ⟨by simp[up,g1],by simp[up,g3],by simp[up,g4],by simp[up,g9],by simp[up,g11],by simp[up,g16];rfl,by simp[up],hB,C,hKn'⟩ rfl)
  ·exact⟨by simp[up,g1],by simp[up,g3],by simp[up,g4],by simp[up,g9],by simp[up,g11],by simp[up],by simp[up],hB,C,hKn⟩
  obtain⟨rfl,g1,g3,g4,g9,g11,g16,hB,C⟩:=hk
  have A:=bjG hwb hopk1 K hKn
  change CSx (rS w N ops (f+1) K).1 _ _ _ _ _ at C
  change t 16=.bool (rS w N ops (f+1) K).2 at g16
  generalize rS w N ops (f+1) K=p at *
  obtain⟨K2,ch⟩:=p
  cases ch with
  |true=>
   have hlt:=(A.ch rfl).resolve_left (by simp)
   simp only at hlt
   (have hb:=trivial;with_reducible repeat' (first|simp only[hb,Vc.down,seval,Jx.down]|refine An ?_ ?_<;>intro hb|refine fd ?_|fail))
   exact Aq (kJ _ _ () ⟨by simp[up,g1],by simp[up,g3],by simp[up,g4],by simp[up,g9],by simp[up,g11],hB,K2,C,A.inv,.inl ⟨by simp[up,g16],by omega⟩⟩ rfl)
  |false=>
   obtain⟨e1,hst⟩:=A.st rfl
   cases e1
   (have hb:=trivial;with_reducible repeat' (first|simp only[hb,Vc.down,seval,Jx.down]|refine An ?_ ?_<;>intro hb|refine fd ?_|fail))
   exact Aq (kJ _ _ () ⟨by simp[up,g1],by simp[up,g3],by simp[up,g4],by simp[up,g9],by simp[up,g11],hB,K,C,A.inv,.inr ⟨by simp[up,g16],hst⟩⟩ rfl)
 ·exact⟨by simp[up,g1],by simp[up,g3],by simp[up,g4],by simp[up,g9],by simp[up,g11],hB,K0 l,C,hKn0,.inl ⟨by simp[up],Nat.lt_succ_self _⟩⟩
 obtain⟨rfl,g11,K,C,hKn,hst⟩:=hk
 (have hb:=trivial;with_reducible repeat' (first|simp only[hb,Vc.down,seval,Jx.down,g11]|refine An ?_ ?_<;>intro hb|refine fd ?_|fail))
 subst hops
 have hbest:=fun s hs=>aVS hwb h6 (by omega) hKn hst (s:=s) hs
 have C2:CSx ((Ld w N l).bst Az) w.parts.length (f+1) ib ob h:=⟨C.out,fun g hg=>by
  obtain⟨y,hy⟩:=C.row g hg
  refine⟨y,hy.trans ?_⟩
  congr 2
  unfold Nv
  refine aQH fun n hn=>?_
  have e:=hbest (Jy (Ho w.parts.length n),g) (Pn.2 ⟨g,n,hg,aDD.1 hn,rfl⟩)
  rw[e]⟩
 have r1:=C2.read (by omega)
 refine hK _ ?_
 rw[a2X]
 refine bhS (vs:=[.slr 1 ob 0 (f+1)]) ?_ (aY8 r1 (by simp;omega) fun v h' R' k1 k2 k3=>⟨v,R',rfl,k1,by simp at k2 ⊢;omega,k3⟩)
 simp only[Vc.down,seval,Jx.down]
theorem aW8{w:Af}{N:Nat}(hw:WOk w N){d:Int}{l:List Ci}(hl:l.length≤maxLen){f:Nat}(h:Js w d l f=0){k:Int}(hk:k=1∨k=2∨k=3∨k=4)(i:Nat):
 (aw1 w N l (Ac w d,f) k i= -1∨(0≤aw1 w N l (Ac w d,f) k i∧bs w N l (Ac w d,f)<Az∧(bs w N l (Ac w d,f):Int)≤aw1 w N l (Ac w d,f) k i∧∃o∈Ec w N (Ac w d,f),o.k=k∧o.i=i∧((aw1 w N l (Ac w d,f) k i=(bs w N l (Ac w d,f):Int))→wst (bs w N l) o=bs w N l (Ac w d,f)))):=by
 have hF:=aLU hw hl h
 obtain⟨_,hwb,_⟩:=Ou h
 unfold aw1
 cases hc:choF w N (Ac w d,f) k i with
 |none=>exact .inl rfl
 |some o=>
  obtain⟨h1,h2,p,x,I⟩:=(Na hk).1 hc
  have ho:o∈Ec w N (Ac w d,f):=Kx.2 ⟨p,x,I⟩
  have hpr:=Lp hwb I.hp o.k
  rw[←I.c]at hpr
  simp only
  by_cases hm:Fj.mx (bs w N l) o.to<Az
  ·rw[if_pos hm]
   have hcan:∃k,Go.Ev.Can (akP w N l) (Ac w d,f) k:=⟨_,.op (adL.2 ⟨o,ho,rfl⟩) (k':=Fj.mx (bs w N l) o.to) (fun y hy=>by
    have hy2:=Fj.mx_le (f:=bs w N l) hy
    have:∃k,Go.Ev.Can (akP w N l) y k:=Classical.byContradiction fun n=>by
     have:=Fj.bst_none (top:=Az) n
     have e:bs w N l y=Az:=this
     omega
    exact(Fj.bst_can (top:=Az) this).1.mono hy2) (abX _)⟩
   have hlt:=hF.lt hcan
   have hle:=Fj.bst_le hF (adL (l:=l).2 ⟨o,ho,rfl⟩)
   change bs w N l (Ac w d,f)<Az at hlt
   change bs w N l (Ac w d,f)≤min Az (o.c.toNat+Fj.mx (bs w N l) o.to)at hle
   refine .inr ⟨by omega,hlt,by omega,o,ho,h1,h2,fun e=>?_⟩
   unfold wst
   omega
  ·rw[if_neg hm];exact .inl rfl
theorem bg1{w:Af}{N:Nat}(hw:WOk w N){d:Int}{l:List Ci}(hl:l.length≤maxLen){f:Nat}(h:Js w d l f=0):bs w N l (Ac w d,f)=0↔awW (Ac w d) l=true:=by
 obtain⟨_,hwb,_⟩:=Ou h
 exact Fj.bst_pos (aLU hw hl h) (by unfold Az;omega) (aUI hwb)
theorem aZU{f g:St→Nat}:∀{l:List St},(∀x∈l,f x=g x)→Fj.mx f l=Fj.mx g l:=fun {l} h=>
 Nat.le_antisymm (Fj.mx_mono fun x hx=>Nat.le_of_eq (h x hx)) (Fj.mx_mono fun x hx=>Nat.le_of_eq (h x hx).symm)
theorem aF2{w:Af}{d:Int}:Ho w.parts.length (cod (Oi w.parts d))=Oi w.parts d:=by
 have:=aEB (aKJ w.parts d)
 rwa[show(Oi w.parts d).length=w.parts.length by unfold Oi;simp]at this
theorem bh1(w:Af)(d:Int):cod (Oi w.parts d)<6 ^ w.parts.length:=by
 have:=aB5 (aKJ w.parts d)
 rwa[show(Oi w.parts d).length=w.parts.length by unfold Oi;simp]at this
theorem a7S{w:Af}{N:Nat}(hb:Fe w=true){d D:Int}(hD:1≤D∧D≤6000)(l:List Ci)(g:Nat){k:Int}(hk:k=1∨k=2∨k=3∨k=4)(i:Nat):aO9 (ak2 w D (cod (Oi w.parts d))) N D ((Ld w N l).bst Az) g k i=aw1 w N l (Ac w d,g) k i:=by
 have hv:aAT (ak2 w D (cod (Oi w.parts d))).parts=true:=by
  show aAT (Hm D w.parts _)=true
  have h1:=aHV D w.parts (cod (Oi w.parts d)) (awN (12-(Oi w.parts d).length) (0,false))
  rw[aF2]at h1
  have h2:=azR hb d
  rw[Pq]at h2
  rw[←h1]
  exact h2
 have hp:Ac (ak2 w D (cod (Oi w.parts d))) D=Ac w d:=by
  rw[azK w hD,aF2,Pq]
 unfold aO9 aw1
 rw[if_pos hv,hp,(Gu w D _).choF]
 cases hc:choF w N (Ac w d,g) k i with
 |none=>rfl
 |some o=>
  obtain⟨_,_,p,x,I⟩:=(Na hk).1 hc
  have ho:=Kx.2 ⟨p,x,I⟩
  have e:Fj.mx ((Ld w N l).bst Az) o.to=Fj.mx (bs w N l) o.to:=aZU fun y hy=>aTA (aTQ (azR hb d) ho y hy)
  simp only[e]
theorem aZ6(w:Af)(N:Nat)(s:St):Ec w N s=(opN w.parts.length 4).filterMap fun o=>choF w N s o.1 o.2:=by
 have e:∀k:Int,((abL w.parts.length).map fun i=>(k,i)).filterMap (fun o=>choF w N s o.1 o.2)=awP w N s k:=fun k=>by
  unfold awP;rw[List.filterMap_map];rfl
 show awP w N s 1++(awP w N s 2++(awP w N s 3++awP w N s 4))=(((([]++(abL w.parts.length).map fun i=>(((0:Nat):Int)+1,i))++(abL w.parts.length).map fun i=>(((1:Nat):Int)+1,i))++(abL w.parts.length).map fun i=>(((2:Nat):Int)+1,i))++(abL w.parts.length).map fun i=>(((3:Nat):Int)+1,i)).filterMap _
 rw[aQB,aJ4,aJ4,aJ4]
 rw[show(((0:Nat):Int)+1)=1 from rfl,show(((1:Nat):Int)+1)=2 from rfl,show(((2:Nat):Int)+1)=3 from rfl,show(((3:Nat):Int)+1)=4 from rfl,e,e,e,e,aDG,aDG]
noncomputable def aQF(w:Af)(N:Nat)(l:List Ci)(s:St)(o:Int × Nat):Bool:=decide (aw1 w N l s o.1 o.2≥0)&&aw1 w N l s o.1 o.2==agV (bs w N l s)
theorem aZV{w:Af}{N:Nat}(hw:WOk w N){d:Int}{l:List Ci}(hl:l.length≤maxLen){f:Nat}(h:Js w d l f=0):
 (¬bs w N l (Ac w d,f)<Az→(opN w.parts.length 4).find? (aQF w N l (Ac w d,f))=none)∧
 (bs w N l (Ac w d,f)<Az→bs w N l (Ac w d,f)≠0→∃c o,(Ec w N (Ac w d,f)).find? (fun o=>wst (bs w N l) o==bs w N l (Ac w d,f))=some c∧(opN w.parts.length 4).find? (aQF w N l (Ac w d,f))=some o∧o.1=c.k∧o.2=c.i):=by
 obtain⟨_,hwb,_⟩:=Ou h
 constructor
 ·intro hn
  rw[List.find?_eq_none]
  intro o ho
  have hk:=(aN8 ho).1
  have:=(aW8 hw hl h hk o.2).resolve_right fun h=>hn h.2.1
  unfold aQF
  rw[this]
  simp
 ·intro hlt h0
  have hF:=aLU hw hl h
  have hop:=Fj.bst_op hF
  change bs w N l (Ac w d,f)<Az→_ at hop
  have hg:(akP w N l).goal (Ac w d,f)=false:=by
   cases hg:(akP w N l).goal (Ac w d,f)with
   |false=>rfl
   |true=>exact absurd (Fj.bst_goal hg) h0
  obtain⟨o1,ho1,e1,_⟩:=hop hlt hg (aUI hwb)
  obtain⟨c1,hc1,rfl⟩:=adL.1 ho1
  obtain⟨c,hc⟩:=Option.isSome_iff_exists.1 (List.find?_isSome (p:=fun o=>wst (bs w N l) o==bs w N l (Ac w d,f)).2 ⟨c1,hc1,by rw[beq_iff_eq];exact e1.symm⟩)
  refine⟨c,?_⟩
  have hc':=hc
  rw[aZ6,List.find?_filterMap]at hc'
  obtain⟨o,ho,hoc⟩:=Option.bind_eq_some_iff.1 hc'
  have hom:=List.mem_of_find?_eq_some ho
  have hk:=(aN8 hom).1
  obtain⟨i1,i2,_⟩:=(Na hk).1 hoc
  refine⟨o,hc,?_,i1.symm,i2.symm⟩
  rw[←ho]
  have fc:∀{α:Type} {p q:α→Bool} {L:List α},(∀x∈L,p x=q x)→L.find? p=L.find? q:=fun {α p q L} hpq=>by
   induction L with
   |nil=>rfl
   |cons a L ih=>
    have ha:=hpq a (by simp)
    cases hp:p a with
    |true=>rw[aKO hp,aKO (ha▸hp)]
    |false=>
     rw[aA3 (by simp[hp]),aA3 (by simp[←ha,hp])]
     exact ih fun x hx=>hpq x (by simp[hx])
  refine fc fun x hx=>?_
  have hkx:=(aN8 hx).1
  have hco:agV (bs w N l (Ac w d,f))=(bs w N l (Ac w d,f):Int):=if_pos hlt
  unfold aQF
  rw[hco]
  cases hcx:choF w N (Ac w d,f) x.1 x.2 with
  |none=>
   have:aw1 w N l (Ac w d,f) x.1 x.2= -1:=by unfold aw1;rw[hcx]
   rw[this]
   simp
  |some y=>
   obtain⟨j1,j2,p,z,I⟩:=(Na hkx).1 hcx
   have hy:=Kx.2 ⟨p,z,I⟩
   have hav:aw1 w N l (Ac w d,f) x.1 x.2=if Fj.mx (bs w N l) y.to<Az then((Fj.mx (bs w N l) y.to:Nat):Int)+y.c else -1:=by unfold aw1;rw[hcx]
   have hpr:=Lp hwb I.hp y.k
   rw[←I.c]at hpr
   rw[hav]
   show _=(wst (bs w N l) y==bs w N l (Ac w d,f))
   unfold wst
   by_cases hm:Fj.mx (bs w N l) y.to<Az
   ·rw[if_pos hm,aRX]
    simp only[aTG,decide_eq_true_eq,beq_iff_eq]
    omega
   ·rw[if_neg hm,aRX]
    simp only[aTG,decide_eq_true_eq,beq_iff_eq]
    omega
theorem aUB{K:St→Nat}{m F:Nat}{H:Aa}{v:AV}{R:List Nat}(h:rd 6 (hf H) v=some (.imm 1 false (aB6 K m F),R)){g:Nat}(hg:g<F):
 ∃vb bg,v=.slr 1 vb 0 F∧Jk (H[vb]?) g=some [.slr 1 bg 0 (6 ^ m)]∧∀n,n<6 ^ m→Jk (H[bg]?) n=some [.int .i64 (agV (K (Jy (Ho m n),g)))]:=by
 have hne:aB6 K m F≠[]:=fun e=>by have:=congrArg List.length e;rw[aE4]at this;simp at this;omega
 rw[←Ko (n:=1) (fl:=false) (nn:=false) hne]at h
 rcases ai0 h with⟨_,h0⟩|⟨vb,rows',rfl,hb,_,_,_⟩
 ·exact absurd h0 hne
 ·obtain⟨q,hq,rfl,hx⟩:=aHJ h hb
  have hq1:q.1=aB6 K m F:=by
   rw[Ko hne]at hx
   injection hx with _ _ h3
   exact h3.symm
  obtain⟨r,R2,k1,k2⟩:=azJ (i:=g) hq (by rw[hq1];exact aLS K m F hg)
  obtain⟨a1,l1,_,_,rfl,m1,n1,rfl⟩:=Jd k2
  obtain⟨rfl,rfl⟩:=akZ n1
  have hne2:Nv K m g≠[]:=fun e=>by
   have:=congrArg List.length e
   rw[Je]at this
   have h6:1≤6 ^ m:=Nat.one_le_pow _ _ (by decide)
   simp at this
  rw[←Ko (n:=1) (fl:=true) (nn:=true) hne2]at m1
  rcases ai0 m1 with⟨_,h0⟩|⟨bg,rows2,rfl,hb2,_,hfl,_⟩
  ·exact absurd h0 hne2
  ·obtain rfl:=hfl rfl
   refine⟨vb,bg,by rw[aE4],by rw[aED hb,k1,Je],fun n hn=>?_⟩
   rw[aED hb2,Oh K m g hn]
theorem aW7{H:Aa}{args:List AV}(hp:args.all (Aw 8)=true):Ap (rdV H) args=some args∧args.flatMap (Ar 12 (hf H))=[]:=by
 rw[List.all_eq_true]at hp
 constructor
 ·have:∀l:List AV,(∀x∈l,Aw 8 x=true)→Ap (rdV H) l=some l:=by
   intro l
   induction l with
   |nil=>intro _;rfl
   |cons a l ih=>
    intro h
    rw[aI7,ih fun x hx=>h x (by simp[hx]),show rdV H a=some a from Oy _ (d:=8) (by omega) (h a (by simp)),aF0]
  exact this args hp
 ·rw[List.flatMap_eq_nil_iff]
  exact fun x hx=>Pz _ (d:=8) (by omega) (hp x hx)
noncomputable def a5B(w:Af)(N:Nat)(l:List Ci)(s:St):List AV:=
 if bs w N l s=0 then [.agg [.int .i64 0,.int .i64 0],.int .i64 0]else match(opN w.parts.length 4).find? (aQF w N l s)with
  |some o=>[.agg [.int .i64 o.1,.int .i64 (o.2:Int)],.int .i64 (bs w N l s:Nat)]
  |none=>[.agg [.int .i64 0,.int .i64 0],.int .i64 (-1)]
theorem aVK{w:Af}{N:Nat}(hw:WOk w N)(d:Int)(l:List Ci)(nn:Bool)(hl:l.length≤maxLen)(f:Nat)(h:Js w d l f=0):
 Dp.call (.fn 16) [.agg [.int .i64 w.rooms,.int .i64 w.need,Be 9 true w.nn (w.parts.map Ab.cells)],.int .i64 d,Be 3 true nn (l.map Ci.cells),.int .i64 (f:Int)] []=some (.ret (.tup (a5B w N l (Ac w d,f))),[]):=by
 obtain⟨h6,hwb,hdb,hgb,_,hf3'⟩:=Ou h
 have hf3:f≤3:=by omega
 have hdd:0≤d∧d≤5000:=by simpa [awX,La]using hdb
 have hD:1≤d+1∧d+1≤6000:=by omega
 have hlp:=aCQ (by omega) hgb
 have hM:=bcG (w:=w) (by omega) d l nn hl hlp
 have hmet:=bg1 hw hl h
 have hsl:Be 9 true w.nn (w.parts.map Ab.cells)=.imm 9 true (w.parts.map Ab.cells):=Ko (by simpa using hw.ne)
 have hwd:IntKind.i64.wrap (d+1)=d+1:=Bf (by omega) (by omega)
 cases c1:awW (Ac w d) l with
 |true=>
  rw[c1]at hM
  unfold a5B
  rw[if_pos (hmet.2 c1)]
  (refine ce Tryz.func16 ?_;simp only[Tryz.f16];(have hb:=trivial;with_reducible repeat' (first|simp only[hb,Vc.down,seval,aKL.down,hM,abK]|refine An ?_ ?_<;>intro hb|refine fd ?_|fail)))
 |false=>
 rw[c1]at hM hmet
 have hn0:bs w N l (Ac w d,f)≠0:=fun e=>by have:=hmet.1 e;cases this
 have hC:=bbN (N:=N) hw hwb h6 hD l nn hl hlp (f:=f) hf3
 have hcode:=a06 w (by omega) d
 have hOp:=bcE (w:=w) hw.ne (by omega)
 have hlt0:=bh1 w d
 have hpow:6 ^ w.parts.length≤46656:=aD2 (aEQ (by decide) h6) (by decide)
 obtain⟨wd,hDec⟩:=aNY hw.ne (by omega) (d:=d+1) (by omega) hD.2 (n:=cod (Oi w.parts d)) (by omega)
 rw[hsl]at hM hC hcode hOp hDec ⊢
 obtain⟨qC,hqC⟩:∃q,Fn.func 45=q:=⟨_,rfl⟩
 refine ce Tryz.func16 ?_
 simp only[Tryz.f16]
 (have hb:=trivial;with_reducible repeat' (first|simp only[hb,Vc.down,seval,aKL.down,hM,hwd,hqC,abK]|refine An ?_ ?_<;>intro hb|refine fd ?_|fail))
 generalize hE:cl Dp _ (some (.func qC [] [])) (some _)=E1
 rw[←hqC]at hE
 obtain⟨Hc,hHc⟩:∃Hc:Aa,[CB.live 3 false false [[AV.int .i64 w.rooms,.int .i64 w.need,.imm 9 true (w.parts.map Ab.cells)]],CB.live 2 true false [[AV.int .i64 0,.int .i64 0]]]=Hc:=⟨_,rfl⟩
 rw[hHc]at hE ⊢
 have hpa:[AV.agg [AV.int .i64 w.rooms,.int .i64 w.need,.imm 9 true (w.parts.map Ab.cells)],.int .i64 (d+1),Be 3 true nn (l.map Ci.cells),.int .i64 (f:Int)].all (Aw 8)=true:=by
  simp only[List.all_cons,List.all_nil,Px 7,Bool.and_true]
  rfl
 obtain⟨ha,hle⟩:=aW7 (H:=Hc) hpa
 obtain⟨v,es,M,R,e1,e2,Kp,hrd,hRl,hRg⟩:=hC.cl (H:=Hc) (bhD rfl) ha hpa
 have e9:=hE.symm.trans e1
 subst e9
 rw[hle]at Kp
 have hM0:M[0]?=some (.live 3 false false [[AV.int .i64 w.rooms,.int .i64 w.need,.imm 9 true (w.parts.map Ab.cells)]]):=by rw[Kp.same 0 (by rw[←hHc];simp) (by simp),←hHc];rfl
 have hM1:M[1]?=some (.live 2 true false [[AV.int .i64 0,.int .i64 0]]):=by rw[Kp.same 1 (by rw[←hHc];simp) (by simp),←hHc];rfl
 have hMl:2≤M.length:=by have:=Kp.len;rw[←hHc]at this;simpa using this
 obtain⟨vb,bg,rfl,hr1,hr2⟩:=aUB hrd (g:=f) (by omega)
 have hMa:=Ai hM0
 have hMb:=Ai hM1
 have hs0:aHL (M.length-1) 1 M.length=1001:=by unfold aHL;rw[if_neg (by omega)];omega
 have hsf:∀k,aHL (M.length-1) 1 (M.length+k)=k+1001:=fun k=>by unfold aHL;rw[if_neg (by omega)];omega
 (have hb:=trivial;with_reducible repeat' (first|simp only[hb,Vc.down,seval,aKL.down,e2,hM0,hM1,hMa,hMb,hwd,hcode,hDec,hOp,abK]|refine An ?_ ?_<;>intro hb|((refine aHI (M.length-1) 1 ?_ ?_);(simp (discharger:=decide) only[atB,aeG,List.map_cons,List.map_nil,Nj,at6,as4,aq3,Nq,acZ,aQC,aQD,hs0,hsf];kernel_rfl);intro _)|refine fdx ?_|fail))
 obtain⟨ops,hops⟩:∃ops,opN w.parts.length 4=ops:=⟨_,rfl⟩
 have hopk:∀o∈ops,(o.1=1∨o.1=2∨o.1=3∨o.1=4)∧o.2<w.parts.length:=fun o ho=>aN8 (by rw[hops];exact ho)
 have hol:ops.length=4*w.parts.length:=by rw[←hops,aL5]
 obtain⟨c0,hc0⟩:∃c0,cod (Oi w.parts d)=c0:=⟨_,rfl⟩
 rw[hc0]at hlt0 hcode
 have hdl:=(Gu w (d+1) c0).len
 have eW:(ak2 w (d+1) c0).cells=[.int .i64 w.rooms,.int .i64 w.need,.imm 9 true ((Hm (d+1) w.parts c0).map Ab.cells)]:=by
  show [_,_,Be 9 true true _]=_
  rw[ajY];rfl
 have hself:Jy (Ho w.parts.length c0)=Ac w d:=by rw[←hc0,aF2,Pq]
 have hbR:=aTA (N:=N) (l:=l) (s:=(Ac w d,f)) (azR hwb d)
 obtain⟨H2,hH2⟩:∃H2:Aa,M++[CB.live 9 true wd ((Hm (d+1) w.parts (cod (Oi w.parts d))).map Ab.cells),CB.live 3 false true [[AV.int .i64 w.rooms,.int .i64 w.need,.slr 9 M.length 0 w.parts.length]],CB.live 2 true false (opU w.parts.length 4)]=H2:=⟨_,rfl⟩
 have k0:H2[0]?=some (.live 3 false false [[AV.int .i64 w.rooms,.int .i64 w.need,.imm 9 true (w.parts.map Ab.cells)]]):=by rw[←hH2];exact hMa _
 have k1:H2[1]?=some (.live 2 true false [[AV.int .i64 0,.int .i64 0]]):=by rw[←hH2];exact hMb _
 have k9:H2[M.length]?=some (.live 9 true wd ((Hm (d+1) w.parts c0).map Ab.cells)):=by rw[←hH2,adD (abX _),agI,hc0];rfl
 have k3:H2[M.length+1]?=some (.live 3 false true [[AV.int .i64 w.rooms,.int .i64 w.need,.slr 9 M.length 0 w.parts.length]]):=by rw[←hH2,adD (by omega),aoV];rfl
 have k2:H2[M.length+2]?=some (.live 2 true false (opU w.parts.length 4)):=by rw[←hH2,adD (by omega),aoV];rfl
 have hrd2:rd 6 (Go.Ev.hf H2) (.slr 1 vb 0 (f+1))=some (.imm 1 false (aB6 ((Ld w N l).bst Az) w.parts.length (f+1)),R):=by rw[←hH2];exact aBA hrd
 obtain⟨vb',bg',ev,hr1',hr2'⟩:=aUB hrd2 (g:=f) (by omega)
 injection ev with _ ev1 _ _
 subst ev1
 have hr3:=hr2' c0 hlt0
 rw[hself,hbR]at hr3
 have hrv:=aAW (e:=12) (by omega) hrd2
 change rdV H2 (.slr 1 vb 0 (f+1))=_ at hrv
 simp only[aKA]at hrv
 obtain⟨lv,hlv⟩:∃lv,Ar 12 (Go.Ev.hf H2) (.slr 1 vb 0 (f+1))=lv:=⟨_,rfl⟩
 have hlv2:=hlv
 rw[aKM]at hlv2
 have htk:aHX w.parts.length ((Hm (d+1) w.parts c0).map Ab.cells)=(Hm (d+1) w.parts c0).map Ab.cells:=aHY (by rw[abK,Pv];omega)
 have hdl2:(w.parts.length≤(Hm (d+1) w.parts c0).length)=True:=eq_true (by rw[Pv];exact abX _)
 have hfF:((f:Int)<((f+1:Nat):Int))=True:=eq_true (by omega)
 have hcF:((c0:Int)<((6 ^ w.parts.length:Nat):Int))=True:=eq_true (by omega)
 have hset:∀c,(H2.set 1 c)[1]?=some c:=fun c=>aoW (Ce k1)
 rw[hH2]
 refine Dy (lst 72 ops (fun j (_:Unit) t h=>t 1=.int .i64 d∧t 3=.int .i64 (f:Int)∧t 4=.ptr 0 0 0∧t 8=.ptr 1 0 0∧t 10=.slr 1 vb 0 (f+1)∧t 11=.ptr (M.length+1) 0 0∧t 12=.slr 2 (M.length+2) 0 (4*w.parts.length)∧t 13=.int .i64 (j:Int)∧h=H2) (fun rest _=>rest.find? (aQF w N l (Ac w d,f)))
  (fun r e t h=>(e=.exit 0∧r=none∧t 8=.ptr 1 0 0∧h=H2)∨∃o,r=some o∧e=.ret∧t 8=.ptr 1 0 0∧t 9=.int .i64 (bs w N l (Ac w d,f):Nat)∧h=H2.set 1 (.live 2 true true [[.int .i64 o.1,.int .i64 (o.2:Int)]])) ?_ ?_ () _ _ ?_) (fun e t h hk=>?_)
 ·rintro _ t h Q' kQ ⟨g1,g3,g4,g8,g10,g11,g12,g13,rfl⟩
  rw[hol]at g13
  (have hb:=trivial;with_reducible repeat' (first|simp only[hb,Vc.down,seval,aKL.down,g12,g13,ah1,decide_false]|refine An ?_ ?_<;>intro hb|refine fd ?_|fail))
  exact kQ _ _ _ (.inl ⟨rfl,rfl,by simp[up,g8],rfl⟩)
 ·rintro o rest j _ t h J Q' kJ kQ hx hj ⟨g1,g3,g4,g8,g10,g11,g12,g13,rfl⟩
  have hom:=aJQ hx
  obtain⟨hk4,hol2⟩:=hopk o hom
  have djj:decide ((j:Int)<((4*w.parts.length:Nat):Int))=true:=decide_eq_true (by omega)
  have djI:((j:Int)<((4*w.parts.length:Nat):Int))=True:=eq_true (by omega)
  have hwj:IntKind.i64.wrap ((j:Int)+1)=((j+1:Nat):Int):=by rw[Bf (by omega) (by omega)];omega
  have hoR:(opU w.parts.length 4)[j]?=some [.int .i64 o.1,.int .i64 (o.2:Int)]:=by
   rw[aYO,hops,aJN,hx];rfl
  obtain⟨px,hpx⟩:∃px,(ak2 w (d+1) c0).parts[o.2]?=some px:=⟨_,aQR (by omega)⟩
  have hBeh:=aMI (aUC hw (d+1) c0) (by omega) hD (fun p hp=>by
   have:=azG w (d+1) w.parts c0 p hp
   omega) (fun p hp k=>by
   obtain⟨z,hz⟩:=aQ3 hp
   obtain⟨q,hq,hkq⟩:=(Gu w (d+1) c0).get hz
   have:=Lp hwb hq k
   simp only[azU,Prod.mk.injEq]at hkq
   unfold awV at this ⊢
   rw[←hkq.2.2.2.1,←hkq.2.2.2.2]
   exact this) hk4 hpx ((Ld w N l).bst Az) (g:=f) (F:=f+1) (by omega) (by omega)
  change Dp.call _ [AV.agg (ak2 w (d+1) c0).cells,.int .i64 (d+1),.agg [.int .i64 o.1,.int .i64 (o.2:Int)],.int .i64 (f:Int),_] []=_ at hBeh
  rw[eW,hdl,←hc0,a7S hwb hD l f hk4 o.2,hc0]at hBeh
  have htak:aQF w N l (Ac w d,f) o=(decide (aw1 w N l (Ac w d,f) o.1 o.2≥0)&&aw1 w N l (Ac w d,f) o.1 o.2==agV (bs w N l (Ac w d,f))):=rfl
  generalize aw1 w N l (Ac w d,f) o.1 o.2=bv at *
  generalize Hm (d+1) w.parts c0=dl at *
  generalize opU w.parts.length 4=OU at *
  cases m1:decide (bv≥0)with
  |false=>
   rw[m1,Bool.false_and]at htak
   (have hb:=trivial;with_reducible repeat' (first|simp only[hb,Vc.down,seval,aKL.down,g1,g3,g4,g8,g10,g11,g12,g13,djj,djI,hwj,hwd,k0,k1,k9,k3,k2,hoR,htk,hdl2,hrv,hlv2,hBeh,m1,abX,abK]|refine An ?_ ?_<;>intro hb|refine fdq ?_|fail))
   exact Aq (kJ _ _ () ⟨by simp[up,g1],by simp[up,g3],by simp[up,g4],by simp[up,g8],by simp[up,g10],by simp[up,g11],by simp[up,g12],by simp[up],rfl⟩ (by rw[aA3 (by simp[htak])]))
  |true=>
   rw[m1,Bool.true_and]at htak
   cases m2:(bv==agV (bs w N l (Ac w d,f)))with
   |false=>
    rw[m2]at htak
    (have hb:=trivial;with_reducible repeat' (first|simp only[hb,Vc.down,seval,aKL.down,g1,g3,g4,g8,g10,g11,g12,g13,djj,djI,hwj,hwd,k0,k1,k9,k3,k2,hoR,htk,hdl2,hrv,hlv2,hBeh,m1,hcode,hr1',hr3,hfF,hcF,m2,abX,abK]|refine An ?_ ?_<;>intro hb|refine fdq ?_|fail))
    exact Aq (kJ _ _ () ⟨by simp[up,g1],by simp[up,g3],by simp[up,g4],by simp[up,g8],by simp[up,g10],by simp[up,g11],by simp[up,g12],by simp[up],rfl⟩ (by rw[aA3 (by simp[htak])]))
   |true=>
    rw[m2]at htak
    have hbv:bv=(bs w N l (Ac w d,f):Int):=by
     have e1:=eq_of_beq m2
     have e2:=of_decide_eq_true m1
     unfold agV at e1
     split at e1
     ·exact e1
     ·omega
    (have hb:=trivial;with_reducible repeat' (first|simp only[hb,Vc.down,seval,aKL.down,g1,g3,g4,g8,g10,g11,g12,g13,djj,djI,hwj,hwd,k0,k1,k9,k3,k2,hoR,htk,hdl2,hrv,hlv2,hBeh,m1,hcode,hr1',hr3,hfF,hcF,m2,abX,abK]|refine An ?_ ?_<;>intro hb|refine fdq ?_|fail))
    exact kQ _ _ _ (.inr ⟨o,aKO htak,rfl,by simp[up,g8],by simp[up,hbv],rfl⟩)
 ·exact⟨by simp[up,Lx],by simp[up,Lx],by simp[up],by simp[up],by simp[up],by simp[up],by simp[up],by simp[up],rfl⟩
 rw[←hops]at hk
 unfold a5B
 rw[if_neg hn0]
 rcases hk with⟨rfl,e,g8,rfl⟩|⟨o,e,rfl,g8,g9,rfl⟩
 ·rw[e]
  (have hb:=trivial;with_reducible repeat' (first|simp only[hb,Vc.down,seval,aKL.down,g8,k1,hset]|refine An ?_ ?_<;>intro hb|refine fd ?_|fail))
 ·rw[e]
  (have hb:=trivial;with_reducible repeat' (first|simp only[hb,Vc.down,seval,aKL.down,g8,g9,hset]|refine An ?_ ?_<;>intro hb|refine fd ?_|fail))
theorem aJD{w:Af}{N:Nat}(hw:WOk w N)(d:Int)(l:List Ci)(nn:Bool)(hl:l.length≤maxLen)(h:Js w d l ((0:Nat):Int)=0):
 Dp.call (.fn 13) [.agg [.int .i64 w.rooms,.int .i64 w.need,Be 9 true w.nn (w.parts.map Ab.cells)],.int .i64 d,Be 3 true nn (l.map Ci.cells)] []=some (.ret (.bool (decide (bs w N l (Ac w d,0)<Az))),[]):=by
 have hA:=aVK hw d l nn hl 0 h
 obtain⟨t1,t2⟩:=aZV hw hl h
 have hF:=aLU hw hl h
 have key:∃k i c:Int,a5B w N l (Ac w d,0)=[.agg [.int .i64 k,.int .i64 i],.int .i64 c]∧decide (c≥0)=decide (bs w N l (Ac w d,0)<Az):=by
  unfold a5B
  by_cases h0:bs w N l (Ac w d,0)=0
  ·rw[if_pos h0]
   exact⟨_,_,_,rfl,by rw[h0];rfl⟩
  ·rw[if_neg h0]
   by_cases hlt:bs w N l (Ac w d,0)<Az
   ·obtain⟨c,o,_,ho,_,_⟩:=t2 hlt h0
    rw[ho]
    exact⟨_,_,_,rfl,by rw[decide_eq_true hlt];exact decide_eq_true (by omega)⟩
   ·rw[t1 hlt]
    exact⟨_,_,_,rfl,by rw[decide_eq_false hlt];rfl⟩
 obtain⟨k,i,c,e,hc⟩:=key
 rw[e]at hA
 rw[←hc]
 simp only[Int.natCast_zero]at hA
 (refine ce Tryz.func13 ?_;simp only[Tryz.f13];(have hb:=trivial;with_reducible repeat' (first|simp only[hb,Vc.down,seval,bo4.down,hA,abK]|refine An ?_ ?_<;>intro hb|refine fd ?_|fail)))
theorem bd2{w:Af}{N:Nat}(hw:WOk w N)(d:Int)(l:List Ci)(nn:Bool)(hl:l.length≤maxLen)(h:Js w d l ((0:Nat):Int)=0):
 Dp.call (.fn 14) [.agg [.int .i64 w.rooms,.int .i64 w.need,Be 9 true w.nn (w.parts.map Ab.cells)],.int .i64 d,Be 3 true nn (l.map Ci.cells)] []=some (.ret (.int .i64 (aQ0 w N d l)),[]):=by
 obtain⟨_,hwb,_,hgb,_,_⟩:=Ou h
 have hR:=fun x (hx:x∈l)=>aJD hw d [x] true (by unfold maxLen;simp) (aYW h (a2I hgb hx) (by simp) (by simp))
 obtain⟨ans,hans⟩:∃a,aQ0 w N d l=a:=⟨_,rfl⟩
 rw[hans]
 unfold aQ0 at hans
 refine ce Tryz.func14 ?_
 simp only[Tryz.f14]
 (have hb:=trivial;with_reducible repeat' (first|simp only[hb,Vc.down,seval,aXG.down,abK]|refine An ?_ ?_<;>intro hb|refine fd ?_|fail))
 refine Dy (lst 24 l (fun i (s:Int) t h=>s=i∧t 1=.int .i64 d∧t 2=Be 3 true nn (l.map Ci.cells)∧t 3=.ptr 0 0 0∧t 7=.int .i64 (i:Int)∧(∃fl x,h=[.live 3 fl x [[.int .i64 w.rooms,.int .i64 w.need,Be 9 true w.nn (w.parts.map Ab.cells)]]])) (fun rest s=>idx (fun x=> !decide (bs w N [x] (Ac w d,0)<Az)) rest s)
  (fun r e t h=>(∃fl x,h=[.live 3 fl x [[.int .i64 w.rooms,.int .i64 w.need,Be 9 true w.nn (w.parts.map Ab.cells)]]])∧((e=.exit 0∧r= -1)∨(e=.ret∧t 6=.int .i64 r))) ?_ ?_ 0 _ _ ?_) (fun e t h hk=>?_)
 ·rintro s t h Q' kQ ⟨rfl,g1,g2,g3,g7,fl,xx,rfl⟩
  (have hb:=trivial;with_reducible repeat' (first|simp only[hb,Vc.down,seval,aXG.down,g2,g7,ah1,decide_false,abK]|refine An ?_ ?_<;>intro hb|refine fd ?_|fail))
  exact kQ _ _ _ ⟨⟨fl,xx,rfl⟩,.inl ⟨rfl,rfl⟩⟩
 ·rintro x rest i s t h J Q' kJ kQ hx hi ⟨rfl,g1,g2,g3,g7,fl,xx,rfl⟩
  have hdd:decide ((i:Int)<(l.length:Int))=true:=decide_eq_true (by omega)
  have hww:=Bv hi hl
  have hslx:=bf5 hx nn
  have hRx:=hR x (aJQ hx)
  rw[show Be 3 true true ([x].map Ci.cells)=.imm 3 true [x.cells]from rfl]at hRx
  cases hb:decide (bs w N [x] (Ac w d,0)<Az)with
  |false=>
   rw[hb]at hRx
   have hi1:idx (fun x=> !decide (bs w N [x] (Ac w d,0)<Az)) (x::rest) (i:Int)=i:=if_pos (by simpa using hb)
   (have hb:=trivial;with_reducible repeat' (first|simp only[hb,Vc.down,seval,aXG.down,g1,g2,g3,g7,hdd,hww,hslx,hRx,abK]|refine An ?_ ?_<;>intro hb|refine fd ?_|fail))
   exact kQ _ _ _ ⟨⟨fl,xx,rfl⟩,.inr ⟨rfl,by rw[hi1];simp[up]⟩⟩
  |true=>
   rw[hb]at hRx
   have hi2:idx (fun x=> !decide (bs w N [x] (Ac w d,0)<Az)) rest ((i:Int)+1)=idx (fun x=> !decide (bs w N [x] (Ac w d,0)<Az)) (x::rest) (i:Int):=(if_neg (by simpa using hb)).symm
   (have hb:=trivial;with_reducible repeat' (first|simp only[hb,Vc.down,seval,aXG.down,g1,g2,g3,g7,hdd,hww,hslx,hRx,abK]|refine An ?_ ?_<;>intro hb|refine fd ?_|fail))
   exact Aq (kJ _ _ ((i:Int)+1) ⟨by simp,by simp[up,g1],by simp[up,g2],by simp[up,g3],by simp[up],⟨fl,xx,rfl⟩⟩ hi2)
 ·exact⟨rfl,by simp[up,Lx],by simp[up,Lx],by simp[up],by simp[up],⟨_,_,rfl⟩⟩
 rw[hans]at hk
 obtain⟨⟨fl,xx,rfl⟩,⟨rfl,e⟩|⟨rfl,g6⟩⟩:=hk
 ·rw[e]
  (have hb:=trivial;with_reducible repeat' (first|simp only[hb,Vc.down,seval,aXG.down]|refine An ?_ ?_<;>intro hb|refine fd ?_|fail))
 ·(have hb:=trivial;with_reducible repeat' (first|simp only[hb,Vc.down,seval,aXG.down,g6]|refine An ?_ ?_<;>intro hb|refine fd ?_|fail))
theorem aRC(kn:Dp.call (.fn 10) [] []=some (.ret (.bool true),[]))(w:Af)(hs:w.small)(d:Int)(l:List Ci)(nn:Bool)(hl:l.length≤maxLen):Dp.call (.fn 3) [.agg [.int .i64 w.rooms,.int .i64 w.need,Be 9 true w.nn (w.parts.map Ab.cells)],.int .i64 d,Be 3 true nn (l.map Ci.cells)] []=some (.ret (.bool true),[]):=by
 have h1:=a8Y w
 have hpl:=aWH w hs d l nn hl 0
 cases c1:aQI w with
 |false=>
  rw[c1]at h1
  (refine ce Tryz.func3 ?_;simp only[Tryz.f3];(have hb:=trivial;with_reducible repeat' (first|simp only[hb,Vc.down,seval,TY3.down,h1,kn,abK]|refine An ?_ ?_<;>intro hb|refine fd ?_|fail)))
 |true=>
 rw[c1]at h1
 cases c2:decide ((l.length:Int)>10)with
 |true=>
  (refine ce Tryz.func3 ?_;simp only[Tryz.f3];(have hb:=trivial;with_reducible repeat' (first|simp only[hb,Vc.down,seval,TY3.down,h1,kn,abK,c2]|refine An ?_ ?_<;>intro hb|refine fd ?_|fail)))
 |false=>
 by_cases c3:Js w d l 0=0
 rotate_left
 ·have c3':(Js w d l 0==0)=false:=by simpa using c3
  have hW:=bfT w hs d l nn hl c3
  (refine ce Tryz.func3 ?_;simp only[Tryz.f3];(have hb:=trivial;with_reducible repeat' (first|simp only[hb,Vc.down,seval,TY3.down,h1,kn,c2,hpl,c3',hW,bne,beq_self_eq_true,aBU,aBV,abK]|refine An ?_ ?_<;>intro hb|refine fd ?_|fail)))
 rw[c3]at hpl
 cases c4:decide ((w.parts.length:Int)>4)with
 |true=>
  (refine ce Tryz.func3 ?_;simp only[Tryz.f3];(have hb:=trivial;with_reducible repeat' (first|simp only[hb,Vc.down,seval,TY3.down,h1,kn,c2,hpl,c4,bne,beq_self_eq_true,aBU,aBV,abK]|refine An ?_ ?_<;>intro hb|refine fd ?_|fail)))
 |false=>
 obtain⟨h6,hwb,hdb,hgb,_,_⟩:=Ou c3
 obtain⟨N,hw,h12⟩:=aUF hwb
 have hW:=bjA hw hs d l nn hl c3
 have hR:=aJD hw d l nn hl c3
 have hY:=bd2 hw d l nn hl c3
 by_cases c5:bs w N l (Ac w d,0)<Az
 ·rw[if_pos c5]at hW
  rw[decide_eq_true c5]at hR
  (refine ce Tryz.func3 ?_;simp only[Tryz.f3];(have hb:=trivial;with_reducible repeat' (first|simp only[hb,Vc.down,seval,TY3.down,h1,kn,c2,hpl,c4,hW,hR,bne,beq_self_eq_true,aBU,aBV,abK]|refine An ?_ ?_<;>intro hb|refine fd ?_|fail)))
 ·rw[if_neg c5]at hW
  rw[decide_eq_false c5]at hR
  generalize aQ0 w N d l=z at *
  (refine ce Tryz.func3 ?_;simp only[Tryz.f3];(have hb:=trivial;with_reducible repeat' (first|simp only[hb,Vc.down,seval,TY3.down,h1,kn,c2,hpl,c4,hW,hR,hY,bne,beq_self_eq_true,aBU,aBV,abK]|refine An ?_ ?_<;>intro hb|refine fd ?_|fail)))
theorem aR0(hk:Dp.call (.fn 10) [] []=some (.ret (.bool true),[])):∀avs,aQP Tryz.prog 7 Tryz.f3.params.toList avs→Dp.call (.fn 3) avs []=some (.ret (.bool true),[]):=by
 intro avs h
 rw[show Tryz.f3.params.toList=[24,3,25]from rfl]at h
 match avs,h with
 | [a,b,c],h=>
   obtain⟨w,rfl,hs⟩:=a6C h.1
   obtain⟨d,rfl,_⟩:=bdH h.2.1
   obtain⟨nn,l,rfl,hl⟩:=a59 h.2.2.1
   exact aRC hk w hs d l nn hl
 | [],h=>exact h.elim
 | [_],h=>exact h.2.elim
 | [_,_],h=>exact h.2.2.elim
 |_::_::_::_::_,h=>exact h.2.2.2.elim
end Go.Proofs.YtcncggaobhbomaaGreatDoor
