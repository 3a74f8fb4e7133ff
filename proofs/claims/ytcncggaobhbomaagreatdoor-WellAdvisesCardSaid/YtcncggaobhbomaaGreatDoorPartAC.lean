/- The functions of the layer, walked. -/
import Derived.Test.YtcncggaobhbomaaGreatDoorPartAB
import Derived.Test.YtcncggaobhbomaaGreatDoorLibE
import Derived.Test.YtcncggaobhbomaaGreatDoorLibF
open Option renaming bind_some→aaB,map_some→afC,getD_some→akD,map_eq_some_iff→apH,bind_eq_some_iff→ax3
open List renaming replicate→aaM,mem_cons→abV,take→abZ,getElem?_set_ne→ab9,take_of_length_le→acH,length_map→aeN,not_mem_nil→aeQ,all_eq_true→ae5,getElem?_append_right→afO,getElem?_eq_getElem→afU,nil_append→ag0,getElem?_eq_some_iff→ag1,mem_of_getElem?→ag2,all_cons→ai9,getElem?_map→amE,mem_flatMap→amX,length_replicate→amZ,idxOf→apI,flatMap_def→apJ,getElem?_set_self→apL,drop→apM,cons_append→apN,map_set→as6,getElem?_cons_succ→aw3,mem_cons_of_mem→axH,mem_range→axI,replicate_succ→axJ,map_append→axK,ext_getElem?→axL,flatMap_cons→axM,drop_succ_cons→axP,getElem?_replicate→axR,mem_cons_self→axS,set_cons_succ→ayP,all_append→ayV,getElem?_cons_zero→aJY,take_append_of_le_length→aLB,getElem?_eq_none→aNZ,drop_zero→aO4,idxOf_cons→aR1,map_congr_left→aT1,mem_append→aU0
open Nat renaming le_refl→ag5,sub_self→aqK,add_sub_cancel_left→ax2
open Bool renaming false_eq_true→aiJ
open Int renaming lt_irrefl→apP,toNat_natCast→axQ
set_option linter.unusedSimpArgs false
set_option linter.unusedVariables false
namespace Go.Proofs.YtcncggaobhbomaaGreatDoor
open Go.Ev Go Go.Ev.Net
set_option maxRecDepth 100000
set_option maxHeartbeats 16000000
theorem ayL:Qg .nilp=[.nilp]:=Eq.trans rfl rfl
theorem aNT(n x:Nat):(aaM n x).sum=n*x:=by
 induction n with
 |zero=>simp
 |succ n ih=>rw[axJ,List.sum_cons,ih,Nat.succ_mul];omega
theorem af9:∀(l:List Nat) (s:Nat),(l.set s 0).sum≤l.sum
 | [],s=>by simp
 |a::l,0=>by simp
 |a::l,s+1=>by have:=af9 l s;simp;omega
theorem asS{N s far:Nat}(h:N≤8):(Vq N s far).sum≤8*far:=by
 unfold Vq
 refine Nat.le_trans (af9 _ _) ?_
 rw[aNT]
 exact Nat.mul_le_mul_right _ h
def tgB(x:Int × Bool):Bool:=x.1==0&& !x.2
def tgt(L:List (Int × Bool)):List Bool:=L.map tgB
theorem auR{w:Qf}{L:List (Int × Bool)}{i:Nat}{p:Qb}{x:Int × Bool}(hp:w.parts[i]?=some p)(hx:L[i]?=some x):(oO w (tgt L))[i]?=some (p.one.toNat,p.other.toNat,if tgB x=true then 1 else 0):=by
 unfold oO tgt
 rw[List.getElem?_zipWith,amE,hp,hx];rfl
theorem aiD{w:Qf}{d:Int}:oO w (tgt (Qc w d))=oO w (jK w d):=by
 have e:∀(l:List Qb) (r:List Bool) (f:Qb→Bool→Net.Edge),List.zipWith f l (l.map (fun p=>lW p d)++r)=List.zipWith f l (l.map fun p=>lW p d):=by
  intro l;induction l with
  |nil=>intro r f;simp
  |cons a l ih=>intro r f;simp[ih]
 unfold oO tgt Qc jK
 rw[axK,List.map_map]
 exact e _ _ _
theorem QS.app{v:AV}{q:List Nat}{H:Qa}{p:Nat}(h:QS v q H p)(l:Qa):QS v q (H++l) p:=by
 rcases h with h|⟨b,w,rows,r,h1,h2,h3⟩
 ·exact .inl h
 ·exact .inr ⟨b,w,rows,r,h1,Qh h2 l,h3⟩
theorem au4{h:Qa}{b:Nat}{c:CB}(hc:h[b]?=some c):h.set b c=h:=by
 refine axL fun i=>?_
 by_cases e:b=i
 ·subst e;rw[apL (Qr hc),hc]
 ·rw[ab9 e]
theorem pY:∀(L:List (Int × Bool)) (i:Nat) (a:Int) (b:Bool),L[i]?=some (a,b)→abZ 2 (apM (i*2) (To L))=[.int .i64 a,.bool b]
 | [],i,a,b,h=>by simp at h
 |x::L,0,a,b,h=>by simp at h;subst h;simp[To]
 |x::L,i+1,a,b,h=>by
  have ih:=pY L i a b (by simpa using h)
  rw[show(i+1)*2=(i*2)+1+1 by omega]
  simpa only[To,axM,apN,ag0,axP]using ih
theorem pX{w:Qf}{d:Int}{i:Nat}{p:Qb}(hx:w.parts[i]?=some p):(Qc w d)[i]?=some (Qs p d,p.opn):=by
 unfold Qc
 rw[List.getElem?_append_left (by rw[aeN];exact(ag1.1 hx).1),amE,hx];rfl
def no3:Nat→Nat→Nat→Prop:=fun _ _ _=>False
theorem afP{w:Qf}{N:Nat}(hw:mX w N)(h12:w.parts.length≤12){d:Int}{s:Nat}(hs:s<N){ps:List AV}{L:List (Int × Bool)}(hL12:L.length=12)(hps:ps=To L){wf:Bool}:
 ClQ Ub 58 [.ptr 0 0 0,.int .i64 (s:Int),.agg ps] [.live 4 false wf [[.int .i64 w.rooms,.int .i64 w.need,Rh 9 true w.nn (w.parts.map Qb.cells),.int .i64 d]]] fun o h'=>
  ∃(f:Bool) (ds:List Nat),o=.ret (.slr 1 1 0 N)∧h'=[.live 4 false wf [[.int .i64 w.rooms,.int .i64 w.need,Rh 9 true w.nn (w.parts.map Qb.cells),.int .i64 d]],.live 1 true f (ds.map Zv)]∧ds.length=N∧jY (oO w (tgt L)) s N Xt (fun v=>ds.getD v 0):=by
 have hr:=hw.rooms
 have n2:=hw.n2
 have n8:=hw.n8
 have hpl:ps.length=24:=by rw[hps,Rz];omega
 have hflat:ps.all AV.flat=true∧ps.all AV.isCell=true:=by
  subst hps
  have hform:∀x∈To L,(∃n,x=.int .i64 n)∨∃b,x=.bool b:=fun x hx=>by
   simp only[To,amX,abV,aeQ,or_false]at hx
   obtain⟨y,_,rfl|rfl⟩:=hx
   ·exact .inl ⟨_,rfl⟩
   ·exact .inr ⟨_,rfl⟩
  exact⟨ae5.2 fun x hx=>by rcases hform x hx with⟨n,rfl⟩|⟨b,rfl⟩<;>rfl,ae5.2 fun x hx=>by rcases hform x hx with⟨n,rfl⟩|⟨b,rfl⟩<;>rfl⟩
 obtain⟨hf1,hf2⟩:=hflat
 refine aAE rfl Tryz.func58 rfl rfl ?_
 simp only[Tryz.f58]
 simp only[hr]
 have h39:(N≤549755813888)=True:=eq_true (by omega)
 have m1:((N:Int)≤(N:Int))=True:=eq_true (Int.le_refl _)
 have m2:((N:Int)≤1099511627776)=True:=eq_true (by omega)
 (have hb:=trivial;with_reducible repeat' (first|simp only[hb,Vc.down,seval,hZ.down,hpl,hf1,hf2,h39,m1,m2,axQ]|refine Qm ?_ ?_<;>intro hb|refine fd ?_|fail))
 generalize hLK:(CB.live 4 false wf [[.int .i64 (N:Int),.int .i64 w.need,Rh 9 true w.nn (w.parts.map Qb.cells),.int .i64 d]])=LK
 refine Uj (lst 85 (aaM N ()) (fun i (_:Unit) t h=>t 0=.ptr 0 0 0∧t 1=.int .i64 (s:Int)∧t 5=.ptr 1 0 0∧t 7=.ptr 3 0 0∧t 23=.int .i64 (N:Int)∧t 24=.int .i64 (i:Int)∧∃f,h=[LK,.live 24 true false [ps],.live 1 true f ((aaM i Xt++aaM (N-i) 0).map Zv),.live 1 false true [[.slr 1 2 0 N]]]) (fun _ _=>())
  (fun _ e t h=>e=.exit 0∧t 0=.ptr 0 0 0∧t 1=.int .i64 (s:Int)∧t 5=.ptr 1 0 0∧t 7=.ptr 3 0 0∧∃f,h=[LK,.live 24 true false [ps],.live 1 true f ((aaM N Xt).map Zv),.live 1 false true [[.slr 1 2 0 N]]]) ?_ ?_ () _ _ ?_) (fun e t h hk=>?_)
 ·rintro _ t h Q' kQ ⟨g0,g1,g5,g7,g23,g24,f,rfl⟩
  rw[amZ]at g24
  (have hb:=trivial;with_reducible repeat' (first|simp only[hb,Vc.down,seval,hZ.down,g23,g24,apP,decide_false]|refine Qm ?_ ?_<;>intro hb|refine fd ?_|fail))
  exact kQ _ _ _ ⟨rfl,by simp[up,g0],by simp[up,g1],by simp[up,g5],by simp[up,g7],f,by simp⟩
 ·rintro x rest i _ t h J Q' kJ kQ hx hi ⟨g0,g1,g5,g7,g23,g24,f,rfl⟩
  rw[amZ]at hi
  have hdd:decide ((i:Int)<(N:Int))=true:=decide_eq_true (by omega)
  have hdi:((i:Int)<(N:Int))=True:=eq_true (by omega)
  have hww:=Sl (n:=N) hi (by unfold maxLen;omega)
  have hrow:((aaM i Xt++aaM (N-i) 0).map Zv)[i]?=some [.int .i64 0]:=by
   rw[amE,afO (by simp),amZ,aqK,axR,if_pos (by omega)]
   rfl
  have hnx:((aaM i Xt++aaM (N-i) 0).map Zv).set i [.int .i64 1048576]=(aaM (i+1) Xt++aaM (N-(i+1)) 0).map Zv:=by
   have e:N-i=(N-(i+1))+1:=by omega
   rw[show([.int .i64 1048576]:List AV)=Zv Xt from rfl,←as6,List.set_append_right _ _ (by simp),amZ,aqK,e,axJ,List.set_cons_zero,List.replicate_succ',List.append_assoc]
   rfl
  generalize(aaM i Xt++aaM (N-i) 0).map Zv=rows at *
  (have hb:=trivial;with_reducible repeat' (first|simp only[hb,Vc.down,seval,hZ.down,g0,g1,g5,g7,g23,g24,hdd,hdi,hww,hrow,hnx]|refine Qm ?_ ?_<;>intro hb|refine fd ?_|fail))
  exact Qq (kJ _ _ () ⟨by simp[up,g0],by simp[up,g1],by simp[up,g5],by simp[up,g7],by simp[up,g23],by simp[up],true,rfl⟩ rfl)
 ·exact⟨by simp[up,bF],by simp[up,bF],by simp[up],by simp[up],by simp[up],by simp[up],false,by simp[Zv]⟩
 obtain⟨rfl,g0,g1,g5,g7,f,rfl⟩:=hk
 have hrow:s<((aaM N Xt).map Zv).length:=by simpa using hs
 have hz:((aaM N Xt).map Zv)[s]?=some [.int .i64 1048576]:=by rw[amE,axR,if_pos hs];rfl
 have hin:((aaM N Xt).map Zv).set s [.int .i64 0]=(Vq N s Xt).map Zv:=by rw[Vq,as6];rfl
 have o1:((s:Int)<(N:Int))=True:=eq_true (by omega)
 generalize hrw:(aaM N Xt).map Zv=rows at *
 obtain⟨q1,hq1⟩:∃q,Fn.func 75=q:=⟨_,rfl⟩
 obtain⟨q2,hq2⟩:∃q,Fn.func 76=q:=⟨_,rfl⟩
 have hLq:LK.quiet LK.clean=true:=by rw[←hLK];rfl
 obtain⟨es,M,b1,b2,b3,b4,⟨v',fl',b5,b6,b7⟩,b8,_⟩:=aRX (h:=[LK,.live 24 true false [ps],.live 1 true true ((Vq N s Xt).map Zv),.live 1 false true [[.slr 1 2 0 N]],.live 1 false false [[.nils]],.live 1 false true [[.ptr 4 0 0]]]) (mD fun c hc=>by
  simp only[abV,aeQ,or_false]at hc
  rcases hc with rfl|rfl|rfl|rfl|rfl|rfl
  ·exact hLq
  all_goals rfl) (p:=4) s rfl (.inl ⟨rfl,rfl⟩) (by simp)
 rw[hq1]at b1
 simp only[ag0]at b6
 obtain⟨es2,M2,c1,c2,c3,c4,⟨v2,fl2,c5,c6,c7⟩,c8⟩:=aSI b4 b5 b6 (by simp)
 rw[hq2]at c1
 have k3:=b8 3 _ (by simp[dB]) rfl
 have k5:=b8 5 _ (by simp[dB]) rfl
 have j3:=c8 3 _ (by omega) k3
 have j5:=c8 5 _ (by omega) k5
 have j0:=c8 0 _ (by omega) (b8 0 _ (by simp[dB]) rfl)
 have j1:=c8 1 _ (by omega) (b8 1 _ (by simp[dB]) rfl)
 have j2:=c8 2 _ (by omega) (b8 2 _ (by simp[dB]) rfl)
 (have hb:=trivial;with_reducible repeat' (first|simp only[hb,Vc.down,seval,hZ.down,g0,g1,g5,g7,hz,hin,o1,hq1,hq2,b1,b2,c1,c2,k3,k5,j3,j5,ayL,axQ]|refine Qm ?_ ?_<;>intro hb|refine fd ?_|fail))
 generalize hE:oO w (tgt L)=E at *
 have hEo:xP E N:=by rw[←hE];exact qP hw _
 have I0:=aIL (E:=E) (far:=Xt) hs hEo
 have hsum:(Vq N s Xt).sum≤8*1048576:=asS n8
 refine Uj (cnt 85 (fun n (_:Unit) t h=>t 0=.ptr 0 0 0∧t 1=.int .i64 (s:Int)∧t 5=.ptr 1 0 0∧t 7=.ptr 3 0 0∧t 9=.ptr 5 0 0∧∃dd q k,DiH LK true ps N h dd q [k]∧2*dd.sum+q.length≤20000000∧
  ((t 11=.bool true∧∃room w,t 10=.ptr k 0 0∧6≤k∧h[k]?=some (.live 1 true w [[.int .i64 (room:Nat)]])∧pP E s N Xt dd (room::q) no3∧2*dd.sum+q.length+1≤n)∨(t 11=.bool false∧q=[]∧pP E s N Xt dd [] no3))) (fun _ _=>())
  (fun _ e t h=>e=.exit 2∧t 7=.ptr 3 0 0∧∃dd k,DiH LK true ps N h dd [] [k]∧pP E s N Xt dd [] no3) ?_ ?_ (2*(Vq N s Xt).sum+1) () _ _ ?_) (fun e t h hk=>?_)
 ·rintro _ t h Q' kQ ⟨g0,g1,g5,g7,g9,dd,q,k,hD,hql,⟨g11,room,w5,g10,_,_,_,hm⟩|⟨g11,rfl,hI⟩⟩
  ·omega
  ·(have hb:=trivial;with_reducible repeat' (first|simp only[hb,Vc.down,seval,hZ.down,g11]|refine Qm ?_ ?_<;>intro hb|refine fd ?_|fail))
   exact kQ _ _ _ ⟨rfl,by simp[up,g7],dd,k,hD,hI⟩
 ·rintro n _ t h J Q' kJ kQ ⟨g0,g1,g5,g7,g9,dd,q,k,hD,hql,⟨g11,room,w5,g10,hk6,hkb,hI,hm⟩|⟨g11,rfl,hI⟩⟩
  ·obtain⟨f,v,fl,w',i0,i1,i2,i3,i5,i4,iQ,iB,iq⟩:=hD
   have hat:=boF w d (room:Int) false
   rw[hr]at hat
   subst hLK
   (have hb:=trivial;with_reducible repeat' (first|simp only[hb,Vc.down,seval,hZ.down,g0,g1,g5,g7,g9,g10,g11,i0,i1,i2,i3,i5,hkb,hat]|refine Qm ?_ ?_<;>intro hb|refine fd ?_|fail))
   obtain⟨rN,rI⟩:=pP.take hI
   have hkl:=Qr hkb
   generalize hLP:CB.lp _ _ _ _ _=LP
   obtain⟨LK,hLK⟩:∃c:CB,c=CB.live 4 false wf [[.int .i64 (N:Int),.int .i64 w.need,Rh 9 true w.nn (w.parts.map Qb.cells),.int .i64 d]]:=⟨_,rfl⟩
   refine a8L (boL hw (d:=d) (r:=(room:Int)) (lb:=h.length) (rb:=h.length+1) (kb:=0) (fun i h'=>∃dd' q',DiH LK.clean false ps N h' dd' q' [k,h.length,h.length+1,h.length+2]∧pP E s N Xt dd' q' (eX E room i)∧2*dd'.sum+q'.length≤2*dd.sum+q.length∧(∃w1,h'[k]?=some (.live 1 true w1 [[.int .i64 (room:Nat)]]))∧(∃w1,h'[h.length]?=some (.live 1 false w1 [[.ptr 0 0 0]]))∧(∃w1,h'[h.length+1]?=some (.live 1 true w1 [[.int .i64 (room:Nat)]]))∧h'[h.length+2]?=some LP∧h.length+3≤h'.length∧iF (h++[.live 1 false false [[.ptr 0 0 0]],.live 1 true false [[.int .i64 (room:Nat)]],LP]) h') ?_ ?_ ?_ ?_ ?_ ?_ ?_) ?_
   ·rintro i h' ⟨dd',q',_,_,_,_,hb1,_⟩
    exact hb1
   ·rintro i h' ⟨dd',q',⟨f,v,fl,w',i0,_⟩,_⟩
    rw[hr]
    exact⟨false,by rw[i0,hLK];rfl⟩
   ·rintro i h' ⟨dd',q',_,_,_,_,_,hb2,_⟩
    exact hb2
   ·rintro i h' fl wf rows ⟨dd',q',k1,k3,k4,⟨a0,k5⟩,⟨a1,k6⟩,⟨a2,k7⟩,k8,k9,kO⟩
    exact⟨dd',q',k1.app rfl,k3,k4,⟨a0,Qh k5 _⟩,⟨a1,Qh k6 _⟩,⟨a2,Qh k7 _⟩,Qh k8 _,by simp;omega,kO.app _⟩
   ·rintro i p u h' hpx hu ⟨dd',q',⟨f',v',fl',w2,j0,j1,j2,j3,j5,j4,jQ,jB,jq⟩,k3,k4,⟨a0,k5⟩,⟨a1,k6⟩,⟨a2,k7⟩,k8,k9,kO⟩
    have round:RnQ Ub ([.int .i64 i,.int .i64 u]++[.yl (h.length+2)]) (Xe h') fun o G=>o=.ret (.bool true)∧iF h' G∧∃dd2 q2,DiH LK.clean false ps N (bH h' G) dd2 q2 [k,h.length,h.length+1,h.length+2]∧pP E s N Xt dd2 q2 (eX E room (i+1))∧2*dd2.sum+q2.length≤2*dd.sum+q.length∧(∀b∈[k,h.length,h.length+1,h.length+2],(bH h' G)[b]?=h'[b]?)∧h'.length≤(bH h' G).length:=by
     have hir:room<N:=rN
     have hpo:=hw.part p (ag2 hpx)
     have hil:i<w.parts.length:=(ag1.1 hpx).1
     obtain⟨pc,hpc⟩:∃x,L[i]?=some x:=⟨_,afU (by omega)⟩
     have he:=auR hpx hpc
     rw[hE]at he
     obtain⟨to,rfl,htN,hrt,hto⟩:∃to:Nat,u=(to:Int)∧to<N∧room≠to∧(E[i]?=some (room,to,if tgB pc=true then 1 else 0)∨E[i]?=some (to,room,if tgB pc=true then 1 else 0)):=by
      rcases hu with⟨h1,h2⟩|⟨h1,h2,h3⟩
      ·exact⟨p.other.toNat,by omega,by omega,by omega,.inl (by rw[he,h1];rfl)⟩
      ·exact⟨p.one.toNat,by omega,by omega,by omega,.inr (by rw[he,h2];rfl)⟩
     have hi12:((i:Int)<12)=True:=eq_true (by omega)
     have hp24:(i*2+2≤24)=True:=eq_true (by omega)
     have htk:abZ 2 (apM (i*2) ps)=[.int .i64 pc.1,.bool pc.2]:=by
      rw[hps];exact pY _ _ _ _ hpc
     have htt:=aE1 pc.1 pc.2
     rw[show(pc.1==0&& !pc.2)=tgB pc from rfl]at htt
     have hdl:=k3.i.len
     have hrm:=aaY (d:=dd') (a:=room) (by omega)
     have htm:=aaY (d:=dd') (a:=to) (by omega)
     have hst:∀n:Nat,(dd'.map Zv).set to [.int .i64 (n:Int)]=(dd'.set to n).map Zv:=fun n=>by rw[as6];rfl
     have hrf:=k3.i.le room rN
     have hrf2:dd'.getD room 0≤1048576:=hrf
     have I0:=k3.same hto
     have I1:=fun q'=>k3.less (q':=q') rN htN hrt hto
     have hrN:((room:Int)<(N:Int))=True:=eq_true (by omega)
     have htN':((to:Int)<(N:Int))=True:=eq_true (by omega)
     have hbit:=bhC (tgB pc)
     have hsum:∀x,x<dd'.getD to 0→(dd'.set to x).sum<dd'.sum:=fun x hx=>nP (by omega) hx
     generalize dd'.getD room 0=xr at *
     generalize dd'.getD to 0=xt at *
     generalize hrows:dd'.map Zv=rows at *
     have hbc:=Ux k8
     have hb0:LP.clean=LP:=by rw[←hLP];rfl
     rw[hb0]at hbc
     have hne2:∀(b:Nat) (c X:CB),b≠h.length+2→h'[b]?=some c→((Xe h').set (h.length+2) X)[b]?=some c.clean:=fun b c X hn hc=>by rw[ab9 (fun e=>hn e.symm),Ux hc]
     have h6:=Qr i5
     have g0':=fun X=>hne2 0 _ X (by omega) j0
     have g1':=fun X=>hne2 1 _ X (by omega) j1
     have g2':=fun X=>hne2 2 _ X (by omega) j2
     have g3':=fun X=>hne2 3 _ X (by omega) j3
     have g5':=fun X=>hne2 5 _ X (by omega) j5
     have gk':=fun X=>hne2 k _ X (by omega) k5
     simp only[CB.clean]at g1' g2' g3' g5' gk'
     have hlw:∀n,n≤1048577→IntKind.i64.wrap (n:Nat)=(n:Int):=fun n hn=>Re (by omega) (by omega)
     have hself:∀X:CB,((Xe h').set (h.length+2) X)[h.length+2]?=some X:=fun X=>apL (Qr hbc)
     have hback:∀X:CB,(((Xe h').set (h.length+2) X).set (h.length+2) LP)=Xe h':=fun X=>by
      rw[List.set_set];exact au4 hbc
     have sm:=aJ8 (l:=[]) jq
     simp only[List.append_nil]at sm
     have fin0:∀(dx:pP E s N Xt dd' q' (eX E room (i+1))),(Tz.ret (AV.bool true)=.ret (.bool true))∧iF h' (Xe h')∧∃dd2 q2,DiH LK.clean false ps N (bH h' (Xe h')) dd2 q2 [k,h.length,h.length+1,h.length+2]∧pP E s N Xt dd2 q2 (eX E room (i+1))∧2*dd2.sum+q2.length≤2*dd.sum+q.length∧(∀b∈[k,h.length,h.length+1,h.length+2],(bH h' (Xe h'))[b]?=h'[b]?)∧h'.length≤(bH h' (Xe h')).length:=fun dx=>by
      rw[sm.2]
      exact⟨rfl,sm.1,dd',q',⟨f',v',fl',w2,j0,j1,by rw[hrows];exact j2,j3,j5,j4,jQ,jB,jq⟩,dx,k4,fun b _=>rfl,ag5 _⟩
     have hq':q'.length≤100000000:=by omega
     have hK6:∀b∈[k,h.length,h.length+1,h.length+2],6≤b∧b<h'.length:=fun b hb1=>by
      simp only[abV,aeQ,or_false]at hb1
      omega
     have hnx:∀(b:Nat) (c X Y:CB),b≠h.length+2→b≠2→h'[b]?=some c→(((Xe h').set (h.length+2) X).set 2 Y)[b]?=some c.clean:=fun b c X Y n1 n2 hc=>by rw[ab9 (fun e=>n2 e.symm)];exact hne2 b c X n1 hc
     have n5:=fun X Y=>hnx 5 _ X Y (by omega) (by omega) j5
     have n4:=fun X Y=>hnx 4 _ X Y (by omega) (by omega) j4
     have nB:∀X Y:CB,(((Xe h').set (h.length+2) X).set 2 Y)[h.length+2]?=some X:=fun X Y=>by rw[ab9 (by omega)];exact hself X
     simp only[CB.clean]at n5 n4
     have nQ:∀X Y,QS v' q' (((Xe h').set (h.length+2) X).set 2 Y) 4:=fun X Y=>by
      rcases QS.cln jQ with h1|⟨b,w0,rows0,r0,h1,h2,h3⟩
      ·exact .inl h1
      ·have hbb:=jB b (by rw[h1];simp[dB])
       simp only[abV,aeQ,or_false,not_or]at hbb
       exact .inr ⟨b,w0,rows0,r0,h1,by rw[ab9 (by omega),ab9 (by omega)];exact h2,h3⟩
     have hlen2:∀X Y:CB,(((Xe h').set (h.length+2) X).set 2 Y).length=h'.length:=fun X Y=>by simp[Su]
     have nqt:∀(X:CB) (Y:List (List AV)),X.quiet X.clean=true→Qy (((Xe h').set (h.length+2) X).set 2 (.live 1 true true Y))=true:=fun X Y hX=>Uw (Uw (eY jq) _ hX) _ rfl
     have fin1:∀{n:Nat} {q2:List Nat} {M:Qa} {Y:List Nat} {LB:CB} {v2:AV} {fl2:Bool},pP E s N Xt (dd'.set to n) q2 (eX E room (i+1))→n<xt→q2.length=q'.length+1→h'.length≤M.length→Qy M=true→M[4]?=some (.live 1 fl2 true [[v2]])→QS v2 q2 M 4→(∀b∈dB v2,h'.length≤b)→
      (∀b c,b∉Y→(((Xe h').set (h.length+2) LB).set 2 (.live 1 true true ((dd'.set to n).map Zv)))[b]?=some c→M[b]?=some c)→4∈Y→(∀b∈Y,b=4∨(b∈dB v'∧M[b]?=some .dead))→
      (Tz.ret (AV.bool true)=.ret (.bool true))∧iF h' (M.set (h.length+2) LP)∧∃dd2 q2,DiH LK.clean false ps N (bH h' (M.set (h.length+2) LP)) dd2 q2 [k,h.length,h.length+1,h.length+2]∧pP E s N Xt dd2 q2 (eX E room (i+1))∧2*dd2.sum+q2.length≤2*dd.sum+q.length∧(∀b∈[k,h.length,h.length+1,h.length+2],(bH h' (M.set (h.length+2) LP))[b]?=h'[b]?)∧h'.length≤(bH h' (M.set (h.length+2) LP)).length:=fun {n q2 M Y LB v2 fl2} dx hn hq2 m1 m2 m3 m4 m5 m6 hY hY'=>by
      have hr:=auS (K:=[k,h.length,h.length+1,h.length+2]) j0 j1 (by rw[hrows];exact j2) j3 j5 j4 jQ jB jq k8 (by simp) hK6 hb0 (by rw[←hLP];rfl) m1 m2 m3 m4 m5 m6 hY hY'
      exact⟨rfl,hr.1,dd'.set to n,q2,hr.2.1,dx,by have:=hsum n hn;omega,hr.2.2.1,hr.2.2.2⟩
     have nbv:h.length+2∉4::dB v':=fun hx=>by
      rcases abV.1 hx with hx|hx
      ·omega
      ·have:=(jB _ hx).2;simp at this
     have mq:∀x,x∈q'++[to]↔x=to∨x∈q':=fun x=>by simp;exact Or.comm
     have mq2:∀x,x∈to::q'↔x=to∨x∈q':=fun x=>by simp
     cases htb:tgB pc with
     |true=>
      have hw1:IntKind.i64.wrap ((xr:Int)+1)=((xr+1:Nat):Int):=by have:=hlw (xr+1) (by omega);simpa using this
      rw[htb]at htt hbit I0 I1
      simp only[if_true]at I0 I1 hbit
      by_cases hle:xt≤xr+1
      ·have hle':(((xr+1:Nat):Int)≥(xt:Int))=True:=eq_true (by omega)
       have fz:=fin0 (I0 hle)
       subst hLP
       refine aJB hbc rfl ?_
       (have hb:=trivial;with_reducible repeat' (first|simp only[hb,Vc.down,seval,hZ.down,k8,g0,g1,g5,g7,g9,g10,g0',g1',g2',g3',g5',gk',Wn,hi12,hp24,hpl,htk,htt,hbit,hrm,htm,hrN,htN',hw1,hle',hself,hback]|refine Qm ?_ ?_<;>intro hb|refine fd ?_|fail))
       exact⟨_,_,rfl,fz⟩
      ·have hle':(((xr+1:Nat):Int)≥(xt:Int))=False:=eq_false (by omega)
       subst hLP
       refine aJB hbc rfl ?_
       (have hb:=trivial;with_reducible repeat' (first|simp only[hb,Vc.down,seval,hZ.down,k8,g0,g1,g5,g7,g9,g10,g0',g1',g2',g3',g5',gk',Wn,hi12,hp24,hpl,htk,htt,hbit,hrm,htm,hrN,htN',hw1,hle',hst]|refine Qm ?_ ?_<;>intro hb|refine fd ?_|fail))
       generalize hLB:CB.lp _ _ _ _ Yl.busy=LB
       obtain⟨q1,hq1⟩:∃q,Fn.func 75=q:=⟨_,rfl⟩
       obtain⟨es,M,b1,b2,b3,b4,⟨v2,fl2,b5,b6,b7⟩,b8,b9⟩:=aRX (nqt LB ((dd'.set to (xr+1)).map Zv) (by rw[←hLB];rfl)) to (n4 LB _) (nQ LB _) hq'
       rw[hq1]at b1
       have n5':=n5 LB
       have mB:=b8 _ _ nbv (nB LB _)
       have fz:=fin1 (I1 (q'++[to]) (by omega) mq) (by omega) (by simp) (by rw[hlen2]at b3;exact b3) b4 b5 b6 (by rw[hlen2]at b7;exact b7) b8 (axS ..) (fun b hb1=>(abV.1 hb1).imp id fun hb1=>⟨hb1,b9 b hb1⟩)
       subst hLB
       (have hb:=trivial;with_reducible repeat' (first|simp only[hb,Vc.down,seval,hZ.down,n5',hq1,b1,b2,mB]|refine Qm ?_ ?_<;>intro hb|refine fd ?_|fail))
       exact⟨_,_,rfl,fz⟩
     |false=>
      have hw1:IntKind.i64.wrap ((xr:Int)+0)=((xr:Nat):Int):=by have:=hlw xr (by omega);simpa using this
      rw[htb]at htt hbit I0 I1
      simp only[aiJ,if_false,Nat.add_zero]at I0 I1 hbit
      by_cases hle:xt≤xr
      ·have hle':((xr:Int)≥(xt:Int))=True:=eq_true (by omega)
       have fz:=fin0 (I0 hle)
       subst hLP
       refine aJB hbc rfl ?_
       (have hb:=trivial;with_reducible repeat' (first|simp only[hb,Vc.down,seval,hZ.down,k8,g0,g1,g5,g7,g9,g10,g0',g1',g2',g3',g5',gk',Wn,hi12,hp24,hpl,htk,htt,hbit,hrm,htm,hrN,htN',hw1,hle',hself,hback]|refine Qm ?_ ?_<;>intro hb|refine fd ?_|fail))
       exact⟨_,_,rfl,fz⟩
      ·have hle':((xr:Int)≥(xt:Int))=False:=eq_false (by omega)
       subst hLP
       refine aJB hbc rfl ?_
       (have hb:=trivial;with_reducible repeat' (first|simp only[hb,Vc.down,seval,hZ.down,k8,g0,g1,g5,g7,g9,g10,g0',g1',g2',g3',g5',gk',Wn,hi12,hp24,hpl,htk,htt,hbit,hrm,htm,hrN,htN',hw1,hle',hst]|refine Qm ?_ ?_<;>intro hb|refine fd ?_|fail))
       generalize hLB:CB.lp _ _ _ _ Yl.busy=LB
       obtain⟨q1,hq1⟩:∃q,Fn.func 79=q:=⟨_,rfl⟩
       obtain⟨es,M,b1,b2,b3,b4,⟨v2,fl2,b5,b6,b7⟩,b8⟩:=blK (nqt LB ((dd'.set to xr).map Zv) (by rw[←hLB];rfl)) to (n4 LB _) (nQ LB _) hq'
       rw[hq1]at b1
       have n5':=n5 LB
       have mB:=b8 _ _ (by omega) (nB LB _)
       have fz:=fin1 (Y:=[4]) (I1 (to::q') (by omega) mq2) (by omega) (by simp) (by rw[hlen2]at b3;exact b3) b4 b5 b6 (by rw[hlen2]at b7;exact b7) (fun b c hn=>b8 b c (by simpa using hn)) (axS ..) (fun b hb1=>.inl (by simpa using hb1))
       subst hLB
       (have hb:=trivial;with_reducible repeat' (first|simp only[hb,Vc.down,seval,hZ.down,n5',hq1,b1,b2,mB]|refine Qm ?_ ?_<;>intro hb|refine fd ?_|fail))
       exact⟨_,_,rfl,fz⟩
    obtain⟨o,G,es,e1,e2,rfl,z0,dd2,q2,z1,z2,z3,z4,z5⟩:=aOB round (fun o G h=>h.2.1.sh)
    refine⟨es,e1,?_⟩
    rw[e2]
    exact⟨dd2,q2,z1,z2,z3,⟨a0,by rw[z4 k (by simp)];exact k5⟩,⟨a1,by rw[z4 _ (by simp)];exact k6⟩,⟨a2,by rw[z4 _ (by simp)];exact k7⟩,by rw[z4 _ (by simp)];exact k8,by omega,kO.trans z0⟩
   ·rintro i p h' hpx n1 n2 ⟨dd',q',k1,k3,k4,k5,k6,k7,k8,k9⟩
    have hpo:=hw.part p (ag2 hpx)
    obtain⟨pc,hpc⟩:∃x,L[i]?=some x:=⟨_,afU (by have:=(ag1.1 hpx).1;omega)⟩
    have he:=auR hpx hpc
    rw[hE]at he
    exact⟨dd',q',k1,k3.skip he (by omega) (by omega),k4,k5,k6,k7,k8,k9⟩
   ·have cl:∀(b:Nat) (c:CB),h[b]?=some c→(Xe h++[CB.live 1 false false [[.ptr 0 0 0]],.live 1 true false [[.int .i64 (room:Nat)]],LP])[b]?=some c.clean:=fun b c hc=>Qh (Ux hc) _
    have ca:∀j,(Xe h++[CB.live 1 false false [[.ptr 0 0 0]],.live 1 true false [[.int .i64 (room:Nat)]],LP])[h.length+j]?=[CB.live 1 false false [[.ptr 0 0 0]],.live 1 true false [[.int .i64 (room:Nat)]],LP][j]?:=fun j=>by
     rw[afO (by rw[Su];omega),Su,ax2]
    have hLc:LP.clean=LP:=by rw[←hLP];rfl
    have hLq:LP.quiet LP=true:=by rw[←hLP];rfl
    have hok:iF (h++[.live 1 false false [[.ptr 0 0 0]],.live 1 true false [[.int .i64 (room:Nat)]],LP]) (Xe h++[.live 1 false false [[.ptr 0 0 0]],.live 1 true false [[.int .i64 (room:Nat)]],LP]):=by
     have:=iF.cl (H:=h++[.live 1 false false [[.ptr 0 0 0]],.live 1 true false [[.int .i64 (room:Nat)]],LP]) (Uu iq (by simp only[Qy,ai9,hLc,hLq];rfl))
     rw[show Xe (h++[CB.live 1 false false [[.ptr 0 0 0]],.live 1 true false [[.int .i64 (room:Nat)]],LP])=Xe h++[CB.live 1 false false [[.ptr 0 0 0]],.live 1 true false [[.int .i64 (room:Nat)]],LP] by simp only[Xe,axK,List.map_cons,List.map_nil,hLc];rfl]at this
     exact this
    refine⟨dd,q,⟨false,v,fl,false,by rw[hLK];exact cl 0 _ i0,cl 1 _ i1,cl 2 _ i2,cl 3 _ i3,cl 5 _ i5,cl 4 _ i4,?_,fun b hb1=>?_,Uu (eY iq) (by simp only[Qy,ai9,hLc,hLq];rfl)⟩,rI,ag5 _,⟨_,cl k _ hkb⟩,⟨false,ca 0⟩,⟨false,ca 1⟩,ca 2,by simp[Su],hok⟩
    ·rcases QS.cln iQ with h|⟨b,w',rows,r,h1,h2,h3⟩
     ·exact .inl h
     ·exact .inr ⟨b,w',rows,r,h1,Qh h2 _,h3⟩
    ·have:=(iQ.lt b hb1).1
     have:=iB b hb1
     simp at this ⊢
     omega
   ·rintro o h' ⟨rfl,dd',q',⟨f',v',fl',w2,j0,j1,j2,j3,j5,j4,jQ,jB,jq⟩,k3,k4,⟨a0,k5⟩,⟨a1,k6⟩,⟨a2,k7⟩,k8,k9,kO⟩
    have hl5:=Qr i5
    have hLc:LP.clean=LP:=by rw[←hLP];rfl
    have hLq:LP.quiet LP=true:=by rw[←hLP];rfl
    obtain⟨h1,hh1⟩:∃H:Qa,h++[.live 1 false false [[.ptr 0 0 0]],.live 1 true false [[.int .i64 (room:Nat)]],LP]=H:=⟨_,rfl⟩
    have hB1:h1[h.length+2]?=some LP:=by rw[←hh1,afO (by omega),ax2];rfl
    have hq1:Qy h1=true:=by rw[←hh1];exact Uu iq (by simp only[Qy,ai9,hLc,hLq];rfl)
    have hO:∀(b:Nat) (c:CB),h[b]?=some c→h1[b]?=some c:=fun b c hc=>by rw[←hh1];exact Qh hc _
    simp only[hh1]at kO ⊢
    obtain⟨es,e1,e2⟩:=kL h1 h' [] kO.sh
    have e1':Si 0 h1 h'=some es:=e1
    simp only[ag0]at e2
    have m0:=iF.old (hO 0 _ i0) j0 (by rw[hLK];rfl)
    have m1:=iF.old (hO 1 _ i1) j1 rfl
    obtain⟨x2,m2⟩:=kO.live j2
    have m3:=iF.old (hO 3 _ i3) j3 rfl
    have m5:=iF.old (hO 5 _ i5) j5 rfl
    obtain⟨x4,m4⟩:=kO.live j4
    obtain⟨xk,mk_⟩:=kO.live k5
    have mQ:=jQ.okw kO
    have mB:=iF.old hB1 k8 hLq
    have mqt:=kO.quiet hq1 jq
    have mln:h'.length≤(bH h1 h').length:=by rw[fH kO.1];exact ag5 _
    generalize hM:bH h1 h'=M at *
    rw[vK,e1']
    have dne:∀(b:Nat) (c:CB),b≠h.length+2→M[b]?=some c→(M.set (h.length+2) .dead)[b]?=some c:=fun b c hn hc=>by rw[ab9 (fun e=>hn e.symm)];exact hc
    have hkn:k≠h.length+2:=by omega
    have d0:=dne 0 _ (by omega) m0
    have d1:=dne 1 _ (by omega) m1
    have d2:=dne 2 _ (by omega) m2
    have d3:=dne 3 _ (by omega) m3
    have d5:=dne 5 _ (by omega) m5
    have d4:=dne 4 _ (by omega) m4
    have dk:=dne k _ hkn mk_
    have dq:Qy (M.set (h.length+2) .dead)=true:=Uw mqt _ rfl
    have dl:(M.set (h.length+2) .dead).length=M.length:=by simp
    have dQ:QS v' q' (M.set (h.length+2) .dead) 4:=by
     rcases mQ with h1|⟨b,w0,rows0,r0,h1,h2,h3⟩
     ·exact .inl h1
     ·have hbb:=jB b (by rw[h1];simp[dB])
      simp only[abV,aeQ,or_false,not_or]at hbb
      exact .inr ⟨b,w0,rows0,r0,h1,dne b _ (by omega) h2,h3⟩
    subst hLP
    (have hb:=trivial;with_reducible repeat' (first|simp only[hb,Vc.down,seval,hZ.down,e2,mB]|refine Qm ?_ ?_<;>intro hb|refine fd ?_|fail))
    generalize hD:M.set (h.length+2) CB.dead=D at *
    (have hb:=trivial;with_reducible repeat' (first|simp only[hb,Vc.down,seval,hZ.down,g0,g1,g5,g7,g9,g10,dk,d5]|refine Qm ?_ ?_<;>intro hb|refine fd ?_|fail))
    have p5:=Qh d5 [CB.live 1 true true [[.int .i64 (room:Int)]]]
    have p4:=Qh d4 [CB.live 1 true true [[.int .i64 (room:Int)]]]
    have pq:Qy (D++[CB.live 1 true true [[.int .i64 (room:Int)]]])=true:=Uu dq rfl
    have pQ:=dQ.app [CB.live 1 true true [[.int .i64 (room:Int)]]]
    have pk:(D++[CB.live 1 true true [[.int .i64 (room:Int)]]])[D.length]?=some (.live 1 true true [[.int .i64 (room:Int)]]):=by simp
    have hEl:E.length≤w.parts.length:=by rw[←hE];simp[oO,tgt];omega
    have k3':=k3.done hEl
    have hD6:6≤D.length:=by omega
    have hvD:∀b∈dB v',6≤b∧b∉[D.length]:=fun b hb1=>by
     have h1:=(dQ.lt b hb1).1
     have h2:=(jB b hb1).1
     exact⟨h2,by simp;omega⟩
    obtain⟨q1,hq1⟩:∃q,Fn.func 76=q:=⟨_,rfl⟩
    cases q' with
    |nil=>
     have b1:=bl6 pq p4 pQ
     rw[hq1]at b1
     (have hb:=trivial;with_reducible repeat' (first|simp only[hb,Vc.down,seval,hZ.down,p5,hq1,b1]|refine Qm ?_ ?_<;>intro hb|refine fd ?_|fail))
     refine Qq (kJ _ _ () ⟨by simp[up,g0],by simp[up,g1],by simp[up,g5],by simp[up,g7],by simp[up,g9],dd',[],D.length,?_,?_,.inr ⟨by simp[up],rfl,k3'⟩⟩ rfl)
     ·exact⟨_,_,_,_,Qh d0 _,Qh d1 _,Qh d2 _,Qh d3 _,Qh d5 _,Qh d4 _,dQ.app _,hvD,Uu dq rfl⟩
     ·omega
    |cons x q'=>
     simp only[List.length_cons]at k4
     obtain⟨es,M4,b1,b2,b3,b4,⟨v2,fl2,b5,b6,b7⟩,b8⟩:=aSI pq p4 pQ (by omega)
     rw[hq1]at b1
     have r5:=b8 _ _ (by omega) p5
     have rk:=b8 _ _ (by omega) pk
     (have hb:=trivial;with_reducible repeat' (first|simp only[hb,Vc.down,seval,hZ.down,p5,hq1,b1,b2,rk,r5]|refine Qm ?_ ?_<;>intro hb|refine fd ?_|fail))
     have sne:∀(b:Nat) (c:CB),b<D.length→b≠4→D[b]?=some c→(M4.set D.length (.live 1 true true [[.int .i64 (x:Int)]]))[b]?=some c:=fun b c h1 h2 hc=>by
      rw[ab9 (by omega)];exact b8 b c h2 (Qh hc _)
     have hl4:=Qr rk
     refine Qq (kJ _ _ () ⟨by simp[up,g0],by simp[up,g1],by simp[up,g5],by simp[up,g7],by simp[up,g9],dd',q',D.length,?_,by omega,.inl ⟨by simp[up],x,true,by simp[up],hD6,apL hl4,k3',by omega⟩⟩ rfl)
     refine⟨_,v2,fl2,true,sne 0 _ (by omega) (by omega) d0,sne 1 _ (by omega) (by omega) d1,sne 2 _ (by omega) (by omega) d2,sne 3 _ (by omega) (by omega) d3,sne 5 _ (by omega) (by omega) d5,by rw[ab9 (by omega)];exact b5,?_,fun b hb1=>hvD b (by rw[←b7];exact hb1),Uw b4 _ rfl⟩
     rcases b6 with h1|⟨b,w0,rows0,r0,h1,h2,h3⟩
     ·exact .inl h1
     ·have hbb:=hvD b (by rw[←b7,h1];simp[dB])
      simp only[abV,aeQ,or_false]at hbb
      exact .inr ⟨b,w0,rows0,r0,h1,by rw[ab9 (fun e=>hbb.2 e.symm)];exact h2,h3⟩
  ·(have hb:=trivial;with_reducible repeat' (first|simp only[hb,Vc.down,seval,hZ.down,g11]|refine Qm ?_ ?_<;>intro hb|refine fd ?_|fail))
   exact kQ _ _ _ ⟨rfl,by simp[up,g7],dd,k,hD,hI⟩
 ·refine⟨by simp[up,g0],by simp[up,g1],by simp[up,g5],by simp[up,g7],by simp[up],Vq N s Xt,[],M2.length,?_,by simp only[List.length_nil];omega,.inl ⟨by simp[up],s,true,by simp[up],by simp at b3;omega,by rw[afO (ag5 _),aqK];rfl,I0,by simp⟩⟩
  refine⟨true,v2,fl2,true,Qh j0 _,Qh j1 _,Qh j2 _,Qh j3 _,Qh j5 _,Qh c5 _,?_,?_,Uu c4 rfl⟩
  ·rcases c6 with h|⟨b,w',rows,r,h1,h2,h3⟩
   ·exact .inl h
   ·exact .inr ⟨b,w',rows,r,h1,Qh h2 _,h3⟩
  ·intro b hb1
   have:=c6.lt b hb1
   rw[c7]at hb1
   have h6:=b7 b hb1
   simp at h6
   exact⟨h6,by simp;omega⟩
 obtain⟨rfl,g7,dd,k,⟨f,v,fl,w',i0,i1,i2,i3,i5,i4,iQ,iB,iq⟩,hI⟩:=hk
 have hR:=hI.right hs hEo (by unfold Xt;omega)
 have hdl:=hI.i.len
 have hln:(dd.map Zv).length=N:=by simp[hdl]
 subst hLK
 (have hb:=trivial;with_reducible repeat' (first|simp only[hb,Vc.down,seval,hZ.down,g7,i3,i2,i0,hln]|refine Qm ?_ ?_<;>intro hb|refine fd ?_|fail))
 exact⟨f,dd,rfl,hdl,hR⟩
theorem Ym(L:List (Int × Bool)):∀x∈To L,(∃n,x=.int .i64 n)∨∃b,x=.bool b:=fun x hx=>by
 simp only[To,amX,abV,aeQ,or_false]at hx
 obtain⟨y,_,rfl|rfl⟩:=hx
 ·exact .inl ⟨_,rfl⟩
 ·exact .inr ⟨_,rfl⟩
theorem Wx(L:List (Int × Bool)):(To L).all AV.flat=true:=ae5.2 fun x hx=>by rcases Ym L x hx with⟨n,rfl⟩|⟨b,rfl⟩<;>rfl
theorem Wy(L:List (Int × Bool)):(To L).all AV.isCell=true:=ae5.2 fun x hx=>by rcases Ym L x hx with⟨n,rfl⟩|⟨b,rfl⟩<;>rfl
theorem qA(L:List (Int × Bool))(d:Nat)(g:HF):Qo (Vk (d+1) g) (To L)=some (To L):=ab3 fun x hx=>by rcases Ym L x hx with⟨n,rfl⟩|⟨b,rfl⟩<;>rfl
theorem qR(L:List (Int × Bool))(d:Nat)(g:HF):(To L).flatMap (Qp (d+1) g)=[]:=List.flatMap_eq_nil_iff.2 fun x hx=>by rcases Ym L x hx with⟨n,rfl⟩|⟨b,rfl⟩<;>rfl
theorem gJ(L:List (Int × Bool))(d:Nat)(m:List Nat):Rk.refL (Rk (d+1)) m (To L)=some (To L,m):=Vt fun x hx=>by rcases Ym L x hx with⟨n,rfl⟩|⟨b,rfl⟩<;>rfl
theorem uF(L:List (Int × Bool))(d:Nat)(f:Nat→Nat):Qo (Rq (d+1) f) (To L)=some (To L):=ab3 fun x hx=>by rcases Ym L x hx with⟨n,rfl⟩|⟨b,rfl⟩<;>rfl
theorem tQ(L:List (Int × Bool))(d:Nat):(To L).any (hasImm (d+1))=false:=List.any_eq_false.2 fun x hx=>by rcases Ym L x hx with⟨n,rfl⟩|⟨b,rfl⟩<;>simp[hasImm]
def iD(w:Qf)(N:Nat)(L:List (Int × Bool)):Nat:=sV (oO w (tgt L)) N w.parts.length
theorem oQ{w:Qf}{N:Nat}(hw:mX w N)(h12:w.parts.length≤12)(d:Int){L:List (Int × Bool)}(hL12:L.length=12)(wf:Bool):
 Ub.call (.fn 51) [.ptr 0 0 0,.agg (To L)] [.live 4 false wf [[.int .i64 w.rooms,.int .i64 w.need,Rh 9 true w.nn (w.parts.map Qb.cells),.int .i64 d]]]=some (.ret (.int .i64 (iD w N L:Nat)),[.live 4 false wf [[.int .i64 w.rooms,.int .i64 w.need,Rh 9 true w.nn (w.parts.map Qb.cells),.int .i64 d]]]):=by
 have n2:=hw.n2
 have n8:=hw.n8
 obtain⟨o,h',hc,f,ds,rfl,rfl,hdl,hR⟩:=afP hw h12 (d:=d) (s:=0) (by omega) hL12 rfl (wf:=false)
 have hne:=a8G (len:=w.parts.length) n2 (by omega) (by unfold Xt;omega) (qP hw (tgt L)) hR
 have hf1:=Wx L
 have hf2:=Wy L
 have hpl:(To L).length=24:=by rw[Rz];omega
 have hd1:=aaY (d:=ds) (a:=1) (by omega)
 have h1N:((1:Int)<(N:Int))=True:=eq_true (by omega)
 have hle:ds.getD 1 0≤1048576:=by
  by_cases e:ds.getD 1 0=Xt
  ·rw[e];exact ag5 _
  ·have:=(jY.num hR hR (by unfold Xt;omega) (by unfold Xt;omega) (by omega) (qP hw (tgt L)) (v:=1) (by omega)).2.2 e
   have:ds.getD 1 0<N:=this
   omega
 have hN1:iD w N L=if ds.getD 1 0=Xt then w.parts.length+1 else ds.getD 1 0:=hne.symm
 rw[hN1]
 have hav:=qA L
 have hlv:=qR L
 have hrf:=gJ L
 simp only[Int.natCast_zero]at hc
 generalize To L=ps at *
 have htk:abZ 24 ps=ps:=acH (by omega)
 generalize ds.getD 1 0=x at *
 generalize ds.map Zv=rows at *
 have hwr:IntKind.i64.wrap ((w.parts.length:Int)+1)=((w.parts.length+1:Nat):Int):=by have:=Re (n:=((w.parts.length+1:Nat):Int)) (by omega) (by omega);simpa using this
 by_cases e:x=Xt
 ·have e1:((x:Int)==1048576)=true:=by rw[e];rfl
  rw[if_pos e]
  refine ce Tryz.func51 ?_
  simp only[Tryz.f51]
  (have hb:=trivial;with_reducible repeat' (first|simp only[hb,Vc.down,seval,biE.down,hpl,hf1,hf2,htk,hav,hlv,hrf,hc,hd1,h1N,e1,hwr,aeN]|refine Qm ?_ ?_<;>intro hb|refine fd ?_|fail))
 ·have e1:((x:Int)==1048576)=false:=by simp;exact fun h=>e (by unfold Xt;omega)
  rw[if_neg e]
  refine ce Tryz.func51 ?_
  simp only[Tryz.f51]
  (have hb:=trivial;with_reducible repeat' (first|simp only[hb,Vc.down,seval,biE.down,hpl,hf1,hf2,htk,hav,hlv,hrf,hc,hd1,h1N,e1,aeN]|refine Qm ?_ ?_<;>intro hb|refine fd ?_|fail))
theorem uC{w:Qf}{d:Int}(h12:w.parts.length≤12):(Qc w d).length=12:=by simp[Qc];omega
theorem tX{w:Qf}{N:Nat}{d:Int}:iD w N (Qc w d)=eQ w N d:=by unfold iD eQ;rw[aiD]
theorem acL{α:Type}{d:List AV→Option α}{f:α→List AV}(hd:∀cs x,d cs=some x→cs=f x):∀{rows:List (List AV)} {l:List α},Qo d rows=some l→rows=l.map f
 | [],l,h=>by simp[Qo]at h;subst h;rfl
 |r::rows,l,h=>by
  simp only[Qo,ax3,apH]at h
  obtain⟨x,h1,l',h2,rfl⟩:=h
  rw[hd r x h1,acL hd h2];rfl
def dSl{α:Type}(n:Nat)(fl:Bool)(d:List AV→Option α):AV→Option (Bool × List α)
 | .nils=>some (false,[])
 | .imm n' fl' rows=>if n'=n∧fl'=fl then(Qo d rows).map fun l=>(true,l)else none
 |_=>none
theorem baS{α:Type}{n:Nat}{fl:Bool}{d:List AV→Option α}{f:α→List AV}(hd:∀cs x,d cs=some x→cs=f x){v:AV}{x:Bool × List α}(h:dSl n fl d v=some x):v=Rh n fl x.1 (x.2.map f):=by
 unfold dSl at h
 split at h
 ·cases h;rfl
 ·split at h
  ·rename_i hq
   obtain⟨rfl,rfl⟩:=hq
   obtain⟨l,h1,rfl⟩:=apH.1 h
   rw[acL hd h1]
   cases l<;>rfl
  ·cases h
 ·cases h
def avT:List AV→Option Qb
 | [.int .i64 a,.int .i64 b,.bool c,.bool d,.int .i64 e,.int .i64 f,.bool g,.int .i64 h,.int .i64 i]=>some ⟨a,b,c,d,e,f,g,h,i⟩
 |_=>none
theorem aqQ(cs:List AV)(x:Qb)(h:avT cs=some x):cs=x.cells:=by
 unfold avT at h
 split at h
 ·cases h;rfl
 ·cases h
def aqJ:List AV→Option (List (Int × Bool))
 | []=>some []
 | .int .i64 a::.bool b::l=>(aqJ l).map fun r=>(a,b)::r
 |_=>none
theorem akS:∀(cs:List AV) (x:List (Int × Bool)),aqJ cs=some x→cs=To x
 | [],x,h=>by simp[aqJ]at h;subst h;rfl
 | .int .i64 a::.bool b::l,x,h=>by
   simp only[aqJ,apH]at h
   obtain⟨r,h1,rfl⟩:=h
   rw[akS l r h1];rfl
def bhQ:List AV→Qa→Option (Tz × Qa)
 | [.ptr 0 0 0,.agg ps],[.live 4 false wf [[.int .i64 rooms,.int .i64 need,sl,.int .i64 d]]]=>
   (dSl 9 true avT sl).bind fun x=>(aqJ ps).bind fun L=>if(Wb ⟨rooms,need,x.1,x.2⟩&&decide (L.length=12))=true then
     some (.ret (.int .i64 (iD ⟨rooms,need,x.1,x.2⟩ rooms.toNat L:Nat)),[.live 4 false wf [[.int .i64 rooms,.int .i64 need,sl,.int .i64 d]]])else none
 |_,_=>none
def pr2:aW:={ pr with at_:=fun f=>if f=51 then some bhQ else pr f }
theorem blF(f:Nat)(h:pr2 f=none):pr f=none:=by
 simp only[pr2]at h
 split at h
 ·cases h
 ·exact h
theorem a5M:∀f p,pr2 f=some p→∀a h r,p a h=some r→Ub.call (.fn f) a h=some r:=by
 intro f p hp a h r hr
 simp only[pr2]at hp
 split at hp
 ·rename_i hf
  subst hf
  cases hp
  unfold bhQ at hr
  split at hr
  ·rename_i ps wf rooms need sl d
   simp only[ax3]at hr
   obtain⟨x,h1,L,h2,h3⟩:=hr
   split at h3
   ·rename_i hs
    simp only[Bool.and_eq_true,decide_eq_true_eq]at hs
    cases h3
    obtain⟨N,hw,h12⟩:=akR hs.1
    have hN:rooms.toNat=N:=by have:=hw.rooms;simp only at this;omega
    rw[baS aqQ h1,akS _ _ h2,hN]
    exact oQ hw h12 d hs.2 wf
   ·cases h3
  ·cases hr
 ·exact akB hp hr
theorem an9:(eG Tryz.prog pr2 100).call (.fn 10) [] []=some (.ret (.bool true),[]):=by kernel_rfl
theorem ar4:Ub.call (.fn 10) [] []=some (.ret (.bool true),[]):=aeO (pr:=pr) (pr2:=pr2) rfl blF a5M an9
def aiY(w:Qf):Bool:=decide ((w.parts.length:Int)≤15)
theorem az0(w:Qf):Ub.call (.fn 9) [.agg [.int .i64 w.rooms,.int .i64 w.need,Rh 9 true w.nn (w.parts.map Qb.cells)]] []=some (.ret (.bool (aiY w)),[]):=by
 cases c:aiY w
 ·have h:decide ((w.parts.length:Int)≤15)=false:=c
  (refine ce Tryz.func9 ?_;simp only[Tryz.f9];(have hb:=trivial;with_reducible repeat' (first|simp only[hb,Va.down,seval,TY9.down,h,aeN]|refine Qm ?_ ?_<;>intro hb|refine fd ?_|fail)))
 ·have h:decide ((w.parts.length:Int)≤15)=true:=c
  (refine ce Tryz.func9 ?_;simp only[Tryz.f9];(have hb:=trivial;with_reducible repeat' (first|simp only[hb,Va.down,seval,TY9.down,h,aeN]|refine Qm ?_ ?_<;>intro hb|refine fd ?_|fail)))
theorem adT:∀(L:List (Int × Bool)) (i:Nat) (a:Int) (b:Bool),i<L.length→abZ (i*2) (To L)++(.int .i64 a::.bool b::apM (i*2+2) (To L))=To (L.set i (a,b))
 | [],i,a,b,h=>by simp at h
 |x::L,0,a,b,h=>by simp[To]
 |x::L,i+1,a,b,h=>by
  have ih:=adT L i a b (by simpa using h)
  rw[show(i+1)*2=(i*2)+1+1 by omega,show(i*2)+1+1+2=(i*2+2)+1+1 by omega]
  simp only[To,axM,apN,ag0,List.take_succ_cons,axP,ayP]at ih ⊢
  rw[←ih]
theorem iR(L:List (Int × Bool))(d:Nat):(To L).all (Qv (d+1))=true:=ae5.2 fun x hx=>by rcases Ym L x hx with⟨n,rfl⟩|⟨b,rfl⟩<;>rfl
def Sz(k:Int)(b:Bool)(x:Int × Bool):Int × Bool:=if k=1 then(x.1,true)else if k=2 then(x.1,false)else if k=3 then(if b=true then(0,x.2)else(2,x.2))else(0,x.2)
theorem axB(c:Int)(o b:Bool):Ub.call (.fn 112) [.agg [.int .i64 c,.bool o],.bool b] []=some (.ret (.agg [.int .i64 c,.bool true]),[]):=by
 (refine ce Tryz.func112 ?_;simp only[Tryz.f112];(have hb:=trivial;with_reducible repeat' (first|simp only[hb,Vc.down,seval,biY.down]|refine Qm ?_ ?_<;>intro hb|refine fd ?_|fail)))
theorem atX(c:Int)(o b:Bool):Ub.call (.fn 113) [.agg [.int .i64 c,.bool o],.bool b] []=some (.ret (.agg [.int .i64 c,.bool false]),[]):=by
 (refine ce Tryz.func113 ?_;simp only[Tryz.f113];(have hb:=trivial;with_reducible repeat' (first|simp only[hb,Vc.down,seval,bmI.down]|refine Qm ?_ ?_<;>intro hb|refine fd ?_|fail)))
theorem arV(c:Int)(o b:Bool):Ub.call (.fn 114) [.agg [.int .i64 c,.bool o],.bool b] []=some (.ret (.agg [.int .i64 (if b=true then 0 else 2),.bool o]),[]):=by
 cases b<;>(refine ce Tryz.func114 ?_;simp only[Tryz.f114];(have hb:=trivial;with_reducible repeat' (first|simp only[hb,Vc.down,seval,bmN.down]|refine Qm ?_ ?_<;>intro hb|refine fd ?_|fail)))
theorem anA(c:Int)(o b:Bool):Ub.call (.fn 115) [.agg [.int .i64 c,.bool o],.bool b] []=some (.ret (.agg [.int .i64 0,.bool o]),[]):=by
 (refine ce Tryz.func115 ?_;simp only[Tryz.f115];(have hb:=trivial;with_reducible repeat' (first|simp only[hb,Vc.down,seval,bmK.down]|refine Qm ?_ ?_<;>intro hb|refine fd ?_|fail)))
def yL:CB:=.lp [] .skip .skip [.int .i64 1,.func (.func 112) [] [],.int .i64 2,.func (.func 113) [] [],.int .i64 3,.func (.func 114) [] [],.int .i64 4,.func (.func 115) [] []] .map
theorem ab4:Ub.call (.fn 92) [] []=some (.ret (.mapr 0),[yL]):=by
 exact aeO (pr:=pr) (pr2:=pr) (n:=10) rfl (fun f hf=>hf) (fun f p hp a h r hr=>akB hp hr) (by kernel_rfl)
def fnD(k:Int):Nat:=if k=1 then 112 else if k=2 then 113 else if k=3 then 114 else 115
theorem aA3{h:Qa}{b:Nat}(hb:h[b]?=some yL){k:Int}(hk:k=1∨k=2∨k=3∨k=4):lk Tryz.prog h 146 (some (.mapr b)) (some (.int .i64 k)) false=some (.ret (.func (.func (fnD k)) [] []),[]):=by
 have key:∀k:Int,k=1∨k=2∨k=3∨k=4→(Uz Tryz.prog (fun _=>some yL) 146 (.mapr 0) (.int .i64 k) false).map (fun d=>(d.v,d.es))=some (.func (.func (fnD k)) [] [],[]):=fun k hk=>by
  rcases hk with rfl|rfl|rfl|rfl<;>kernel_rfl
 have e:(Uz Tryz.prog (hf h) 146 (.mapr b) (.int .i64 k) false).map (fun d=>(d.v,d.es))=(Uz Tryz.prog (fun _=>some yL) 146 (.mapr 0) (.int .i64 k) false).map (fun d=>(d.v,d.es)):=by
  unfold Uz
  simp only[Tryz.underlying146]
  have hm:cZ (hf h) b=cZ (fun _=>some yL) 0:=by simp only[cZ,hf,hb]
  simp only[hm]
  split
  ·generalize cZ (fun _=>some yL) 0=m
   cases m with
   |none=>rfl
   |some kvs=>
    simp only[aaB]
    generalize gX _ _ _ kvs 0=r
    cases r with
    |none=>rfl
    |some r=>
     simp only[aaB]
     generalize Vi _ _=z
     cases z<;>rfl
  ·rfl
 rw[key k hk]at e
 simp only[lk,aaB]
 obtain⟨d,hd,h2⟩:=apH.1 e
 rw[hd]
 simp only[Prod.mk.injEq]at h2
 obtain⟨v,es,fs⟩:=d
 obtain⟨rfl,rfl⟩:=h2
 rfl
theorem aa6{L:List (Int × Bool)}(hL:L.length=12){i:Nat}{x:Int × Bool}(hx:L[i]?=some x){k:Int}(hk:k=1∨k=2∨k=3∨k=4)(b:Bool):
 Ub.call (.fn 74) [.agg (To L),.agg [.int .i64 k,.int .i64 (i:Int)],.bool b] []=some (.ret (.agg (To (L.set i (Sz k b x)))),[]):=by
 have hi:i<L.length:=(ag1.1 hx).1
 have hpl:(To L).length=24:=by rw[Rz];omega
 have hf1:=Wx L
 have hf2:=Wy L
 have htk:=pY _ _ _ _ hx
 have hst:=fun a b=>adT L i a b hi
 have hpl2:∀a b,(To (L.set i (a,b))).length=24:=fun a b=>by rw[Rz];simp;omega
 have hfl2:=fun a b=>Wx (L.set i (a,b))
 have hce2:=fun a b=>Wy (L.set i (a,b))
 have hrf2:=fun a b=>gJ (L.set i (a,b))
 have hpv2:=fun a b=>iR (L.set i (a,b))
 have i12:((i:Int)<12)=True:=eq_true (by omega)
 have hp24:(i*2+2≤24)=True:=eq_true (by omega)
 have htk24:abZ 24 (To L)=To L:=acH (by omega)
 have htk2:∀a b,abZ (24-i*2) [AV.int .i64 a,AV.bool b]=[AV.int .i64 a,AV.bool b]:=fun a b=>acH (by simp;omega)
 have htk3:∀a b,abZ 24 (To (L.set i (a,b)))=To (L.set i (a,b)):=fun a b=>acH (by rw[hpl2];omega)
 obtain⟨a,o⟩:=x
 have hrm:∀f,Vm f yL=some yL:=fun f=>rfl
 have him:yL.hasImm=false:=rfl
 have rv:∀(f:Nat→Nat) (b:Nat),Rq 8 f (.mapr b)=some (.mapr (f b)):=fun _ _=>rfl
 have hlk:=fun(h:Qa) (b':Nat) (hb':h[b']?=some yL)=>aA3 hb' hk
 have q1:=axB a o b
 have q2:=atX a o b
 have q3:=arV a o b
 have q4:=anA a o b
 rcases hk with rfl|rfl|rfl|rfl
 ·rw[show fnD 1=112 from rfl]at hlk
  rw[show Sz 1 b (a,o)=(a,true)from rfl]
  refine ce Tryz.func74 ?_
  simp only[Tryz.f74]
  (have hb:=trivial;with_reducible repeat' (first|simp only[hb,Vc.down,seval,az6.down,hpl,hf1,hf2,htk,ab4,i12,hp24,hrm,him,rv,hlk,q1,Wn,hst,hpl2,hfl2,hce2,hrf2,htk24,htk2,htk3,hpv2]|refine Qm ?_ ?_<;>intro hb|refine fd ?_|fail))
 ·rw[show fnD 2=113 from rfl]at hlk
  rw[show Sz 2 b (a,o)=(a,false)from rfl]
  refine ce Tryz.func74 ?_
  simp only[Tryz.f74]
  (have hb:=trivial;with_reducible repeat' (first|simp only[hb,Vc.down,seval,az6.down,hpl,hf1,hf2,htk,ab4,i12,hp24,hrm,him,rv,hlk,q2,Wn,hst,hpl2,hfl2,hce2,hrf2,htk24,htk2,htk3,hpv2]|refine Qm ?_ ?_<;>intro hb|refine fd ?_|fail))
 ·rw[show fnD 3=114 from rfl]at hlk
  rw[show Sz 3 b (a,o)=(if b=true then(0,o)else(2,o))from rfl]
  rw[show(if b=true then((0:Int),o)else(2,o))=((if b=true then 0 else 2),o) by cases b<;>rfl]
  refine ce Tryz.func74 ?_
  simp only[Tryz.f74]
  (have hb:=trivial;with_reducible repeat' (first|simp only[hb,Vc.down,seval,az6.down,hpl,hf1,hf2,htk,ab4,i12,hp24,hrm,him,rv,hlk,q3,Wn,hst,hpl2,hfl2,hce2,hrf2,htk24,htk2,htk3,hpv2]|refine Qm ?_ ?_<;>intro hb|refine fd ?_|fail))
 ·rw[show fnD 4=115 from rfl]at hlk
  rw[show Sz 4 b (a,o)=(0,o)from rfl]
  refine ce Tryz.func74 ?_
  simp only[Tryz.f74]
  (have hb:=trivial;with_reducible repeat' (first|simp only[hb,Vc.down,seval,az6.down,hpl,hf1,hf2,htk,ab4,i12,hp24,hrm,him,rv,hlk,q4,Wn,hst,hpl2,hfl2,hce2,hrf2,htk24,htk2,htk3,hpv2]|refine Qm ?_ ?_<;>intro hb|refine fd ?_|fail))
def qJ(p:Qb)(x:Int × Bool)(k:Int):Bool:=if k=1 then p.valve&& !x.2 else if k=2 then p.valve&&x.2 else if k=3 then !x.2&&x.1==1 else !x.2
theorem bf2(p:Qb)(x:Int × Bool){k:Int}(hk:k=1∨k=2∨k=3∨k=4):Ub.call (.fn 54) [.agg p.cells,.agg [.int .i64 x.1,.bool x.2],.int .i64 k] []=some (.ret (.bool (qJ p x k)),[]):=by
 obtain⟨a,o⟩:=x
 obtain⟨p1,p2,p3,p4,p5,p6,p7,p8,p9⟩:=p
 simp only[Qb.cells]
 rcases hk with rfl|rfl|rfl|rfl
 ·cases p3<;>cases o<;>(refine ce Tryz.func54 ?_;simp only[Tryz.f54];(have hb:=trivial;with_reducible repeat' (first|simp only[hb,Vc.down,seval,aAV.down]|refine Qm ?_ ?_<;>intro hb|refine fd ?_|fail)))
  all_goals rfl
 ·cases p3<;>cases o<;>(refine ce Tryz.func54 ?_;simp only[Tryz.f54];(have hb:=trivial;with_reducible repeat' (first|simp only[hb,Vc.down,seval,aAV.down]|refine Qm ?_ ?_<;>intro hb|refine fd ?_|fail)))
  all_goals rfl
 ·cases o<;>cases h:(a==1)<;>(refine ce Tryz.func54 ?_;simp only[Tryz.f54];(have hb:=trivial;with_reducible repeat' (first|simp only[hb,Vc.down,seval,aAV.down,h]|refine Qm ?_ ?_<;>intro hb|refine fd ?_|fail)))
  all_goals (simp only[qJ,h];rfl)
 ·cases o<;>(refine ce Tryz.func54 ?_;simp only[Tryz.f54];(have hb:=trivial;with_reducible repeat' (first|simp only[hb,Vc.down,seval,aAV.down]|refine Qm ?_ ?_<;>intro hb|refine fd ?_|fail)))
  all_goals rfl
theorem aN3(p:Qb){k:Int}(hk:k=1∨k=2∨k=3∨k=4):Ub.call (.fn 57) [.agg p.cells,.int .i64 k] []=some (.ret (.int .i64 (if k=3 then p.test else if k=4 then p.change else 1)),[]):=by
 simp only[Qb.cells]
 rcases hk with rfl|rfl|rfl|rfl<;>(refine ce Tryz.func57 ?_;simp only[Tryz.f57];(have hb:=trivial;with_reducible repeat' (first|simp only[hb,Vc.down,seval,bo8.down]|refine Qm ?_ ?_<;>intro hb|refine fd ?_|fail)))
 all_goals rfl
def Vl(w:Qf)(N:Nat)(L:List (Int × Bool)):Int:=if(iD w N L:Int)<w.need then(iD w N L:Int)else w.need
def Yq(w:Qf)(N:Nat)(L:List (Int × Bool))(k:Int)(i:Nat)(b:Bool)(x:Int × Bool):Bool:=
 (!(k==4)|| !decide ((iD w N (L.set i (2,x.2)):Int)<Vl w N L))&&decide ((iD w N (L.set i (Sz k b x)):Int)≥Vl w N L)
theorem a4U{w:Qf}{N:Nat}(hw:mX w N)(h12:w.parts.length≤12)(d:Int){L:List (Int × Bool)}(hL:L.length=12){i:Nat}{x:Int × Bool}(hx:L[i]?=some x){k:Int}(hk:k=1∨k=2∨k=3∨k=4)(b:Bool)(wf:Bool):
 Ub.call (.fn 55) [.ptr 0 0 0,.agg (To L),.agg [.int .i64 k,.int .i64 (i:Int)],.bool b] [.live 4 false wf [[.int .i64 w.rooms,.int .i64 w.need,Rh 9 true w.nn (w.parts.map Qb.cells),.int .i64 d]]]=some (.ret (.bool (Yq w N L k i b x)),[.live 4 false wf [[.int .i64 w.rooms,.int .i64 w.need,Rh 9 true w.nn (w.parts.map Qb.cells),.int .i64 d]]]):=by
 have hi:i<L.length:=(ag1.1 hx).1
 have hn0:=oQ hw h12 d hL false
 have hn1:=oQ hw h12 d (L:=L.set i (2,x.2)) (by simpa using hL) false
 have hn2:=oQ hw h12 d (L:=L.set i (Sz k b x)) (by simpa using hL) false
 have ha:=aa6 hL hx hk b
 have hlb:Vl w N L=if(iD w N L:Int)<w.need then(iD w N L:Int)else w.need:=rfl
 have hsf:Yq w N L k i b x=((!(k==4)|| !decide ((iD w N (L.set i (2,x.2)):Int)<Vl w N L))&&decide ((iD w N (L.set i (Sz k b x)):Int)≥Vl w N L)):=rfl
 rw[hsf]
 have hmn:sF (.int .i64 w.need) (.int .i64 (iD w N L:Nat))=some (.int .i64 (Vl w N L)):=rfl
 generalize Vl w N L=lb at *
 generalize(iD w N L:Nat)=n0 at *
 generalize(iD w N (L.set i (2,x.2)):Nat)=n1 at *
 generalize(iD w N (L.set i (Sz k b x)):Nat)=n2 at *
 have f0:=Wx L
 have c0:=Wy L
 have v0:=qA L
 have l0:=qR L
 have r0:=gJ L
 have p0:=iR L
 have hpl:(To L).length=24:=by rw[Rz];omega
 have htk:=acH (l:=To L) (i:=24) (by omega)
 have f2:=Wx (L.set i (Sz k b x))
 have c2:=Wy (L.set i (Sz k b x))
 have v2:=qA (L.set i (Sz k b x))
 have l2:=qR (L.set i (Sz k b x))
 have r2:=gJ (L.set i (Sz k b x))
 have p2:=iR (L.set i (Sz k b x))
 have n2':=uF (L.set i (Sz k b x))
 have i2:=tQ (L.set i (Sz k b x))
 generalize To (L.set i (Sz k b x))=ps2 at *
 have i12:((i:Int)<12)=True:=eq_true (by omega)
 have hpz:(i*2≤23)=True:=eq_true (by omega)
 have hs1:=vN L i x.1 2 x.2 hx
 have ht1:abZ (24-i*2) [AV.int .i64 2]=[AV.int .i64 2]:=acH (by simp;omega)
 have f1:=Wx (L.set i (2,x.2))
 have c1:=Wy (L.set i (2,x.2))
 have v1:=qA (L.set i (2,x.2))
 have l1:=qR (L.set i (2,x.2))
 have r1:=gJ (L.set i (2,x.2))
 have hpl1:(To (L.set i (2,x.2))).length=24:=by rw[Rz];simp;omega
 have htk1:=acH (l:=To (L.set i (2,x.2))) (i:=24) (by omega)
 simp only[apN,ag0]at hs1
 generalize To (L.set i (2,x.2))=ps1 at *
 generalize To L=ps at *
 refine ce Tryz.func55 ?_
 simp only[Tryz.f55]
 rw[hlb]
 cases q4:(k==4)
 ·cases q2:decide ((n2:Int)≥if(n0:Int)<w.need then(n0:Int)else w.need)
  all_goals (have hb:=trivial;with_reducible repeat' (first|simp only[hb,Vc.down,seval,a1M.down,q4,hn0,hn2,ha,hmn,f0,c0,v0,l0,r0,p0,hpl,htk,f2,c2,v2,l2,r2,p2,n2',i2]|refine Qm ?_ ?_<;>intro hb|refine fd ?_|fail))
  all_goals simp only[ge_iff_le]at q2
  all_goals rw[q2]
 ·cases q1:decide ((n1:Int)<if(n0:Int)<w.need then(n0:Int)else w.need)
  ·cases q2:decide ((n2:Int)≥if(n0:Int)<w.need then(n0:Int)else w.need)
   all_goals (have hb:=trivial;with_reducible repeat' (first|simp only[hb,Vc.down,seval,a1M.down,q1,q4,hn0,hn1,hn2,ha,hmn,f0,c0,v0,l0,r0,p0,hpl,htk,f1,c1,v1,l1,r1,hpl1,htk1,f2,c2,v2,l2,r2,p2,n2',i2,Wn,i12,hpz,hs1,ht1]|refine Qm ?_ ?_<;>intro hb|refine fd ?_|fail))
   all_goals simp only[ge_iff_le]at q2
   all_goals rw[q2]
  ·(have hb:=trivial;with_reducible repeat' (first|simp only[hb,Vc.down,seval,a1M.down,q1,q4,hn0,hn1,hn2,ha,hmn,f0,c0,v0,l0,r0,p0,hpl,htk,f1,c1,v1,l1,r1,hpl1,htk1,f2,c2,v2,l2,r2,p2,n2',i2,Wn,i12,hpz,hs1,ht1]|refine Qm ?_ ?_<;>intro hb|refine fd ?_|fail))
abbrev St:=List (Int × Bool) × Nat
def Ss(s:St):List AV:=To s.1++[.int .i64 (s.2:Int)]
def lE(p:Qb)(k:Int):Int:=if k=3 then p.test else if k=4 then p.change else 1
structure Zw where
 k:Int
 i:Nat
 c:Int
 to:List St
def toF(L:List (Int × Bool))(f:Nat)(k:Int)(i:Nat)(x:Int × Bool):List St:=(L.set i (Sz k true x),f)::if k=3∧0<f then [(L.set i (Sz k false x),f-1)]else []
def choF(w:Qf)(N:Nat)(s:St)(k:Int)(i:Nat):Option Zw:=
 match w.parts[i]?,s.1[i]? with
 |some p,some x=>if(qJ p x k&&Yq w N s.1 k i true x)=true then some ⟨k,i,lE p k,toF s.1 s.2 k i x⟩else none
 |_,_=>none
def lB(w:Qf)(N:Nat)(s:St)(k:Int):List Zw:=(List.range w.parts.length).filterMap (choF w N s k)
def Tj(w:Qf)(N:Nat)(s:St):List Zw:=lB w N s 1++(lB w N s 2++(lB w N s 3++lB w N s 4))
structure Ua where
 part:Int
 opn:Bool
 good:Bool
def Ua.cells(x:Ua):List AV:=[.int .i64 x.part,.bool x.opn,.bool x.good]
def qQ(L:List (Int × Bool))(x:Ua):Bool:=match L[x.part.toNat]? with
 |some q=>q.2==x.opn&&(!x.good||q.1==0)
 |none=>false
def lG(L:List (Int × Bool))(l:List Ua):Bool:=l.all (qQ L)
def cK(w:Qf)(N:Nat)(l:List Ua):Go.Ev.Vd St:=⟨fun s=>lG s.1 l,fun s=>(Tj w N s).map fun o=>(o.c.toNat,o.to)⟩
theorem Yr{s:St}(h:s.1.length=12):(Ss s).length=25:=by simp[Ss,Rz,h]
theorem Wl(s:St):(Ss s).all AV.flat=true:=by
 unfold Ss;rw[ayV,Wx];rfl
theorem Wz(s:St):(Ss s).all AV.isCell=true:=by
 unfold Ss;rw[ayV,Wy];rfl
theorem uN{L:List (Int × Bool)}{i:Nat}{x:Int × Bool}(h:L[i]?=some x):Zx.partOf Tryz.prog 80 (To L) (i*2)=some (.agg [.int .i64 x.1,.bool x.2]):=by
 have h1:cU Tryz.prog 80=some true:=by kernel_rfl
 have h2:aL Tryz.prog 80=some 2:=by kernel_rfl
 obtain⟨a,b⟩:=x
 simp only[Zx.partOf,h1,h2,aaB,if_true,afC,pY L i a b h]
theorem an0(d:Nat)(x y:Int × Bool):Zx Tryz.prog (d+2) 80 (.agg [.int .i64 x.1,.bool x.2]) (.agg [.int .i64 y.1,.bool y.2])=some (decide (x=y)):=by
 have h0:Tryz.prog.stoodInHeld 80=false:=by kernel_rfl
 have h1:cU Tryz.prog 78=some false:=by kernel_rfl
 have h2:cU Tryz.prog 4=some false:=by kernel_rfl
 unfold Zx
 simp only[Tryz.underlying80,h0,aiJ,if_false,Zx.eqL,Zx.partOf,h1,h2,aaB,aJY,aw3]
 unfold Zx
 simp only[Tryz.underlying78,Tryz.underlying4,if_true,aaB]
 obtain⟨a,b⟩:=x
 obtain⟨c,e⟩:=y
 by_cases q1:a=c<;>by_cases q2:b=e<;>simp[q1,q2]
theorem aj3(d:Nat){a b:List (Int × Bool)}(ha:a.length=12)(hb:b.length=12):∀l:List Nat,(∀i∈l,i<12)→Zx.eqA Tryz.prog (Zx Tryz.prog (d+2) 80) 80 2 (To a) (To b) l=some (decide (∀i∈l,a[i]?=b[i]?))
 | [],_=>by simp[Zx.eqA]
 |i::l,h=>by
  have hi:=h i (by simp)
  have e1:a[i]?=some a[i]:=afU (by omega)
  have e2:b[i]?=some b[i]:=afU (by omega)
  have ih:=aj3 d ha hb l fun j hj=>h j (axH _ hj)
  simp only[Zx.eqA,uN e1,uN e2,aaB,an0,ih]
  by_cases q:a[i]=b[i]
  ·simp[q,e1,e2]
  ·simp[q,e1,e2]
theorem a7N{a b:St}(ha:a.1.length=12)(hb:b.1.length=12):Zx Tryz.prog 12 85 (.agg (Ss a)) (.agg (Ss b))=some (decide (a=b)):=by
 have h0:Tryz.prog.stoodInHeld 85=false:=by kernel_rfl
 have h1:cU Tryz.prog 82=some true:=by kernel_rfl
 have h2:cU Tryz.prog 3=some false:=by kernel_rfl
 have h3:aL Tryz.prog 82=some 24:=by kernel_rfl
 have h4:aL Tryz.prog 80=some 2:=by kernel_rfl
 have tk:∀s:St,s.1.length=12→abZ 24 (Ss s)=To s.1:=fun s h=>by
  unfold Ss;rw[aLB (by rw[Rz];omega),acH (by rw[Rz];omega)]
 have gt:∀s:St,s.1.length=12→(Ss s)[24]?=some (.int .i64 (s.2:Int)):=fun s h=>by
  unfold Ss;rw[afO (by rw[Rz];omega),Rz,h];rfl
 have hA:Zx Tryz.prog 11 82 (.agg (To a.1)) (.agg (To b.1))=some (decide (a.1=b.1)):=by
  unfold Zx
  simp only[Tryz.underlying82,h4,aaB]
  rw[aj3 8 ha hb (List.range 12) (fun i hi=>axI.1 hi)]
  congr 1
  rw[decide_eq_decide]
  constructor
  ·intro h
   refine axL fun i=>?_
   by_cases hi:i<12
   ·exact h i (axI.2 hi)
   ·rw[aNZ (by omega),aNZ (by omega)]
  ·intro h i _;rw[h]
 have hI:Zx Tryz.prog 11 3 (.int .i64 (a.2:Int)) (.int .i64 (b.2:Int))=some (decide (a.2=b.2)):=by
  unfold Zx
  simp only[Tryz.underlying3,if_true]
  congr 1
  rw[Bool.eq_iff_iff];simp;omega
 unfold Zx
 simp only[Tryz.underlying85,h0,aiJ,if_false,Zx.eqL,Zx.partOf,h1,h2,h3,aaB,if_true,afC,aO4,tk a ha,tk b hb,gt a ha,gt b hb,hA,hI]
 obtain⟨x,f⟩:=a
 obtain⟨y,g⟩:=b
 by_cases q1:x=y<;>by_cases q2:f=g<;>simp[q1,q2]
def Tu(kvs:List AV):CB:=.lp [] .skip .skip kvs .map
def Vh(L:List St)(v:St→AV):List AV:=L.flatMap fun s=>[.agg (Ss s),v s]
def Twl(L:List St):Prop:=∀s∈L,s.1.length=12
theorem aiZ(d:Nat)(x:Int × Bool):fZ Tryz.prog (d+2) 80 (.agg [.int .i64 x.1,.bool x.2])=true:=by
 have h1:cU Tryz.prog 78=some false:=by kernel_rfl
 have h2:cU Tryz.prog 4=some false:=by kernel_rfl
 unfold fZ
 simp only[Tryz.underlying80,Zx.partOf,h1,h2,aaB,ai9,List.all_nil,aiJ,if_false,aJY,aw3,afC,akD]
 unfold fZ
 simp only[Tryz.underlying78,Tryz.underlying4]
 rfl
theorem mC{s:St}(hs:s.1.length=12):afY Tryz.prog 85 (.agg (Ss s))=true:=by
 have h1:cU Tryz.prog 82=some true:=by kernel_rfl
 have h2:cU Tryz.prog 3=some false:=by kernel_rfl
 have h3:aL Tryz.prog 82=some 24:=by kernel_rfl
 have h4:aL Tryz.prog 80=some 2:=by kernel_rfl
 have tk:abZ 24 (Ss s)=To s.1:=by
  unfold Ss;rw[aLB (by rw[Rz];omega),acH (by rw[Rz];omega)]
 have gt:(Ss s)[24]?=some (.int .i64 (s.2:Int)):=by
  unfold Ss;rw[afO (by rw[Rz];omega),Rz,hs];rfl
 have hA:fZ Tryz.prog 4 82 (.agg (To s.1))=true:=by
  unfold fZ
  simp only[Tryz.underlying82,h4,afC,akD]
  rw[ae5]
  intro i hi
  have hi:=axI.1 hi
  have e1:s.1[i]?=some s.1[i]:=afU (by omega)
  rw[uN e1,afC,akD,aiZ 1]
 have hI:fZ Tryz.prog 4 3 (.int .i64 (s.2:Int))=true:=by
  unfold fZ
  simp only[Tryz.underlying3]
  rfl
 unfold afY
 simp only[Wl,Bool.and_true]
 unfold fZ
 simp only[Tryz.underlying85,Zx.partOf,h1,h2,h3,aaB,ai9,List.all_nil,aiJ,if_false,if_true,afC,akD,aO4,tk,gt,hA,hI,Bool.and_true]
theorem dX{s:St}(hs:s.1.length=12)(v:St→AV):∀(L:List St) (i:Nat),Twl L→gX Tryz.prog 85 (.agg (Ss s)) (Vh L v) i=some (if s∈L then some (i+L.idxOf s,v s)else none)
 | [],i,_=>rfl
 |a::L,i,h=>by
  have ha:=h a (by simp)
  have ih:=dX hs v L (i+1) fun x hx=>h x (axH _ hx)
  show gX _ _ _ (.agg (Ss a)::v a::Vh L v) i=_
  simp only[gX,a7N hs ha,aaB,ih]
  by_cases e:s=a
  ·subst e;simp
  ·have e2:(a==s)=false:=by simp;exact fun h=>e h.symm
   simp only[decide_eq_true_eq,e,if_false,abV,false_or,aR1,e2,cond_false,Option.some.injEq]
   split
   ·rw[show i+1+apI s L=i+(apI s L+1) by omega]
   ·rfl
theorem asM(v:St→AV):∀(L:List St) (n:Nat),(Vh L v)[2*n]?=L[n]?.map fun s=>.agg (Ss s)
 | [],n=>rfl
 |a::L,0=>rfl
 |a::L,n+1=>by
  show(.agg (Ss a)::v a::Vh L v)[2*(n+1)]?=_
  rw[show 2*(n+1)=2*n+2 by omega]
  simp only[aw3,asM v L n]
theorem avU{v:St→AV}{x:AV}{s:St}:∀{L:List St},L.Nodup→s∈L→(Vh L v).set (2*L.idxOf s+1) x=Vh L fun y=>if y=s then x else v y
 | [],_,h=>by cases h
 |a::L,hn,h=>by
  have hn':=List.nodup_cons.1 hn
  show(.agg (Ss a)::v a::Vh L v).set (2*(a::L).idxOf s+1) x=.agg (Ss a)::(if a=s then x else v a)::Vh L fun y=>if y=s then x else v y
  have same:s∉L→(Vh L fun y=>if y=s then x else v y)=Vh L v:=fun hs=>by
   unfold Vh
   rw[apJ,apJ]
   congr 1
   refine aT1 fun y hy=>?_
   simp only[if_neg (show ¬y=s from fun e=>hs (e▸hy))]
  by_cases e:a=s
  ·subst e
   simp[same hn'.1]
  ·have e2:(a==s)=false:=by simpa using e
   rcases abV.1 h with h|h
   ·exact absurd h.symm e
   ·simp only[aR1,e2,cond_false,if_neg e]
    rw[show 2*(apI s L+1)+1=(2*apI s L+1)+2 by omega]
    simp only[ayP,avU hn'.2 h]
theorem ajP(s:St):AV.sameKey (.agg (Ss s)) (.agg (Ss s))=true:=by
 have h:∀x∈Ss s,AV.same x x=true:=fun x hx=>by
  unfold Ss at hx
  rcases aU0.1 hx with hx|hx
  ·rcases Ym s.1 x hx with⟨n,rfl⟩|⟨b,rfl⟩<;>simp[AV.same]
  ·simp at hx;subst hx;simp[AV.same]
 simp only[AV.sameKey,beq_self_eq_true,Bool.true_and,ae5]
 intro ⟨x,y⟩ hxy
 obtain⟨i,hi⟩:=List.getElem?_of_mem hxy
 rw[List.getElem?_zip_eq_some]at hi
 obtain⟨h1,h2⟩:=hi
 simp only at h1 h2
 rw[h1]at h2;cases h2
 exact h x (ag2 h1)
theorem gU{h:Qa}{b:Nat}{kvs:List AV}(hb:h[b]?=some (Tu kvs)):cZ (hf h) b=some kvs:=by
 unfold cZ
 rw[show hf h b=some (Tu kvs)from hb];rfl
section
variable {h:Qa} {b:Nat} {L:List St} {v:St→AV} {s:St}
theorem abG(hb:h[b]?=some (Tu (Vh L v)))(hL:Twl L)(hs:s∈L):lk Tryz.prog h 86 (some (.mapr b)) (some (.agg (Ss s))) false=some (.ret (v s),[]):=by
 have hz:Vi Tryz.prog 3=some (.int .i64 0):=by kernel_rfl
 simp only[lk,aaB,Uz,Tryz.underlying86,mC (hL s hs),if_true,gU hb,dX (hL s hs) v L 0 hL,if_pos hs,hz,cond_false]
 rfl
theorem aWQ(hb:h[b]?=some (Tu (Vh L v)))(hL:Twl L)(hs:s∈L):lk Tryz.prog h 86 (some (.mapr b)) (some (.agg (Ss s))) true=some (.ret (.tup [v s,.bool true]),[]):=by
 have hz:Vi Tryz.prog 3=some (.int .i64 0):=by kernel_rfl
 simp only[lk,aaB,Uz,Tryz.underlying86,mC (hL s hs),if_true,gU hb,dX (hL s hs) v L 0 hL,if_pos hs,hz,cond_true]
 rfl
theorem bmC(hb:h[b]?=some (Tu (Vh L v)))(hL:Twl L)(h12:s.1.length=12)(hs:s∉L):lk Tryz.prog h 86 (some (.mapr b)) (some (.agg (Ss s))) true=some (.ret (.tup [.int .i64 0,.bool false]),[]):=by
 have hz:Vi Tryz.prog 3=some (.int .i64 0):=by kernel_rfl
 simp only[lk,aaB,Uz,Tryz.underlying86,mC h12,if_true,gU hb,dX h12 v L 0 hL,if_neg hs,hz,cond_true]
 rfl
theorem ag7(hb:h[b]?=some (Tu (Vh L v)))(hL:Twl L)(hs:s∈L):lk Tryz.prog h 87 (some (.mapr b)) (some (.agg (Ss s))) false=some (.ret (v s),[]):=by
 have hz:Vi Tryz.prog 91=some .nils:=by kernel_rfl
 simp only[lk,aaB,Uz,Tryz.underlying87,mC (hL s hs),if_true,gU hb,dX (hL s hs) v L 0 hL,if_pos hs,hz,cond_false]
 rfl
theorem ag4(hb:h[b]?=some (Tu (Vh L v)))(hL:Twl L)(hn:L.Nodup)(hs:s∈L)(x:AV):ms Tryz.prog h 86 (some (.mapr b)) (some (.agg (Ss s))) (some x)=some (.ret (.tup []),[.put b (Tu (Vh L fun y=>if y=s then x else v y))]):=by
 have hi:L[L.idxOf s]?=some s:=by
  rw[afU (List.idxOf_lt_length_of_mem hs)];simp
 simp only[ms,aaB,Wv,Tryz.underlying86,mC (hL s hs),if_true,gU hb,dX (hL s hs) v L 0 hL,if_pos hs,Nat.zero_add,asM,hi,afC,akD,ajP,avU hn hs]
 rfl
theorem asO(hs:s∉L)(x:AV):Vh L v++[.agg (Ss s),x]=Vh (L++[s]) fun y=>if y=s then x else v y:=by
 unfold Vh
 rw[List.flatMap_append]
 congr 1
 ·rw[apJ,apJ]
  congr 1
  refine aT1 fun y hy=>?_
  simp only[if_neg (show ¬y=s from fun e=>hs (e▸hy))]
 ·simp
theorem a40(hb:h[b]?=some (Tu (Vh L v)))(hL:Twl L)(h12:s.1.length=12)(hs:s∉L)(x:AV):ms Tryz.prog h 86 (some (.mapr b)) (some (.agg (Ss s))) (some x)=some (.ret (.tup []),[.put b (Tu (Vh (L++[s]) fun y=>if y=s then x else v y))]):=by
 rw[←asO hs]
 simp only[ms,aaB,Wv,Tryz.underlying86,mC h12,if_true,gU hb,dX h12 v L 0 hL,if_neg hs]
 rfl
theorem baV(hb:h[b]?=some (Tu (Vh L v)))(hL:Twl L)(h12:s.1.length=12)(hs:s∉L)(x:AV):ms Tryz.prog h 87 (some (.mapr b)) (some (.agg (Ss s))) (some x)=some (.ret (.tup []),[.put b (Tu (Vh (L++[s]) fun y=>if y=s then x else v y))]):=by
 rw[←asO hs]
 simp only[ms,aaB,Wv,Tryz.underlying87,mC h12,if_true,gU hb,dX h12 v L 0 hL,if_neg hs]
 rfl
end
def Qx:Nat:=1099511627776
def dK(f:St→Nat)(s:St):AV:=.int .i64 (f s:Int)
theorem aJQ(f:St→Nat)(x:St)(m:Nat):(if((f x:Nat):Int)>(m:Int)then((f x:Nat):Int)else(m:Int))=((max m (f x):Nat):Int):=by split<;>omega
theorem aQB(L:List St)(f:St→Nat)(d:Nat)(m:List Nat):Rk.refL (Rk (d+2)) m (Vh L (dK f))=some (Vh L (dK f),m):=Vt fun x hx=>by
 unfold Vh at hx
 obtain⟨s,_,hx⟩:=amX.1 hx
 simp only[abV,aeQ,or_false]at hx
 rcases hx with rfl|rfl
 ·have:∀y∈Ss s,Rk (d+1) m y=some (y,m):=fun y hy=>by
   unfold Ss at hy
   rcases aU0.1 hy with hy|hy
   ·rcases Ym s.1 y hy with⟨n,rfl⟩|⟨b,rfl⟩<;>rfl
   ·simp at hy;subst hy;rfl
  show(Rk.refL (Rk (d+1)) m (Ss s)).map _=_
  rw[Vt this];rfl
 ·rfl
theorem bK(L:List St)(f:St→Nat)(m:List Nat):gY m (Tu (Vh L (dK f)))=some (Tu (Vh L (dK f)),m):=by
 simp[Tu,gY,aQB L f 6]
theorem yM:∀(l:List AV),(∀x∈l,AV.sameKey x x=true)→AV.sameL l l=true
 | [],_=>rfl
 |x::l,h=>by simp only[AV.sameL,h x (by simp),yM l fun y hy=>h y (axH _ hy),Bool.and_self]
theorem eJ(L:List St)(f:St→Nat):CB.same (Tu (Vh L (dK f))) (Tu (Vh L (dK f)))=true:=yM _ fun x hx=>by
 unfold Vh at hx
 obtain⟨s,_,hx⟩:=amX.1 hx
 simp only[abV,aeQ,or_false]at hx
 rcases hx with rfl|rfl
 ·exact ajP s
 ·simp[dK,AV.sameKey,AV.same]
theorem eE(kvs:List AV):(Tu kvs).clean=Tu kvs:=Eq.trans rfl rfl
theorem jG(kvs:List AV):(Tu kvs).isLive=true:=Eq.trans rfl rfl
theorem aD2{L:List St}{f:St→Nat}(hL:Twl L)(hf:∀s∈L,f s≤Qx){to:List St}(ht:∀s∈to,s∈L)(hlen:to.length≤2){k:Int}{i:Int}{c:Nat}(hc:c≤1000)(nn:Bool):
 Ub.call (.fn 44) [.agg [.int .i64 k,.int .i64 i,.int .i64 (c:Int),Rh 25 true nn (to.map Ss)],.mapr 0] [Tu (Vh L (dK f))]=some (.ret (.int .i64 (min Qx (c+Vd.mx f to):Nat)),[Tu (Vh L (dK f))]):=by
 refine ce Tryz.func44 ?_
 simp only[Tryz.f44]
 (have hb:=trivial;with_reducible repeat' (first|simp only[hb,Vc.down,seval,aKY.down,aeN]|refine Qm ?_ ?_<;>intro hb|refine fd ?_|fail))
 refine Uj (lst 26 to (fun j (m:Nat) t h=>t 1=.mapr 0∧t 2=.ptr 1 0 0∧t 5=.int .i64 (m:Int)∧t 9=Rh 25 true nn (to.map Ss)∧t 10=.int .i64 (to.length:Nat)∧t 11=.int .i64 (j:Int)∧m≤Qx∧h[0]?=some (Tu (Vh L (dK f)))∧∃fl x,h[1]?=some (.live 4 fl x [[.int .i64 k,.int .i64 i,.int .i64 (c:Int),Rh 25 true nn (to.map Ss)]])) (fun rest m=>rest.foldl (fun m x=>max m (f x)) m)
  (fun r e t h=>e=.exit 0∧t 2=.ptr 1 0 0∧t 5=.int .i64 (r:Int)∧r≤Qx∧h[0]?=some (Tu (Vh L (dK f)))∧∃fl x,h[1]?=some (.live 4 fl x [[.int .i64 k,.int .i64 i,.int .i64 (c:Int),Rh 25 true nn (to.map Ss)]])) ?_ ?_ 0 _ _ ?_) (fun e t h hk=>?_)
 ·rintro m t h Q' kQ ⟨g1,g2,g5,g9,g10,g11,hm,hM,fl,x,hB⟩
  (have hb:=trivial;with_reducible repeat' (first|simp only[hb,Vc.down,seval,aKY.down,g10,g11,apP,decide_false]|refine Qm ?_ ?_<;>intro hb|refine fd ?_|fail))
  exact kQ _ _ _ ⟨rfl,by simp[up,g2],by simp[up,g5],hm,hM,fl,x,hB⟩
 ·rintro z rest j m t h J Q' kJ kQ hx hj ⟨g1,g2,g5,g9,g10,g11,hm,hM,fl,x,hB⟩
  have hdd:decide ((j:Int)<(to.length:Int))=true:=decide_eq_true (by omega)
  have hww:=Sl hj (by unfold maxLen;omega)
  have hz:=ht z (ag2 hx)
  have hfz:=hf z hz
  have hM2:=Qh hM
  have hlk:=fun l=>abG (v:=dK f) (hM2 l) hL hz
  have hzl:=Yr (hL z hz)
  have hzf:=Wl z
  have hzc:=Wz z
  have htk:abZ 25 (Ss z)=Ss z:=acH (by omega)
  have hmx:=aJQ f z m
  (have hb:=trivial;with_reducible repeat' (first|simp only[hb,Vc.down,seval,aKY.down,g1,g5,g9,g10,g11,hdd,hww,hx,hM2,hlk,hzl,hzf,hzc,htk,dK,hmx,aeN]|refine Qm ?_ ?_<;>intro hb|refine fd ?_|fail))
  exact Qq (kJ _ _ (max m (f z)) ⟨by simp[up,g1],by simp[up,g2],by simp[up],by simp[up,g9],by simp[up,g10],by simp[up],by omega,hM2 _,fl,x,Qh hB _⟩ rfl)
 ·exact⟨by simp[up,bF],by simp[up],by simp[up],by simp[up],by simp[up],by simp[up],Nat.zero_le _,rfl,_,_,rfl⟩
 obtain⟨rfl,g2,g5,hm,hM,fl,x,hB⟩:=hk
 change t 5=.int .i64 ((Vd.mx f to:Nat):Int)at g5
 change Vd.mx f to≤Qx at hm
 generalize Vd.mx f to=m at *
 have hww:IntKind.i64.wrap ((c:Int)+(m:Int))=((c+m:Nat):Int):=by rw[Re (by unfold Qx at hm;omega) (by unfold Qx at hm;omega)];omega
 have hmn:(if((c+m:Nat):Int)<1099511627776 then((c+m:Nat):Int)else 1099511627776)=((min Qx (c+m):Nat):Int):=by unfold Qx;split<;>omega
 (have hb:=trivial;with_reducible repeat' (first|simp only[hb,Vc.down,seval,aKY.down,g2,g5,hB,hM,hww,hmn,bK]|refine Qm ?_ ?_<;>intro hb|refine fd ?_|fail))
structure COk(L:List St)(o:Zw):Prop where
 c0:0≤o.c
 c1:o.c≤1000
 to:∀s∈o.to,s∈L
 ne:o.to≠[]
 two:o.to.length≤2
def Zw.cells(o:Zw):List AV:=[.int .i64 o.k,.int .i64 (o.i:Int),.int .i64 o.c,Rh 25 true false (o.to.map Ss)]
def kW(f:St→Nat)(o:Zw):Nat:=min Qx (o.c.toNat+Go.Ev.Vd.mx f o.to)
def dE(f:St→Nat)(n:Nat)(l:List Zw):Nat:=l.foldl (fun m o=>min m (kW f o)) n
theorem ad7{L:List St}{f:St→Nat}(hL:Twl L)(hf:∀s∈L,f s≤Qx){o:Zw}(ho:COk L o):
 Ub.call (.fn 44) [.agg o.cells,.mapr 0] [Tu (Vh L (dK f))]=some (.ret (.int .i64 (kW f o:Nat)),[Tu (Vh L (dK f))]):=by
 have h:=aD2 hL hf ho.to ho.two (k:=o.k) (i:=o.i) (c:=o.c.toNat) (by have:=ho.c1;omega) false
 rw[show((o.c.toNat:Nat):Int)=o.c by have:=ho.c0;omega]at h
 exact h
theorem awD{L:List St}{f:St→Nat}(hL:Twl L)(hf:∀s∈L,f s≤Qx){o:Zw}(ho:COk L o)(x:Bool):
 Ub.call (.fn 68) [.agg o.cells,.ptr 0 0 0] [.live 1 false x [[.mapr 1]],Tu (Vh L (dK f))]=some (.ret (.int .i64 (kW f o:Nat)),[.live 1 false x [[.mapr 1]],Tu (Vh L (dK f))]):=by
 have h:=ad7 hL hf ho
 have hne:o.to.map Ss≠[]:=by simpa using ho.ne
 simp only[Zw.cells,Yj hne]at h ⊢
 refine ce Tryz.func68 ?_
 simp only[Tryz.f68]
 (have hb:=trivial;with_reducible repeat' (first|simp only[hb,Vc.down,seval,boA.down,h,bK,eJ,eE,bV.down]|refine Qm ?_ ?_<;>intro hb|refine fd ?_|fail))
theorem aM9(a b:Nat):(if(a:Int)<(b:Int)then(a:Int)else(b:Int))=((min b a:Nat):Int):=by split<;>omega
theorem aIU{L:List St}{f:St→Nat}(hL:Twl L)(hf:∀s∈L,f s≤Qx){l:List Zw}(hl:∀o∈l,COk L o)(hlen:l.length≤maxLen)(nn:Bool)(n:Nat)(x:Bool):
 Ub.call (.fn 67) [Rh 4 false nn (l.map Zw.cells),.func (.func 68) [] [.ptr 0 0 0],.int .i64 (n:Int)] [.live 1 false x [[.mapr 1]],Tu (Vh L (dK f))]=some (.ret (.int .i64 (dE f n l:Nat)),[.live 1 false x [[.mapr 1]],Tu (Vh L (dK f))]):=by
 obtain⟨q1,hq1⟩:∃q,Fn.func 68=q:=⟨_,rfl⟩
 refine ce Tryz.func67 ?_
 simp only[Tryz.f67]
 (have hb:=trivial;with_reducible repeat' (first|simp only[hb,Vc.down,seval,azY.down,aeN]|refine Qm ?_ ?_<;>intro hb|refine fd ?_|fail))
 refine Uj (lst 22 l (fun j (m:Nat) t h=>t 1=.func (.func 68) [] [.ptr 0 0 0]∧t 2=.int .i64 (m:Int)∧t 9=Rh 4 false nn (l.map Zw.cells)∧t 10=.int .i64 (l.length:Nat)∧t 11=.int .i64 (j:Int)∧h[0]?=some (.live 1 false x [[.mapr 1]])∧h[1]?=some (Tu (Vh L (dK f)))) (fun rest m=>rest.foldl (fun m o=>min m (kW f o)) m)
  (fun r e t h=>e=.exit 0∧t 2=.int .i64 (r:Int)∧h[0]?=some (.live 1 false x [[.mapr 1]])∧h[1]?=some (Tu (Vh L (dK f)))) ?_ ?_ n _ _ ?_) (fun e t h hk=>?_)
 ·rintro m t h Q' kQ ⟨g1,g2,g9,g10,g11,hB,hM⟩
  (have hb:=trivial;with_reducible repeat' (first|simp only[hb,Vc.down,seval,azY.down,g10,g11,apP,decide_false]|refine Qm ?_ ?_<;>intro hb|refine fd ?_|fail))
  exact kQ _ _ _ ⟨rfl,by simp[up,g2],hB,hM⟩
 ·rintro o rest j m t h J Q' kJ kQ hx hj ⟨g1,g2,g9,g10,g11,hB,hM⟩
  have hdd:decide ((j:Int)<(l.length:Int))=true:=decide_eq_true (by omega)
  have hww:=Sl hj (by unfold maxLen at hlen;unfold maxLen;omega)
  have ho:=hl o (ag2 hx)
  have hc:=awD hL hf ho false
  have hmn:=aM9 (kW f o) m
  have hB2:=Qh hB
  have hM2:=Qh hM
  have hne:o.to.map Ss≠[]:=by simpa using ho.ne
  simp only[Zw.cells,Yj hne]at hc
  have hcs:o.cells=[.int .i64 o.k,.int .i64 (o.i:Int),.int .i64 o.c,.imm 25 true (o.to.map Ss)]:=by simp only[Zw.cells,Yj hne]
  (have hb:=trivial;with_reducible repeat' (first|simp only[hb,Vc.down,seval,azY.down,g1,g2,g9,g10,g11,hdd,hww,hx,hB,hM,hB2,hM2,hcs,hc,hmn,bK,eJ,eE,bV.down,aeN]|refine Qm ?_ ?_<;>intro hb|refine fd ?_|fail))
  exact Qq (kJ _ _ (min m (kW f o)) ⟨by simp[up,g1],by simp[up],by simp[up,g9],by simp[up,g10],by simp[up],hB2 _,hM2 _⟩ rfl)
 ·exact⟨by simp[up,bF],by simp[up,bF],by simp[up],by simp[up],by simp[up],rfl,rfl⟩
 obtain⟨rfl,g2,hB,hM⟩:=hk
 change t 2=.int .i64 (dE f n l:Nat)at g2
 (have hb:=trivial;with_reducible repeat' (first|simp only[hb,Vc.down,seval,azY.down,g2,hB,hM,bK,bV.down]|refine Qm ?_ ?_<;>intro hb|refine fd ?_|fail))
end Go.Proofs.YtcncggaobhbomaaGreatDoor
