/- The functions of the layer, walked. -/
import Derived.Test.YtcncggaobhbomaaGreatDoorPartAB
import Derived.Test.YtcncggaobhbomaaGreatDoorLibE
import Derived.Test.YtcncggaobhbomaaGreatDoorLibF
open Option renaming bind_some→abK,map_some→aoS,getD_some→aBV,map_eq_some_iff→aEQ,bind_eq_some_iff→aQR
open List renaming replicate→abL,mem_cons→abX,take→adC,getElem?_set_ne→adD,take_of_length_le→af5,length_map→agI,not_mem_nil→ah1,all_eq_true→ai5,getElem?_append_right→aoT,getElem?_eq_getElem→aoV,nil_append→aoW,getElem?_eq_some_iff→awN,mem_of_getElem?→azY,all_cons→aBU,getElem?_map→aDD,mem_flatMap→aDG,length_replicate→aD2,idxOf→aFV,flatMap_def→aHX,getElem?_set_self→aHY,drop→aIE,cons_append→aJN,map_set→aKO,getElem?_cons_succ→aLA,mem_cons_of_mem→aLF,mem_range→aNF,replicate_succ→aNO,map_append→aOA,ext_getElem?→aOB,flatMap_cons→aOK,drop_succ_cons→aPZ,getElem?_replicate→aQC,mem_cons_self→aQD,set_cons_succ→aQ3,all_append→aRX,getElem?_cons_zero→aTG,take_append_of_le_length→aVO,getElem?_eq_none→aVP,drop_zero→aWQ,idxOf_cons→aXB,map_congr_left→aYG,mem_append→aYH
open Nat renaming le_refl→az0,sub_self→aJ4,add_sub_cancel_left→aQH
open Bool renaming false_eq_true→aA3
open Int renaming lt_irrefl→aJQ,toNat_natCast→aQB
set_option linter.unusedSimpArgs false
set_option linter.unusedVariables false
namespace Go.Proofs.YtcncggaobhbomaaGreatDoor
open Go.Ev Go Go.Ev.Net
set_option maxRecDepth 100000
set_option maxHeartbeats 16000000
theorem awF:Ag .nilp=[.nilp]:=Eq.trans rfl rfl
theorem a60(n x:Nat):(abL n x).sum=n*x:=by
 induction n with
 |zero=>simp
 |succ n ih=>rw[aNO,List.sum_cons,ih,Nat.succ_mul];omega
theorem aMU:∀(l:List Nat) (s:Nat),(l.set s 0).sum≤l.sum
 | [],s=>by simp
 |a::l,0=>by simp
 |a::l,s+1=>by have:=aMU l s;simp;omega
theorem a0K{N s far:Nat}(h:N≤8):(Fq N s far).sum≤8*far:=by
 unfold Fq
 refine Nat.le_trans (aMU _ _) ?_
 rw[a60]
 exact Nat.mul_le_mul_right _ h
def tgB(x:Int × Bool):Bool:=x.1==0&& !x.2
def tgt(L:List (Int × Bool)):List Bool:=L.map tgB
theorem a4I{w:Af}{L:List (Int × Bool)}{i:Nat}{p:Ab}{x:Int × Bool}(hp:w.parts[i]?=some p)(hx:L[i]?=some x):(edg w (tgt L))[i]?=some (p.one.toNat,p.other.toNat,if tgB x=true then 1 else 0):=by
 unfold edg tgt
 rw[List.getElem?_zipWith,aDD,hp,hx];rfl
theorem aRW{w:Af}{d:Int}:edg w (tgt (Ac w d))=edg w (aoZ w d):=by
 have e:∀(l:List Ab) (r:List Bool) (f:Ab→Bool→Net.Edge),List.zipWith f l (l.map (fun p=>ay4 p d)++r)=List.zipWith f l (l.map fun p=>ay4 p d):=by
  intro l;induction l with
  |nil=>intro r f;simp
  |cons a l ih=>intro r f;simp[ih]
 unfold edg tgt Ac aoZ
 rw[aOA,List.map_map]
 exact e _ _ _
theorem QS.app{v:AV}{q:List Nat}{H:Aa}{p:Nat}(h:QS v q H p)(l:Aa):QS v q (H++l) p:=by
 rcases h with h|⟨b,w,rows,r,h1,h2,h3⟩
 ·exact .inl h
 ·exact .inr ⟨b,w,rows,r,h1,Ai h2 l,h3⟩
theorem a1B{h:Aa}{b:Nat}{c:CB}(hc:h[b]?=some c):h.set b c=h:=by
 refine aOB fun i=>?_
 by_cases e:b=i
 ·subst e;rw[aHY (As hc),hc]
 ·rw[adD e]
theorem aCV:∀(L:List (Int × Bool)) (i:Nat) (a:Int) (b:Bool),L[i]?=some (a,b)→adC 2 (aIE (i*2) (Do L))=[.int .i64 a,.bool b]
 | [],i,a,b,h=>by simp at h
 |x::L,0,a,b,h=>by simp at h;subst h;simp[Do]
 |x::L,i+1,a,b,h=>by
  have ih:=aCV L i a b (by simpa using h)
  rw[show(i+1)*2=(i*2)+1+1 by omega]
  simpa only[Do,aOK,aJN,aoW,aPZ]using ih
theorem aCK{w:Af}{d:Int}{i:Nat}{p:Ab}(hx:w.parts[i]?=some p):(Ac w d)[i]?=some (Au p d,p.opn):=by
 unfold Ac
 rw[List.getElem?_append_left (by rw[agI];exact(awN.1 hx).1),aDD,hx];rfl
def no3:Nat→Nat→Nat→Prop:=fun _ _ _=>False
theorem aL6{w:Af}{N:Nat}(hw:WOk w N)(h12:w.parts.length≤12){d:Int}{s:Nat}(hs:s<N){ps:List AV}{L:List (Int × Bool)}(hL12:L.length=12)(hps:ps=Do L){wf:Bool}:
 ClQ Dp 58 [.ptr 0 0 0,.int .i64 (s:Int),.agg ps] [.live 4 false wf [[.int .i64 w.rooms,.int .i64 w.need,Be 9 true w.nn (w.parts.map Ab.cells),.int .i64 d]]] fun o h'=>
  ∃(f:Bool) (ds:List Nat),o=.ret (.slr 1 1 0 N)∧h'=[.live 4 false wf [[.int .i64 w.rooms,.int .i64 w.need,Be 9 true w.nn (w.parts.map Ab.cells),.int .i64 d]],.live 1 true f (ds.map Kz)]∧ds.length=N∧avW (edg w (tgt L)) s N Hy (fun v=>ds.getD v 0):=by
 have hr:=hw.rooms
 have n2:=hw.n2
 have n8:=hw.n8
 have hpl:ps.length=24:=by rw[hps,Cb];omega
 have hflat:ps.all AV.flat=true∧ps.all AV.isCell=true:=by
  subst hps
  have hform:∀x∈Do L,(∃n,x=.int .i64 n)∨∃b,x=.bool b:=fun x hx=>by
   simp only[Do,aDG,abX,ah1,or_false]at hx
   obtain⟨y,_,rfl|rfl⟩:=hx
   ·exact .inl ⟨_,rfl⟩
   ·exact .inr ⟨_,rfl⟩
  exact⟨ai5.2 fun x hx=>by rcases hform x hx with⟨n,rfl⟩|⟨b,rfl⟩<;>rfl,ai5.2 fun x hx=>by rcases hform x hx with⟨n,rfl⟩|⟨b,rfl⟩<;>rfl⟩
 obtain⟨hf1,hf2⟩:=hflat
 refine a9I rfl Tryz.func58 rfl rfl ?_
 simp only[Tryz.f58]
 simp only[hr]
 have h39:(N≤549755813888)=True:=eq_true (by omega)
 have m1:((N:Int)≤(N:Int))=True:=eq_true (Int.le_refl _)
 have m2:((N:Int)≤1099511627776)=True:=eq_true (by omega)
 (have hb:=trivial;with_reducible repeat' (first|simp only[hb,Vc.down,seval,aoU.down,hpl,hf1,hf2,h39,m1,m2,aQB]|refine An ?_ ?_<;>intro hb|refine fd ?_|fail))
 generalize hLK:(CB.live 4 false wf [[.int .i64 (N:Int),.int .i64 w.need,Be 9 true w.nn (w.parts.map Ab.cells),.int .i64 d]])=LK
 refine Dy (lst 85 (abL N ()) (fun i (_:Unit) t h=>t 0=.ptr 0 0 0∧t 1=.int .i64 (s:Int)∧t 5=.ptr 1 0 0∧t 7=.ptr 3 0 0∧t 23=.int .i64 (N:Int)∧t 24=.int .i64 (i:Int)∧∃f,h=[LK,.live 24 true false [ps],.live 1 true f ((abL i Hy++abL (N-i) 0).map Kz),.live 1 false true [[.slr 1 2 0 N]]]) (fun _ _=>())
  (fun _ e t h=>e=.exit 0∧t 0=.ptr 0 0 0∧t 1=.int .i64 (s:Int)∧t 5=.ptr 1 0 0∧t 7=.ptr 3 0 0∧∃f,h=[LK,.live 24 true false [ps],.live 1 true f ((abL N Hy).map Kz),.live 1 false true [[.slr 1 2 0 N]]]) ?_ ?_ () _ _ ?_) (fun e t h hk=>?_)
 ·rintro _ t h Q' kQ ⟨g0,g1,g5,g7,g23,g24,f,rfl⟩
  rw[aD2]at g24
  (have hb:=trivial;with_reducible repeat' (first|simp only[hb,Vc.down,seval,aoU.down,g23,g24,aJQ,decide_false]|refine An ?_ ?_<;>intro hb|refine fd ?_|fail))
  exact kQ _ _ _ ⟨rfl,by simp[up,g0],by simp[up,g1],by simp[up,g5],by simp[up,g7],f,by simp⟩
 ·rintro x rest i _ t h J Q' kJ kQ hx hi ⟨g0,g1,g5,g7,g23,g24,f,rfl⟩
  rw[aD2]at hi
  have hdd:decide ((i:Int)<(N:Int))=true:=decide_eq_true (by omega)
  have hdi:((i:Int)<(N:Int))=True:=eq_true (by omega)
  have hww:=Bv (n:=N) hi (by unfold maxLen;omega)
  have hrow:((abL i Hy++abL (N-i) 0).map Kz)[i]?=some [.int .i64 0]:=by
   rw[aDD,aoT (by simp),aD2,aJ4,aQC,if_pos (by omega)]
   rfl
  have hnx:((abL i Hy++abL (N-i) 0).map Kz).set i [.int .i64 1048576]=(abL (i+1) Hy++abL (N-(i+1)) 0).map Kz:=by
   have e:N-i=(N-(i+1))+1:=by omega
   rw[show([.int .i64 1048576]:List AV)=Kz Hy from rfl,←aKO,List.set_append_right _ _ (by simp),aD2,aJ4,e,aNO,List.set_cons_zero,List.replicate_succ',List.append_assoc]
   rfl
  generalize(abL i Hy++abL (N-i) 0).map Kz=rows at *
  (have hb:=trivial;with_reducible repeat' (first|simp only[hb,Vc.down,seval,aoU.down,g0,g1,g5,g7,g23,g24,hdd,hdi,hww,hrow,hnx]|refine An ?_ ?_<;>intro hb|refine fd ?_|fail))
  exact Aq (kJ _ _ () ⟨by simp[up,g0],by simp[up,g1],by simp[up,g5],by simp[up,g7],by simp[up,g23],by simp[up],true,rfl⟩ rfl)
 ·exact⟨by simp[up,Lx],by simp[up,Lx],by simp[up],by simp[up],by simp[up],by simp[up],false,by simp[Kz]⟩
 obtain⟨rfl,g0,g1,g5,g7,f,rfl⟩:=hk
 have hrow:s<((abL N Hy).map Kz).length:=by simpa using hs
 have hz:((abL N Hy).map Kz)[s]?=some [.int .i64 1048576]:=by rw[aDD,aQC,if_pos hs];rfl
 have hin:((abL N Hy).map Kz).set s [.int .i64 0]=(Fq N s Hy).map Kz:=by rw[Fq,aKO];rfl
 have o1:((s:Int)<(N:Int))=True:=eq_true (by omega)
 generalize hrw:(abL N Hy).map Kz=rows at *
 obtain⟨q1,hq1⟩:∃q,Fn.func 75=q:=⟨_,rfl⟩
 obtain⟨q2,hq2⟩:∃q,Fn.func 76=q:=⟨_,rfl⟩
 have hLq:LK.quiet LK.clean=true:=by rw[←hLK];rfl
 obtain⟨es,M,b1,b2,b3,b4,⟨v',fl',b5,b6,b7⟩,b8,_⟩:=bbW (h:=[LK,.live 24 true false [ps],.live 1 true true ((Fq N s Hy).map Kz),.live 1 false true [[.slr 1 2 0 N]],.live 1 false false [[.nils]],.live 1 false true [[.ptr 4 0 0]]]) (azT fun c hc=>by
  simp only[abX,ah1,or_false]at hc
  rcases hc with rfl|rfl|rfl|rfl|rfl|rfl
  ·exact hLq
  all_goals rfl) (p:=4) s rfl (.inl ⟨rfl,rfl⟩) (by simp)
 rw[hq1]at b1
 simp only[aoW]at b6
 obtain⟨es2,M2,c1,c2,c3,c4,⟨v2,fl2,c5,c6,c7⟩,c8⟩:=bbY b4 b5 b6 (by simp)
 rw[hq2]at c1
 have k3:=b8 3 _ (by simp[scB]) rfl
 have k5:=b8 5 _ (by simp[scB]) rfl
 have j3:=c8 3 _ (by omega) k3
 have j5:=c8 5 _ (by omega) k5
 have j0:=c8 0 _ (by omega) (b8 0 _ (by simp[scB]) rfl)
 have j1:=c8 1 _ (by omega) (b8 1 _ (by simp[scB]) rfl)
 have j2:=c8 2 _ (by omega) (b8 2 _ (by simp[scB]) rfl)
 (have hb:=trivial;with_reducible repeat' (first|simp only[hb,Vc.down,seval,aoU.down,g0,g1,g5,g7,hz,hin,o1,hq1,hq2,b1,b2,c1,c2,k3,k5,j3,j5,awF,aQB]|refine An ?_ ?_<;>intro hb|refine fd ?_|fail))
 generalize hE:edg w (tgt L)=E at *
 have hEo:EOk E N:=by rw[←hE];exact aBW hw _
 have I0:=baB (E:=E) (far:=Hy) hs hEo
 have hsum:(Fq N s Hy).sum≤8*1048576:=a0K n8
 refine Dy (cnt 85 (fun n (_:Unit) t h=>t 0=.ptr 0 0 0∧t 1=.int .i64 (s:Int)∧t 5=.ptr 1 0 0∧t 7=.ptr 3 0 0∧t 9=.ptr 5 0 0∧∃dd q k,DiH LK true ps N h dd q [k]∧2*dd.sum+q.length≤20000000∧
  ((t 11=.bool true∧∃room w,t 10=.ptr k 0 0∧6≤k∧h[k]?=some (.live 1 true w [[.int .i64 (room:Nat)]])∧DqI E s N Hy dd (room::q) no3∧2*dd.sum+q.length+1≤n)∨(t 11=.bool false∧q=[]∧DqI E s N Hy dd [] no3))) (fun _ _=>())
  (fun _ e t h=>e=.exit 2∧t 7=.ptr 3 0 0∧∃dd k,DiH LK true ps N h dd [] [k]∧DqI E s N Hy dd [] no3) ?_ ?_ (2*(Fq N s Hy).sum+1) () _ _ ?_) (fun e t h hk=>?_)
 ·rintro _ t h Q' kQ ⟨g0,g1,g5,g7,g9,dd,q,k,hD,hql,⟨g11,room,w5,g10,_,_,_,hm⟩|⟨g11,rfl,hI⟩⟩
  ·omega
  ·(have hb:=trivial;with_reducible repeat' (first|simp only[hb,Vc.down,seval,aoU.down,g11]|refine An ?_ ?_<;>intro hb|refine fd ?_|fail))
   exact kQ _ _ _ ⟨rfl,by simp[up,g7],dd,k,hD,hI⟩
 ·rintro n _ t h J Q' kJ kQ ⟨g0,g1,g5,g7,g9,dd,q,k,hD,hql,⟨g11,room,w5,g10,hk6,hkb,hI,hm⟩|⟨g11,rfl,hI⟩⟩
  ·obtain⟨f,v,fl,w',i0,i1,i2,i3,i5,i4,iQ,iB,iq⟩:=hD
   have hat:=boY w d (room:Int) false
   rw[hr]at hat
   subst hLK
   (have hb:=trivial;with_reducible repeat' (first|simp only[hb,Vc.down,seval,aoU.down,g0,g1,g5,g7,g9,g10,g11,i0,i1,i2,i3,i5,hkb,hat]|refine An ?_ ?_<;>intro hb|refine fd ?_|fail))
   obtain⟨rN,rI⟩:=DqI.take hI
   have hkl:=As hkb
   generalize hLP:CB.lp _ _ _ _ _=LP
   obtain⟨LK,hLK⟩:∃c:CB,c=CB.live 4 false wf [[.int .i64 (N:Int),.int .i64 w.need,Be 9 true w.nn (w.parts.map Ab.cells),.int .i64 d]]:=⟨_,rfl⟩
   refine beX (bp0 hw (d:=d) (r:=(room:Int)) (lb:=h.length) (rb:=h.length+1) (kb:=0) (fun i h'=>∃dd' q',DiH LK.clean false ps N h' dd' q' [k,h.length,h.length+1,h.length+2]∧DqI E s N Hy dd' q' (ahX E room i)∧2*dd'.sum+q'.length≤2*dd.sum+q.length∧(∃w1,h'[k]?=some (.live 1 true w1 [[.int .i64 (room:Nat)]]))∧(∃w1,h'[h.length]?=some (.live 1 false w1 [[.ptr 0 0 0]]))∧(∃w1,h'[h.length+1]?=some (.live 1 true w1 [[.int .i64 (room:Nat)]]))∧h'[h.length+2]?=some LP∧h.length+3≤h'.length∧Okw (h++[.live 1 false false [[.ptr 0 0 0]],.live 1 true false [[.int .i64 (room:Nat)]],LP]) h') ?_ ?_ ?_ ?_ ?_ ?_ ?_) ?_
   ·rintro i h' ⟨dd',q',_,_,_,_,hb1,_⟩
    exact hb1
   ·rintro i h' ⟨dd',q',⟨f,v,fl,w',i0,_⟩,_⟩
    rw[hr]
    exact⟨false,by rw[i0,hLK];rfl⟩
   ·rintro i h' ⟨dd',q',_,_,_,_,_,hb2,_⟩
    exact hb2
   ·rintro i h' fl wf rows ⟨dd',q',k1,k3,k4,⟨a0,k5⟩,⟨a1,k6⟩,⟨a2,k7⟩,k8,k9,kO⟩
    exact⟨dd',q',k1.app rfl,k3,k4,⟨a0,Ai k5 _⟩,⟨a1,Ai k6 _⟩,⟨a2,Ai k7 _⟩,Ai k8 _,by simp;omega,kO.app _⟩
   ·rintro i p u h' hpx hu ⟨dd',q',⟨f',v',fl',w2,j0,j1,j2,j3,j5,j4,jQ,jB,jq⟩,k3,k4,⟨a0,k5⟩,⟨a1,k6⟩,⟨a2,k7⟩,k8,k9,kO⟩
    have round:RnQ Dp ([.int .i64 i,.int .i64 u]++[.yl (h.length+2)]) (Hn h') fun o G=>o=.ret (.bool true)∧Okw h' G∧∃dd2 q2,DiH LK.clean false ps N (Ob h' G) dd2 q2 [k,h.length,h.length+1,h.length+2]∧DqI E s N Hy dd2 q2 (ahX E room (i+1))∧2*dd2.sum+q2.length≤2*dd.sum+q.length∧(∀b∈[k,h.length,h.length+1,h.length+2],(Ob h' G)[b]?=h'[b]?)∧h'.length≤(Ob h' G).length:=by
     have hir:room<N:=rN
     have hpo:=hw.part p (azY hpx)
     have hil:i<w.parts.length:=(awN.1 hpx).1
     obtain⟨pc,hpc⟩:∃x,L[i]?=some x:=⟨_,aoV (by omega)⟩
     have he:=a4I hpx hpc
     rw[hE]at he
     obtain⟨to,rfl,htN,hrt,hto⟩:∃to:Nat,u=(to:Int)∧to<N∧room≠to∧(E[i]?=some (room,to,if tgB pc=true then 1 else 0)∨E[i]?=some (to,room,if tgB pc=true then 1 else 0)):=by
      rcases hu with⟨h1,h2⟩|⟨h1,h2,h3⟩
      ·exact⟨p.other.toNat,by omega,by omega,by omega,.inl (by rw[he,h1];rfl)⟩
      ·exact⟨p.one.toNat,by omega,by omega,by omega,.inr (by rw[he,h2];rfl)⟩
     have hi12:((i:Int)<12)=True:=eq_true (by omega)
     have hp24:(i*2+2≤24)=True:=eq_true (by omega)
     have htk:adC 2 (aIE (i*2) ps)=[.int .i64 pc.1,.bool pc.2]:=by
      rw[hps];exact aCV _ _ _ _ hpc
     have htt:=a9W pc.1 pc.2
     rw[show(pc.1==0&& !pc.2)=tgB pc from rfl]at htt
     have hdl:=k3.i.len
     have hrm:=aLI (d:=dd') (a:=room) (by omega)
     have htm:=aLI (d:=dd') (a:=to) (by omega)
     have hst:∀n:Nat,(dd'.map Kz).set to [.int .i64 (n:Int)]=(dd'.set to n).map Kz:=fun n=>by rw[aKO];rfl
     have hrf:=k3.i.le room rN
     have hrf2:dd'.getD room 0≤1048576:=hrf
     have I0:=k3.same hto
     have I1:=fun q'=>k3.less (q':=q') rN htN hrt hto
     have hrN:((room:Int)<(N:Int))=True:=eq_true (by omega)
     have htN':((to:Int)<(N:Int))=True:=eq_true (by omega)
     have hbit:=bnU (tgB pc)
     have hsum:∀x,x<dd'.getD to 0→(dd'.set to x).sum<dd'.sum:=fun x hx=>aAK (by omega) hx
     generalize dd'.getD room 0=xr at *
     generalize dd'.getD to 0=xt at *
     generalize hrows:dd'.map Kz=rows at *
     have hbc:=Es k8
     have hb0:LP.clean=LP:=by rw[←hLP];rfl
     rw[hb0]at hbc
     have hne2:∀(b:Nat) (c X:CB),b≠h.length+2→h'[b]?=some c→((Hn h').set (h.length+2) X)[b]?=some c.clean:=fun b c X hn hc=>by rw[adD (fun e=>hn e.symm),Es hc]
     have h6:=As i5
     have g0':=fun X=>hne2 0 _ X (by omega) j0
     have g1':=fun X=>hne2 1 _ X (by omega) j1
     have g2':=fun X=>hne2 2 _ X (by omega) j2
     have g3':=fun X=>hne2 3 _ X (by omega) j3
     have g5':=fun X=>hne2 5 _ X (by omega) j5
     have gk':=fun X=>hne2 k _ X (by omega) k5
     simp only[CB.clean]at g1' g2' g3' g5' gk'
     have hlw:∀n,n≤1048577→IntKind.i64.wrap (n:Nat)=(n:Int):=fun n hn=>Bf (by omega) (by omega)
     have hself:∀X:CB,((Hn h').set (h.length+2) X)[h.length+2]?=some X:=fun X=>aHY (As hbc)
     have hback:∀X:CB,(((Hn h').set (h.length+2) X).set (h.length+2) LP)=Hn h':=fun X=>by
      rw[List.set_set];exact a1B hbc
     have sm:=a8B (l:=[]) jq
     simp only[List.append_nil]at sm
     have fin0:∀(dx:DqI E s N Hy dd' q' (ahX E room (i+1))),(Dt.ret (AV.bool true)=.ret (.bool true))∧Okw h' (Hn h')∧∃dd2 q2,DiH LK.clean false ps N (Ob h' (Hn h')) dd2 q2 [k,h.length,h.length+1,h.length+2]∧DqI E s N Hy dd2 q2 (ahX E room (i+1))∧2*dd2.sum+q2.length≤2*dd.sum+q.length∧(∀b∈[k,h.length,h.length+1,h.length+2],(Ob h' (Hn h'))[b]?=h'[b]?)∧h'.length≤(Ob h' (Hn h')).length:=fun dx=>by
      rw[sm.2]
      exact⟨rfl,sm.1,dd',q',⟨f',v',fl',w2,j0,j1,by rw[hrows];exact j2,j3,j5,j4,jQ,jB,jq⟩,dx,k4,fun b _=>rfl,az0 _⟩
     have hq':q'.length≤100000000:=by omega
     have hK6:∀b∈[k,h.length,h.length+1,h.length+2],6≤b∧b<h'.length:=fun b hb1=>by
      simp only[abX,ah1,or_false]at hb1
      omega
     have hnx:∀(b:Nat) (c X Y:CB),b≠h.length+2→b≠2→h'[b]?=some c→(((Hn h').set (h.length+2) X).set 2 Y)[b]?=some c.clean:=fun b c X Y n1 n2 hc=>by rw[adD (fun e=>n2 e.symm)];exact hne2 b c X n1 hc
     have n5:=fun X Y=>hnx 5 _ X Y (by omega) (by omega) j5
     have n4:=fun X Y=>hnx 4 _ X Y (by omega) (by omega) j4
     have nB:∀X Y:CB,(((Hn h').set (h.length+2) X).set 2 Y)[h.length+2]?=some X:=fun X Y=>by rw[adD (by omega)];exact hself X
     simp only[CB.clean]at n5 n4
     have nQ:∀X Y,QS v' q' (((Hn h').set (h.length+2) X).set 2 Y) 4:=fun X Y=>by
      rcases QS.cln jQ with h1|⟨b,w0,rows0,r0,h1,h2,h3⟩
      ·exact .inl h1
      ·have hbb:=jB b (by rw[h1];simp[scB])
       simp only[abX,ah1,or_false,not_or]at hbb
       exact .inr ⟨b,w0,rows0,r0,h1,by rw[adD (by omega),adD (by omega)];exact h2,h3⟩
     have hlen2:∀X Y:CB,(((Hn h').set (h.length+2) X).set 2 Y).length=h'.length:=fun X Y=>by simp[Cj]
     have nqt:∀(X:CB) (Y:List (List AV)),X.quiet X.clean=true→Ba (((Hn h').set (h.length+2) X).set 2 (.live 1 true true Y))=true:=fun X Y hX=>Eo (Eo (aiH jq) _ hX) _ rfl
     have fin1:∀{n:Nat} {q2:List Nat} {M:Aa} {Y:List Nat} {LB:CB} {v2:AV} {fl2:Bool},DqI E s N Hy (dd'.set to n) q2 (ahX E room (i+1))→n<xt→q2.length=q'.length+1→h'.length≤M.length→Ba M=true→M[4]?=some (.live 1 fl2 true [[v2]])→QS v2 q2 M 4→(∀b∈scB v2,h'.length≤b)→
      (∀b c,b∉Y→(((Hn h').set (h.length+2) LB).set 2 (.live 1 true true ((dd'.set to n).map Kz)))[b]?=some c→M[b]?=some c)→4∈Y→(∀b∈Y,b=4∨(b∈scB v'∧M[b]?=some .dead))→
      (Dt.ret (AV.bool true)=.ret (.bool true))∧Okw h' (M.set (h.length+2) LP)∧∃dd2 q2,DiH LK.clean false ps N (Ob h' (M.set (h.length+2) LP)) dd2 q2 [k,h.length,h.length+1,h.length+2]∧DqI E s N Hy dd2 q2 (ahX E room (i+1))∧2*dd2.sum+q2.length≤2*dd.sum+q.length∧(∀b∈[k,h.length,h.length+1,h.length+2],(Ob h' (M.set (h.length+2) LP))[b]?=h'[b]?)∧h'.length≤(Ob h' (M.set (h.length+2) LP)).length:=fun {n q2 M Y LB v2 fl2} dx hn hq2 m1 m2 m3 m4 m5 m6 hY hY'=>by
      have hr:=aYX (K:=[k,h.length,h.length+1,h.length+2]) j0 j1 (by rw[hrows];exact j2) j3 j5 j4 jQ jB jq k8 (by simp) hK6 hb0 (by rw[←hLP];rfl) m1 m2 m3 m4 m5 m6 hY hY'
      exact⟨rfl,hr.1,dd'.set to n,q2,hr.2.1,dx,by have:=hsum n hn;omega,hr.2.2.1,hr.2.2.2⟩
     have nbv:h.length+2∉4::scB v':=fun hx=>by
      rcases abX.1 hx with hx|hx
      ·omega
      ·have:=(jB _ hx).2;simp at this
     have mq:∀x,x∈q'++[to]↔x=to∨x∈q':=fun x=>by simp;exact Or.comm
     have mq2:∀x,x∈to::q'↔x=to∨x∈q':=fun x=>by simp
     cases htb:tgB pc with
     |true=>
      have hw1:IntKind.i64.wrap ((xr:Int)+1)=((xr+1:Nat):Int):=by have:=hlw (xr+1) (by omega);simpa using this
      rw[htb]at htt hbit I0 I1
      simp only[if_true]at I0 I1 hbit
      by_cases hle:xt≤xr+1
      ·have hle':(((xr+1:Nat):Int)≥(xt:Int))=True:=eq_true (by omega)
       have fz:=fin0 (I0 hle)
       subst hLP
       refine bbK hbc rfl ?_
       (have hb:=trivial;with_reducible repeat' (first|simp only[hb,Vc.down,seval,aoU.down,k8,g0,g1,g5,g7,g9,g10,g0',g1',g2',g3',g5',gk',Gv,hi12,hp24,hpl,htk,htt,hbit,hrm,htm,hrN,htN',hw1,hle',hself,hback]|refine An ?_ ?_<;>intro hb|refine fd ?_|fail))
       exact⟨_,_,rfl,fz⟩
      ·have hle':(((xr+1:Nat):Int)≥(xt:Int))=False:=eq_false (by omega)
       subst hLP
       refine bbK hbc rfl ?_
       (have hb:=trivial;with_reducible repeat' (first|simp only[hb,Vc.down,seval,aoU.down,k8,g0,g1,g5,g7,g9,g10,g0',g1',g2',g3',g5',gk',Gv,hi12,hp24,hpl,htk,htt,hbit,hrm,htm,hrN,htN',hw1,hle',hst]|refine An ?_ ?_<;>intro hb|refine fd ?_|fail))
       generalize hLB:CB.lp _ _ _ _ Iz.busy=LB
       obtain⟨q1,hq1⟩:∃q,Fn.func 75=q:=⟨_,rfl⟩
       obtain⟨es,M,b1,b2,b3,b4,⟨v2,fl2,b5,b6,b7⟩,b8,b9⟩:=bbW (nqt LB ((dd'.set to (xr+1)).map Kz) (by rw[←hLB];rfl)) to (n4 LB _) (nQ LB _) hq'
       rw[hq1]at b1
       have n5':=n5 LB
       have mB:=b8 _ _ nbv (nB LB _)
       have fz:=fin1 (I1 (q'++[to]) (by omega) mq) (by omega) (by simp) (by rw[hlen2]at b3;exact b3) b4 b5 b6 (by rw[hlen2]at b7;exact b7) b8 (aQD ..) (fun b hb1=>(abX.1 hb1).imp id fun hb1=>⟨hb1,b9 b hb1⟩)
       subst hLB
       (have hb:=trivial;with_reducible repeat' (first|simp only[hb,Vc.down,seval,aoU.down,n5',hq1,b1,b2,mB]|refine An ?_ ?_<;>intro hb|refine fd ?_|fail))
       exact⟨_,_,rfl,fz⟩
     |false=>
      have hw1:IntKind.i64.wrap ((xr:Int)+0)=((xr:Nat):Int):=by have:=hlw xr (by omega);simpa using this
      rw[htb]at htt hbit I0 I1
      simp only[aA3,if_false,Nat.add_zero]at I0 I1 hbit
      by_cases hle:xt≤xr
      ·have hle':((xr:Int)≥(xt:Int))=True:=eq_true (by omega)
       have fz:=fin0 (I0 hle)
       subst hLP
       refine bbK hbc rfl ?_
       (have hb:=trivial;with_reducible repeat' (first|simp only[hb,Vc.down,seval,aoU.down,k8,g0,g1,g5,g7,g9,g10,g0',g1',g2',g3',g5',gk',Gv,hi12,hp24,hpl,htk,htt,hbit,hrm,htm,hrN,htN',hw1,hle',hself,hback]|refine An ?_ ?_<;>intro hb|refine fd ?_|fail))
       exact⟨_,_,rfl,fz⟩
      ·have hle':((xr:Int)≥(xt:Int))=False:=eq_false (by omega)
       subst hLP
       refine bbK hbc rfl ?_
       (have hb:=trivial;with_reducible repeat' (first|simp only[hb,Vc.down,seval,aoU.down,k8,g0,g1,g5,g7,g9,g10,g0',g1',g2',g3',g5',gk',Gv,hi12,hp24,hpl,htk,htt,hbit,hrm,htm,hrN,htN',hw1,hle',hst]|refine An ?_ ?_<;>intro hb|refine fd ?_|fail))
       generalize hLB:CB.lp _ _ _ _ Iz.busy=LB
       obtain⟨q1,hq1⟩:∃q,Fn.func 79=q:=⟨_,rfl⟩
       obtain⟨es,M,b1,b2,b3,b4,⟨v2,fl2,b5,b6,b7⟩,b8⟩:=bjW (nqt LB ((dd'.set to xr).map Kz) (by rw[←hLB];rfl)) to (n4 LB _) (nQ LB _) hq'
       rw[hq1]at b1
       have n5':=n5 LB
       have mB:=b8 _ _ (by omega) (nB LB _)
       have fz:=fin1 (Y:=[4]) (I1 (to::q') (by omega) mq2) (by omega) (by simp) (by rw[hlen2]at b3;exact b3) b4 b5 b6 (by rw[hlen2]at b7;exact b7) (fun b c hn=>b8 b c (by simpa using hn)) (aQD ..) (fun b hb1=>.inl (by simpa using hb1))
       subst hLB
       (have hb:=trivial;with_reducible repeat' (first|simp only[hb,Vc.down,seval,aoU.down,n5',hq1,b1,b2,mB]|refine An ?_ ?_<;>intro hb|refine fd ?_|fail))
       exact⟨_,_,rfl,fz⟩
    obtain⟨o,G,es,e1,e2,rfl,z0,dd2,q2,z1,z2,z3,z4,z5⟩:=a9S round (fun o G h=>h.2.1.sh)
    refine⟨es,e1,?_⟩
    rw[e2]
    exact⟨dd2,q2,z1,z2,z3,⟨a0,by rw[z4 k (by simp)];exact k5⟩,⟨a1,by rw[z4 _ (by simp)];exact k6⟩,⟨a2,by rw[z4 _ (by simp)];exact k7⟩,by rw[z4 _ (by simp)];exact k8,by omega,kO.trans z0⟩
   ·rintro i p h' hpx n1 n2 ⟨dd',q',k1,k3,k4,k5,k6,k7,k8,k9⟩
    have hpo:=hw.part p (azY hpx)
    obtain⟨pc,hpc⟩:∃x,L[i]?=some x:=⟨_,aoV (by have:=(awN.1 hpx).1;omega)⟩
    have he:=a4I hpx hpc
    rw[hE]at he
    exact⟨dd',q',k1,k3.skip he (by omega) (by omega),k4,k5,k6,k7,k8,k9⟩
   ·have cl:∀(b:Nat) (c:CB),h[b]?=some c→(Hn h++[CB.live 1 false false [[.ptr 0 0 0]],.live 1 true false [[.int .i64 (room:Nat)]],LP])[b]?=some c.clean:=fun b c hc=>Ai (Es hc) _
    have ca:∀j,(Hn h++[CB.live 1 false false [[.ptr 0 0 0]],.live 1 true false [[.int .i64 (room:Nat)]],LP])[h.length+j]?=[CB.live 1 false false [[.ptr 0 0 0]],.live 1 true false [[.int .i64 (room:Nat)]],LP][j]?:=fun j=>by
     rw[aoT (by rw[Cj];omega),Cj,aQH]
    have hLc:LP.clean=LP:=by rw[←hLP];rfl
    have hLq:LP.quiet LP=true:=by rw[←hLP];rfl
    have hok:Okw (h++[.live 1 false false [[.ptr 0 0 0]],.live 1 true false [[.int .i64 (room:Nat)]],LP]) (Hn h++[.live 1 false false [[.ptr 0 0 0]],.live 1 true false [[.int .i64 (room:Nat)]],LP]):=by
     have:=Okw.cl (H:=h++[.live 1 false false [[.ptr 0 0 0]],.live 1 true false [[.int .i64 (room:Nat)]],LP]) (En iq (by simp only[Ba,aBU,hLc,hLq];rfl))
     rw[show Hn (h++[CB.live 1 false false [[.ptr 0 0 0]],.live 1 true false [[.int .i64 (room:Nat)]],LP])=Hn h++[CB.live 1 false false [[.ptr 0 0 0]],.live 1 true false [[.int .i64 (room:Nat)]],LP] by simp only[Hn,aOA,List.map_cons,List.map_nil,hLc];rfl]at this
     exact this
    refine⟨dd,q,⟨false,v,fl,false,by rw[hLK];exact cl 0 _ i0,cl 1 _ i1,cl 2 _ i2,cl 3 _ i3,cl 5 _ i5,cl 4 _ i4,?_,fun b hb1=>?_,En (aiH iq) (by simp only[Ba,aBU,hLc,hLq];rfl)⟩,rI,az0 _,⟨_,cl k _ hkb⟩,⟨false,ca 0⟩,⟨false,ca 1⟩,ca 2,by simp[Cj],hok⟩
    ·rcases QS.cln iQ with h|⟨b,w',rows,r,h1,h2,h3⟩
     ·exact .inl h
     ·exact .inr ⟨b,w',rows,r,h1,Ai h2 _,h3⟩
    ·have:=(iQ.lt b hb1).1
     have:=iB b hb1
     simp at this ⊢
     omega
   ·rintro o h' ⟨rfl,dd',q',⟨f',v',fl',w2,j0,j1,j2,j3,j5,j4,jQ,jB,jq⟩,k3,k4,⟨a0,k5⟩,⟨a1,k6⟩,⟨a2,k7⟩,k8,k9,kO⟩
    have hl5:=As i5
    have hLc:LP.clean=LP:=by rw[←hLP];rfl
    have hLq:LP.quiet LP=true:=by rw[←hLP];rfl
    obtain⟨h1,hh1⟩:∃H:Aa,h++[.live 1 false false [[.ptr 0 0 0]],.live 1 true false [[.int .i64 (room:Nat)]],LP]=H:=⟨_,rfl⟩
    have hB1:h1[h.length+2]?=some LP:=by rw[←hh1,aoT (by omega),aQH];rfl
    have hq1:Ba h1=true:=by rw[←hh1];exact En iq (by simp only[Ba,aBU,hLc,hLq];rfl)
    have hO:∀(b:Nat) (c:CB),h[b]?=some c→h1[b]?=some c:=fun b c hc=>by rw[←hh1];exact Ai hc _
    simp only[hh1]at kO ⊢
    obtain⟨es,e1,e2⟩:=av0 h1 h' [] kO.sh
    have e1':Bz 0 h1 h'=some es:=e1
    simp only[aoW]at e2
    have m0:=Okw.old (hO 0 _ i0) j0 (by rw[hLK];rfl)
    have m1:=Okw.old (hO 1 _ i1) j1 rfl
    obtain⟨x2,m2⟩:=kO.live j2
    have m3:=Okw.old (hO 3 _ i3) j3 rfl
    have m5:=Okw.old (hO 5 _ i5) j5 rfl
    obtain⟨x4,m4⟩:=kO.live j4
    obtain⟨xk,mk_⟩:=kO.live k5
    have mQ:=jQ.okw kO
    have mB:=Okw.old hB1 k8 hLq
    have mqt:=kO.quiet hq1 jq
    have mln:h'.length≤(Ob h1 h').length:=by rw[am8 kO.1];exact az0 _
    generalize hM:Ob h1 h'=M at *
    rw[aE9,e1']
    have dne:∀(b:Nat) (c:CB),b≠h.length+2→M[b]?=some c→(M.set (h.length+2) .dead)[b]?=some c:=fun b c hn hc=>by rw[adD (fun e=>hn e.symm)];exact hc
    have hkn:k≠h.length+2:=by omega
    have d0:=dne 0 _ (by omega) m0
    have d1:=dne 1 _ (by omega) m1
    have d2:=dne 2 _ (by omega) m2
    have d3:=dne 3 _ (by omega) m3
    have d5:=dne 5 _ (by omega) m5
    have d4:=dne 4 _ (by omega) m4
    have dk:=dne k _ hkn mk_
    have dq:Ba (M.set (h.length+2) .dead)=true:=Eo mqt _ rfl
    have dl:(M.set (h.length+2) .dead).length=M.length:=by simp
    have dQ:QS v' q' (M.set (h.length+2) .dead) 4:=by
     rcases mQ with h1|⟨b,w0,rows0,r0,h1,h2,h3⟩
     ·exact .inl h1
     ·have hbb:=jB b (by rw[h1];simp[scB])
      simp only[abX,ah1,or_false,not_or]at hbb
      exact .inr ⟨b,w0,rows0,r0,h1,dne b _ (by omega) h2,h3⟩
    subst hLP
    (have hb:=trivial;with_reducible repeat' (first|simp only[hb,Vc.down,seval,aoU.down,e2,mB]|refine An ?_ ?_<;>intro hb|refine fd ?_|fail))
    generalize hD:M.set (h.length+2) CB.dead=D at *
    (have hb:=trivial;with_reducible repeat' (first|simp only[hb,Vc.down,seval,aoU.down,g0,g1,g5,g7,g9,g10,dk,d5]|refine An ?_ ?_<;>intro hb|refine fd ?_|fail))
    have p5:=Ai d5 [CB.live 1 true true [[.int .i64 (room:Int)]]]
    have p4:=Ai d4 [CB.live 1 true true [[.int .i64 (room:Int)]]]
    have pq:Ba (D++[CB.live 1 true true [[.int .i64 (room:Int)]]])=true:=En dq rfl
    have pQ:=dQ.app [CB.live 1 true true [[.int .i64 (room:Int)]]]
    have pk:(D++[CB.live 1 true true [[.int .i64 (room:Int)]]])[D.length]?=some (.live 1 true true [[.int .i64 (room:Int)]]):=by simp
    have hEl:E.length≤w.parts.length:=by rw[←hE];simp[edg,tgt];omega
    have k3':=k3.done hEl
    have hD6:6≤D.length:=by omega
    have hvD:∀b∈scB v',6≤b∧b∉[D.length]:=fun b hb1=>by
     have h1:=(dQ.lt b hb1).1
     have h2:=(jB b hb1).1
     exact⟨h2,by simp;omega⟩
    obtain⟨q1,hq1⟩:∃q,Fn.func 76=q:=⟨_,rfl⟩
    cases q' with
    |nil=>
     have b1:=biX pq p4 pQ
     rw[hq1]at b1
     (have hb:=trivial;with_reducible repeat' (first|simp only[hb,Vc.down,seval,aoU.down,p5,hq1,b1]|refine An ?_ ?_<;>intro hb|refine fd ?_|fail))
     refine Aq (kJ _ _ () ⟨by simp[up,g0],by simp[up,g1],by simp[up,g5],by simp[up,g7],by simp[up,g9],dd',[],D.length,?_,?_,.inr ⟨by simp[up],rfl,k3'⟩⟩ rfl)
     ·exact⟨_,_,_,_,Ai d0 _,Ai d1 _,Ai d2 _,Ai d3 _,Ai d5 _,Ai d4 _,dQ.app _,hvD,En dq rfl⟩
     ·omega
    |cons x q'=>
     simp only[List.length_cons]at k4
     obtain⟨es,M4,b1,b2,b3,b4,⟨v2,fl2,b5,b6,b7⟩,b8⟩:=bbY pq p4 pQ (by omega)
     rw[hq1]at b1
     have r5:=b8 _ _ (by omega) p5
     have rk:=b8 _ _ (by omega) pk
     (have hb:=trivial;with_reducible repeat' (first|simp only[hb,Vc.down,seval,aoU.down,p5,hq1,b1,b2,rk,r5]|refine An ?_ ?_<;>intro hb|refine fd ?_|fail))
     have sne:∀(b:Nat) (c:CB),b<D.length→b≠4→D[b]?=some c→(M4.set D.length (.live 1 true true [[.int .i64 (x:Int)]]))[b]?=some c:=fun b c h1 h2 hc=>by
      rw[adD (by omega)];exact b8 b c h2 (Ai hc _)
     have hl4:=As rk
     refine Aq (kJ _ _ () ⟨by simp[up,g0],by simp[up,g1],by simp[up,g5],by simp[up,g7],by simp[up,g9],dd',q',D.length,?_,by omega,.inl ⟨by simp[up],x,true,by simp[up],hD6,aHY hl4,k3',by omega⟩⟩ rfl)
     refine⟨_,v2,fl2,true,sne 0 _ (by omega) (by omega) d0,sne 1 _ (by omega) (by omega) d1,sne 2 _ (by omega) (by omega) d2,sne 3 _ (by omega) (by omega) d3,sne 5 _ (by omega) (by omega) d5,by rw[adD (by omega)];exact b5,?_,fun b hb1=>hvD b (by rw[←b7];exact hb1),Eo b4 _ rfl⟩
     rcases b6 with h1|⟨b,w0,rows0,r0,h1,h2,h3⟩
     ·exact .inl h1
     ·have hbb:=hvD b (by rw[←b7,h1];simp[scB])
      simp only[abX,ah1,or_false]at hbb
      exact .inr ⟨b,w0,rows0,r0,h1,by rw[adD (fun e=>hbb.2 e.symm)];exact h2,h3⟩
  ·(have hb:=trivial;with_reducible repeat' (first|simp only[hb,Vc.down,seval,aoU.down,g11]|refine An ?_ ?_<;>intro hb|refine fd ?_|fail))
   exact kQ _ _ _ ⟨rfl,by simp[up,g7],dd,k,hD,hI⟩
 ·refine⟨by simp[up,g0],by simp[up,g1],by simp[up,g5],by simp[up,g7],by simp[up],Fq N s Hy,[],M2.length,?_,by simp only[List.length_nil];omega,.inl ⟨by simp[up],s,true,by simp[up],by simp at b3;omega,by rw[aoT (az0 _),aJ4];rfl,I0,by simp⟩⟩
  refine⟨true,v2,fl2,true,Ai j0 _,Ai j1 _,Ai j2 _,Ai j3 _,Ai j5 _,Ai c5 _,?_,?_,En c4 rfl⟩
  ·rcases c6 with h|⟨b,w',rows,r,h1,h2,h3⟩
   ·exact .inl h
   ·exact .inr ⟨b,w',rows,r,h1,Ai h2 _,h3⟩
  ·intro b hb1
   have:=c6.lt b hb1
   rw[c7]at hb1
   have h6:=b7 b hb1
   simp at h6
   exact⟨h6,by simp;omega⟩
 obtain⟨rfl,g7,dd,k,⟨f,v,fl,w',i0,i1,i2,i3,i5,i4,iQ,iB,iq⟩,hI⟩:=hk
 have hR:=hI.right hs hEo (by unfold Hy;omega)
 have hdl:=hI.i.len
 have hln:(dd.map Kz).length=N:=by simp[hdl]
 subst hLK
 (have hb:=trivial;with_reducible repeat' (first|simp only[hb,Vc.down,seval,aoU.down,g7,i3,i2,i0,hln]|refine An ?_ ?_<;>intro hb|refine fd ?_|fail))
 exact⟨f,dd,rfl,hdl,hR⟩
theorem Jc(L:List (Int × Bool)):∀x∈Do L,(∃n,x=.int .i64 n)∨∃b,x=.bool b:=fun x hx=>by
 simp only[Do,aDG,abX,ah1,or_false]at hx
 obtain⟨y,_,rfl|rfl⟩:=hx
 ·exact .inl ⟨_,rfl⟩
 ·exact .inr ⟨_,rfl⟩
theorem Hf(L:List (Int × Bool)):(Do L).all AV.flat=true:=ai5.2 fun x hx=>by rcases Jc L x hx with⟨n,rfl⟩|⟨b,rfl⟩<;>rfl
theorem Hg(L:List (Int × Bool)):(Do L).all AV.isCell=true:=ai5.2 fun x hx=>by rcases Jc L x hx with⟨n,rfl⟩|⟨b,rfl⟩<;>rfl
theorem aCL(L:List (Int × Bool))(d:Nat)(g:HF):Ap (Fa (d+1) g) (Do L)=some (Do L):=aJ9 fun x hx=>by rcases Jc L x hx with⟨n,rfl⟩|⟨b,rfl⟩<;>rfl
theorem aCC(L:List (Int × Bool))(d:Nat)(g:HF):(Do L).flatMap (Ar (d+1) g)=[]:=List.flatMap_eq_nil_iff.2 fun x hx=>by rcases Jc L x hx with⟨n,rfl⟩|⟨b,rfl⟩<;>rfl
theorem am5(L:List (Int × Bool))(d:Nat)(m:List Nat):Bl.refL (Bl (d+1)) m (Do L)=some (Do L,m):=Ge fun x hx=>by rcases Jc L x hx with⟨n,rfl⟩|⟨b,rfl⟩<;>rfl
theorem aGP(L:List (Int × Bool))(d:Nat)(f:Nat→Nat):Ap (Bo (d+1) f) (Do L)=some (Do L):=aJ9 fun x hx=>by rcases Jc L x hx with⟨n,rfl⟩|⟨b,rfl⟩<;>rfl
theorem aE5(L:List (Int × Bool))(d:Nat):(Do L).any (hasImm (d+1))=false:=List.any_eq_false.2 fun x hx=>by rcases Jc L x hx with⟨n,rfl⟩|⟨b,rfl⟩<;>simp[hasImm]
def nmB(w:Af)(N:Nat)(L:List (Int × Bool)):Nat:=aD6 (edg w (tgt L)) N w.parts.length
theorem aBH{w:Af}{N:Nat}(hw:WOk w N)(h12:w.parts.length≤12)(d:Int){L:List (Int × Bool)}(hL12:L.length=12)(wf:Bool):
 Dp.call (.fn 51) [.ptr 0 0 0,.agg (Do L)] [.live 4 false wf [[.int .i64 w.rooms,.int .i64 w.need,Be 9 true w.nn (w.parts.map Ab.cells),.int .i64 d]]]=some (.ret (.int .i64 (nmB w N L:Nat)),[.live 4 false wf [[.int .i64 w.rooms,.int .i64 w.need,Be 9 true w.nn (w.parts.map Ab.cells),.int .i64 d]]]):=by
 have n2:=hw.n2
 have n8:=hw.n8
 obtain⟨o,h',hc,f,ds,rfl,rfl,hdl,hR⟩:=aL6 hw h12 (d:=d) (s:=0) (by omega) hL12 rfl (wf:=false)
 have hne:=bfE (len:=w.parts.length) n2 (by omega) (by unfold Hy;omega) (aBW hw (tgt L)) hR
 have hf1:=Hf L
 have hf2:=Hg L
 have hpl:(Do L).length=24:=by rw[Cb];omega
 have hd1:=aLI (d:=ds) (a:=1) (by omega)
 have h1N:((1:Int)<(N:Int))=True:=eq_true (by omega)
 have hle:ds.getD 1 0≤1048576:=by
  by_cases e:ds.getD 1 0=Hy
  ·rw[e];exact az0 _
  ·have:=(avW.num hR hR (by unfold Hy;omega) (by unfold Hy;omega) (by omega) (aBW hw (tgt L)) (v:=1) (by omega)).2.2 e
   have:ds.getD 1 0<N:=this
   omega
 have hN1:nmB w N L=if ds.getD 1 0=Hy then w.parts.length+1 else ds.getD 1 0:=hne.symm
 rw[hN1]
 have hav:=aCL L
 have hlv:=aCC L
 have hrf:=am5 L
 simp only[Int.natCast_zero]at hc
 generalize Do L=ps at *
 have htk:adC 24 ps=ps:=af5 (by omega)
 generalize ds.getD 1 0=x at *
 generalize ds.map Kz=rows at *
 have hwr:IntKind.i64.wrap ((w.parts.length:Int)+1)=((w.parts.length+1:Nat):Int):=by have:=Bf (n:=((w.parts.length+1:Nat):Int)) (by omega) (by omega);simpa using this
 by_cases e:x=Hy
 ·have e1:((x:Int)==1048576)=true:=by rw[e];rfl
  rw[if_pos e]
  refine ce Tryz.func51 ?_
  simp only[Tryz.f51]
  (have hb:=trivial;with_reducible repeat' (first|simp only[hb,Vc.down,seval,bjE.down,hpl,hf1,hf2,htk,hav,hlv,hrf,hc,hd1,h1N,e1,hwr,agI]|refine An ?_ ?_<;>intro hb|refine fd ?_|fail))
 ·have e1:((x:Int)==1048576)=false:=by simp;exact fun h=>e (by unfold Hy;omega)
  rw[if_neg e]
  refine ce Tryz.func51 ?_
  simp only[Tryz.f51]
  (have hb:=trivial;with_reducible repeat' (first|simp only[hb,Vc.down,seval,bjE.down,hpl,hf1,hf2,htk,hav,hlv,hrf,hc,hd1,h1N,e1,agI]|refine An ?_ ?_<;>intro hb|refine fd ?_|fail))
theorem aGX{w:Af}{d:Int}(h12:w.parts.length≤12):(Ac w d).length=12:=by simp[Ac];omega
theorem aGJ{w:Af}{N:Nat}{d:Int}:nmB w N (Ac w d)=ahS w N d:=by unfold nmB ahS;rw[aRW]
theorem aMS{α:Type}{d:List AV→Option α}{f:α→List AV}(hd:∀cs x,d cs=some x→cs=f x):∀{rows:List (List AV)} {l:List α},Ap d rows=some l→rows=l.map f
 | [],l,h=>by simp[Ap]at h;subst h;rfl
 |r::rows,l,h=>by
  simp only[Ap,aQR,aEQ]at h
  obtain⟨x,h1,l',h2,rfl⟩:=h
  rw[hd r x h1,aMS hd h2];rfl
def dSl{α:Type}(n:Nat)(fl:Bool)(d:List AV→Option α):AV→Option (Bool × List α)
 | .nils=>some (false,[])
 | .imm n' fl' rows=>if n'=n∧fl'=fl then(Ap d rows).map fun l=>(true,l)else none
 |_=>none
theorem bfP{α:Type}{n:Nat}{fl:Bool}{d:List AV→Option α}{f:α→List AV}(hd:∀cs x,d cs=some x→cs=f x){v:AV}{x:Bool × List α}(h:dSl n fl d v=some x):v=Be n fl x.1 (x.2.map f):=by
 unfold dSl at h
 split at h
 ·cases h;rfl
 ·split at h
  ·rename_i hq
   obtain⟨rfl,rfl⟩:=hq
   obtain⟨l,h1,rfl⟩:=aEQ.1 h
   rw[aMS hd h1]
   cases l<;>rfl
  ·cases h
 ·cases h
def aYV:List AV→Option Ab
 | [.int .i64 a,.int .i64 b,.bool c,.bool d,.int .i64 e,.int .i64 f,.bool g,.int .i64 h,.int .i64 i]=>some ⟨a,b,c,d,e,f,g,h,i⟩
 |_=>none
theorem a4S(cs:List AV)(x:Ab)(h:aYV cs=some x):cs=x.cells:=by
 unfold aYV at h
 split at h
 ·cases h;rfl
 ·cases h
def a2T:List AV→Option (List (Int × Bool))
 | []=>some []
 | .int .i64 a::.bool b::l=>(a2T l).map fun r=>(a,b)::r
 |_=>none
theorem aS1:∀(cs:List AV) (x:List (Int × Bool)),a2T cs=some x→cs=Do x
 | [],x,h=>by simp[a2T]at h;subst h;rfl
 | .int .i64 a::.bool b::l,x,h=>by
   simp only[a2T,aEQ]at h
   obtain⟨r,h1,rfl⟩:=h
   rw[aS1 l r h1];rfl
def bjK:List AV→Aa→Option (Dt × Aa)
 | [.ptr 0 0 0,.agg ps],[.live 4 false wf [[.int .i64 rooms,.int .i64 need,sl,.int .i64 d]]]=>
   (dSl 9 true aYV sl).bind fun x=>(a2T ps).bind fun L=>if(Fe ⟨rooms,need,x.1,x.2⟩&&decide (L.length=12))=true then
     some (.ret (.int .i64 (nmB ⟨rooms,need,x.1,x.2⟩ rooms.toNat L:Nat)),[.live 4 false wf [[.int .i64 rooms,.int .i64 need,sl,.int .i64 d]]])else none
 |_,_=>none
def pr2:Me:={ pr with at_:=fun f=>if f=51 then some bjK else pr f }
theorem bj0(f:Nat)(h:pr2 f=none):pr f=none:=by
 simp only[pr2]at h
 split at h
 ·cases h
 ·exact h
theorem beY:∀f p,pr2 f=some p→∀a h r,p a h=some r→Dp.call (.fn f) a h=some r:=by
 intro f p hp a h r hr
 simp only[pr2]at hp
 split at hp
 ·rename_i hf
  subst hf
  cases hp
  unfold bjK at hr
  split at hr
  ·rename_i ps wf rooms need sl d
   simp only[aQR]at hr
   obtain⟨x,h1,L,h2,h3⟩:=hr
   split at h3
   ·rename_i hs
    simp only[Bool.and_eq_true,decide_eq_true_eq]at hs
    cases h3
    obtain⟨N,hw,h12⟩:=aUF hs.1
    have hN:rooms.toNat=N:=by have:=hw.rooms;simp only at this;omega
    rw[bfP a4S h1,aS1 _ _ h2,hN]
    exact aBH hw h12 d hs.2 wf
   ·cases h3
  ·cases hr
 ·exact aUG hp hr
theorem aW9:(orc Tryz.prog pr2 100).call (.fn 10) [] []=some (.ret (.bool true),[]):=by kernel_rfl
theorem a1Q:Dp.call (.fn 10) [] []=some (.ret (.bool true),[]):=aOS (pr:=pr) (pr2:=pr2) rfl bj0 beY aW9
def aQI(w:Af):Bool:=decide ((w.parts.length:Int)≤15)
theorem a8Y(w:Af):Dp.call (.fn 9) [.agg [.int .i64 w.rooms,.int .i64 w.need,Be 9 true w.nn (w.parts.map Ab.cells)]] []=some (.ret (.bool (aQI w)),[]):=by
 cases c:aQI w
 ·have h:decide ((w.parts.length:Int)≤15)=false:=c
  (refine ce Tryz.func9 ?_;simp only[Tryz.f9];(have hb:=trivial;with_reducible repeat' (first|simp only[hb,Va.down,seval,TY9.down,h,agI]|refine An ?_ ?_<;>intro hb|refine fd ?_|fail)))
 ·have h:decide ((w.parts.length:Int)≤15)=true:=c
  (refine ce Tryz.func9 ?_;simp only[Tryz.f9];(have hb:=trivial;with_reducible repeat' (first|simp only[hb,Va.down,seval,TY9.down,h,agI]|refine An ?_ ?_<;>intro hb|refine fd ?_|fail)))
theorem aNH:∀(L:List (Int × Bool)) (i:Nat) (a:Int) (b:Bool),i<L.length→adC (i*2) (Do L)++(.int .i64 a::.bool b::aIE (i*2+2) (Do L))=Do (L.set i (a,b))
 | [],i,a,b,h=>by simp at h
 |x::L,0,a,b,h=>by simp[Do]
 |x::L,i+1,a,b,h=>by
  have ih:=aNH L i a b (by simpa using h)
  rw[show(i+1)*2=(i*2)+1+1 by omega,show(i*2)+1+1+2=(i*2+2)+1+1 by omega]
  simp only[Do,aOK,aJN,aoW,List.take_succ_cons,aPZ,aQ3]at ih ⊢
  rw[←ih]
theorem ao2(L:List (Int × Bool))(d:Nat):(Do L).all (Aw (d+1))=true:=ai5.2 fun x hx=>by rcases Jc L x hx with⟨n,rfl⟩|⟨b,rfl⟩<;>rfl
def Dc(k:Int)(b:Bool)(x:Int × Bool):Int × Bool:=if k=1 then(x.1,true)else if k=2 then(x.1,false)else if k=3 then(if b=true then(0,x.2)else(2,x.2))else(0,x.2)
theorem aZ8(c:Int)(o b:Bool):Dp.call (.fn 112) [.agg [.int .i64 c,.bool o],.bool b] []=some (.ret (.agg [.int .i64 c,.bool true]),[]):=by
 (refine ce Tryz.func112 ?_;simp only[Tryz.f112];(have hb:=trivial;with_reducible repeat' (first|simp only[hb,Vc.down,seval,bjU.down]|refine An ?_ ?_<;>intro hb|refine fd ?_|fail)))
theorem aYP(c:Int)(o b:Bool):Dp.call (.fn 113) [.agg [.int .i64 c,.bool o],.bool b] []=some (.ret (.agg [.int .i64 c,.bool false]),[]):=by
 (refine ce Tryz.func113 ?_;simp only[Tryz.f113];(have hb:=trivial;with_reducible repeat' (first|simp only[hb,Vc.down,seval,biU.down]|refine An ?_ ?_<;>intro hb|refine fd ?_|fail)))
theorem a0E(c:Int)(o b:Bool):Dp.call (.fn 114) [.agg [.int .i64 c,.bool o],.bool b] []=some (.ret (.agg [.int .i64 (if b=true then 0 else 2),.bool o]),[]):=by
 cases b<;>(refine ce Tryz.func114 ?_;simp only[Tryz.f114];(have hb:=trivial;with_reducible repeat' (first|simp only[hb,Vc.down,seval,bn1.down]|refine An ?_ ?_<;>intro hb|refine fd ?_|fail)))
theorem aX4(c:Int)(o b:Bool):Dp.call (.fn 115) [.agg [.int .i64 c,.bool o],.bool b] []=some (.ret (.agg [.int .i64 0,.bool o]),[]):=by
 (refine ce Tryz.func115 ?_;simp only[Tryz.f115];(have hb:=trivial;with_reducible repeat' (first|simp only[hb,Vc.down,seval,biW.down]|refine An ?_ ?_<;>intro hb|refine fd ?_|fail)))
def aHZ:CB:=.lp [] .skip .skip [.int .i64 1,.func (.func 112) [] [],.int .i64 2,.func (.func 113) [] [],.int .i64 3,.func (.func 114) [] [],.int .i64 4,.func (.func 115) [] []] .map
theorem aLJ:Dp.call (.fn 92) [] []=some (.ret (.mapr 0),[aHZ]):=by
 exact aOS (pr:=pr) (pr2:=pr) (n:=10) rfl (fun f hf=>hf) (fun f p hp a h r hr=>aUG hp hr) (by kernel_rfl)
def fnD(k:Int):Nat:=if k=1 then 112 else if k=2 then 113 else if k=3 then 114 else 115
theorem a9L{h:Aa}{b:Nat}(hb:h[b]?=some aHZ){k:Int}(hk:k=1∨k=2∨k=3∨k=4):lk Tryz.prog h 146 (some (.mapr b)) (some (.int .i64 k)) false=some (.ret (.func (.func (fnD k)) [] []),[]):=by
 have key:∀k:Int,k=1∨k=2∨k=3∨k=4→(Ep Tryz.prog (fun _=>some aHZ) 146 (.mapr 0) (.int .i64 k) false).map (fun d=>(d.v,d.es))=some (.func (.func (fnD k)) [] [],[]):=fun k hk=>by
  rcases hk with rfl|rfl|rfl|rfl<;>kernel_rfl
 have e:(Ep Tryz.prog (hf h) 146 (.mapr b) (.int .i64 k) false).map (fun d=>(d.v,d.es))=(Ep Tryz.prog (fun _=>some aHZ) 146 (.mapr 0) (.int .i64 k) false).map (fun d=>(d.v,d.es)):=by
  unfold Ep
  simp only[Tryz.underlying146]
  have hm:abJ (hf h) b=abJ (fun _=>some aHZ) 0:=by simp only[abJ,hf,hb]
  simp only[hm]
  split
  ·generalize abJ (fun _=>some aHZ) 0=m
   cases m with
   |none=>rfl
   |some kvs=>
    simp only[abK]
    generalize aoN _ _ _ kvs 0=r
    cases r with
    |none=>rfl
    |some r=>
     simp only[abK]
     generalize Eu _ _=z
     cases z<;>rfl
  ·rfl
 rw[key k hk]at e
 simp only[lk,abK]
 obtain⟨d,hd,h2⟩:=aEQ.1 e
 rw[hd]
 simp only[Prod.mk.injEq]at h2
 obtain⟨v,es,fs⟩:=d
 obtain⟨rfl,rfl⟩:=h2
 rfl
theorem aLW{L:List (Int × Bool)}(hL:L.length=12){i:Nat}{x:Int × Bool}(hx:L[i]?=some x){k:Int}(hk:k=1∨k=2∨k=3∨k=4)(b:Bool):
 Dp.call (.fn 74) [.agg (Do L),.agg [.int .i64 k,.int .i64 (i:Int)],.bool b] []=some (.ret (.agg (Do (L.set i (Dc k b x)))),[]):=by
 have hi:i<L.length:=(awN.1 hx).1
 have hpl:(Do L).length=24:=by rw[Cb];omega
 have hf1:=Hf L
 have hf2:=Hg L
 have htk:=aCV _ _ _ _ hx
 have hst:=fun a b=>aNH L i a b hi
 have hpl2:∀a b,(Do (L.set i (a,b))).length=24:=fun a b=>by rw[Cb];simp;omega
 have hfl2:=fun a b=>Hf (L.set i (a,b))
 have hce2:=fun a b=>Hg (L.set i (a,b))
 have hrf2:=fun a b=>am5 (L.set i (a,b))
 have hpv2:=fun a b=>ao2 (L.set i (a,b))
 have i12:((i:Int)<12)=True:=eq_true (by omega)
 have hp24:(i*2+2≤24)=True:=eq_true (by omega)
 have htk24:adC 24 (Do L)=Do L:=af5 (by omega)
 have htk2:∀a b,adC (24-i*2) [AV.int .i64 a,AV.bool b]=[AV.int .i64 a,AV.bool b]:=fun a b=>af5 (by simp;omega)
 have htk3:∀a b,adC 24 (Do (L.set i (a,b)))=Do (L.set i (a,b)):=fun a b=>af5 (by rw[hpl2];omega)
 obtain⟨a,o⟩:=x
 have hrm:∀f,Fb f aHZ=some aHZ:=fun f=>rfl
 have him:aHZ.hasImm=false:=rfl
 have rv:∀(f:Nat→Nat) (b:Nat),Bo 8 f (.mapr b)=some (.mapr (f b)):=fun _ _=>rfl
 have hlk:=fun(h:Aa) (b':Nat) (hb':h[b']?=some aHZ)=>a9L hb' hk
 have q1:=aZ8 a o b
 have q2:=aYP a o b
 have q3:=a0E a o b
 have q4:=aX4 a o b
 rcases hk with rfl|rfl|rfl|rfl
 ·rw[show fnD 1=112 from rfl]at hlk
  rw[show Dc 1 b (a,o)=(a,true)from rfl]
  refine ce Tryz.func74 ?_
  simp only[Tryz.f74]
  (have hb:=trivial;with_reducible repeat' (first|simp only[hb,Vc.down,seval,a71.down,hpl,hf1,hf2,htk,aLJ,i12,hp24,hrm,him,rv,hlk,q1,Gv,hst,hpl2,hfl2,hce2,hrf2,htk24,htk2,htk3,hpv2]|refine An ?_ ?_<;>intro hb|refine fd ?_|fail))
 ·rw[show fnD 2=113 from rfl]at hlk
  rw[show Dc 2 b (a,o)=(a,false)from rfl]
  refine ce Tryz.func74 ?_
  simp only[Tryz.f74]
  (have hb:=trivial;with_reducible repeat' (first|simp only[hb,Vc.down,seval,a71.down,hpl,hf1,hf2,htk,aLJ,i12,hp24,hrm,him,rv,hlk,q2,Gv,hst,hpl2,hfl2,hce2,hrf2,htk24,htk2,htk3,hpv2]|refine An ?_ ?_<;>intro hb|refine fd ?_|fail))
 ·rw[show fnD 3=114 from rfl]at hlk
  rw[show Dc 3 b (a,o)=(if b=true then(0,o)else(2,o))from rfl]
  rw[show(if b=true then((0:Int),o)else(2,o))=((if b=true then 0 else 2),o) by cases b<;>rfl]
  refine ce Tryz.func74 ?_
  simp only[Tryz.f74]
  (have hb:=trivial;with_reducible repeat' (first|simp only[hb,Vc.down,seval,a71.down,hpl,hf1,hf2,htk,aLJ,i12,hp24,hrm,him,rv,hlk,q3,Gv,hst,hpl2,hfl2,hce2,hrf2,htk24,htk2,htk3,hpv2]|refine An ?_ ?_<;>intro hb|refine fd ?_|fail))
 ·rw[show fnD 4=115 from rfl]at hlk
  rw[show Dc 4 b (a,o)=(0,o)from rfl]
  refine ce Tryz.func74 ?_
  simp only[Tryz.f74]
  (have hb:=trivial;with_reducible repeat' (first|simp only[hb,Vc.down,seval,a71.down,hpl,hf1,hf2,htk,aLJ,i12,hp24,hrm,him,rv,hlk,q4,Gv,hst,hpl2,hfl2,hce2,hrf2,htk24,htk2,htk3,hpv2]|refine An ?_ ?_<;>intro hb|refine fd ?_|fail))
def aB9(p:Ab)(x:Int × Bool)(k:Int):Bool:=if k=1 then p.valve&& !x.2 else if k=2 then p.valve&&x.2 else if k=3 then !x.2&&x.1==1 else !x.2
theorem blM(p:Ab)(x:Int × Bool){k:Int}(hk:k=1∨k=2∨k=3∨k=4):Dp.call (.fn 54) [.agg p.cells,.agg [.int .i64 x.1,.bool x.2],.int .i64 k] []=some (.ret (.bool (aB9 p x k)),[]):=by
 obtain⟨a,o⟩:=x
 obtain⟨p1,p2,p3,p4,p5,p6,p7,p8,p9⟩:=p
 simp only[Ab.cells]
 rcases hk with rfl|rfl|rfl|rfl
 ·cases p3<;>cases o<;>(refine ce Tryz.func54 ?_;simp only[Tryz.f54];(have hb:=trivial;with_reducible repeat' (first|simp only[hb,Vc.down,seval,bbO.down]|refine An ?_ ?_<;>intro hb|refine fd ?_|fail)))
  all_goals rfl
 ·cases p3<;>cases o<;>(refine ce Tryz.func54 ?_;simp only[Tryz.f54];(have hb:=trivial;with_reducible repeat' (first|simp only[hb,Vc.down,seval,bbO.down]|refine An ?_ ?_<;>intro hb|refine fd ?_|fail)))
  all_goals rfl
 ·cases o<;>cases h:(a==1)<;>(refine ce Tryz.func54 ?_;simp only[Tryz.f54];(have hb:=trivial;with_reducible repeat' (first|simp only[hb,Vc.down,seval,bbO.down,h]|refine An ?_ ?_<;>intro hb|refine fd ?_|fail)))
  all_goals (simp only[aB9,h];rfl)
 ·cases o<;>(refine ce Tryz.func54 ?_;simp only[Tryz.f54];(have hb:=trivial;with_reducible repeat' (first|simp only[hb,Vc.down,seval,bbO.down]|refine An ?_ ?_<;>intro hb|refine fd ?_|fail)))
  all_goals rfl
theorem a5V(p:Ab){k:Int}(hk:k=1∨k=2∨k=3∨k=4):Dp.call (.fn 57) [.agg p.cells,.int .i64 k] []=some (.ret (.int .i64 (if k=3 then p.test else if k=4 then p.change else 1)),[]):=by
 simp only[Ab.cells]
 rcases hk with rfl|rfl|rfl|rfl<;>(refine ce Tryz.func57 ?_;simp only[Tryz.f57];(have hb:=trivial;with_reducible repeat' (first|simp only[hb,Vc.down,seval,bpO.down]|refine An ?_ ?_<;>intro hb|refine fd ?_|fail)))
 all_goals rfl
def Ff(w:Af)(N:Nat)(L:List (Int × Bool)):Int:=if(nmB w N L:Int)<w.need then(nmB w N L:Int)else w.need
def Iy(w:Af)(N:Nat)(L:List (Int × Bool))(k:Int)(i:Nat)(b:Bool)(x:Int × Bool):Bool:=
 (!(k==4)|| !decide ((nmB w N (L.set i (2,x.2)):Int)<Ff w N L))&&decide ((nmB w N (L.set i (Dc k b x)):Int)≥Ff w N L)
theorem bgB{w:Af}{N:Nat}(hw:WOk w N)(h12:w.parts.length≤12)(d:Int){L:List (Int × Bool)}(hL:L.length=12){i:Nat}{x:Int × Bool}(hx:L[i]?=some x){k:Int}(hk:k=1∨k=2∨k=3∨k=4)(b:Bool)(wf:Bool):
 Dp.call (.fn 55) [.ptr 0 0 0,.agg (Do L),.agg [.int .i64 k,.int .i64 (i:Int)],.bool b] [.live 4 false wf [[.int .i64 w.rooms,.int .i64 w.need,Be 9 true w.nn (w.parts.map Ab.cells),.int .i64 d]]]=some (.ret (.bool (Iy w N L k i b x)),[.live 4 false wf [[.int .i64 w.rooms,.int .i64 w.need,Be 9 true w.nn (w.parts.map Ab.cells),.int .i64 d]]]):=by
 have hi:i<L.length:=(awN.1 hx).1
 have hn0:=aBH hw h12 d hL false
 have hn1:=aBH hw h12 d (L:=L.set i (2,x.2)) (by simpa using hL) false
 have hn2:=aBH hw h12 d (L:=L.set i (Dc k b x)) (by simpa using hL) false
 have ha:=aLW hL hx hk b
 have hlb:Ff w N L=if(nmB w N L:Int)<w.need then(nmB w N L:Int)else w.need:=rfl
 have hsf:Iy w N L k i b x=((!(k==4)|| !decide ((nmB w N (L.set i (2,x.2)):Int)<Ff w N L))&&decide ((nmB w N (L.set i (Dc k b x)):Int)≥Ff w N L)):=rfl
 rw[hsf]
 have hmn:aDE (.int .i64 w.need) (.int .i64 (nmB w N L:Nat))=some (.int .i64 (Ff w N L)):=rfl
 generalize Ff w N L=lb at *
 generalize(nmB w N L:Nat)=n0 at *
 generalize(nmB w N (L.set i (2,x.2)):Nat)=n1 at *
 generalize(nmB w N (L.set i (Dc k b x)):Nat)=n2 at *
 have f0:=Hf L
 have c0:=Hg L
 have v0:=aCL L
 have l0:=aCC L
 have r0:=am5 L
 have p0:=ao2 L
 have hpl:(Do L).length=24:=by rw[Cb];omega
 have htk:=af5 (l:=Do L) (i:=24) (by omega)
 have f2:=Hf (L.set i (Dc k b x))
 have c2:=Hg (L.set i (Dc k b x))
 have v2:=aCL (L.set i (Dc k b x))
 have l2:=aCC (L.set i (Dc k b x))
 have r2:=am5 (L.set i (Dc k b x))
 have p2:=ao2 (L.set i (Dc k b x))
 have n2':=aGP (L.set i (Dc k b x))
 have i2:=aE5 (L.set i (Dc k b x))
 generalize Do (L.set i (Dc k b x))=ps2 at *
 have i12:((i:Int)<12)=True:=eq_true (by omega)
 have hpz:(i*2≤23)=True:=eq_true (by omega)
 have hs1:=aFQ L i x.1 2 x.2 hx
 have ht1:adC (24-i*2) [AV.int .i64 2]=[AV.int .i64 2]:=af5 (by simp;omega)
 have f1:=Hf (L.set i (2,x.2))
 have c1:=Hg (L.set i (2,x.2))
 have v1:=aCL (L.set i (2,x.2))
 have l1:=aCC (L.set i (2,x.2))
 have r1:=am5 (L.set i (2,x.2))
 have hpl1:(Do (L.set i (2,x.2))).length=24:=by rw[Cb];simp;omega
 have htk1:=af5 (l:=Do (L.set i (2,x.2))) (i:=24) (by omega)
 simp only[aJN,aoW]at hs1
 generalize Do (L.set i (2,x.2))=ps1 at *
 generalize Do L=ps at *
 refine ce Tryz.func55 ?_
 simp only[Tryz.f55]
 rw[hlb]
 cases q4:(k==4)
 ·cases q2:decide ((n2:Int)≥if(n0:Int)<w.need then(n0:Int)else w.need)
  all_goals (have hb:=trivial;with_reducible repeat' (first|simp only[hb,Vc.down,seval,bhY.down,q4,hn0,hn2,ha,hmn,f0,c0,v0,l0,r0,p0,hpl,htk,f2,c2,v2,l2,r2,p2,n2',i2]|refine An ?_ ?_<;>intro hb|refine fd ?_|fail))
  all_goals simp only[ge_iff_le]at q2
  all_goals rw[q2]
 ·cases q1:decide ((n1:Int)<if(n0:Int)<w.need then(n0:Int)else w.need)
  ·cases q2:decide ((n2:Int)≥if(n0:Int)<w.need then(n0:Int)else w.need)
   all_goals (have hb:=trivial;with_reducible repeat' (first|simp only[hb,Vc.down,seval,bhY.down,q1,q4,hn0,hn1,hn2,ha,hmn,f0,c0,v0,l0,r0,p0,hpl,htk,f1,c1,v1,l1,r1,hpl1,htk1,f2,c2,v2,l2,r2,p2,n2',i2,Gv,i12,hpz,hs1,ht1]|refine An ?_ ?_<;>intro hb|refine fd ?_|fail))
   all_goals simp only[ge_iff_le]at q2
   all_goals rw[q2]
  ·(have hb:=trivial;with_reducible repeat' (first|simp only[hb,Vc.down,seval,bhY.down,q1,q4,hn0,hn1,hn2,ha,hmn,f0,c0,v0,l0,r0,p0,hpl,htk,f1,c1,v1,l1,r1,hpl1,htk1,f2,c2,v2,l2,r2,p2,n2',i2,Gv,i12,hpz,hs1,ht1]|refine An ?_ ?_<;>intro hb|refine fd ?_|fail))
abbrev St:=List (Int × Bool) × Nat
def Db(s:St):List AV:=Do s.1++[.int .i64 (s.2:Int)]
def awV(p:Ab)(k:Int):Int:=if k=3 then p.test else if k=4 then p.change else 1
structure Oc where
 k:Int
 i:Nat
 c:Int
 to:List St
def toF(L:List (Int × Bool))(f:Nat)(k:Int)(i:Nat)(x:Int × Bool):List St:=(L.set i (Dc k true x),f)::if k=3∧0<f then [(L.set i (Dc k false x),f-1)]else []
def choF(w:Af)(N:Nat)(s:St)(k:Int)(i:Nat):Option Oc:=
 match w.parts[i]?,s.1[i]? with
 |some p,some x=>if(aB9 p x k&&Iy w N s.1 k i true x)=true then some ⟨k,i,awV p k,toF s.1 s.2 k i x⟩else none
 |_,_=>none
def awP(w:Af)(N:Nat)(s:St)(k:Int):List Oc:=(List.range w.parts.length).filterMap (choF w N s k)
def Ec(w:Af)(N:Nat)(s:St):List Oc:=awP w N s 1++(awP w N s 2++(awP w N s 3++awP w N s 4))
structure Ci where
 part:Int
 opn:Bool
 good:Bool
def Ci.cells(x:Ci):List AV:=[.int .i64 x.part,.bool x.opn,.bool x.good]
def aCX(L:List (Int × Bool))(x:Ci):Bool:=match L[x.part.toNat]? with
 |some q=>q.2==x.opn&&(!x.good||q.1==0)
 |none=>false
def awW(L:List (Int × Bool))(l:List Ci):Bool:=l.all (aCX L)
def akP(w:Af)(N:Nat)(l:List Ci):Go.Ev.Fj St:=⟨fun s=>awW s.1 l,fun s=>(Ec w N s).map fun o=>(o.c.toNat,o.to)⟩
theorem Mc{s:St}(h:s.1.length=12):(Db s).length=25:=by simp[Db,Cb,h]
theorem Hu(s:St):(Db s).all AV.flat=true:=by
 unfold Db;rw[aRX,Hf];rfl
theorem Ix(s:St):(Db s).all AV.isCell=true:=by
 unfold Db;rw[aRX,Hg];rfl
theorem aGI{L:List (Int × Bool)}{i:Nat}{x:Int × Bool}(h:L[i]?=some x):Md.partOf Tryz.prog 80 (Do L) (i*2)=some (.agg [.int .i64 x.1,.bool x.2]):=by
 have h1:afJ Tryz.prog 80=some true:=by kernel_rfl
 have h2:Lr Tryz.prog 80=some 2:=by kernel_rfl
 obtain⟨a,b⟩:=x
 simp only[Md.partOf,h1,h2,abK,if_true,aoS,aCV L i a b h]
theorem aU4(d:Nat)(x y:Int × Bool):Md Tryz.prog (d+2) 80 (.agg [.int .i64 x.1,.bool x.2]) (.agg [.int .i64 y.1,.bool y.2])=some (decide (x=y)):=by
 have h0:Tryz.prog.stoodInHeld 80=false:=by kernel_rfl
 have h1:afJ Tryz.prog 78=some false:=by kernel_rfl
 have h2:afJ Tryz.prog 4=some false:=by kernel_rfl
 unfold Md
 simp only[Tryz.underlying80,h0,aA3,if_false,Md.eqL,Md.partOf,h1,h2,abK,aTG,aLA]
 unfold Md
 simp only[Tryz.underlying78,Tryz.underlying4,if_true,abK]
 obtain⟨a,b⟩:=x
 obtain⟨c,e⟩:=y
 by_cases q1:a=c<;>by_cases q2:b=e<;>simp[q1,q2]
theorem aS8(d:Nat){a b:List (Int × Bool)}(ha:a.length=12)(hb:b.length=12):∀l:List Nat,(∀i∈l,i<12)→Md.eqA Tryz.prog (Md Tryz.prog (d+2) 80) 80 2 (Do a) (Do b) l=some (decide (∀i∈l,a[i]?=b[i]?))
 | [],_=>by simp[Md.eqA]
 |i::l,h=>by
  have hi:=h i (by simp)
  have e1:a[i]?=some a[i]:=aoV (by omega)
  have e2:b[i]?=some b[i]:=aoV (by omega)
  have ih:=aS8 d ha hb l fun j hj=>h j (aLF _ hj)
  simp only[Md.eqA,aGI e1,aGI e2,abK,aU4,ih]
  by_cases q:a[i]=b[i]
  ·simp[q,e1,e2]
  ·simp[q,e1,e2]
theorem beQ{a b:St}(ha:a.1.length=12)(hb:b.1.length=12):Md Tryz.prog 12 85 (.agg (Db a)) (.agg (Db b))=some (decide (a=b)):=by
 have h0:Tryz.prog.stoodInHeld 85=false:=by kernel_rfl
 have h1:afJ Tryz.prog 82=some true:=by kernel_rfl
 have h2:afJ Tryz.prog 3=some false:=by kernel_rfl
 have h3:Lr Tryz.prog 82=some 24:=by kernel_rfl
 have h4:Lr Tryz.prog 80=some 2:=by kernel_rfl
 have tk:∀s:St,s.1.length=12→adC 24 (Db s)=Do s.1:=fun s h=>by
  unfold Db;rw[aVO (by rw[Cb];omega),af5 (by rw[Cb];omega)]
 have gt:∀s:St,s.1.length=12→(Db s)[24]?=some (.int .i64 (s.2:Int)):=fun s h=>by
  unfold Db;rw[aoT (by rw[Cb];omega),Cb,h];rfl
 have hA:Md Tryz.prog 11 82 (.agg (Do a.1)) (.agg (Do b.1))=some (decide (a.1=b.1)):=by
  unfold Md
  simp only[Tryz.underlying82,h4,abK]
  rw[aS8 8 ha hb (List.range 12) (fun i hi=>aNF.1 hi)]
  congr 1
  rw[decide_eq_decide]
  constructor
  ·intro h
   refine aOB fun i=>?_
   by_cases hi:i<12
   ·exact h i (aNF.2 hi)
   ·rw[aVP (by omega),aVP (by omega)]
  ·intro h i _;rw[h]
 have hI:Md Tryz.prog 11 3 (.int .i64 (a.2:Int)) (.int .i64 (b.2:Int))=some (decide (a.2=b.2)):=by
  unfold Md
  simp only[Tryz.underlying3,if_true]
  congr 1
  rw[Bool.eq_iff_iff];simp;omega
 unfold Md
 simp only[Tryz.underlying85,h0,aA3,if_false,Md.eqL,Md.partOf,h1,h2,h3,abK,if_true,aoS,aWQ,tk a ha,tk b hb,gt a ha,gt b hb,hA,hI]
 obtain⟨x,f⟩:=a
 obtain⟨y,g⟩:=b
 by_cases q1:x=y<;>by_cases q2:f=g<;>simp[q1,q2]
def Dz(kvs:List AV):CB:=.lp [] .skip .skip kvs .map
def Fp(L:List St)(v:St→AV):List AV:=L.flatMap fun s=>[.agg (Db s),v s]
def Twl(L:List St):Prop:=∀s∈L,s.1.length=12
theorem aRU(d:Nat)(x:Int × Bool):am7 Tryz.prog (d+2) 80 (.agg [.int .i64 x.1,.bool x.2])=true:=by
 have h1:afJ Tryz.prog 78=some false:=by kernel_rfl
 have h2:afJ Tryz.prog 4=some false:=by kernel_rfl
 unfold am7
 simp only[Tryz.underlying80,Md.partOf,h1,h2,abK,aBU,List.all_nil,aA3,if_false,aTG,aLA,aoS,aBV]
 unfold am7
 simp only[Tryz.underlying78,Tryz.underlying4]
 rfl
theorem ay7{s:St}(hs:s.1.length=12):aND Tryz.prog 85 (.agg (Db s))=true:=by
 have h1:afJ Tryz.prog 82=some true:=by kernel_rfl
 have h2:afJ Tryz.prog 3=some false:=by kernel_rfl
 have h3:Lr Tryz.prog 82=some 24:=by kernel_rfl
 have h4:Lr Tryz.prog 80=some 2:=by kernel_rfl
 have tk:adC 24 (Db s)=Do s.1:=by
  unfold Db;rw[aVO (by rw[Cb];omega),af5 (by rw[Cb];omega)]
 have gt:(Db s)[24]?=some (.int .i64 (s.2:Int)):=by
  unfold Db;rw[aoT (by rw[Cb];omega),Cb,hs];rfl
 have hA:am7 Tryz.prog 4 82 (.agg (Do s.1))=true:=by
  unfold am7
  simp only[Tryz.underlying82,h4,aoS,aBV]
  rw[ai5]
  intro i hi
  have hi:=aNF.1 hi
  have e1:s.1[i]?=some s.1[i]:=aoV (by omega)
  rw[aGI e1,aoS,aBV,aRU 1]
 have hI:am7 Tryz.prog 4 3 (.int .i64 (s.2:Int))=true:=by
  unfold am7
  simp only[Tryz.underlying3]
  rfl
 unfold aND
 simp only[Hu,Bool.and_true]
 unfold am7
 simp only[Tryz.underlying85,Md.partOf,h1,h2,h3,abK,aBU,List.all_nil,aA3,if_false,if_true,aoS,aBV,aWQ,tk,gt,hA,hI,Bool.and_true]
theorem aeI{s:St}(hs:s.1.length=12)(v:St→AV):∀(L:List St) (i:Nat),Twl L→aoN Tryz.prog 85 (.agg (Db s)) (Fp L v) i=some (if s∈L then some (i+L.idxOf s,v s)else none)
 | [],i,_=>rfl
 |a::L,i,h=>by
  have ha:=h a (by simp)
  have ih:=aeI hs v L (i+1) fun x hx=>h x (aLF _ hx)
  show aoN _ _ _ (.agg (Db a)::v a::Fp L v) i=_
  simp only[aoN,beQ hs ha,abK,ih]
  by_cases e:s=a
  ·subst e;simp
  ·have e2:(a==s)=false:=by simp;exact fun h=>e h.symm
   simp only[decide_eq_true_eq,e,if_false,abX,false_or,aXB,e2,cond_false,Option.some.injEq]
   split
   ·rw[show i+1+aFV s L=i+(aFV s L+1) by omega]
   ·rfl
theorem a03(v:St→AV):∀(L:List St) (n:Nat),(Fp L v)[2*n]?=L[n]?.map fun s=>.agg (Db s)
 | [],n=>rfl
 |a::L,0=>rfl
 |a::L,n+1=>by
  show(.agg (Db a)::v a::Fp L v)[2*(n+1)]?=_
  rw[show 2*(n+1)=2*n+2 by omega]
  simp only[aLA,a03 v L n]
theorem a0H{v:St→AV}{x:AV}{s:St}:∀{L:List St},L.Nodup→s∈L→(Fp L v).set (2*L.idxOf s+1) x=Fp L fun y=>if y=s then x else v y
 | [],_,h=>by cases h
 |a::L,hn,h=>by
  have hn':=List.nodup_cons.1 hn
  show(.agg (Db a)::v a::Fp L v).set (2*(a::L).idxOf s+1) x=.agg (Db a)::(if a=s then x else v a)::Fp L fun y=>if y=s then x else v y
  have same:s∉L→(Fp L fun y=>if y=s then x else v y)=Fp L v:=fun hs=>by
   unfold Fp
   rw[aHX,aHX]
   congr 1
   refine aYG fun y hy=>?_
   simp only[if_neg (show ¬y=s from fun e=>hs (e▸hy))]
  by_cases e:a=s
  ·subst e
   simp[same hn'.1]
  ·have e2:(a==s)=false:=by simpa using e
   rcases abX.1 h with h|h
   ·exact absurd h.symm e
   ·simp only[aXB,e2,cond_false,if_neg e]
    rw[show 2*(aFV s L+1)+1=(2*aFV s L+1)+2 by omega]
    simp only[aQ3,a0H hn'.2 h]
theorem aSV(s:St):AV.sameKey (.agg (Db s)) (.agg (Db s))=true:=by
 have h:∀x∈Db s,AV.same x x=true:=fun x hx=>by
  unfold Db at hx
  rcases aYH.1 hx with hx|hx
  ·rcases Jc s.1 x hx with⟨n,rfl⟩|⟨b,rfl⟩<;>simp[AV.same]
  ·simp at hx;subst hx;simp[AV.same]
 simp only[AV.sameKey,beq_self_eq_true,Bool.true_and,ai5]
 intro ⟨x,y⟩ hxy
 obtain⟨i,hi⟩:=List.getElem?_of_mem hxy
 rw[List.getElem?_zip_eq_some]at hi
 obtain⟨h1,h2⟩:=hi
 simp only at h1 h2
 rw[h1]at h2;cases h2
 exact h x (azY h1)
theorem anL{h:Aa}{b:Nat}{kvs:List AV}(hb:h[b]?=some (Dz kvs)):abJ (hf h) b=some kvs:=by
 unfold abJ
 rw[show hf h b=some (Dz kvs)from hb];rfl
section
variable {h:Aa} {b:Nat} {L:List St} {v:St→AV} {s:St}
theorem aR7(hb:h[b]?=some (Dz (Fp L v)))(hL:Twl L)(hs:s∈L):lk Tryz.prog h 86 (some (.mapr b)) (some (.agg (Db s))) false=some (.ret (v s),[]):=by
 have hz:Eu Tryz.prog 3=some (.int .i64 0):=by kernel_rfl
 simp only[lk,abK,Ep,Tryz.underlying86,ay7 (hL s hs),if_true,anL hb,aeI (hL s hs) v L 0 hL,if_pos hs,hz,cond_false]
 rfl
theorem bgY(hb:h[b]?=some (Dz (Fp L v)))(hL:Twl L)(hs:s∈L):lk Tryz.prog h 86 (some (.mapr b)) (some (.agg (Db s))) true=some (.ret (.tup [v s,.bool true]),[]):=by
 have hz:Eu Tryz.prog 3=some (.int .i64 0):=by kernel_rfl
 simp only[lk,abK,Ep,Tryz.underlying86,ay7 (hL s hs),if_true,anL hb,aeI (hL s hs) v L 0 hL,if_pos hs,hz,cond_true]
 rfl
theorem bjQ(hb:h[b]?=some (Dz (Fp L v)))(hL:Twl L)(h12:s.1.length=12)(hs:s∉L):lk Tryz.prog h 86 (some (.mapr b)) (some (.agg (Db s))) true=some (.ret (.tup [.int .i64 0,.bool false]),[]):=by
 have hz:Eu Tryz.prog 3=some (.int .i64 0):=by kernel_rfl
 simp only[lk,abK,Ep,Tryz.underlying86,ay7 h12,if_true,anL hb,aeI h12 v L 0 hL,if_neg hs,hz,cond_true]
 rfl
theorem a2N(hb:h[b]?=some (Dz (Fp L v)))(hL:Twl L)(hs:s∈L):lk Tryz.prog h 87 (some (.mapr b)) (some (.agg (Db s))) false=some (.ret (v s),[]):=by
 have hz:Eu Tryz.prog 91=some .nils:=by kernel_rfl
 simp only[lk,abK,Ep,Tryz.underlying87,ay7 (hL s hs),if_true,anL hb,aeI (hL s hs) v L 0 hL,if_pos hs,hz,cond_false]
 rfl
theorem aRF(hb:h[b]?=some (Dz (Fp L v)))(hL:Twl L)(hn:L.Nodup)(hs:s∈L)(x:AV):ms Tryz.prog h 86 (some (.mapr b)) (some (.agg (Db s))) (some x)=some (.ret (.tup []),[.put b (Dz (Fp L fun y=>if y=s then x else v y))]):=by
 have hi:L[L.idxOf s]?=some s:=by
  rw[aoV (List.idxOf_lt_length_of_mem hs)];simp
 simp only[ms,abK,Gz,Tryz.underlying86,ay7 (hL s hs),if_true,anL hb,aeI (hL s hs) v L 0 hL,if_pos hs,Nat.zero_add,a03,hi,aoS,aBV,aSV,a0H hn hs]
 rfl
theorem a09(hs:s∉L)(x:AV):Fp L v++[.agg (Db s),x]=Fp (L++[s]) fun y=>if y=s then x else v y:=by
 unfold Fp
 rw[List.flatMap_append]
 congr 1
 ·rw[aHX,aHX]
  congr 1
  refine aYG fun y hy=>?_
  simp only[if_neg (show ¬y=s from fun e=>hs (e▸hy))]
 ·simp
theorem bh5(hb:h[b]?=some (Dz (Fp L v)))(hL:Twl L)(h12:s.1.length=12)(hs:s∉L)(x:AV):ms Tryz.prog h 86 (some (.mapr b)) (some (.agg (Db s))) (some x)=some (.ret (.tup []),[.put b (Dz (Fp (L++[s]) fun y=>if y=s then x else v y))]):=by
 rw[←a09 hs]
 simp only[ms,abK,Gz,Tryz.underlying86,ay7 h12,if_true,anL hb,aeI h12 v L 0 hL,if_neg hs]
 rfl
theorem bgJ(hb:h[b]?=some (Dz (Fp L v)))(hL:Twl L)(h12:s.1.length=12)(hs:s∉L)(x:AV):ms Tryz.prog h 87 (some (.mapr b)) (some (.agg (Db s))) (some x)=some (.ret (.tup []),[.put b (Dz (Fp (L++[s]) fun y=>if y=s then x else v y))]):=by
 rw[←a09 hs]
 simp only[ms,abK,Gz,Tryz.underlying87,ay7 h12,if_true,anL hb,aeI h12 v L 0 hL,if_neg hs]
 rfl
end
def Az:Nat:=1099511627776
def knV(f:St→Nat)(s:St):AV:=.int .i64 (f s:Int)
theorem a67(f:St→Nat)(x:St)(m:Nat):(if((f x:Nat):Int)>(m:Int)then((f x:Nat):Int)else(m:Int))=((max m (f x):Nat):Int):=by split<;>omega
theorem bbG(L:List St)(f:St→Nat)(d:Nat)(m:List Nat):Bl.refL (Bl (d+2)) m (Fp L (knV f))=some (Fp L (knV f),m):=Ge fun x hx=>by
 unfold Fp at hx
 obtain⟨s,_,hx⟩:=aDG.1 hx
 simp only[abX,ah1,or_false]at hx
 rcases hx with rfl|rfl
 ·have:∀y∈Db s,Bl (d+1) m y=some (y,m):=fun y hy=>by
   unfold Db at hy
   rcases aYH.1 hy with hy|hy
   ·rcases Jc s.1 y hy with⟨n,rfl⟩|⟨b,rfl⟩<;>rfl
   ·simp at hy;subst hy;rfl
  show(Bl.refL (Bl (d+1)) m (Db s)).map _=_
  rw[Ge this];rfl
 ·rfl
theorem aCA(L:List St)(f:St→Nat)(m:List Nat):aoR m (Dz (Fp L (knV f)))=some (Dz (Fp L (knV f)),m):=by
 simp[Dz,aoR,bbG L f 6]
theorem aIR:∀(l:List AV),(∀x∈l,AV.sameKey x x=true)→AV.sameL l l=true
 | [],_=>rfl
 |x::l,h=>by simp only[AV.sameL,h x (by simp),aIR l fun y hy=>h y (aLF _ hy),Bool.and_self]
theorem aLL(L:List St)(f:St→Nat):CB.same (Dz (Fp L (knV f))) (Dz (Fp L (knV f)))=true:=aIR _ fun x hx=>by
 unfold Fp at hx
 obtain⟨s,_,hx⟩:=aDG.1 hx
 simp only[abX,ah1,or_false]at hx
 rcases hx with rfl|rfl
 ·exact aSV s
 ·simp[knV,AV.sameKey,AV.same]
theorem aLD(kvs:List AV):(Dz kvs).clean=Dz kvs:=Eq.trans rfl rfl
theorem a1Z(kvs:List AV):(Dz kvs).isLive=true:=Eq.trans rfl rfl
theorem a86{L:List St}{f:St→Nat}(hL:Twl L)(hf:∀s∈L,f s≤Az){to:List St}(ht:∀s∈to,s∈L)(hlen:to.length≤2){k:Int}{i:Int}{c:Nat}(hc:c≤1000)(nn:Bool):
 Dp.call (.fn 44) [.agg [.int .i64 k,.int .i64 i,.int .i64 (c:Int),Be 25 true nn (to.map Db)],.mapr 0] [Dz (Fp L (knV f))]=some (.ret (.int .i64 (min Az (c+Fj.mx f to):Nat)),[Dz (Fp L (knV f))]):=by
 refine ce Tryz.func44 ?_
 simp only[Tryz.f44]
 (have hb:=trivial;with_reducible repeat' (first|simp only[hb,Vc.down,seval,a55.down,agI]|refine An ?_ ?_<;>intro hb|refine fd ?_|fail))
 refine Dy (lst 26 to (fun j (m:Nat) t h=>t 1=.mapr 0∧t 2=.ptr 1 0 0∧t 5=.int .i64 (m:Int)∧t 9=Be 25 true nn (to.map Db)∧t 10=.int .i64 (to.length:Nat)∧t 11=.int .i64 (j:Int)∧m≤Az∧h[0]?=some (Dz (Fp L (knV f)))∧∃fl x,h[1]?=some (.live 4 fl x [[.int .i64 k,.int .i64 i,.int .i64 (c:Int),Be 25 true nn (to.map Db)]])) (fun rest m=>rest.foldl (fun m x=>max m (f x)) m)
  (fun r e t h=>e=.exit 0∧t 2=.ptr 1 0 0∧t 5=.int .i64 (r:Int)∧r≤Az∧h[0]?=some (Dz (Fp L (knV f)))∧∃fl x,h[1]?=some (.live 4 fl x [[.int .i64 k,.int .i64 i,.int .i64 (c:Int),Be 25 true nn (to.map Db)]])) ?_ ?_ 0 _ _ ?_) (fun e t h hk=>?_)
 ·rintro m t h Q' kQ ⟨g1,g2,g5,g9,g10,g11,hm,hM,fl,x,hB⟩
  (have hb:=trivial;with_reducible repeat' (first|simp only[hb,Vc.down,seval,a55.down,g10,g11,aJQ,decide_false]|refine An ?_ ?_<;>intro hb|refine fd ?_|fail))
  exact kQ _ _ _ ⟨rfl,by simp[up,g2],by simp[up,g5],hm,hM,fl,x,hB⟩
 ·rintro z rest j m t h J Q' kJ kQ hx hj ⟨g1,g2,g5,g9,g10,g11,hm,hM,fl,x,hB⟩
  have hdd:decide ((j:Int)<(to.length:Int))=true:=decide_eq_true (by omega)
  have hww:=Bv hj (by unfold maxLen;omega)
  have hz:=ht z (azY hx)
  have hfz:=hf z hz
  have hM2:=Ai hM
  have hlk:=fun l=>aR7 (v:=knV f) (hM2 l) hL hz
  have hzl:=Mc (hL z hz)
  have hzf:=Hu z
  have hzc:=Ix z
  have htk:adC 25 (Db z)=Db z:=af5 (by omega)
  have hmx:=a67 f z m
  (have hb:=trivial;with_reducible repeat' (first|simp only[hb,Vc.down,seval,a55.down,g1,g5,g9,g10,g11,hdd,hww,hx,hM2,hlk,hzl,hzf,hzc,htk,knV,hmx,agI]|refine An ?_ ?_<;>intro hb|refine fd ?_|fail))
  exact Aq (kJ _ _ (max m (f z)) ⟨by simp[up,g1],by simp[up,g2],by simp[up],by simp[up,g9],by simp[up,g10],by simp[up],by omega,hM2 _,fl,x,Ai hB _⟩ rfl)
 ·exact⟨by simp[up,Lx],by simp[up],by simp[up],by simp[up],by simp[up],by simp[up],Nat.zero_le _,rfl,_,_,rfl⟩
 obtain⟨rfl,g2,g5,hm,hM,fl,x,hB⟩:=hk
 change t 5=.int .i64 ((Fj.mx f to:Nat):Int)at g5
 change Fj.mx f to≤Az at hm
 generalize Fj.mx f to=m at *
 have hww:IntKind.i64.wrap ((c:Int)+(m:Int))=((c+m:Nat):Int):=by rw[Bf (by unfold Az at hm;omega) (by unfold Az at hm;omega)];omega
 have hmn:(if((c+m:Nat):Int)<1099511627776 then((c+m:Nat):Int)else 1099511627776)=((min Az (c+m):Nat):Int):=by unfold Az;split<;>omega
 (have hb:=trivial;with_reducible repeat' (first|simp only[hb,Vc.down,seval,a55.down,g2,g5,hB,hM,hww,hmn,aCA]|refine An ?_ ?_<;>intro hb|refine fd ?_|fail))
structure COk(L:List St)(o:Oc):Prop where
 c0:0≤o.c
 c1:o.c≤1000
 to:∀s∈o.to,s∈L
 ne:o.to≠[]
 two:o.to.length≤2
def Oc.cells(o:Oc):List AV:=[.int .i64 o.k,.int .i64 (o.i:Int),.int .i64 o.c,Be 25 true false (o.to.map Db)]
def wst(f:St→Nat)(o:Oc):Nat:=min Az (o.c.toNat+Go.Ev.Fj.mx f o.to)
def acA(f:St→Nat)(n:Nat)(l:List Oc):Nat:=l.foldl (fun m o=>min m (wst f o)) n
theorem a3J{L:List St}{f:St→Nat}(hL:Twl L)(hf:∀s∈L,f s≤Az){o:Oc}(ho:COk L o):
 Dp.call (.fn 44) [.agg o.cells,.mapr 0] [Dz (Fp L (knV f))]=some (.ret (.int .i64 (wst f o:Nat)),[Dz (Fp L (knV f))]):=by
 have h:=a86 hL hf ho.to ho.two (k:=o.k) (i:=o.i) (c:=o.c.toNat) (by have:=ho.c1;omega) false
 rw[show((o.c.toNat:Nat):Int)=o.c by have:=ho.c0;omega]at h
 exact h
theorem aZG{L:List St}{f:St→Nat}(hL:Twl L)(hf:∀s∈L,f s≤Az){o:Oc}(ho:COk L o)(x:Bool):
 Dp.call (.fn 68) [.agg o.cells,.ptr 0 0 0] [.live 1 false x [[.mapr 1]],Dz (Fp L (knV f))]=some (.ret (.int .i64 (wst f o:Nat)),[.live 1 false x [[.mapr 1]],Dz (Fp L (knV f))]):=by
 have h:=a3J hL hf ho
 have hne:o.to.map Db≠[]:=by simpa using ho.ne
 simp only[Oc.cells,Ko hne]at h ⊢
 refine ce Tryz.func68 ?_
 simp only[Tryz.f68]
 (have hb:=trivial;with_reducible repeat' (first|simp only[hb,Vc.down,seval,bpX.down,h,aCA,aLL,aLD,awQ.down]|refine An ?_ ?_<;>intro hb|refine fd ?_|fail))
theorem a9T(a b:Nat):(if(a:Int)<(b:Int)then(a:Int)else(b:Int))=((min b a:Nat):Int):=by split<;>omega
theorem a7P{L:List St}{f:St→Nat}(hL:Twl L)(hf:∀s∈L,f s≤Az){l:List Oc}(hl:∀o∈l,COk L o)(hlen:l.length≤maxLen)(nn:Bool)(n:Nat)(x:Bool):
 Dp.call (.fn 67) [Be 4 false nn (l.map Oc.cells),.func (.func 68) [] [.ptr 0 0 0],.int .i64 (n:Int)] [.live 1 false x [[.mapr 1]],Dz (Fp L (knV f))]=some (.ret (.int .i64 (acA f n l:Nat)),[.live 1 false x [[.mapr 1]],Dz (Fp L (knV f))]):=by
 obtain⟨q1,hq1⟩:∃q,Fn.func 68=q:=⟨_,rfl⟩
 refine ce Tryz.func67 ?_
 simp only[Tryz.f67]
 (have hb:=trivial;with_reducible repeat' (first|simp only[hb,Vc.down,seval,a94.down,agI]|refine An ?_ ?_<;>intro hb|refine fd ?_|fail))
 refine Dy (lst 22 l (fun j (m:Nat) t h=>t 1=.func (.func 68) [] [.ptr 0 0 0]∧t 2=.int .i64 (m:Int)∧t 9=Be 4 false nn (l.map Oc.cells)∧t 10=.int .i64 (l.length:Nat)∧t 11=.int .i64 (j:Int)∧h[0]?=some (.live 1 false x [[.mapr 1]])∧h[1]?=some (Dz (Fp L (knV f)))) (fun rest m=>rest.foldl (fun m o=>min m (wst f o)) m)
  (fun r e t h=>e=.exit 0∧t 2=.int .i64 (r:Int)∧h[0]?=some (.live 1 false x [[.mapr 1]])∧h[1]?=some (Dz (Fp L (knV f)))) ?_ ?_ n _ _ ?_) (fun e t h hk=>?_)
 ·rintro m t h Q' kQ ⟨g1,g2,g9,g10,g11,hB,hM⟩
  (have hb:=trivial;with_reducible repeat' (first|simp only[hb,Vc.down,seval,a94.down,g10,g11,aJQ,decide_false]|refine An ?_ ?_<;>intro hb|refine fd ?_|fail))
  exact kQ _ _ _ ⟨rfl,by simp[up,g2],hB,hM⟩
 ·rintro o rest j m t h J Q' kJ kQ hx hj ⟨g1,g2,g9,g10,g11,hB,hM⟩
  have hdd:decide ((j:Int)<(l.length:Int))=true:=decide_eq_true (by omega)
  have hww:=Bv hj (by unfold maxLen at hlen;unfold maxLen;omega)
  have ho:=hl o (azY hx)
  have hc:=aZG hL hf ho false
  have hmn:=a9T (wst f o) m
  have hB2:=Ai hB
  have hM2:=Ai hM
  have hne:o.to.map Db≠[]:=by simpa using ho.ne
  simp only[Oc.cells,Ko hne]at hc
  have hcs:o.cells=[.int .i64 o.k,.int .i64 (o.i:Int),.int .i64 o.c,.imm 25 true (o.to.map Db)]:=by simp only[Oc.cells,Ko hne]
  (have hb:=trivial;with_reducible repeat' (first|simp only[hb,Vc.down,seval,a94.down,g1,g2,g9,g10,g11,hdd,hww,hx,hB,hM,hB2,hM2,hcs,hc,hmn,aCA,aLL,aLD,awQ.down,agI]|refine An ?_ ?_<;>intro hb|refine fd ?_|fail))
  exact Aq (kJ _ _ (min m (wst f o)) ⟨by simp[up,g1],by simp[up],by simp[up,g9],by simp[up,g10],by simp[up],hB2 _,hM2 _⟩ rfl)
 ·exact⟨by simp[up,Lx],by simp[up,Lx],by simp[up],by simp[up],by simp[up],rfl,rfl⟩
 obtain⟨rfl,g2,hB,hM⟩:=hk
 change t 2=.int .i64 (acA f n l:Nat)at g2
 (have hb:=trivial;with_reducible repeat' (first|simp only[hb,Vc.down,seval,a94.down,g2,hB,hM,aCA,awQ.down]|refine An ?_ ?_<;>intro hb|refine fd ?_|fail))
end Go.Proofs.YtcncggaobhbomaaGreatDoor
