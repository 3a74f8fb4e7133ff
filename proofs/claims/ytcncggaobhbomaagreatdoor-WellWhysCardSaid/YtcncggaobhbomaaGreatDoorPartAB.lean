/- The functions of the layer, walked. -/
import Derived.Test.YtcncggaobhbomaaGreatDoorPartAA
import Derived.Test.YtcncggaobhbomaaGreatDoorLibE
open List renaming getElem?_set_ne→abK,length_map→abL,getElem?_append_left→abX,getElem?_set_self→adC,mem_cons_self→adD,replicate→af5,take→agI,getElem?_eq_getElem→ah1,take_of_length_le→ai5,mem_cons→aoS,getElem?_append_right→aoT,drop→aoW,flatMap_cons→awN,cons_append→azY,nil_append→az0,length_set→aA3,mem_cons_of_mem→aBU,take_succ_cons→aDD,drop_succ_cons→aDG,set_cons_succ→aD2,length_take→aEQ,getElem?_eq_some_iff→aFV,all_eq_true→aHX,mem_of_getElem?→aIE,length_nil→aJN
open Int renaming lt_irrefl→aoV
open Option renaming bind_some→aBV
open Bool renaming and_eq_true→aHY
set_option linter.unusedSimpArgs false
set_option linter.unusedVariables false
namespace Go.Proofs.YtcncggaobhbomaaGreatDoor
open Go.Ev Go Go.Ev.Net
set_option maxRecDepth 100000
set_option maxHeartbeats 16000000
theorem bnU(b:Bool):Dp.call (.fn 78) [.bool b] []=some (.ret (.int .i64 (if b=true then 1 else 0)),[]):=by
 cases b<;>(refine ce Tryz.func78 ?_;simp only[Tryz.f78];(have hb:=trivial;with_reducible repeat' (first|simp only[hb,Va.down,seval]|refine An ?_ ?_<;>intro hb|refine fd ?_|fail)))
theorem a9W(c:Int)(o:Bool):Dp.call (.fn 53) [.agg [.int .i64 c,.bool o]] []=some (.ret (.bool (c==0&& !o)),[]):=by
 cases hc:(c==0)<;>(refine ce Tryz.func53 ?_;simp only[Tryz.f53];(have hb:=trivial;with_reducible repeat' (first|simp only[hb,Va.down,seval,bo6.down,hc]|refine An ?_ ?_<;>intro hb|refine fd ?_|fail)))
theorem Gv(b r o:Nat)(i:Int):ia Tryz.prog 82 (some (.ptr b r o)) (some (.int .i64 i))=if 0≤i∧i<12 then some (.ret (.ptr b r (o+i.toNat*2)),[])else none:=by
 have h:Ha Tryz.prog 82 (.ptr b r o) (.int .i64 i)=if 0≤i∧i<12 then some (.ptr b r (o+i.toNat*2))else none:=by
  unfold Ha
  simp only[Tryz.underlying82]
  have hz:Lr Tryz.prog 80=some 2:=by kernel_rfl
  rw[hz]
  simp
 simp only[ia,aBV,h]
 split<;>rfl
def Ac(w:Af)(d:Int):List (Int × Bool):=w.parts.map (fun p=>(Au p d,p.opn))++af5 (12-w.parts.length) (0,false)
def Do(l:List (Int × Bool)):List AV:=l.flatMap fun x=>[.int .i64 x.1,.bool x.2]
theorem Cb(l:List (Int × Bool)):(Do l).length=2*l.length:=by
 induction l with
 |nil=>rfl
 |cons x l ih=>simp[Do]at ih ⊢;omega
theorem aM2:∀(L:List (Int × Bool)) (i:Nat) (a:Int) (b b':Bool),L[i]?=some (a,b)→agI (i*2+1) (Do L)++([.bool b']++aoW (i*2+2) (Do L))=Do (L.set i (a,b'))
 | [],i,a,b,b',h=>by simp at h
 |x::L,0,a,b,b',h=>by simp at h;subst h;simp[Do]
 |x::L,i+1,a,b,b',h=>by
  have ih:=aM2 L i a b b' (by simpa using h)
  rw[show(i+1)*2+1=(i*2+1)+1+1 by omega,show(i+1)*2+2=(i*2+2)+1+1 by omega]
  simp only[Do,awN,azY,az0,aDD,aDG,aD2]at ih ⊢
  rw[←ih]
theorem aFQ:∀(L:List (Int × Bool)) (i:Nat) (a a':Int) (b:Bool),L[i]?=some (a,b)→agI (i*2) (Do L)++([.int .i64 a']++aoW (i*2+1) (Do L))=Do (L.set i (a',b))
 | [],i,a,a',b,h=>by simp at h
 |x::L,0,a,a',b,h=>by simp at h;subst h;simp[Do]
 |x::L,i+1,a,a',b,h=>by
  have ih:=aFQ L i a a' b (by simpa using h)
  rw[show(i+1)*2=(i*2)+1+1 by omega,show(i*2)+1+1+1=(i*2+1)+1+1 by omega]
  simp only[Do,awN,azY,az0,aDD,aDG,aD2]at ih ⊢
  rw[←ih]
def pcI(w:Af)(d:Int)(i:Nat):List (Int × Bool):=(w.parts.take i).map (fun p=>(Au p d,p.opn))++af5 (12-i) (0,false)
theorem bg5{w:Af}{d:Int}{i:Nat}(hi:i<w.parts.length)(h12:w.parts.length≤12):(pcI w d i)[i]?=some (0,false):=by
 have hl:((w.parts.take i).map fun p=>(Au p d,p.opn)).length=i:=by rw[abL,aEQ];omega
 unfold pcI
 rw[aoT (by omega),hl,Nat.sub_self,List.getElem?_replicate,if_pos (by omega)]
theorem a3H{w:Af}{d:Int}{i:Nat}{p:Ab}(hx:w.parts[i]?=some p)(h12:w.parts.length≤12):(pcI w d i).set i (Au p d,p.opn)=pcI w d (i+1):=by
 have hi:i<w.parts.length:=(aFV.1 hx).1
 have hl:((w.parts.take i).map fun p=>(Au p d,p.opn)).length=i:=by rw[abL,aEQ];omega
 unfold pcI
 rw[List.set_append_right _ _ (by omega),hl,Nat.sub_self,List.take_add_one,hx]
 have e:12-i=(12-(i+1))+1:=by omega
 rw[e,List.replicate_succ]
 simp
theorem a05(w:Af)(d:Int)(wf:Bool)(h12:w.parts.length≤12):Dp.call (.fn 40) [.ptr 0 0 0] [.live 4 false wf [[.int .i64 w.rooms,.int .i64 w.need,Be 9 true w.nn (w.parts.map Ab.cells),.int .i64 d]]]=some (.ret (.agg (Do (Ac w d))),[.live 4 false wf [[.int .i64 w.rooms,.int .i64 w.need,Be 9 true w.nn (w.parts.map Ab.cells),.int .i64 d]]]):=by
 refine ce Tryz.func40 ?_
 simp only[Tryz.f40]
 (have hb:=trivial;with_reducible repeat' (first|simp only[hb,Va.down,seval,a6K.down,abL]|refine An ?_ ?_<;>intro hb|refine fd ?_|fail))
 refine Dy (lst 44 w.parts (fun i (_:Unit) t h=>t 0=.ptr 0 0 0∧t 2=.ptr 1 0 0∧t 3=.ptr 2 0 0∧t 10=Be 9 true w.nn (w.parts.map Ab.cells)∧t 11=.int .i64 (w.parts.length:Nat)∧t 12=.int .i64 (i:Int)∧h[0]?=some (.live 4 false wf [[.int .i64 w.rooms,.int .i64 w.need,Be 9 true w.nn (w.parts.map Ab.cells),.int .i64 d]])∧h[1]?=some (.live 24 true false [Do (af5 12 (0,false))])∧∃f,h[2]?=some (.live 24 true f [Do (pcI w d i)])) (fun _ _=>())
  (fun _ e t h=>e=.exit 0∧t 2=.ptr 1 0 0∧t 3=.ptr 2 0 0∧h[0]?=some (.live 4 false wf [[.int .i64 w.rooms,.int .i64 w.need,Be 9 true w.nn (w.parts.map Ab.cells),.int .i64 d]])∧h[1]?=some (.live 24 true false [Do (af5 12 (0,false))])∧∃f,h[2]?=some (.live 24 true f [Do (pcI w d w.parts.length)])) ?_ ?_ () _ _ ?_) (fun e t h hk=>?_)
 ·rintro _ t h Q' kQ ⟨h0,h2,h3,h10,h11,h12',hA,hB,f,hC⟩
  (have hb:=trivial;with_reducible repeat' (first|simp only[hb,Va.down,seval,a6K.down,h11,h12',aoV,decide_false]|refine An ?_ ?_<;>intro hb|refine fd ?_|fail))
  exact kQ _ _ _ ⟨rfl,by simp[up,h2],by simp[up,h3],hA,hB,f,hC⟩
 ·rintro p rest i _ t h J Q' kJ kQ hx hi ⟨h0,h2,h3,h10,h11,h12',hA,hB,f,hC⟩
  have hdd:decide ((i:Int)<(w.parts.length:Int))=true:=decide_eq_true (by omega)
  have hww:=Bv hi (by unfold maxLen;omega)
  have hA1:=Ai hA
  have hC1:=Ai hC
  have hl2:=As hC
  have i1:((i:Int)<12)=True:=eq_true (by omega)
  have hpl:(Do (pcI w d i)).length=24:=by rw[Cb];simp[pcI];omega
  have hS:=Io hl2
  have i2:(i*2≤22)=True:=eq_true (by omega)
  have i3:(i*2≤23)=True:=eq_true (by omega)
  have hat:=bg5 (d:=d) hi h12
  have hnx:=a3H (d:=d) hx h12
  generalize hL:pcI w d i=L at *
  have s1:=aM2 L i 0 false p.opn hat
  have tk1:agI (23-i*2) [AV.bool p.opn]=[AV.bool p.opn]:=ai5 (by simp;omega)
  have hat2:(L.set i (0,p.opn))[i]?=some (0,p.opn):=adC (by have:=(aFV.1 hat).1;exact this)
  have s2:=fun v=>aFQ (L.set i (0,p.opn)) i 0 v p.opn hat2
  have tk2:∀v,agI (24-i*2) [AV.int .i64 v]=[AV.int .i64 v]:=fun v=>ai5 (by simp;omega)
  simp only[azY,az0]at s1 s2
  have hpl2:(Do (L.set i (0,p.opn))).length=24:=by rw[Cb]at hpl ⊢;simpa using hpl
  have hg2:∀c l,(h.set 2 c++l)[2]?=some c:=fun c l=>by rw[abX (by simpa using hl2),adC hl2]
  have hg0:∀c l,(h.set 2 c++l)[0]?=h[0]?:=fun c l=>by rw[abX (by simp;omega),abK (by omega)]
  have hg1:∀c l,(h.set 2 c++l)[1]?=h[1]?:=fun c l=>by rw[abX (by simp;omega),abK (by omega)]
  have hgs:∀c l c',(h.set 2 c++l).set 2 c'=h.set 2 c'++l:=fun c l c'=>by rw[Io (by simpa using hl2),List.set_set]
  have ss2:∀v:Int,(L.set i (0,p.opn)).set i (v,p.opn)=L.set i (v,p.opn):=fun v=>List.set_set ..
  have nx:∀(v:Int) (t':Tm) (l':Aa),Au p d=v→t' 0=.ptr 0 0 0∧t' 2=.ptr 1 0 0∧t' 3=.ptr 2 0 0∧t' 10=Be 9 true w.nn (w.parts.map Ab.cells)∧t' 11=.int .i64 (w.parts.length:Nat)∧t' 12=.int .i64 ((i+1:Nat):Int)→J t' (h.set 2 (.live 24 true true [Do (L.set i (v,p.opn))])++l'):=fun v t' l' hv ht=>by
   rw[←hv,hnx]
   exact kJ _ _ () ⟨ht.1,ht.2.1,ht.2.2.1,ht.2.2.2.1,ht.2.2.2.2.1,ht.2.2.2.2.2,by rw[hg0];exact hA,by rw[hg1];exact hB,true,hg2 _ _⟩ rfl
  (have hb:=trivial;with_reducible repeat' (first|simp only[hb,Va.down,seval,a6K.down,h0,h2,h3,h10,h11,h12',hdd,hww,hx,hA,hA1,hC,hC1,hS,Gv,i1,i2,i3,hpl,hpl2,s1,s2,tk1,tk2,ss2,hg2,hg0,hg1,hgs,Ht,Gg,aA3,Ab.cells]|refine An ?_ ?_<;>intro hb|refine fd ?_|fail))
  ·refine Aq (nx 2 _ _ (by simp[Au, *]) ⟨by simp[up,h0],by simp[up,h2],by simp[up,h3],by simp[up,h10],by simp[up,h11],by simp[up]⟩)
  ·refine Aq (nx 1 _ _ (by simp[Au];simp_all) ⟨by simp[up,h0],by simp[up,h2],by simp[up,h3],by simp[up,h10],by simp[up,h11],by simp[up]⟩)
  ·refine Aq (nx 0 _ _ (by simp[Au];simp_all) ⟨by simp[up,h0],by simp[up,h2],by simp[up,h3],by simp[up,h10],by simp[up,h11],by simp[up]⟩)
 ·exact⟨by simp[up,Lx],by simp[up],by simp[up],by simp[up],by simp[up],by simp[up],rfl,rfl,false,rfl⟩
 obtain⟨rfl,h2,h3,hA,hB,f,hC⟩:=hk
 have hL:pcI w d w.parts.length=Ac w d:=by unfold pcI Ac;rw[ai5 (Nat.le_refl _)]
 rw[hL]at hC
 have hpl:(Do (Ac w d)).length=24:=by rw[Cb];simp[Ac];omega
 have hpz:(Do (af5 12 (0,false))).length=24:=by rw[Cb];simp
 have htk:agI 24 (Do (Ac w d))=Do (Ac w d):=ai5 (by omega)
 have hl1:=As hB
 generalize Do (af5 12 (0,false))=zs at *
 have hdz:aoW 24 zs=[]:=List.drop_eq_nil_iff.2 (by omega)
 have hcell:(Do (Ac w d)).all AV.isCell=true:=by
  have:∀l:List (Int × Bool),(Do l).all AV.isCell=true:=fun l=>by
   induction l with
   |nil=>rfl
   |cons x l ih=>simp only[Do,awN,List.all_append]at ih ⊢;rw[ih];rfl
  exact this _
 have hform:∀x∈Do (Ac w d),(∃n,x=.int .i64 n)∨∃b,x=.bool b:=fun x hx=>by
  simp only[Do,List.mem_flatMap,aoS,List.not_mem_nil,or_false]at hx
  obtain⟨y,_,rfl|rfl⟩:=hx
  ·exact .inl ⟨_,rfl⟩
  ·exact .inr ⟨_,rfl⟩
 have hflat:(Do (Ac w d)).all AV.flat=true:=aHX.2 fun x hx=>by rcases hform x hx with⟨n,rfl⟩|⟨b,rfl⟩<;>rfl
 have hrf:Bl.refL (Bl 7) [0] (Do (Ac w d))=some (Do (Ac w d),[0]):=Ge fun x hx=>by rcases hform x hx with⟨n,rfl⟩|⟨b,rfl⟩<;>rfl
 have hg1:∀c,(h.set 1 c)[1]?=some c:=fun c=>adC hl1
 have hg0:∀c,(h.set 1 c)[0]?=h[0]?:=fun c=>abK (by omega)
 generalize Do (Ac w d)=ps at *
 (have hb:=trivial;with_reducible repeat' (first|simp only[hb,Va.down,seval,a6K.down,h2,h3,hA,hB,hC,hpl,hpz,htk,hdz,hcell,hflat,hrf,hg1,hg0]|refine An ?_ ?_<;>intro hb|refine fd ?_|fail))
def aa8(N:Int)(p:Ab):Bool:=La p.one 0 (IntKind.i64.wrap (N-1))&&La p.other 0 (IntKind.i64.wrap (N-1))&& !(p.one==p.other)&& !(p.opn&& !p.valve)&&awX p.tested&&awX p.valid&&La p.test 1 1000&&La p.change 1 1000
def aT7(w:Af):Bool:=La w.rooms 2 8&&La w.need 0 12&&La (w.parts.length:Int) 1 12
def Fe(w:Af):Bool:=aT7 w&&w.parts.all (aa8 w.rooms)
theorem bg0(w:Af)(hs:w.small):Dp.call (.fn 17) [.agg [.int .i64 w.rooms,.int .i64 w.need,Be 9 true w.nn (w.parts.map Ab.cells)]] []=some (.ret (.bool (Fe w)),[]):=by
 have k1:=aLY w.rooms 2 8
 have k2:=aLY w.need 0 12
 have k3:=aLY (w.parts.length:Int) 1 12
 have hh:aT7 w=(La w.rooms 2 8&&La w.need 0 12&&La (w.parts.length:Int) 1 12):=rfl
 unfold Fe
 generalize La w.rooms 2 8=c1 at *
 generalize La w.need 0 12=c2 at *
 generalize La (w.parts.length:Int) 1 12=c3 at *
 cases c1
 ·rw[hh]
  (refine ce Tryz.func17 ?_;simp only[Tryz.f17];(have hb:=trivial;with_reducible repeat' (first|simp only[hb,Va.down,seval,aO5.down,k1,k2,k3,abL]|refine An ?_ ?_<;>intro hb|refine fd ?_|fail)))
 cases c2
 ·rw[hh]
  (refine ce Tryz.func17 ?_;simp only[Tryz.f17];(have hb:=trivial;with_reducible repeat' (first|simp only[hb,Va.down,seval,aO5.down,k1,k2,k3,abL]|refine An ?_ ?_<;>intro hb|refine fd ?_|fail)))
 cases c3
 ·rw[hh]
  (refine ce Tryz.func17 ?_;simp only[Tryz.f17];(have hb:=trivial;with_reducible repeat' (first|simp only[hb,Va.down,seval,aO5.down,k1,k2,k3,abL]|refine An ?_ ?_<;>intro hb|refine fd ?_|fail)))
 rw[hh]
 simp only[Bool.and_self,Bool.true_and]
 (refine ce Tryz.func17 ?_;simp only[Tryz.f17];(have hb:=trivial;with_reducible repeat' (first|simp only[hb,Va.down,seval,aO5.down,k1,k2,k3,abL]|refine An ?_ ?_<;>intro hb|refine fd ?_|fail)))
 refine Dy (lst 90 w.parts (fun i (zz:Unit) t h=>t 1=.ptr 0 0 0∧t 3=.int .i64 i∧(h[0]?=some (.live 3 false false [[.int .i64 w.rooms,.int .i64 w.need,Be 9 true w.nn (w.parts.map Ab.cells)]]))) (fun rest zz=>rest.all (aa8 w.rooms)) (fun r e t h=>(e=.exit 0∧r=true)∨(e=.ret∧t 2=.bool false∧r=false)) ?_ ?_ () _ _ ?_) (fun e t h hk=>?_)
 ·rintro _ t h Q' kQ ⟨h1,h3,hA⟩
  (have hb:=trivial;with_reducible repeat' (first|simp only[hb,Va.down,seval,aO5.down,h1,h3,aoV,decide_false,hA,abL]|refine An ?_ ?_<;>intro hb|refine fd ?_|fail))
  exact kQ _ _ _ (.inl ⟨rfl,rfl⟩)
 ·rintro x rest i _ t h J Q' kJ kQ hx hi ⟨h1,h3,hA⟩
  have hd:decide ((i:Int)<(w.parts.length:Int))=true:=decide_eq_true (by omega)
  have hw:=Bv hi hs.parts
  have q1:=aLY x.one 0 (IntKind.i64.wrap (w.rooms-1))
  have q2:=aLY x.other 0 (IntKind.i64.wrap (w.rooms-1))
  have q4:=a4G x.tested
  have q5:=a4G x.valid
  have q6:=aLY x.test 1 1000
  have q7:=aLY x.change 1 1000
  have hp:aa8 w.rooms x=(La x.one 0 (IntKind.i64.wrap (w.rooms-1))&&La x.other 0 (IntKind.i64.wrap (w.rooms-1))&& !(x.one==x.other)&& !(x.opn&& !x.valve)&&awX x.tested&&awX x.valid&&La x.test 1 1000&&La x.change 1 1000):=rfl
  have hA1:=Ai hA
  generalize La x.one 0 (IntKind.i64.wrap (w.rooms-1))=d1 at *
  generalize La x.other 0 (IntKind.i64.wrap (w.rooms-1))=d2 at *
  cases hq3:(x.one==x.other)
  all_goals rw[hq3]at hp
  all_goals generalize awX x.tested=d4 at *
  all_goals generalize awX x.valid=d5 at *
  all_goals generalize La x.test 1 1000=d6 at *
  all_goals generalize La x.change 1 1000=d7 at *
  all_goals (have hb:=trivial;with_reducible repeat' (first|simp only[hb,Va.down,seval,aO5.down,h1,h3,hd,hx,hw,hA,hA1,q1,q2,hq3,q4,q5,q6,q7,Ab.cells,abL]|refine An ?_ ?_<;>intro hb|refine fd ?_|fail))
  all_goals first|(refine kQ _ _ _ (.inr ⟨rfl,by simp[up],?_⟩);simp_all;done)|(refine Aq (kJ _ _ () ⟨?_,?_,hA1 _⟩ ?_);(simp[up,h1]);(simp[up]);(simp_all))
 ·exact⟨by simp[up,Lx],by simp[up],rfl⟩
 rcases hk with⟨rfl,hr⟩|⟨rfl,h2,hr⟩
 ·rw[hr]
  (have hb:=trivial;with_reducible repeat' (first|simp only[hb,Va.down,seval,aO5.down]|refine An ?_ ?_<;>intro hb|refine fd ?_|fail))
 ·rw[hr]
  (have hb:=trivial;with_reducible repeat' (first|simp only[hb,Va.down,seval,aO5.down,h2]|refine An ?_ ?_<;>intro hb|refine fd ?_|fail))
theorem aUF{w:Af}(h:Fe w=true):∃N,WOk w N∧w.parts.length≤12:=by
 simp only[Fe,aT7,La,aHY,decide_eq_true_eq,aHX]at h
 obtain⟨⟨⟨⟨h1,h2⟩,h3,h4⟩,h5,h6⟩,h7⟩:=h
 refine⟨w.rooms.toNat,⟨by omega,by omega,by omega,by omega,fun e=>by rw[e]at h5;simp at h5,fun p hp=>?_⟩,by omega⟩
 have:=h7 p hp
 simp only[aa8,La,aHY,decide_eq_true_eq,Bool.not_eq_true',beq_eq_false_iff_ne]at this
 obtain⟨⟨⟨⟨⟨⟨⟨a1,a2⟩,a3⟩,_⟩,_⟩,_⟩,_⟩,_⟩:=this
 rw[Bf (by omega) (by omega)]at a1 a2
 refine⟨by omega,by omega,a3⟩
def idx{α:Type}(p:α→Bool):List α→Int→Int
 | [],_=> -1
 |x::l,i=>if p x=true then i else idx p l (i+1)
theorem aKX{α:Type}(p:α→Bool):∀(l:List α) (i:Int),0≤i→decide (0≤idx p l i)=l.any p
 | [],i,_=>rfl
 |x::l,i,h=>by
  unfold idx
  split
  ·rename_i hp;simp[h,hp]
  ·rename_i hp;rw[aKX p l (i+1) (by omega)];simp[hp]
theorem bdT(p:Ab)(N:Int):Dp.call (.fn 85) [.agg [.int .i64 p.one,.int .i64 p.other,.bool p.valve,.bool p.opn,.int .i64 p.tested,.int .i64 p.valid,.bool p.bad,.int .i64 p.test,.int .i64 p.change],.int .i64 N] []=some (.ret (.bool (aa8 N p)),[]):=by
 have q1:=aFK p.one 0 (IntKind.i64.wrap (N-1))
 have q2:=aFK p.other 0 (IntKind.i64.wrap (N-1))
 have q4:=aFK p.tested 0 5000
 have q5:=aFK p.valid 0 5000
 have q6:=aFK p.test 1 1000
 have q7:=aFK p.change 1 1000
 have hp:aa8 N p=(La p.one 0 (IntKind.i64.wrap (N-1))&&La p.other 0 (IntKind.i64.wrap (N-1))&& !(p.one==p.other)&& !(p.opn&& !p.valve)&&La p.tested 0 5000&&La p.valid 0 5000&&La p.test 1 1000&&La p.change 1 1000):=rfl
 generalize La p.one 0 (IntKind.i64.wrap (N-1))=d1 at *
 generalize La p.other 0 (IntKind.i64.wrap (N-1))=d2 at *
 generalize La p.tested 0 5000=d4 at *
 generalize La p.valid 0 5000=d5 at *
 generalize La p.test 1 1000=d6 at *
 generalize La p.change 1 1000=d7 at *
 cases hq3:(p.one==p.other)
 all_goals rw[hq3]at hp
 all_goals rw[hp]
 all_goals (refine ce Tryz.func85 ?_;simp only[Tryz.f85];(have hb:=trivial;with_reducible repeat' (first|simp only[hb,Va.down,seval,bo5.down,q1,q2,hq3,q4,q5,q6,q7]|refine An ?_ ?_<;>intro hb|refine fd ?_|fail)))
 all_goals simp_all
theorem baC(w:Af)(x:Ab):Dp.call (.fn 84) [.agg [.int .i64 x.one,.int .i64 x.other,.bool x.valve,.bool x.opn,.int .i64 x.tested,.int .i64 x.valid,.bool x.bad,.int .i64 x.test,.int .i64 x.change],.ptr 0 0 0] [.live 3 false false [[.int .i64 w.rooms,.int .i64 w.need,Be 9 true w.nn (w.parts.map Ab.cells)]]]=some (.ret (.bool (!aa8 w.rooms x)),[.live 3 false false [[.int .i64 w.rooms,.int .i64 w.need,Be 9 true w.nn (w.parts.map Ab.cells)]]]):=by
 have h:=bdT x w.rooms
 (refine ce Tryz.func84 ?_;simp only[Tryz.f84];(have hb:=trivial;with_reducible repeat' (first|simp only[hb,Va.down,seval,bpL.down,h]|refine An ?_ ?_<;>intro hb|refine fd ?_|fail)))
theorem aWG{l:List Ab}{nn:Bool}{g:Nat}{mm:Af}{p:Ab→Bool}(hp:∀x∈l,Dp.call (.fn g) (.agg [.int .i64 x.one,.int .i64 x.other,.bool x.valve,.bool x.opn,.int .i64 x.tested,.int .i64 x.valid,.bool x.bad,.int .i64 x.test,.int .i64 x.change]::[.ptr 0 0 0]) [.live 3 false false [[.int .i64 mm.rooms,.int .i64 mm.need,Be 9 true mm.nn (mm.parts.map Ab.cells)]]]=some (.ret (.bool (p x)),[.live 3 false false [[.int .i64 mm.rooms,.int .i64 mm.need,Be 9 true mm.nn (mm.parts.map Ab.cells)]]]))(hl:l.length≤maxLen):
 Dp.call (.fn 105) [Be 9 true nn (l.map Ab.cells),.func (.func g) [] [.ptr 0 0 0]] [.live 3 false false [[.int .i64 mm.rooms,.int .i64 mm.need,Be 9 true mm.nn (mm.parts.map Ab.cells)]]]=some (.ret (.int .i64 (idx p l 0)),[.live 3 false false [[.int .i64 mm.rooms,.int .i64 mm.need,Be 9 true mm.nn (mm.parts.map Ab.cells)]]]):=by
 (refine ce Tryz.func105 ?_;simp only[Tryz.f105];(have hb:=trivial;with_reducible repeat' (first|simp only[hb,Va.down,seval,aMQ.down,abL]|refine An ?_ ?_<;>intro hb|refine fd ?_|fail)))
 refine Dy (lst 19 l (fun i (s:Int) t h=>s=i∧h=[.live 3 false false [[.int .i64 mm.rooms,.int .i64 mm.need,Be 9 true mm.nn (mm.parts.map Ab.cells)]]]∧t 0=Be 9 true nn (l.map Ab.cells)∧t 1=.func (.func g) [] [.ptr 0 0 0]∧t 7=.int .i64 l.length∧t 8=.int .i64 i)
  (fun rest s=>idx p rest s) (fun r e t h=>h=[.live 3 false false [[.int .i64 mm.rooms,.int .i64 mm.need,Be 9 true mm.nn (mm.parts.map Ab.cells)]]]∧((e=.exit 0∧r= -1)∨(e=.ret∧t 4=.int .i64 r))) ?_ ?_ 0 _ _ ?_) (fun e t h hk=>?_)
 ·rintro s t h Q' kQ ⟨rfl,rfl,h0,h1,h7,h8⟩
  (have hb:=trivial;with_reducible repeat' (first|simp only[hb,Va.down,seval,aMQ.down,h0,h1,h7,h8,aoV,decide_false]|refine An ?_ ?_<;>intro hb|refine fd ?_|fail))
  exact kQ _ _ _ ⟨rfl,.inl ⟨rfl,rfl⟩⟩
 ·rintro x rest i s t h J Q' kJ kQ hx hi ⟨rfl,rfl,h0,h1,h7,h8⟩
  have hpx:=hp x (aIE hx)
  have hd:decide ((i:Int)<(l.length:Int))=true:=by simpa using hi
  (have hb:=trivial;with_reducible repeat' (first|simp only[hb,Va.down,seval,aMQ.down,h0,h1,h7,h8,hd,hx,Ab.cells,hpx,Bv hi hl]|refine An ?_ ?_<;>intro hb|refine fd ?_|fail))
  ·exact kQ _ _ _ ⟨rfl,.inr ⟨rfl,by simp[up,idx,hb]⟩⟩
  ·exact Aq (kJ _ _ (i+1) ⟨by simp,rfl,by simp[up,h0],by simp[up,h1],by simp[up,h7],by simp[up]⟩ (by simp[idx,hb]))
 ·exact⟨rfl,rfl,by simp[up,Lx],by simp[up,Lx],by simp[up],by simp[up]⟩
 ·obtain⟨rfl,⟨rfl,hi⟩|⟨rfl,hi⟩⟩:=hk
  ·(have hb:=trivial;with_reducible repeat' (first|simp only[hb,Va.down,seval,aMQ.down]|refine An ?_ ?_<;>intro hb|refine fd ?_|fail))
   rw[hi]
  ·(have hb:=trivial;with_reducible repeat' (first|simp only[hb,Va.down,seval,aMQ.down,hi]|refine An ?_ ?_<;>intro hb|refine fd ?_|fail))
theorem aRO{l:List Ab}{nn:Bool}{g:Nat}{mm:Af}{p:Ab→Bool}(hp:∀x∈l,Dp.call (.fn g) (.agg [.int .i64 x.one,.int .i64 x.other,.bool x.valve,.bool x.opn,.int .i64 x.tested,.int .i64 x.valid,.bool x.bad,.int .i64 x.test,.int .i64 x.change]::[.ptr 0 0 0]) [.live 3 false false [[.int .i64 mm.rooms,.int .i64 mm.need,Be 9 true mm.nn (mm.parts.map Ab.cells)]]]=some (.ret (.bool (p x)),[.live 3 false false [[.int .i64 mm.rooms,.int .i64 mm.need,Be 9 true mm.nn (mm.parts.map Ab.cells)]]]))(hl:l.length≤maxLen):
 Dp.call (.fn 83) [Be 9 true nn (l.map Ab.cells),.func (.func g) [] [.ptr 0 0 0]] [.live 3 false false [[.int .i64 mm.rooms,.int .i64 mm.need,Be 9 true mm.nn (mm.parts.map Ab.cells)]]]=some (.ret (.bool (l.any p)),[.live 3 false false [[.int .i64 mm.rooms,.int .i64 mm.need,Be 9 true mm.nn (mm.parts.map Ab.cells)]]]):=by
 (refine ce Tryz.func83 ?_;simp only[Tryz.f83];(have hb:=trivial;with_reducible repeat' (first|simp only[hb,Va.down,seval,aWG hp hl,aKX p l 0 (Int.le_refl 0)]|refine An ?_ ?_<;>intro hb|refine fd ?_|fail)))
theorem beH(w:Af)(hs:w.small):Dp.call (.fn 61) [.agg [.int .i64 w.rooms,.int .i64 w.need,Be 9 true w.nn (w.parts.map Ab.cells)]] []=some (.ret (.bool (Fe w)),[]):=by
 have k1:=aFK w.rooms 2 8
 have k2:=aFK w.need 0 12
 have k3:=aFK (w.parts.length:Int) 1 12
 have hcM:=aRO (mm:=w) (l:=w.parts) (nn:=w.nn) (g:=84) (p:=fun x=> !aa8 w.rooms x) (fun x _=>baC w x) hs.parts
 have q1:w.parts.all (aa8 w.rooms)= !(w.parts.any fun x=> !aa8 w.rooms x):=List.all_eq_not_any_not
 have hh:aT7 w=(La w.rooms 2 8&&La w.need 0 12&&La (w.parts.length:Int) 1 12):=rfl
 unfold Fe
 rw[hh,q1]
 generalize La w.rooms 2 8=c1 at *
 generalize La w.need 0 12=c2 at *
 generalize La (w.parts.length:Int) 1 12=c3 at *
 generalize(w.parts.any fun x=> !aa8 w.rooms x)=c4 at *
 cases c1<;>cases c2<;>cases c3
 all_goals (refine ce Tryz.func61 ?_;simp only[Tryz.f61];(have hb:=trivial;with_reducible repeat' (first|simp only[hb,Va.down,seval,bp9.down,k1,k2,k3,hcM,abL]|refine An ?_ ?_<;>intro hb|refine fd ?_|fail)))
 all_goals simp
theorem aT3(w:Af)(hs:w.small)(d:Int):Dp.call (.fn 34) [.agg [.int .i64 w.rooms,.int .i64 w.need,Be 9 true w.nn (w.parts.map Ab.cells)],.int .i64 d] []=some (.ret (.tup [.ptr 0 0 0,.bool (Fe w&&awX d)]),[.live 4 false false [[.int .i64 w.rooms,.int .i64 w.need,Be 9 true w.nn (w.parts.map Ab.cells),.int .i64 d]]]):=by
 have h:=beH w hs
 have hd:=aFK d 0 5000
 rw[show La d 0 5000=awX d from rfl]at hd
 generalize Fe w=c at *
 generalize awX d=e at *
 cases c
 ·(refine ce Tryz.func34 ?_;simp only[Tryz.f34];(have hb:=trivial;with_reducible repeat' (first|simp only[hb,Va.down,seval,bnW.down,h,hd]|refine An ?_ ?_<;>intro hb|refine fd ?_|fail)))
 ·(refine ce Tryz.func34 ?_;simp only[Tryz.f34];(have hb:=trivial;with_reducible repeat' (first|simp only[hb,Va.down,seval,bnW.down,h,hd]|refine An ?_ ?_<;>intro hb|refine fd ?_|fail)))
def QS(v:AV)(q:List Nat)(H:Aa)(p:Nat):Prop:=
 (v=.nils∧q=[])∨∃b w rows r,v=.slr 1 b r q.length∧H[b]?=some (.live 1 true w rows)∧b≠p∧rows.drop r=q.map Kz∧r+q.length=rows.length
def scB:AV→List Nat
 | .slr _ b _ _=>[b]
 |_=>[]
theorem awM{x:Option (List AV)}{vs:List AV}{h:Aa}{Q:Dt→Aa→Prop}(hx:x=some vs)(k:Q (.ret (Oj vs)) h):RtS x h Q:=by subst hx;exact k
theorem a1C{H:Aa}{p:Nat}{fl w:Bool}{v:AV}{q:List Nat}(x:Nat)(hp:H[p]?=some (.live 1 fl w [[v]]))(hQ:QS v q H p)(hq:q.length≤100000000):
 ShQ Dp 75 [.ptr p 0 0,.int .i64 (x:Int)] H fun o G=>o=.ret (.tup [])∧∃v' fl',G[p]?=some (.live 1 fl' true [[v']])∧QS v' (q++[x]) G p∧Iw (p::scB v) H G∧(∀b∈scB v,G[b]?=some .dead)∧(Ba H=true→Ba G=true)∧∀b∈scB v',H.length≤b:=by
 have hpl:=As hp
 refine aRM rfl Tryz.func75 rfl rfl ?_
 simp only[Tryz.f75]
 refine Ed (fun KK iN hK=>?_)
 have hA:=Ai hp
 have hS:=Io hpl
 rcases hQ with⟨rfl,rfl⟩|⟨b,w',rows,r,rfl,hrb,hbp,hd,hl⟩
 ·(have hb:=trivial;with_reducible repeat' (first|simp only[hb,Va.down,seval,a8K.down,hp,hA,hS]|refine An ?_ ?_<;>intro hb|refine fd ?_|fail))
  refine hK _ ?_
  rw[Pj]
  refine awM (vs:=[]) (by simp only[Va.down,seval,a8K.down]) ⟨rfl,.slr 1 (H.length+1) 0 1,false,?_,.inr ⟨H.length+1,false,[Kz x],0,rfl,?_,by omega,rfl,rfl⟩,⟨by simp,fun b hb1 hn=>?_⟩,fun b hb1=>by simp[scB]at hb1,fun hqq=>En (Eo hqq p rfl) rfl,fun b hb1=>by simp[scB]at hb1;omega⟩
  ·rw[abX (by simpa using hpl),adC hpl]
  ·rw[Gg];rfl
  ·rw[abX (by simpa using hb1),abK (fun e=>hn (by rw[e];exact adD ..))]
 ·have hbl:=As hrb
  have hB:=Ai hrb
  have hSb:=Io hbl
  have h39:(q.length+1≤549755813888)=True:=eq_true (by omega)
  have hg:∀l,(H.set b .dead++l)[p]?=some (.live 1 fl w [[.slr 1 b r q.length]]):=fun l=>by
   rw[abX (by simpa using hpl),abK hbp];exact hp
  have hg2:∀l c,(H.set b .dead++l).set p c=(H.set b .dead).set p c++l:=fun l c=>Io (by simpa using hpl) l c
  (have hb:=trivial;with_reducible repeat' (first|simp only[hb,Va.down,seval,a8K.down,hp,hA,hS,hrb,hB,hSb,hd,hl,h39,hg,hg2,Ht,Gg,aA3,abL]|refine An ?_ ?_<;>intro hb|refine fd ?_|fail))
  have hsl:((H.set b .dead).set p (CB.live 1 false true [[AV.slr 1 (H.length+1) 0 (q.length+1)]])).length=H.length:=by simp
  refine hK _ ?_
  rw[Pj]
  refine awM (vs:=[]) (by simp only[Va.down,seval,a8K.down]) ⟨rfl,.slr 1 (H.length+1) 0 (q.length+1),false,?_,.inr ⟨H.length+1,false,(q++[x]).map Kz,0,by simp,?_,by omega,rfl,by simp⟩,⟨by simp,fun c hc hn=>?_⟩,fun c hc=>?_,fun hqq=>En (Eo (Eo hqq b rfl) p rfl) rfl,fun c hc=>by simp[scB]at hc;omega⟩
  ·rw[abX (by omega),adC (by simpa using hpl)]
  ·rw[aoT (by omega),hsl,Nat.add_sub_cancel_left];simp[Kz]
  ·have n1:c≠p:=fun e=>hn (by rw[e];exact adD ..)
   have n2:c≠b:=fun e=>hn (by rw[e];simp[scB])
   rw[abX (by omega),abK (fun e=>n1 e.symm),abK (fun e=>n2 e.symm)]
  ·simp[scB]at hc;subst hc
   rw[abX (by omega),abK (fun e=>hbp e.symm),adC hbl]
theorem bdE(b r k:Nat):slx Tryz.prog 50 (some (.slr 1 b r (k+1))) (some (some (.int .i64 1))) (some none)=some (.ret (.slr 1 b (r+1) k),[]):=by
 have hz:Lr Tryz.prog 3=some 1:=by kernel_rfl
 simp only[slx,aBV,aBZ,Tryz.underlying50,hz,Hj]
 simp[Hj,r1]
 omega
theorem a96{H:Aa}{p:Nat}{fl w:Bool}{v:AV}(hp:H[p]?=some (.live 1 fl w [[v]]))(hQ:QS v [] H p):
 Dp.call (.sh 76) [.ptr p 0 0] H=some (.ret (.tup [.int .i64 0,.bool false]),H):=by
 rcases hQ with⟨rfl,_⟩|⟨b,w',rows,r,rfl,hrb,hbp,hd,hl⟩
 ·(refine csh Tryz.func76 ?_;simp only[Tryz.f76];(have hb:=trivial;with_reducible repeat' (first|simp only[hb,Va.down,seval,a9O.down,hp]|refine An ?_ ?_<;>intro hb|refine fd ?_|fail)))
 ·simp only[aJN]at hp
  (refine csh Tryz.func76 ?_;simp only[Tryz.f76];(have hb:=trivial;with_reducible repeat' (first|simp only[hb,Va.down,seval,a9O.down,hp]|refine An ?_ ?_<;>intro hb|refine fd ?_|fail)))
theorem a6G{H:Aa}{p:Nat}{fl w:Bool}{v:AV}{x:Nat}{q:List Nat}(hp:H[p]?=some (.live 1 fl w [[v]]))(hQ:QS v (x::q) H p)(hq:q.length≤100000000):
 ShQ Dp 76 [.ptr p 0 0] H fun o G=>o=.ret (.tup [.int .i64 (x:Int),.bool true])∧∃v' fl',G[p]?=some (.live 1 fl' true [[v']])∧QS v' q G p∧Iw [p] H G∧scB v'=scB v∧(Ba H=true→Ba G=true):=by
 have hpl:=As hp
 rcases hQ with⟨_,h⟩|⟨b,w',rows,r,rfl,hrb,hbp,hd,hl⟩
 ·cases h
 have hr0:rows[r]?=some [.int .i64 (x:Nat)]:=by
  have:=congrArg (·[0]?) hd
  simpa [Kz]using this
 have hd2:rows.drop (r+1)=q.map Kz:=by
  have:=congrArg (·.drop 1) hd
  simpa [List.drop_drop]using this
 simp only[List.length_cons]at hl hp
 have h1:decide (((q.length+1:Nat):Int)=0)=false:=decide_eq_false (by omega)
 have h2:((((q.length+1:Nat):Int))==0)=false:=by simp;omega
 have h3:((0:Int)<((q.length+1:Nat):Int))=True:=eq_true (by omega)
 have h4:((1:Int)≤((q.length+1:Nat):Int))=True:=eq_true (by omega)
 refine aRM rfl Tryz.func76 rfl rfl ?_
 simp only[Tryz.f76]
 refine Ed (fun KK iN hK=>?_)
 (have hb:=trivial;with_reducible repeat' (first|simp only[hb,Va.down,seval,a9O.down,hp,hrb,hr0,h1,h2,h3,h4,bdE]|refine An ?_ ?_<;>intro hb|refine fd ?_|fail))
 refine hK _ ?_
 rw[aSJ]
 refine awM (vs:=[.int .i64 (x:Int),.bool true]) (by simp only[Va.down,seval,a9O.down]) ⟨rfl,.slr 1 b (r+1) q.length,false,adC hpl,.inr ⟨b,w',rows,r+1,rfl,?_,hbp,hd2,by omega⟩,⟨by simp,fun b' _ hn=>abK (fun e=>hn (by simp[e]))⟩,rfl,fun hqq=>Eo hqq p rfl⟩
 rw[abK (fun e=>hbp e.symm)];exact hrb
theorem a8V{H:Aa}{p:Nat}{fl w:Bool}{v:AV}{q:List Nat}(x:Nat)(hp:H[p]?=some (.live 1 fl w [[v]]))(hQ:QS v q H p)(hq:q.length≤100000000):
 ShQ Dp 79 [.ptr p 0 0,.int .i64 (x:Int)] H fun o G=>o=.ret (.tup [])∧∃v' fl',G[p]?=some (.live 1 fl' true [[v']])∧QS v' (x::q) G p∧Iw [p] H G∧(Ba H=true→Ba G=true)∧∀b∈scB v',H.length≤b:=by
 have hpl:=As hp
 have hA:=Ai hp
 have hS:=Io hpl
 have keep:∀c l,Iw [p] H (H.set p c++l):=fun c l=>⟨by simp,fun b hb1 hn=>by rw[abX (by simpa using hb1),abK (fun e=>hn (by simp[e]))]⟩
 have hg:∀c l,(H.set p c++l)[p]?=some c:=fun c l=>by rw[abX (by simpa using hpl),adC hpl]
 refine aRM rfl Tryz.func79 rfl rfl ?_
 simp only[Tryz.f79]
 refine Ed (fun KK iN hK=>?_)
 rcases hQ with⟨rfl,rfl⟩|⟨b,w',rows,r,rfl,hrb,hbp,hd,hl⟩
 ·(have hb:=trivial;with_reducible repeat' (first|simp only[hb,Va.down,seval,aX5.down,hp,hA,hS]|refine An ?_ ?_<;>intro hb|refine fd ?_|fail))
  refine hK _ ?_
  rw[Pj]
  refine awM (vs:=[]) (by simp only[Va.down,seval,aX5.down]) ⟨rfl,_,_,hg _ _,.inr ⟨H.length,false,[Kz x],0,rfl,?_,by omega,rfl,rfl⟩,keep _ _,fun hqq=>En (Eo hqq p rfl) rfl,fun b hb1=>by simp[scB]at hb1;omega⟩
  rw[Ht];rfl
 ·have hB:=Ai hrb
  cases q with
  |nil=>
   simp only[aJN]at hl hp hA
   have hrl:(r≤rows.length)=True:=eq_true (by omega)
   (have hb:=trivial;with_reducible repeat' (first|simp only[hb,Va.down,seval,aX5.down,hp,hA,hS,hrb,hB,hrl]|refine An ?_ ?_<;>intro hb|refine fd ?_|fail))
   refine hK _ ?_
   rw[Pj]
   refine awM (vs:=[]) (by simp only[Va.down,seval,aX5.down]) ⟨rfl,_,_,hg _ _,.inr ⟨H.length,false,[Kz x],0,rfl,?_,by omega,rfl,rfl⟩,keep _ _,fun hqq=>En (Eo hqq p rfl) rfl,fun b hb1=>by simp[scB]at hb1;omega⟩
   rw[Ht];rfl
  |cons y q=>
   have hq2:(1+(q.length+1)≤549755813888)=True:=eq_true (by simp at hq;omega)
   have hrl:(r+(q.length+1)≤rows.length)=True:=eq_true (by simp at hl;omega)
   have htk:agI q.length (List.map Kz q)=List.map Kz q:=ai5 (by simp)
   (have hb:=trivial;with_reducible repeat' (first|simp only[hb,Va.down,seval,aX5.down,hp,hA,hS,hrb,hB,hd,hq2,hrl,htk,Ht,Gg,aA3,abL]|refine An ?_ ?_<;>intro hb|refine fd ?_|fail))
   refine hK _ ?_
   rw[Pj]
   refine awM (vs:=[]) (by simp only[Va.down,seval,aX5.down]) ⟨rfl,_,_,hg _ _,.inr ⟨H.length+1,false,(x::y::q).map Kz,0,by simp;omega,?_,by omega,rfl,by simp⟩,keep _ _,fun hqq=>En (Eo hqq p rfl) rfl,fun b hb1=>by simp[scB]at hb1;omega⟩
   rw[Gg];rfl
theorem boY(w:Af)(d r:Int)(wf:Bool):Dp.call (.fn 77) [.ptr 0 0 0,.int .i64 r] [.live 4 false wf [[.int .i64 w.rooms,.int .i64 w.need,Be 9 true w.nn (w.parts.map Ab.cells),.int .i64 d]]]=some (.ret (.func (.func 93) [] [.ptr 1 0 0,.ptr 2 0 0]),[.live 4 false wf [[.int .i64 w.rooms,.int .i64 w.need,Be 9 true w.nn (w.parts.map Ab.cells),.int .i64 d]],.live 1 false false [[.ptr 0 0 0]],.live 1 true false [[.int .i64 r]]]):=by
 (refine ce Tryz.func77 ?_;simp only[Tryz.f77];(have hb:=trivial;with_reducible repeat' (first|simp only[hb,Vc.down,seval]|refine An ?_ ?_<;>intro hb|refine fd ?_|fail)))
theorem bp0{w:Af}{N:Nat}(hw:WOk w N){d r:Int}{y:AV}{lb rb kb:Nat}(Inv:Nat→Aa→Prop)
 (hL:∀i h,Inv i h→∃w1,h[lb]?=some (.live 1 false w1 [[.ptr kb 0 0]])) (hK:∀i h,Inv i h→∃w2,h[kb]?=some (.live 4 false w2 [[.int .i64 w.rooms,.int .i64 w.need,Be 9 true w.nn (w.parts.map Ab.cells),.int .i64 d]])) (hR:∀i h,Inv i h→∃w3,h[rb]?=some (.live 1 true w3 [[.int .i64 r]]))
 (hA:∀i h fl wf (rows:List (List AV)),Inv i h→Inv i (h++[.live 9 fl wf rows]))
 (hS:∀(i:Nat) (p:Ab) (u:Int) h,w.parts[i]?=some p→((p.one=r∧u=p.other)∨(p.one≠r∧p.other=r∧u=p.one))→Inv i h→∃es,cl Dp h (some y) (some [.int .i64 i,.int .i64 u])=some (.ret (.bool true),es)∧Inv (i+1) (Bi h es))
 (hN:∀(i:Nat) (p:Ab) h,w.parts[i]?=some p→p.one≠r→p.other≠r→Inv i h→Inv (i+1) h)
 {h0:Aa} (h0I:Inv 0 h0):ShQ Dp 93 [y,.ptr lb 0 0,.ptr rb 0 0] h0 fun o h'=>o=.ret (.tup [])∧Inv w.parts.length h':=by
 obtain⟨w1,hl⟩:=hL _ _ h0I
 obtain⟨w2,hk0⟩:=hK _ _ h0I
 have hlen:=hw.len
 refine aRM rfl Tryz.func93 rfl rfl ?_
 simp only[Tryz.f93]
 (have hb:=trivial;with_reducible repeat' (first|simp only[hb,Vc.down,seval,aW2.down,hl,hk0,abL]|refine An ?_ ?_<;>intro hb|refine fd ?_|fail))
 refine Dy (lst 41 w.parts (fun i (_:Unit) t h=>t 0=y∧t 1=.ptr lb 0 0∧t 2=.ptr rb 0 0∧t 11=Be 9 true w.nn (w.parts.map Ab.cells)∧t 12=.int .i64 (w.parts.length:Nat)∧t 13=.int .i64 (i:Int)∧Inv i h) (fun _ _=>()) (fun _ e t h=>e=.exit 0∧Inv w.parts.length h) ?_ ?_ () _ _ ?_) (fun e t h hk=>?_)
 ·rintro _ t h Q' kQ ⟨g0,g1,g2,g11,g12,g13,hI⟩
  (have hb:=trivial;with_reducible repeat' (first|simp only[hb,Vc.down,seval,aW2.down,g12,g13,aoV,decide_false]|refine An ?_ ?_<;>intro hb|refine fd ?_|fail))
  exact kQ _ _ _ ⟨rfl,hI⟩
 ·rintro p rest i _ t h J Q' kJ kQ hx hi ⟨g0,g1,g2,g11,g12,g13,hI⟩
  have hdd:decide ((i:Int)<(w.parts.length:Int))=true:=decide_eq_true (by omega)
  have hww:=Bv hi (by unfold maxLen;omega)
  have hpo:=hw.part p (aIE hx)
  obtain⟨w3,hr⟩:=hR _ _ hI
  have hr1:=Ai hr
  have hv1:=hA _ _ true true [p.cells] hI
  have c1:decide ((0:Int)≤p.other)=true:=decide_eq_true hpo.2.1.1
  have c2:decide ((0:Int)≤p.one)=true:=decide_eq_true hpo.1.1
  have c3:decide ((0:Int)≤ -1)=false:=rfl
  by_cases e1:p.one=r
  ·have q1:(r==p.one)=true:=by simp[e1]
   obtain⟨es,hes,hv2⟩:=hS i p p.other _ hx (.inl ⟨e1,rfl⟩) hv1
   simp only[Ab.cells]at hes hv2
   (have hb:=trivial;with_reducible repeat' (first|simp only[hb,Vc.down,seval,aW2.down,g0,g1,g2,g11,g12,g13,hdd,hww,hx,hr,hr1,q1,c1,hes,Ab.cells]|refine An ?_ ?_<;>intro hb|refine fd ?_|fail))
   exact Aq (kJ _ _ () ⟨by simp[up,g0],by simp[up,g1],by simp[up,g2],by simp[up,g11],by simp[up,g12],by simp[up],hv2⟩ rfl)
  ·have q1:(r==p.one)=false:=by simp;exact fun e=>e1 e.symm
   by_cases e2:p.other=r
   ·have q2:(r==p.other)=true:=by simp[e2]
    obtain⟨es,hes,hv2⟩:=hS i p p.one _ hx (.inr ⟨e1,e2,rfl⟩) hv1
    simp only[Ab.cells]at hes hv2
    (have hb:=trivial;with_reducible repeat' (first|simp only[hb,Vc.down,seval,aW2.down,g0,g1,g2,g11,g12,g13,hdd,hww,hx,hr,hr1,q1,q2,c2,hes,Ab.cells]|refine An ?_ ?_<;>intro hb|refine fd ?_|fail))
    exact Aq (kJ _ _ () ⟨by simp[up,g0],by simp[up,g1],by simp[up,g2],by simp[up,g11],by simp[up,g12],by simp[up],hv2⟩ rfl)
   ·have q2:(r==p.other)=false:=by simp;exact fun e=>e2 e.symm
    have hv2:=hN i p _ hx e1 e2 hv1
    simp only[Ab.cells]at hv2
    (have hb:=trivial;with_reducible repeat' (first|simp only[hb,Vc.down,seval,aW2.down,g0,g1,g2,g11,g12,g13,hdd,hww,hx,hr,hr1,q1,q2,c3,Ab.cells]|refine An ?_ ?_<;>intro hb|refine fd ?_|fail))
    exact Aq (kJ _ _ () ⟨by simp[up,g0],by simp[up,g1],by simp[up,g2],by simp[up,g11],by simp[up,g12],by simp[up],hv2⟩ rfl)
 ·exact⟨by simp[up,Lx],by simp[up,Lx],by simp[up,Lx],by simp[up],by simp[up],by simp[up],h0I⟩
 obtain⟨rfl,hI⟩:=hk
 (have hb:=trivial;with_reducible repeat' (first|simp only[hb,Vc.down,seval,aW2.down]|refine An ?_ ?_<;>intro hb|refine fd ?_|fail))
 exact hI
theorem QS.cln{v:AV}{q:List Nat}{H:Aa}{p:Nat}(h:QS v q H p):QS v q (Hn H) p:=by
 rcases h with h|⟨b,w,rows,r,h1,h2,h3,h4,h5⟩
 ·exact .inl h
 ·exact .inr ⟨b,false,rows,r,h1,Es h2,h3,h4,h5⟩
theorem QS.lt{v:AV}{q:List Nat}{H:Aa}{p:Nat}(h:QS v q H p):∀b∈scB v,b<H.length∧∃w rows,H[b]?=some (.live 1 true w rows):=by
 rcases h with⟨rfl,_⟩|⟨b,w,rows,r,rfl,h2,_⟩
 ·intro b hb1;simp[scB]at hb1
 ·intro b' hb1;simp[scB]at hb1;subst hb1;exact⟨As h2,w,rows,h2⟩
theorem bbW{h:Aa}(hq:Ba h=true){p:Nat}{fl w:Bool}{v:AV}{q:List Nat}(x:Nat)(hp:h[p]?=some (.live 1 fl w [[v]]))(hQ:QS v q h p)(hl:q.length≤100000000):
 ∃es M,cl Dp h (some (.func (.func 75) [] [])) (some [.ptr p 0 0,.int .i64 (x:Int)])=some (.ret (.tup []),es)∧Bi h es=M∧h.length≤M.length∧Ba M=true∧(∃v' fl',M[p]?=some (.live 1 fl' true [[v']])∧QS v' (q++[x]) M p∧∀b∈scB v',h.length≤b)∧(∀b c,b∉p::scB v→h[b]?=some c→M[b]?=some c)∧∀b∈scB v,M[b]?=some .dead:=by
 have hX:∀G:Aa,(∃f row,G[p]?=some (.live 1 f true row))→(∀b∈scB v,G[b]?=some .dead)→∀b∈p::scB v,b<h.length∧∀c0 c,h[b]?=some c0→G[b]?=some c→c0.isLive=true∧c0.quiet c=false:=fun G g1 g2 b hb1=>by
  rcases aoS.1 hb1 with rfl|hb1
  ·obtain⟨f,row,g1⟩:=g1
   refine⟨As hp,fun c0 c k1 k2=>?_⟩
   rw[hp]at k1;rw[g1]at k2;cases k1;cases k2;exact⟨rfl,rfl⟩
  ·obtain⟨h1,w',rows,h2⟩:=hQ.lt b hb1
   refine⟨h1,fun c0 c k1 k2=>?_⟩
   rw[h2]at k1;rw[g2 b hb1]at k2;cases k1;cases k2;exact⟨rfl,rfl⟩
 obtain⟨o,G,es,e1,e2,rfl,v',fl',k1,k2,K,k4,k5,k6⟩:=aLR rfl rfl (a1C x (Es hp) hQ.cln hl) (fun o G hQ=>by
  obtain⟨_,v',fl',k1,k2,K,k4,_⟩:=hQ
  exact(Jb hq K (hX G ⟨_,_,k1⟩ k4)).1)
 have X:=hX G ⟨_,_,k1⟩ k4
 obtain⟨_,m1,m2,m3,m4⟩:=Jb hq K X
 rw[Cj]at k6
 have hle:h.length≤G.length:=by have:=K.len;rwa[Cj]at this
 refine⟨es,_,e1,e2,by rw[m1];exact hle,awB hq K X (k5 (aiH hq)),⟨v',fl',m4 p (adD ..) _ k1,?_,k6⟩,fun b c hn hc=>by rw[m3 b (As hc) hn];exact hc,fun b hb=>m4 b (aBU _ hb) _ (k4 b hb)⟩
 rcases k2 with h1|⟨b,w',rows,r,h1,h2,h3,h4,h5⟩
 ·exact .inl h1
 ·exact .inr ⟨b,w',rows,r,h1,by rw[m2 b (k6 b (by rw[h1];simp[scB]))];exact h2,h3,h4,h5⟩
theorem aTO{h:Aa}{p:Nat}{fl w:Bool}{v:AV}(hp:h[p]?=some (.live 1 fl w [[v]]))(G:Aa)(g1:∃f row,G[p]?=some (.live 1 f true row)):∀b∈[p],b<h.length∧∀c0 c,h[b]?=some c0→G[b]?=some c→c0.isLive=true∧c0.quiet c=false:=fun b hb1=>by
 simp at hb1;subst hb1
 obtain⟨f,row,g1⟩:=g1
 refine⟨As hp,fun c0 c k1 k2=>?_⟩
 rw[hp]at k1;rw[g1]at k2;cases k1;cases k2;exact⟨rfl,rfl⟩
theorem bjW{h:Aa}(hq:Ba h=true){p:Nat}{fl w:Bool}{v:AV}{q:List Nat}(x:Nat)(hp:h[p]?=some (.live 1 fl w [[v]]))(hQ:QS v q h p)(hl:q.length≤100000000):
 ∃es M,cl Dp h (some (.func (.func 79) [] [])) (some [.ptr p 0 0,.int .i64 (x:Int)])=some (.ret (.tup []),es)∧Bi h es=M∧h.length≤M.length∧Ba M=true∧(∃v' fl',M[p]?=some (.live 1 fl' true [[v']])∧QS v' (x::q) M p∧∀b∈scB v',h.length≤b)∧∀b c,b≠p→h[b]?=some c→M[b]?=some c:=by
 obtain⟨o,G,es,e1,e2,rfl,v',fl',k1,k2,K,k5,k6⟩:=aLR rfl rfl (a8V x (Es hp) hQ.cln hl) (fun o G hQ=>by
  obtain⟨_,v',fl',k1,k2,K,_⟩:=hQ
  exact(Jb hq K (aTO hp G ⟨_,_,k1⟩)).1)
 have X:=aTO hp G ⟨_,_,k1⟩
 obtain⟨_,m1,m2,m3,m4⟩:=Jb hq K X
 rw[Cj]at k6
 have hle:h.length≤G.length:=by have:=K.len;rwa[Cj]at this
 refine⟨es,_,e1,e2,by rw[m1];exact hle,awB hq K X (k5 (aiH hq)),⟨v',fl',m4 p (adD ..) _ k1,?_,k6⟩,fun b c hn hc=>by rw[m3 b (As hc) (by simpa using hn)];exact hc⟩
 rcases k2 with h1|⟨b,w',rows,r,h1,h2,h3,h4,h5⟩
 ·exact .inl h1
 ·exact .inr ⟨b,w',rows,r,h1,by rw[m2 b (k6 b (by rw[h1];simp[scB]))];exact h2,h3,h4,h5⟩
theorem biX{h:Aa}(hq:Ba h=true){p:Nat}{fl w:Bool}{v:AV}(hp:h[p]?=some (.live 1 fl w [[v]]))(hQ:QS v [] h p):
 cl Dp h (some (.func (.func 76) [] [])) (some [.ptr p 0 0])=some (.ret (.tup [.int .i64 0,.bool false]),[]):=
 a6V rfl rfl (a96 (Es hp) hQ.cln) hq
theorem bbY{h:Aa}(hq:Ba h=true){p:Nat}{fl w:Bool}{v:AV}{x:Nat}{q:List Nat}(hp:h[p]?=some (.live 1 fl w [[v]]))(hQ:QS v (x::q) h p)(hl:q.length≤100000000):
 ∃es M,cl Dp h (some (.func (.func 76) [] [])) (some [.ptr p 0 0])=some (.ret (.tup [.int .i64 (x:Int),.bool true]),es)∧Bi h es=M∧h.length≤M.length∧Ba M=true∧(∃v' fl',M[p]?=some (.live 1 fl' true [[v']])∧QS v' q M p∧scB v'=scB v)∧∀b c,b≠p→h[b]?=some c→M[b]?=some c:=by
 obtain⟨o,G,es,e1,e2,rfl,v',fl',k1,k2,K,k4,k5⟩:=aLR rfl rfl (a6G (Es hp) hQ.cln hl) (fun o G hQ=>by
  obtain⟨_,v',fl',k1,k2,K,_⟩:=hQ
  exact(Jb hq K (aTO hp G ⟨_,_,k1⟩)).1)
 have X:=aTO hp G ⟨_,_,k1⟩
 obtain⟨_,m1,m2,m3,m4⟩:=Jb hq K X
 have hle:h.length≤G.length:=by have:=K.len;rwa[Cj]at this
 have same:∀b c,b≠p→h[b]?=some c→(Ob h G)[b]?=some c:=fun b c hn hc=>by rw[m3 b (As hc) (by simpa using hn)];exact hc
 refine⟨es,_,e1,e2,by rw[m1];exact hle,awB hq K X (k5 (aiH hq)),⟨v',fl',m4 p (adD ..) _ k1,?_,k4⟩,same⟩
 rcases k2 with h1|⟨b,w',rows,r,h1,h2,h3,h4,h5⟩
 ·exact .inl h1
 ·have hbv:b∈scB v:=by rw[←k4,h1];simp[scB]
  obtain⟨_,w0,rows0,hh⟩:=hQ.lt b hbv
  have hr:(hf (Ob h G) b).bind Ax=(hf G b).bind Ax:=aUV hq K X b
  have hM:=same b _ h3 hh
  have e3:rows0=rows:=by
   have a1:((Ob h G)[b]?).bind Ax=(G[b]?).bind Ax:=hr
   rw[hM,h2]at a1
   simp[Ax]at a1;exact a1
  subst e3
  exact .inr ⟨b,w0,rows0,r,h1,hM,h3,h4,h5⟩
theorem bbK{vs:List AV}{b:Nat}{h:Aa}{ps:List Nat}{asg body:Code}{tm:List AV}{st:Iz}{Q:Dt→Aa→Prop}(hb:h[b]?=some (.lp ps asg body tm st))(hl:ps.length=vs.length)
 (he:RnE b Q (aZE Dp Tryz.prog b body (Cd Dp Tryz.prog 5000 asg [] ⟨Of tm ps vs,h⟩))):RnQ Dp (vs++[.yl b]) h Q:=RnQ.start (pr:=pr) hb hl he
theorem a9S{O:Dx}{H:Aa}{b:Nat}{vs:List AV}{Q:Dt→Aa→Prop}(K:RnQ O (vs++[.yl b]) (Hn H) Q)(ok:∀o G,Q o G→aO8 H G):
 ∃o G es,cl O H (some (.yl b)) (some vs)=some (o,es)∧Bi H es=Ob H G∧Q o G:=by
 obtain⟨o,G,hc,hq⟩:=K
 obtain⟨es,e1,e2⟩:=av0 H G [] (ok o G hq)
 refine⟨o,G,es,?_,by simpa using e2,hq⟩
 rw[bjD,hc,aE9]
 have e1':Bz 0 H G=some es:=e1
 rw[e1'];rfl
def Hy:Nat:=1048576
def DiH(LK:CB)(e:Bool)(ps:List AV)(N:Nat)(h:Aa)(dd q K:List Nat):Prop:=∃f v fl w,
 h[0]?=some LK∧h[1]?=some (.live 24 true false [ps])∧h[2]?=some (.live 1 true f (dd.map Kz))∧h[3]?=some (.live 1 false e [[.slr 1 2 0 N]])∧h[5]?=some (.live 1 false e [[.ptr 4 0 0]])∧h[4]?=some (.live 1 fl w [[v]])∧QS v q h 4∧(∀b∈scB v,6≤b∧b∉K)∧Ba h=true
theorem DiH.app{LK:CB}{e:Bool}{ps:List AV}{N:Nat}{h:Aa}{dd q K:List Nat}(D:DiH LK e ps N h dd q K){L:Aa}(hL:Ba L=true):DiH LK e ps N (h++L) dd q K:=by
 obtain⟨f,v,fl,w',i0,i1,i2,i3,i5,i4,iQ,iB,iq⟩:=D
 refine⟨f,v,fl,w',Ai i0 L,Ai i1 L,Ai i2 L,Ai i3 L,Ai i5 L,Ai i4 L,?_,iB,En iq hL⟩
 rcases iQ with h|⟨b,w',rows,r,h1,h2,h3⟩
 ·exact .inl h
 ·exact .inr ⟨b,w',rows,r,h1,Ai h2 _,h3⟩
def Okw(H G:Aa):Prop:=H.length≤G.length∧∀(b:Nat) (c0 c:CB),H[b]?=some c0→G[b]?=some c→(c0.quiet c=true∧c0.clean=c.clean)∨(c0.isLive=true∧((∃st fl rows,c=.live st fl true rows)∨c=.dead))
theorem aEP{c0 c:CB}(h:c0.isLive=true)(hc:(∃st fl rows,c=.live st fl true rows)∨c=.dead):c0.quiet c=false:=by
 rcases hc with⟨_,_,_,rfl⟩|rfl<;>cases c0<;>first|rfl|(simp[CB.isLive]at h;done)|(simp[CB.quiet,CB.same];done)
theorem Okw.sh{H G:Aa}(k:Okw H G):aO8 H G:=⟨k.1,fun b c0 c h0 h1=>(k.2 b c0 c h0 h1).imp (fun h=>h.1) (fun h=>h.1)⟩
theorem aRY{c0 c1:CB}(h:c0.clean=c1.clean)(h1:c1.isLive=true):c0.isLive=true:=by cases c0<;>cases c1<;>first|rfl|(simp[CB.clean]at h;done)|cases h1
theorem aFT(c:CB):c.clean.clean=c.clean:=by cases c<;>rfl
theorem Okw.app{H G:Aa}(k:Okw H G)(l:Aa):Okw H (G++l):=⟨by simp;have:=k.1;omega,fun b c0 c h0 h1=>k.2 b c0 c h0 (by
 have:=As h0
 have:=k.1
 rw[abX (by omega)]at h1;exact h1)⟩
theorem Okw.cl{H:Aa}(h:Ba H=true):Okw H (Hn H):=⟨by rw[Cj];exact Nat.le_refl _,fun b c0 c h0 h1=>by
 rw[Es h0]at h1;cases h1
 exact .inl ⟨Gn h h0,(aFT c0).symm⟩⟩
theorem Okw.keep{H G:Aa}{X:List Nat}(h:Ba H=true)(K:Iw X (Hn H) G)(hX:∀b∈X,∃c0 c,H[b]?=some c0∧G[b]?=some c∧c0.isLive=true∧((∃st fl rows,c=.live st fl true rows)∨c=.dead)):Okw H G:=⟨by have:=K.len;rwa[Cj]at this,fun b c0 c h0 h1=>by
 by_cases hb:b∈X
 ·obtain⟨d0,d,e0,e1,e2⟩:=hX b hb
  rw[h0]at e0;rw[h1]at e1;cases e0;cases e1
  exact .inr e2
 ·rw[K.same b (by rw[Cj];exact As h0) hb,Es h0]at h1;cases h1
  exact .inl ⟨Gn h h0,(aFT c0).symm⟩⟩
theorem Okw.mrg_clean{H G:Aa}(k:Okw H G){b:Nat}{c:CB}(hc:G[b]?=some c):∃c',(Ob H G)[b]?=some c'∧c'.clean=c.clean:=by
 by_cases hb:b<H.length
 ·have h0:H[b]?=some H[b]:=ah1 hb
  rcases k.2 b _ c h0 hc with⟨h1,h2⟩|⟨h1,h2⟩
  ·exact⟨_,Nk h0 hc h1,h2⟩
  ·refine⟨_,awJ h0 hc (aEP h1 h2),?_⟩
   rcases h2 with⟨_,_,_,rfl⟩|rfl<;>rfl
 ·exact⟨c,by rw[aAY k.1 (by omega)];exact hc,rfl⟩
theorem Okw.trans{H h' G:Aa}(k:Okw H h')(k':Okw h' G):Okw H (Ob h' G):=by
 refine⟨by rw[am8 k'.1];exact Nat.le_trans k.1 k'.1,fun b c0 c h0 h1=>?_⟩
 have hb:=As h0
 have e1:h'[b]?=some (h'[b]'(by have:=k.1;omega)):=ah1 _
 have e2:G[b]?=some (G[b]'(by have:=k.1;have:=k'.1;omega)):=ah1 _
 generalize h'[b]'(by have:=k.1;omega)=c1 at *
 generalize G[b]'(by have:=k.1;have:=k'.1;omega)=c2 at *
 rcases k'.2 b _ _ e1 e2 with⟨g1,g2⟩|⟨g1,g2⟩
 ·rw[Nk e1 e2 g1]at h1;cases h1
  exact k.2 b _ _ h0 e1
 ·rw[awJ e1 e2 (aEP g1 g2)]at h1
  have:c2.mark=c2:=by rcases g2 with⟨_,_,_,rfl⟩|rfl<;>rfl
  rw[this]at h1;cases h1
  refine .inr ⟨?_,g2⟩
  rcases k.2 b _ _ h0 e1 with⟨_,h⟩|⟨h,_⟩
  ·exact aRY h g1
  ·exact h
theorem Okw.old{H G:Aa}{b:Nat}{c0 c:CB}(h0:H[b]?=some c0)(h1:G[b]?=some c)(hq:c0.quiet c=true):(Ob H G)[b]?=some c0:=Nk h0 h1 hq
theorem a3V{c:CB}{st:Nat}{fl w:Bool}{rows:List (List AV)}(h:c.clean=(CB.live st fl w rows).clean):∃w',c=.live st fl w' rows:=by
 cases c<;>simp[CB.clean]at h
 obtain⟨rfl,rfl,rfl⟩:=h
 exact⟨_,rfl⟩
theorem Okw.live{H G:Aa}(k:Okw H G){b st:Nat}{fl w:Bool}{rows:List (List AV)}(hc:G[b]?=some (.live st fl w rows)):∃w',(Ob H G)[b]?=some (.live st fl w' rows):=by
 obtain⟨c',h1,h2⟩:=k.mrg_clean hc
 obtain⟨w',rfl⟩:=a3V h2
 exact⟨w',h1⟩
theorem QS.okw{H G:Aa}(k:Okw H G){v:AV}{q:List Nat}{p:Nat}(h:QS v q G p):QS v q (Ob H G) p:=by
 rcases h with h|⟨b,w,rows,r,h1,h2,h3,h4,h5⟩
 ·exact .inl h
 ·obtain⟨w',h6⟩:=k.live h2
  exact .inr ⟨b,w',rows,r,h1,h6,h3,h4,h5⟩
theorem Okw.quiet{H G:Aa}(k:Okw H G)(h:Ba H=true)(h':Ba G=true):Ba (Ob H G)=true:=by
 refine azT fun c hc=>?_
 obtain⟨b,hb⟩:=List.getElem?_of_mem hc
 have hbl:=As hb
 rw[am8 k.1]at hbl
 have e2:G[b]?=some G[b]:=ah1 hbl
 generalize G[b]=c2 at *
 by_cases hl:b<H.length
 ·have e1:H[b]?=some H[b]:=ah1 hl
  generalize H[b]=c1 at *
  rcases k.2 b _ _ e1 e2 with⟨g1,g2⟩|⟨g1,g2⟩
  ·rw[Nk e1 e2 g1]at hb;cases hb;exact Gn h e1
  ·rw[awJ e1 e2 (aEP g1 g2)]at hb;cases hb;exact aFL (Gn h' e2)
 ·rw[aAY k.1 (by omega),e2]at hb;cases hb;exact Gn h' e2
theorem aYX{LK:CB}{e:Bool}{ps:List AV}{N:Nat}{h':Aa}{dd q K:List Nat}{f:Bool}{v:AV}{fl w:Bool}(i0:h'[0]?=some LK)(i1:h'[1]?=some (.live 24 true false [ps]))(i2:h'[2]?=some (.live 1 true f (dd.map Kz)))(i3:h'[3]?=some (.live 1 false e [[.slr 1 2 0 N]]))(i5:h'[5]?=some (.live 1 false e [[.ptr 4 0 0]]))(i4:h'[4]?=some (.live 1 fl w [[v]]))(iQ:QS v q h' 4)(iB:∀b∈scB v,6≤b∧b∉K)(iq:Ba h'=true)
 {B:Nat} {LP LB:CB} (hB:h'[B]?=some LP) (hBK:B∈K) (hK:∀b∈K,6≤b∧b<h'.length) (hLPc:LP.clean=LP) (hLPq:LP.quiet LP=true) {M:Aa} {Y dd2 q2:List Nat} {v2:AV} {fl2:Bool} (m1:h'.length≤M.length) (m2:Ba M=true) (m3:M[4]?=some (.live 1 fl2 true [[v2]])) (m4:QS v2 q2 M 4) (m5:∀b∈scB v2,h'.length≤b)
 (m6:∀b c,b∉Y→(((Hn h').set B LB).set 2 (.live 1 true true (dd2.map Kz)))[b]?=some c→M[b]?=some c) (hY:4∈Y) (hY':∀b∈Y,b=4∨(b∈scB v∧M[b]?=some .dead)):
 Okw h' (M.set B LP)∧DiH LK e ps N (Ob h' (M.set B LP)) dd2 q2 K∧(∀b∈K,(Ob h' (M.set B LP))[b]?=h'[b]?)∧h'.length≤(Ob h' (M.set B LP)).length:=by
 have hBl:=As hB
 have hB6:=(hK B hBK).1
 have h4l:=As i4
 have hY6:∀b∈Y,b=4∨(6≤b∧b∉K):=fun b hb1=>(hY' b hb1).imp id (fun h=>iB b h.1)
 have h2Y:2∉Y:=fun h=>by rcases hY6 2 h with h|h<;>omega
 have hKY:∀b∈K,b∉2::Y:=fun b hb1 h=>by
  have:=(hK b hb1).1
  rcases aoS.1 h with h|h
  ·omega
  ·rcases hY6 b h with h|h
   ·omega
   ·exact h.2 hb1
 have hg2:M[2]?=some (.live 1 true true (dd2.map Kz)):=m6 2 _ h2Y (adC (by simp[Cj];omega))
 have hK2:Iw (2::Y) (Hn h') (M.set B LP):=⟨by simpa [Cj]using m1,fun b hb1 hn=>by
  rw[Cj]at hb1
  obtain⟨c,hc⟩:∃c,h'[b]?=some c:=⟨_,ah1 hb1⟩
  by_cases e:b=B
  ·subst e
   rw[adC (by omega),Es hB,hLPc]
  ·rw[abK (fun h=>e h.symm)]
   have:=m6 b c.clean (fun h=>hn (aBU _ h)) (by
    rw[abK (fun h=>hn (by rw[←h];exact adD ..)),abK (fun h=>e h.symm)];exact Es hc)
   rw[this,Es hc]⟩
 have hne:∀b,b≠B→(M.set B LP)[b]?=M[b]?:=fun b h=>abK (fun e=>h e.symm)
 have X:∀b∈2::Y,∃c0 c,h'[b]?=some c0∧(M.set B LP)[b]?=some c∧c0.isLive=true∧((∃st fl rows,c=.live st fl true rows)∨c=.dead):=fun b hb1=>by
  rcases aoS.1 hb1 with rfl|hb1
  ·exact⟨_,_,i2,by rw[hne 2 (by omega)];exact hg2,rfl,.inl ⟨_,_,_,rfl⟩⟩
  ·rcases hY' b hb1 with rfl|⟨h1,h2⟩
   ·exact⟨_,_,i4,by rw[hne 4 (by omega)];exact m3,rfl,.inl ⟨_,_,_,rfl⟩⟩
   ·obtain⟨h3,w',rows,h5⟩:=iQ.lt b h1
    exact⟨_,_,h5,by rw[hne b (fun e=>(iB b h1).2 (e▸hBK))];exact h2,rfl,.inr rfl⟩
 have ok:=Okw.keep iq hK2 X
 have X':∀b∈2::Y,b<h'.length∧∀c0 c,h'[b]?=some c0→(M.set B LP)[b]?=some c→c0.isLive=true∧c0.quiet c=false:=fun b hb1=>by
  obtain⟨c0,c,h1,h2,h3,h4⟩:=X b hb1
  refine⟨As h1,fun d0 d k1 k2=>?_⟩
  rw[h1]at k1;rw[h2]at k2;cases k1;cases k2
  exact⟨h3,aEP h3 h4⟩
 obtain⟨g1,g2,g3,g4,g5⟩:=Jb iq hK2 X'
 have low:∀b,b<6→b≠2→b≠4→(Ob h' (M.set B LP))[b]?=h'[b]?:=fun b h1 h2 h3=>g4 b (by have:=As i5;omega) fun h=>by
  rcases aoS.1 h with h|h
  ·exact h2 h
  ·rcases hY6 b h with h|h<;>omega
 refine⟨ok,⟨true,v2,fl2,true,by rw[low 0 (by omega) (by omega) (by omega)];exact i0,by rw[low 1 (by omega) (by omega) (by omega)];exact i1,?_,by rw[low 3 (by omega) (by omega) (by omega)];exact i3,by rw[low 5 (by omega) (by omega) (by omega)];exact i5,?_,?_,fun b hb1=>?_,?_⟩,fun b hb1=>g4 b (hK b hb1).2 (hKY b hb1),by rw[g2];simpa using m1⟩
 ·exact g5 2 (adD ..) _ (by rw[hne 2 (by omega)];exact hg2)
 ·exact g5 4 (aBU _ hY) _ (by rw[hne 4 (by omega)];exact m3)
 ·rcases m4 with h|⟨b,w',rows,r,h1,h2,h3⟩
  ·exact .inl h
  ·have hb1:=m5 b (by rw[h1];simp[scB])
   exact .inr ⟨b,w',rows,r,h1,by rw[g3 b hb1,hne b (by omega)];exact h2,h3⟩
 ·have h1:=m5 b hb1
  exact⟨by omega,fun h=>by have:=(hK b h).2;omega⟩
 ·exact awB iq hK2 X' (Eo m2 B (by rw[hLPc];exact hLPq))
theorem a8B{h' l:Aa}(hq:Ba h'=true):Okw h' (Hn h'++l)∧Ob h' (Hn h'++l)=h'++l:=by
 have K:Iw [] (Hn h') (Hn h'++l):=Iw.app _ _
 have X:∀b∈([]:List Nat),b<h'.length∧∀c0 c,h'[b]?=some c0→(Hn h'++l)[b]?=some c→c0.isLive=true∧c0.quiet c=false:=fun b hb1=>by cases hb1
 obtain⟨g1,g2,g3,g4,_⟩:=Jb hq K X
 refine⟨(Okw.cl hq).app l,List.ext_getElem? fun b=>?_⟩
 by_cases hb1:b<h'.length
 ·rw[g4 b hb1 (by simp),abX hb1]
 ·rw[g3 b (by omega),aoT (by simp[Cj];omega),aoT (by omega),Cj]
end Go.Proofs.YtcncggaobhbomaaGreatDoor
