/- The functions of the layer, walked. -/
import Derived.Test.YtfkokgjfpojeoaaPartAF
open List renaming length_map→aa9,all_cons→adE,mem_of_getElem?→adJ,take_add_one→aeU,map_append→aiZ,foldl_append→ajP,mem_of_mem_take→akQ,map_eq_nil_iff→alW,length_take→am1,all_eq_true→anK,take_length→anU,getElem?_map→arO,getElem?_eq_getElem→arP
open Bool renaming and_eq_true→ajS
set_option linter.unusedSimpArgs false
set_option linter.unusedVariables false
namespace Go.Proofs.Ytfkokgjfpojeoaa
open Go.Ev Go Go.Ev.Bfs
set_option maxRecDepth 100000
set_option maxHeartbeats 16000000
theorem aUD{H:aaL}{v x:AV}{R:List Nat}(r:rd 6 (hf H) v=some (x,R)):rdV H v=some x:=aO5 (show 6≤12 by omega) r
theorem aQF(H:aaL)(n:Int):rdV H (.int .i64 n)=some (.int .i64 n):=rfl
theorem a37{O:Orc}{f:Nat}{g:HF}{d st:Nat}{fl nn:Bool}{v:AV}{rows:List (List AV)}{R:List Nat}(r:rd (d+1) g v=some (slv st fl nn rows,R))(hm:O.md f=false)(l:List AV):pkd O f (v::l):=by
 rcases aAC r with⟨rfl,_⟩|⟨b,rows',rfl,_⟩
 ·exact a1J rfl
 ·exact fun _=>by simp[aAY,hm]
theorem aZ1(H:aaL)(y:aeH):rdV H (.agg y.cells)=some (.agg y.cells):=awW _ (d:=8) (by omega) (by simp[aeH.cells,aEH,ayH,aqW])
theorem a8S(H:aaL)(nn:Bool)(l:List aeH):rdV H (slv 2 false nn (l.map aeH.cells))=some (slv 2 false nn (l.map aeH.cells)):=awW _ (d:=8) (by omega) (by simp[aqW])
theorem a8N{l:List aeH}{nn:Bool}{i:Nat}(hil:i≤l.length):∃nn2,slx Try.prog 66 (some (slv 2 false nn (l.map aeH.cells))) (some none) (some (some (.int .i64 (i:Int))))=some (.ret (slv 2 false nn2 ((l.take i).map aeH.cells)),[]):=by
 have hz:szT Try.prog 29=some 2:=by kernel_rfl
 cases l with
 |nil=>
  obtain rfl:i=0:=by simpa using hil
  cases nn with
  |false=>exact⟨false,by simp[slx,aBH,Try.underlying66,hz,asX,Ev.r1,slv]⟩
  |true=>exact⟨true,by simp[slx,aBH,Try.underlying66,hz,asX,Ev.r1,slv]⟩
 |cons y l=>
  refine⟨true,?_⟩
  rw[aw6,a3P (by simp)]
  have hb:asX (y::l).length (some (.int .i64 (i:Int))) (y::l).length=some i:=by
   simp only[List.length_cons]at hil
   simp[asX];omega
  simp only[slx,Option.bind_some,aBH,Try.underlying66,hz,aa9,hb,if_true]
  simp[asX,Ev.r1,List.map_take]
def a4Z(m:aaW)(l:List aeH)(age:Int):Bool:=aOX m 500&&adZ m&&decide (l.length≤20)&&l.all (av2 m)&&decide (0≤age)&&decide (age≤10)
theorem a45{m:aaW}(hs:m.small){l:List aeH}{nn:Bool}{age:Int}(hl:l.length≤maxLen)(hr:∀y∈l,y.reads.length≤maxLen)(hn:a4Z m l age=false):om'.call (.fn 10) [.agg [slv 3 true m.nS (m.sens.map ad1.cells),slv 4 false m.nV (m.votes.map abT.cells),slv 5 false m.nM (m.moves.map ac4.cells),.int .i64 m.states,.int .i64 m.cmds,.int .i64 m.bgn,slv 1 true m.nO (m.opn.map iv)],slv 2 false nn (l.map aeH.cells),.int .i64 age] []=some (.ret (.bool true),[]):=by
 have h1:=aVB hs 500
 have h2:=aGX m hs
 have h4:=aOP (nn:=nn) hs hl hr
 have hk:=known_ok
 unfold a4Z at hn
 cases c1:aOX m 500 with
 |false=>
  rw[c1]at h1
  (refine ce Try.func10 ?_;simp only[Try.f10];(have hb:=trivial;with_reducible repeat' (first|simp only[hb,Vc.down,seval,azB.down,h1,hk]|refine fsp ?_ ?_<;>intro hb|refine fd ?_|fail)))
 |true=>
  rw[c1]at h1 hn
  cases c2:adZ m with
  |false=>
   rw[c2]at h2
   (refine ce Try.func10 ?_;simp only[Try.f10];(have hb:=trivial;with_reducible repeat' (first|simp only[hb,Vc.down,seval,azB.down,h1,h2,hk]|refine fsp ?_ ?_<;>intro hb|refine fd ?_|fail)))
  |true=>
   rw[c2]at h2 hn
   by_cases c3:l.length≤20
   ·have l3:((20:Int)<(l.length:Int))=False:=eq_false (by omega)
    rw[decide_eq_true c3]at hn
    cases c4:l.all (av2 m)with
    |false=>
     rw[c4]at h4
     (refine ce Try.func10 ?_;simp only[Try.f10];(have hb:=trivial;with_reducible repeat' (first|simp only[hb,Vc.down,seval,azB.down,h1,h2,l3,h4,hk,aa9]|refine fsp ?_ ?_<;>intro hb|refine fd ?_|fail)))
    |true=>
     rw[c4]at h4 hn
     by_cases c5:0≤age
     ·have l5:(age<0)=False:=eq_false (by omega)
      have c6:¬age≤10:=fun h=>by simp[c5,h]at hn
      have l6:((10:Int)<age)=True:=eq_true (by omega)
      (refine ce Try.func10 ?_;simp only[Try.f10];(have hb:=trivial;with_reducible repeat' (first|simp only[hb,Vc.down,seval,azB.down,h1,h2,l3,h4,l5,l6,hk,aa9]|refine fsp ?_ ?_<;>intro hb|refine fd ?_|fail)))
     ·have l5:(age<0)=True:=eq_true (by omega)
      (refine ce Try.func10 ?_;simp only[Try.f10];(have hb:=trivial;with_reducible repeat' (first|simp only[hb,Vc.down,seval,azB.down,h1,h2,l3,h4,l5,hk,aa9]|refine fsp ?_ ?_<;>intro hb|refine fd ?_|fail)))
   ·have l3:((20:Int)<(l.length:Int))=True:=eq_true (by omega)
    (refine ce Try.func10 ?_;simp only[Try.f10];(have hb:=trivial;with_reducible repeat' (first|simp only[hb,Vc.down,seval,azB.down,h1,h2,l3,hk,aa9]|refine fsp ?_ ?_<;>intro hb|refine fd ?_|fail)))
theorem a05{m:aaW}(hs:m.small){l:List aeH}{nn:Bool}{age:Int}(hl:l.length≤maxLen)(hr:∀y∈l,y.reads.length≤maxLen)(hn:a4Z m l age=true):om'.call (.fn 10) [.agg [slv 3 true m.nS (m.sens.map ad1.cells),slv 4 false m.nV (m.votes.map abT.cells),slv 5 false m.nM (m.moves.map ac4.cells),.int .i64 m.states,.int .i64 m.cmds,.int .i64 m.bgn,slv 1 true m.nO (m.opn.map iv)],slv 2 false nn (l.map aeH.cells),.int .i64 age] []=some (.ret (.bool true),[]):=by
 have h1:=aVB hs 500
 have h2:=aGX m hs
 have h4:=aOP (nn:=nn) hs hl hr
 have hk:=known_ok
 unfold a4Z at hn
 simp only[ajS,decide_eq_true_eq]at hn
 obtain⟨⟨⟨⟨⟨c1,c2⟩,c3⟩,c4⟩,c5⟩,c6⟩:=hn
 have hm:=c2
 rw[c1]at h1
 rw[c2]at h2
 rw[c4]at h4
 have l3:((20:Int)<(l.length:Int))=False:=eq_false (by omega)
 have l5:(age<0)=False:=eq_false (by omega)
 have l6:((10:Int)<age)=False:=eq_false (by omega)
 have hst:=asZ hm
 obtain⟨qR,hqR⟩:∃q,Fn.func 29=q:=⟨_,rfl⟩
 obtain⟨qP,hqP⟩:∃q,Fn.func 30=q:=⟨_,rfl⟩
 obtain⟨qF,hqF⟩:∃q,Fn.func 22=q:=⟨_,rfl⟩
 obtain⟨qH,hqH⟩:∃q,Fn.func 36=q:=⟨_,rfl⟩
 obtain⟨D,nR,BD,KR⟩:=a87 hs hm
 obtain⟨outs,es,H1,R,e1,e2,K,r1,r2,r3⟩:=KR.cl (H:=[.live 7 false false [m.cells]]) (args:=[.agg m.cells]) (azW rfl) (by simp only[arI,as8,aDS,anH]) (by simp[avZ,adE])
 obtain⟨va,o1,Ra,R2,rfl,ra,r4,_⟩:=av7 r1
 obtain⟨ve,o2,Rb,R3,rfl,rb,r5,_⟩:=av7 r4
 obtain⟨rfl,_⟩:=aER r5
 obtain⟨rfl,_⟩:=aLB rb
 have h0:H1[0]?=some (.live 7 false false [m.cells]):=by
  rw[K.same 0 (by simp) (by rw[show [AV.agg m.cells].flatMap (ad7 12 (hf [.live 7 false false [m.cells]]))=[]from by rw[List.flatMap_cons,axM _ (show 8≤12 by omega) (avZ m)];rfl];simp)];rfl
 have hSf:cl om' H1 (some (.func (.func 22) [] [])) (some [.agg m.cells,va])=some (.ret (.bool true),[]):=by
  have:=awD (O:=om') (H:=H1) (f:=22) (args:=[.agg m.cells,va]) (vs:=[.agg m.cells,slv 1 true nR ((au6 m D).map iv)]) (v:=.bool (as7 m.states (au6 m D) none)) (azW rfl) (by simp only[arI,as8,aDS,aUD ra,anH]) (by simp[avZ,aqW,adE]) (a9Y (by have:=aG4 m hm D;unfold maxLen;omega)) rfl rfl
  rw[aTM hm D]at this;exact this
 rw[hqR]at e1
 rw[hqF]at hSf
 refine ce Try.func10 ?_
 simp only[Try.f10]
 (have hb:=trivial;with_reducible repeat' (first|simp only[hb,Vc.down,seval,azB.down,h1,h2,h4,l3,l5,l6,hqR,hqF,e1,e2,h0,hSf,aa9]|refine fsp ?_ ?_<;>intro hb|refine fd ?_|fail))
 have hleg:∀y∈l,av2 m y=true:=anK.1 c4
 have hQ:∀i,∀a∈(l.take i).map prT,Leg m a:=fun i a ha=>by
  obtain⟨y,hy,rfl⟩:=List.mem_map.1 ha
  exact a3B hm (hleg y (akQ hy))
 obtain⟨qB,hqB⟩:∃q,Fn.func 37=q:=⟨_,rfl⟩
 obtain⟨qL,hqL⟩:∃q,Fn.func 35=q:=⟨_,rfl⟩
 obtain⟨qS,hqS⟩:∃q,Fn.func 14=q:=⟨_,rfl⟩
 refine ahX (cnt 215 (fun n (_:Unit) t h=>∃i,n+i=l.length+1∧i≤l.length∧t 1=slv 2 false nn (l.map aeH.cells)∧t 3=.ptr 0 0 0∧t 7=va∧t 9=.int .i64 (auQ (stp m) (m.bgn,0) ((l.take i).map prT)).1∧t 10=.int .i64 (auQ (stp m) (m.bgn,0) ((l.take i).map prT)).2∧t 11=.int .i64 i∧(∃x,h[0]?=some (.live 7 false x [m.cells]))∧rd 6 (hf h) va=some (slv 1 true nR ((au6 m D).map iv),Ra)) (fun _ _=>()) (fun _ e t h=>e=.exit 0∧t 3=.ptr 0 0 0∧t 7=va∧(∃x,h[0]?=some (.live 7 false x [m.cells]))∧rd 6 (hf h) va=some (slv 1 true nR ((au6 m D).map iv),Ra)) ?_ ?_ (l.length+1) () _ _ ?_) (fun e t h hk=>?_)
 ·rintro _ t h Q' kQ ⟨i,hi,hil,_⟩
  omega
 ·rintro n _ t h J Q' kJ kQ ⟨i,hni,hil,g1,g3,g7,g9,g10,g11,⟨x0,hh0⟩,hra⟩
  have hd:((i:Int)≤(l.length:Int))=True:=eq_true (by omega)
  have hw:=ajR (n:=(i:Int)+1) (by omega) (by omega)
  have hhas:=a1O hm BD (hQ i)
  obtain⟨PT,KP,p1,p2,p3,p4,p5⟩:=a36 hs hm (hQ i)
  have hvok:=aCK hm ((l.take i).map prT) _ (aI3 hm)
  generalize hvi:auQ (stp m) (m.bgn,0) ((l.take i).map prT)=vi at g9 g10 KP p5 hvok hhas
  obtain⟨outs2,es2,H2,R4,f1,f2,K2,s1,s2,s3⟩:=KP.cl (H:=h) (args:=[.agg m.cells,.int .i64 vi.1]) (azW rfl) (by simp only[arI,as8,aDS,aQF,anH]) (by simp[avZ,ayH,adE])
  rw[aVT]at K2
  obtain⟨ov,o1,Rp,R5,rfl,rp,r4,_⟩:=av7 s1
  obtain⟨ve,o2,Rb,R6,rfl,rb,r5,_⟩:=av7 r4
  obtain⟨rfl,_⟩:=aER r5
  obtain⟨rfl,_⟩:=aLB rb
  have hh2:H2[0]?=some (.live 7 false x0 [m.cells]):=(K2.same 0 (adM hh0) (by simp)).trans hh0
  have hra2:=bg5 K2 (by omega) hra
  have hlnp:ln Try.prog 66 (some ov)=some (.ret (.int .i64 (PT.length:Int)),[]):=by
   rcases aAC rp with⟨rfl,h9⟩|⟨b,rows',rfl,_⟩
   ·have:PT=[]:=alW.1 h9
    subst this
    simp[Ev.ln,aPI,Try.underlying66,Ev.r1]
   ·simp[Ev.ln,aPI,Try.underlying66,Ev.r1]
  have hHs:cl om' H2 (some (.func (.func 36) [] [])) (some [va,.int .i64 vi.1])=some (.ret (.bool true),[]):=by
   have:=awD (O:=om') (H:=H2) (f:=36) (args:=[va,.int .i64 vi.1]) (vs:=[slv 1 true nR ((au6 m D).map iv),.int .i64 vi.1]) (v:=.bool ((au6 m D).any fun x=>x==vi.1)) (a37 hra2 rfl _) (by simp only[arI,as8,aQF,aUD hra2,anH]) (by simp[ayH,aqW,adE]) (a9G vi.1 (by have:=aG4 m hm D;unfold maxLen;omega)) rfl rfl
   rw[aNK ⟨hvok.1,hvok.2.1⟩,hhas]at this;exact this
  have hLg:cl om' H2 (some (.func (.func 35) [] [])) (some [.agg m.cells,ov])=some (.ret (.bool true),[]):=by
   have:=awD (O:=om') (H:=H2) (f:=35) (args:=[.agg m.cells,ov]) (vs:=[.agg m.cells,slv 2 false false (PT.map aeH.cells)]) (v:=.bool (PT.all (av2 m))) (azW rfl) (by simp only[arI,as8,aDS,aUD rp,anH]) (by simp[avZ,aqW,adE]) (aOP hs (by unfold maxLen;omega) (fun y hy=>by have:=p3 y hy;unfold maxLen;omega)) rfl rfl
   rw[p2]at this;exact this
  have p2':∀y∈PT,av2 m y=true:=anK.1 p2
  have hgt:((i:Int)<(PT.length:Int))=False:=eq_false (by
   have h1:PT.length≤(l.take i).length:=by
    rcases p4 with h|⟨h,_⟩
    ·simp only[aa9]at h;omega
    ·simp only[aa9]at h;omega
   rw[am1]at h1
   omega)
  rw[hqP]at f1
  rw[hqH]at hHs
  rw[hqL]at hLg
  by_cases hpe:PT.length=i
  ·have hpe2:((PT.length:Int)==(i:Int))=true:=by simp[hpe]
   obtain⟨nn2,hslx⟩:∃nn2,slx Try.prog 66 (some (slv 2 false nn (l.map aeH.cells))) (some none) (some (some (.int .i64 (i:Int))))=some (.ret (slv 2 false nn2 ((l.take i).map aeH.cells)),[]):=a8N (l:=l) hil
   have hBf:cl om' H2 (some (.func (.func 37) [] [])) (some [slv 2 false nn2 ((l.take i).map aeH.cells),ov])=some (.ret (.bool false),[]):=by
    have:=awD (O:=om') (H:=H2) (f:=37) (args:=[slv 2 false nn2 ((l.take i).map aeH.cells),ov]) (vs:=[slv 2 false nn2 ((l.take i).map aeH.cells),slv 2 false false (PT.map aeH.cells)]) (v:=.bool (aIS ((l.take i).zip PT))) (a1J (by cases nn2<;>unfold slv<;>split<;>rfl)) (by simp only[arI,as8,a8S,aUD rp,anH]) (by simp[aqW,adE]) (a4O (by rw[am1];unfold maxLen;omega) (by unfold maxLen;omega) (fun y hy=>hr y (akQ hy))) rfl rfl
    rw[ba9 (m:=m) (fun y hy=>by have:=p2' y hy;simp only[av2,ajS]at this;exact aLJ this.1) (fun y hy=>by have:=hleg y (akQ hy);simp only[av2,ajS]at this;exact aLJ this.1) (by rw[am1];omega) p4]at this
    exact this
   rw[hqB]at hBf
   (have hb:=trivial;with_reducible repeat' (first|simp only[hb,Vc.down,seval,azB.down,g1,g3,g7,g9,g10,g11,hh0,hd,hqP,hqH,hqL,hqB,f1,f2,hh2,hHs,hLg,hlnp,hgt,hpe2,hslx,hBf,aa9]|refine fsp ?_ ?_<;>intro hb|refine fd ?_|fail))
   refine ahX (lst 215 PT (fun k (_:Unit) t h'=>t 1=slv 2 false nn (l.map aeH.cells)∧t 3=.ptr 0 0 0∧t 7=va∧t 9=.int .i64 vi.1∧t 10=.int .i64 vi.2∧t 11=.int .i64 i∧t 12=ov∧t 14=.int .i64 (auQ (stp m) (m.bgn,0) ((PT.take k).map prT)).1∧t 15=.int .i64 (auQ (stp m) (m.bgn,0) ((PT.take k).map prT)).2∧t 16=.int .i64 k∧H2=h') (fun _ _=>()) (fun _ e t h'=>e=.exit 2∧t 1=slv 2 false nn (l.map aeH.cells)∧t 3=.ptr 0 0 0∧t 7=va∧t 9=.int .i64 vi.1∧t 10=.int .i64 vi.2∧t 11=.int .i64 i∧t 14=.int .i64 vi.1∧H2=h') ?_ ?_ () _ _ ?_) (fun e t h' hk=>?_)
   ·rintro _ t h' Q2 kQ2 ⟨d1,d3,d7,d9,d10,d11,d12,d14,d15,d16,rfl⟩
    rw[anU,p5]at d14
    (have hb:=trivial;with_reducible repeat' (first|simp only[hb,Vc.down,seval,azB.down,d12,d16,hlnp,Int.lt_irrefl,decide_false]|refine fsp ?_ ?_<;>intro hb|refine fd ?_|fail))
    exact kQ2 _ _ _ ⟨rfl,by simp[up,d1],by simp[up,d3],by simp[up,d7],by simp[up,d9],by simp[up,d10],by simp[up,d11],by simp[up,d14],rfl⟩
   ·rintro y rest k _ t h' J2 Q2 kJ2 kQ2 hx hk2 ⟨d1,d3,d7,d9,d10,d11,d12,d14,d15,d16,rfl⟩
    have hdk:((k:Int)<(PT.length:Int))=True:=eq_true (by omega)
    have hwk:IntKind.i64.wrap ((k:Int)+1)=((k+1:Nat):Int):=by rw[ajR (by omega) (by omega)];rfl
    have hsy:=p2' y (adJ hx)
    have huok:=aCK hm ((PT.take k).map prT) _ (aI3 hm)
    have hnext:auQ (stp m) (m.bgn,0) ((PT.take (k+1)).map prT)=stp m (auQ (stp m) (m.bgn,0) ((PT.take k).map prT)) (prT y):=by
     rw[aeU,hx,aiZ];unfold auQ;rw[ajP];rfl
    generalize auQ (stp m) (m.bgn,0) ((PT.take k).map prT)=u at d14 d15 huok hnext
    have hu2:=aGQ hm huok (prT y)
    have hstep:om'.call (.fn 14) [.agg m.cells,.int .i64 u.1,.int .i64 u.2,.agg y.cells] []=some (.ret (.tup [.int .i64 (stp m u (prT y)).1,.int .i64 (stp m u (prT y)).2,.int .i64 0]),[]):=by
     have:=aPK m u.1 u.2 y hs (by have:=p3 y (adJ hx);unfold maxLen;omega)
     rw[aOL hm huok.1 huok.2.1 huok.2.2.1 huok.2.2.2 hsy,if_pos rfl]at this
     exact this
    rcases aAC rp with⟨_,h9⟩|⟨b,rows',rfl,w2,w3,_,w5⟩
    ·have:PT=[]:=alW.1 h9
     subst this;simp at hx
    obtain⟨R9,w6⟩:=w5 rfl
    obtain⟨r,R7,w7,w8⟩:=aBK w6 (i:=k) (X:=y.cells) (by simp only[arO,hx];rfl)
    obtain⟨v0,l1,R10,R11,rfl,w9,w10,_⟩:=av7 (show rdL (rd 5 (hf H2)) r=some (slv 1 true y.nn (y.reads.map iv)::[.int .i64 y.cmd],R7)from w8)
    obtain⟨v1,l2,R12,R13,rfl,w11,w12,_⟩:=av7 w10
    obtain⟨rfl,_⟩:=aER w12
    obtain⟨rfl,_⟩:=aLB w11
    have hrow:awH (H2[b]?) k=some [v0,.int .i64 y.cmd]:=(aVI w2 k).trans w7
    have hSt:=awD (O:=om') (H:=H2) (f:=14) (args:=[.agg m.cells,.int .i64 u.1,.int .i64 u.2,.agg [v0,.int .i64 y.cmd]]) (azW rfl) (by simp only[arI,as8,aDS,aQF,aUD (a9O w8),anH]) (by simp[avZ,ayH,aEH,aeH.cells,aqW,adE]) hstep rfl rfl
    rw[hqS]at hSt
    obtain⟨u',hu'⟩:∃u',stp m u (prT y)=u':=⟨_,rfl⟩
    rw[hu']at hSt hu2 hnext
    have k1:(u'.1<0)=False:=eq_false (by have:=hu2.1;omega)
    have k2:(m.states≤u'.1)=False:=eq_false (by have:=hu2.2.1;omega)
    have k3:(u'.2<0)=False:=eq_false (by have:=hu2.2.2.1;omega)
    have k4:((10:Int)<u'.2)=False:=eq_false (by have:=hu2.2.2.2;omega)
    simp only[aa9]at d12
    (have hb:=trivial;with_reducible repeat' (first|simp only[hb,Vc.down,seval,azB.down,d1,d3,d7,d9,d10,d11,d12,d14,d15,d16,hh2,hdk,hwk,hrow,hqS,hSt,k1,k2,k3,k4,aa9]|refine fsp ?_ ?_<;>intro hb|refine fd ?_|fail))
    exact adW (kJ2 _ _ () ⟨by simp[up,d1],by simp[up,d3],by simp[up,d7],by simp[up,d9],by simp[up,d10],by simp[up,d11],by simp[up,d12],by rw[hnext];simp[up],by rw[hnext];simp[up],by simp[up]<;>omega,rfl⟩ rfl)
   ·exact⟨by simp[up,g1],by simp[up,g3],by simp[up,g7],by simp[up,g9],by simp[up,g10],by simp[up,g11],by simp[up],by simp[up,auQ],by simp[up,auQ],by simp[up],rfl⟩
   obtain⟨rfl,d1,d3,d7,d9,d10,d11,d14,rfl⟩:=hk
   by_cases hie:i=l.length
   ·have hie2:((i:Int)==(l.length:Int))=true:=by simp[hie]
    (have hb:=trivial;with_reducible repeat' (first|simp only[hb,Vc.down,seval,azB.down,d1,d3,d7,d9,d10,d11,d14,aFN,hie2,aa9]|refine fsp ?_ ?_<;>intro hb|refine fd ?_|fail))
    exact kQ _ _ _ ⟨rfl,by simp[up,d3],by simp[up,d7],⟨x0,hh2⟩,hra2⟩
   ·have hie2:((i:Int)==(l.length:Int))=false:=by simp;omega
    obtain⟨y,hy⟩:∃y,l[i]?=some y:=⟨_,arP (by omega)⟩
    have hdi:((i:Int)<(l.length:Int))=True:=eq_true (by omega)
    have hsy:=hleg y (adJ hy)
    have hstep:om'.call (.fn 14) [.agg m.cells,.int .i64 vi.1,.int .i64 vi.2,.agg y.cells] []=some (.ret (.tup [.int .i64 (stp m vi (prT y)).1,.int .i64 (stp m vi (prT y)).2,.int .i64 0]),[]):=by
     have:=aPK m vi.1 vi.2 y hs (hr y (adJ hy))
     rw[aOL hm hvok.1 hvok.2.1 hvok.2.2.1 hvok.2.2.2 hsy,if_pos rfl]at this
     exact this
    have hSt:=awD (O:=om') (H:=H2) (f:=14) (args:=[.agg m.cells,.int .i64 vi.1,.int .i64 vi.2,.agg y.cells]) (azW rfl) (by simp only[arI,as8,aDS,aQF,aZ1,anH]) (by simp[avZ,ayH,aEH,aeH.cells,aqW,adE]) hstep rfl rfl
    rw[hqS]at hSt
    have hnext:auQ (stp m) (m.bgn,0) ((l.take (i+1)).map prT)=stp m vi (prT y):=by
     rw[aeU,hy,aiZ,←hvi];unfold auQ;rw[ajP];rfl
    have hu2:=aGQ hm hvok (prT y)
    obtain⟨u',hu'⟩:∃u',stp m vi (prT y)=u':=⟨_,rfl⟩
    rw[hu']at hSt hu2 hnext
    have k1:(u'.1<0)=False:=eq_false (by have:=hu2.1;omega)
    have k2:(m.states≤u'.1)=False:=eq_false (by have:=hu2.2.1;omega)
    have k3:(u'.2<0)=False:=eq_false (by have:=hu2.2.2.1;omega)
    have k4:((10:Int)<u'.2)=False:=eq_false (by have:=hu2.2.2.2;omega)
    simp only[aeH.cells]at hSt
    (have hb:=trivial;with_reducible repeat' (first|simp only[hb,Vc.down,seval,azB.down,d1,d3,d7,d9,d10,d11,d14,aFN,hie2,hdi,hy,hh2,hqS,hSt,k1,k2,k3,k4,hw,aeH.cells,aa9]|refine fsp ?_ ?_<;>intro hb|refine fd ?_|fail))
    exact adW (kJ _ _ () ⟨i+1,by omega,by omega,by simp[up,d1],by simp[up,d3],by simp[up,d7],by rw[hnext];simp[up],by rw[hnext];simp[up],by simp[up]<;>omega,⟨x0,hh2⟩,hra2⟩ rfl)
  ·have hpe2:((PT.length:Int)==(i:Int))=false:=by simp;omega
   (have hb:=trivial;with_reducible repeat' (first|simp only[hb,Vc.down,seval,azB.down,g1,g3,g7,g9,g10,g11,hh0,hd,hqP,hqH,hqL,hqB,f1,f2,hh2,hHs,hLg,hlnp,hgt,hpe2,aa9]|refine fsp ?_ ?_<;>intro hb|refine fd ?_|fail))
   refine ahX (lst 215 PT (fun k (_:Unit) t h'=>t 1=slv 2 false nn (l.map aeH.cells)∧t 3=.ptr 0 0 0∧t 7=va∧t 9=.int .i64 vi.1∧t 10=.int .i64 vi.2∧t 11=.int .i64 i∧t 12=ov∧t 14=.int .i64 (auQ (stp m) (m.bgn,0) ((PT.take k).map prT)).1∧t 15=.int .i64 (auQ (stp m) (m.bgn,0) ((PT.take k).map prT)).2∧t 16=.int .i64 k∧H2=h') (fun _ _=>()) (fun _ e t h'=>e=.exit 2∧t 1=slv 2 false nn (l.map aeH.cells)∧t 3=.ptr 0 0 0∧t 7=va∧t 9=.int .i64 vi.1∧t 10=.int .i64 vi.2∧t 11=.int .i64 i∧t 14=.int .i64 vi.1∧H2=h') ?_ ?_ () _ _ ?_) (fun e t h' hk=>?_)
   ·rintro _ t h' Q2 kQ2 ⟨d1,d3,d7,d9,d10,d11,d12,d14,d15,d16,rfl⟩
    rw[anU,p5]at d14
    (have hb:=trivial;with_reducible repeat' (first|simp only[hb,Vc.down,seval,azB.down,d12,d16,hlnp,Int.lt_irrefl,decide_false]|refine fsp ?_ ?_<;>intro hb|refine fd ?_|fail))
    exact kQ2 _ _ _ ⟨rfl,by simp[up,d1],by simp[up,d3],by simp[up,d7],by simp[up,d9],by simp[up,d10],by simp[up,d11],by simp[up,d14],rfl⟩
   ·rintro y rest k _ t h' J2 Q2 kJ2 kQ2 hx hk2 ⟨d1,d3,d7,d9,d10,d11,d12,d14,d15,d16,rfl⟩
    have hdk:((k:Int)<(PT.length:Int))=True:=eq_true (by omega)
    have hwk:IntKind.i64.wrap ((k:Int)+1)=((k+1:Nat):Int):=by rw[ajR (by omega) (by omega)];rfl
    have hsy:=p2' y (adJ hx)
    have huok:=aCK hm ((PT.take k).map prT) _ (aI3 hm)
    have hnext:auQ (stp m) (m.bgn,0) ((PT.take (k+1)).map prT)=stp m (auQ (stp m) (m.bgn,0) ((PT.take k).map prT)) (prT y):=by
     rw[aeU,hx,aiZ];unfold auQ;rw[ajP];rfl
    generalize auQ (stp m) (m.bgn,0) ((PT.take k).map prT)=u at d14 d15 huok hnext
    have hu2:=aGQ hm huok (prT y)
    have hstep:om'.call (.fn 14) [.agg m.cells,.int .i64 u.1,.int .i64 u.2,.agg y.cells] []=some (.ret (.tup [.int .i64 (stp m u (prT y)).1,.int .i64 (stp m u (prT y)).2,.int .i64 0]),[]):=by
     have:=aPK m u.1 u.2 y hs (by have:=p3 y (adJ hx);unfold maxLen;omega)
     rw[aOL hm huok.1 huok.2.1 huok.2.2.1 huok.2.2.2 hsy,if_pos rfl]at this
     exact this
    rcases aAC rp with⟨_,h9⟩|⟨b,rows',rfl,w2,w3,_,w5⟩
    ·have:PT=[]:=alW.1 h9
     subst this;simp at hx
    obtain⟨R9,w6⟩:=w5 rfl
    obtain⟨r,R7,w7,w8⟩:=aBK w6 (i:=k) (X:=y.cells) (by simp only[arO,hx];rfl)
    obtain⟨v0,l1,R10,R11,rfl,w9,w10,_⟩:=av7 (show rdL (rd 5 (hf H2)) r=some (slv 1 true y.nn (y.reads.map iv)::[.int .i64 y.cmd],R7)from w8)
    obtain⟨v1,l2,R12,R13,rfl,w11,w12,_⟩:=av7 w10
    obtain⟨rfl,_⟩:=aER w12
    obtain⟨rfl,_⟩:=aLB w11
    have hrow:awH (H2[b]?) k=some [v0,.int .i64 y.cmd]:=(aVI w2 k).trans w7
    have hSt:=awD (O:=om') (H:=H2) (f:=14) (args:=[.agg m.cells,.int .i64 u.1,.int .i64 u.2,.agg [v0,.int .i64 y.cmd]]) (azW rfl) (by simp only[arI,as8,aDS,aQF,aUD (a9O w8),anH]) (by simp[avZ,ayH,aEH,aeH.cells,aqW,adE]) hstep rfl rfl
    rw[hqS]at hSt
    obtain⟨u',hu'⟩:∃u',stp m u (prT y)=u':=⟨_,rfl⟩
    rw[hu']at hSt hu2 hnext
    have k1:(u'.1<0)=False:=eq_false (by have:=hu2.1;omega)
    have k2:(m.states≤u'.1)=False:=eq_false (by have:=hu2.2.1;omega)
    have k3:(u'.2<0)=False:=eq_false (by have:=hu2.2.2.1;omega)
    have k4:((10:Int)<u'.2)=False:=eq_false (by have:=hu2.2.2.2;omega)
    simp only[aa9]at d12
    (have hb:=trivial;with_reducible repeat' (first|simp only[hb,Vc.down,seval,azB.down,d1,d3,d7,d9,d10,d11,d12,d14,d15,d16,hh2,hdk,hwk,hrow,hqS,hSt,k1,k2,k3,k4,aa9]|refine fsp ?_ ?_<;>intro hb|refine fd ?_|fail))
    exact adW (kJ2 _ _ () ⟨by simp[up,d1],by simp[up,d3],by simp[up,d7],by simp[up,d9],by simp[up,d10],by simp[up,d11],by simp[up,d12],by rw[hnext];simp[up],by rw[hnext];simp[up],by simp[up]<;>omega,rfl⟩ rfl)
   ·exact⟨by simp[up,g1],by simp[up,g3],by simp[up,g7],by simp[up,g9],by simp[up,g10],by simp[up,g11],by simp[up],by simp[up,auQ],by simp[up,auQ],by simp[up],rfl⟩
   obtain⟨rfl,d1,d3,d7,d9,d10,d11,d14,rfl⟩:=hk
   by_cases hie:i=l.length
   ·have hie2:((i:Int)==(l.length:Int))=true:=by simp[hie]
    (have hb:=trivial;with_reducible repeat' (first|simp only[hb,Vc.down,seval,azB.down,d1,d3,d7,d9,d10,d11,d14,aFN,hie2,aa9]|refine fsp ?_ ?_<;>intro hb|refine fd ?_|fail))
    exact kQ _ _ _ ⟨rfl,by simp[up,d3],by simp[up,d7],⟨x0,hh2⟩,hra2⟩
   ·have hie2:((i:Int)==(l.length:Int))=false:=by simp;omega
    obtain⟨y,hy⟩:∃y,l[i]?=some y:=⟨_,arP (by omega)⟩
    have hdi:((i:Int)<(l.length:Int))=True:=eq_true (by omega)
    have hsy:=hleg y (adJ hy)
    have hstep:om'.call (.fn 14) [.agg m.cells,.int .i64 vi.1,.int .i64 vi.2,.agg y.cells] []=some (.ret (.tup [.int .i64 (stp m vi (prT y)).1,.int .i64 (stp m vi (prT y)).2,.int .i64 0]),[]):=by
     have:=aPK m vi.1 vi.2 y hs (hr y (adJ hy))
     rw[aOL hm hvok.1 hvok.2.1 hvok.2.2.1 hvok.2.2.2 hsy,if_pos rfl]at this
     exact this
    have hSt:=awD (O:=om') (H:=H2) (f:=14) (args:=[.agg m.cells,.int .i64 vi.1,.int .i64 vi.2,.agg y.cells]) (azW rfl) (by simp only[arI,as8,aDS,aQF,aZ1,anH]) (by simp[avZ,ayH,aEH,aeH.cells,aqW,adE]) hstep rfl rfl
    rw[hqS]at hSt
    have hnext:auQ (stp m) (m.bgn,0) ((l.take (i+1)).map prT)=stp m vi (prT y):=by
     rw[aeU,hy,aiZ,←hvi];unfold auQ;rw[ajP];rfl
    have hu2:=aGQ hm hvok (prT y)
    obtain⟨u',hu'⟩:∃u',stp m vi (prT y)=u':=⟨_,rfl⟩
    rw[hu']at hSt hu2 hnext
    have k1:(u'.1<0)=False:=eq_false (by have:=hu2.1;omega)
    have k2:(m.states≤u'.1)=False:=eq_false (by have:=hu2.2.1;omega)
    have k3:(u'.2<0)=False:=eq_false (by have:=hu2.2.2.1;omega)
    have k4:((10:Int)<u'.2)=False:=eq_false (by have:=hu2.2.2.2;omega)
    simp only[aeH.cells]at hSt
    (have hb:=trivial;with_reducible repeat' (first|simp only[hb,Vc.down,seval,azB.down,d1,d3,d7,d9,d10,d11,d14,aFN,hie2,hdi,hy,hh2,hqS,hSt,k1,k2,k3,k4,hw,aeH.cells,aa9]|refine fsp ?_ ?_<;>intro hb|refine fd ?_|fail))
    exact adW (kJ _ _ () ⟨i+1,by omega,by omega,by simp[up,d1],by simp[up,d3],by simp[up,d7],by rw[hnext];simp[up],by rw[hnext];simp[up],by simp[up]<;>omega,⟨x0,hh2⟩,hra2⟩ rfl)
 ·exact⟨0,rfl,by omega,by simp[up,ent],by simp[up],by simp[up],by simp[up,auQ],by simp[up,auQ],by simp[up],⟨_,h0⟩,ra⟩
 ·obtain⟨rfl,g3,g7,⟨x0,hh0⟩,hra⟩:=hk
  (have hb:=trivial;with_reducible repeat' (first|simp only[hb,Vc.down,seval,azB.down]|refine fsp ?_ ?_<;>intro hb|refine fd ?_|fail))
  refine ahX (lst 215 (upN m.states.toNat 0) (fun k (_:Unit) t h=>t 3=.ptr 0 0 0∧t 7=va∧t 23=.int .i64 k∧(∃x,h[0]?=some (.live 7 false x [m.cells]))∧rd 6 (hf h) va=some (slv 1 true nR ((au6 m D).map iv),Ra)) (fun _ _=>()) (fun _ e t h=>e=.exit 4) ?_ ?_ () _ _ ?_) (fun e t h hk2=>?_)
  ·rintro _ t h Q' kQ ⟨g3,g7,g23,⟨x0,hh0⟩,hra⟩
   rw[aw2]at g23
   have hd:((m.states.toNat:Int)<m.states)=False:=eq_false (by omega)
   (have hb:=trivial;with_reducible repeat' (first|simp only[hb,Vc.down,seval,azB.down,g3,g23,hh0,hd]|refine fsp ?_ ?_<;>intro hb|refine fd ?_|fail))
   exact kQ _ _ _ rfl
  ·rintro s rest k _ t h J Q' kJ kQ hx hk2 ⟨g3,g7,g23,⟨x0,hh0⟩,hra⟩
   rw[aw2]at hk2
   have hd:((k:Int)<m.states)=True:=eq_true (by omega)
   have hw:=adL hk2 (show m.states.toNat≤maxLen by unfold maxLen;omega)
   have hHs:cl om' h (some (.func (.func 36) [] [])) (some [va,.int .i64 (k:Int)])=some (.ret (.bool (aBU D (k:Int))),[]):=by
    have:=awD (O:=om') (H:=h) (f:=36) (args:=[va,.int .i64 (k:Int)]) (vs:=[slv 1 true nR ((au6 m D).map iv),.int .i64 (k:Int)]) (v:=.bool ((au6 m D).any fun x=>x==(k:Int))) (a37 hra rfl _) (by simp only[arI,as8,aQF,aUD hra,anH]) (by simp[ayH,aqW,adE]) (a9G (k:Int) (by have:=aG4 m hm D;unfold maxLen;omega)) rfl rfl
    rw[aNK ⟨by omega,by omega⟩]at this;exact this
   rw[hqH]at hHs
   cases hhd:aBU D (k:Int)with
   |true=>
    rw[hhd]at hHs
    (have hb:=trivial;with_reducible repeat' (first|simp only[hb,Vc.down,seval,azB.down,g3,g7,g23,hh0,hd,hqH,hHs,hw]|refine fsp ?_ ?_<;>intro hb|refine fd ?_|fail))
    exact adW (kJ _ _ () ⟨by simp[up,g3],by simp[up,g7],by simp[up]<;>omega,⟨x0,hh0⟩,hra⟩ rfl)
   |false=>
    rw[hhd]at hHs
    have hPn:=awD (O:=om') (H:=h) (f:=30) (args:=[.agg m.cells,.int .i64 (k:Int)]) (azW rfl) (by simp only[arI,as8,aDS,aQF,anH]) (by simp[avZ,ayH,adE]) (a60 hs hm ⟨by omega,by omega⟩ BD hhd) rfl rfl
    rw[hqP]at hPn
    (have hb:=trivial;with_reducible repeat' (first|simp only[hb,Vc.down,seval,azB.down,g3,g7,g23,hh0,hd,hqH,hHs,hqP,hPn,hw]|refine fsp ?_ ?_<;>intro hb|refine fd ?_|fail))
    exact adW (kJ _ _ () ⟨by simp[up,g3],by simp[up,g7],by simp[up]<;>omega,⟨x0,hh0⟩,hra⟩ rfl)
  ·exact⟨by simp[up,g3],by simp[up,g7],by simp[up],⟨x0,hh0⟩,hra⟩
  ·obtain rfl:=hk2
   (have hb:=trivial;with_reducible repeat' (first|simp only[hb,Vc.down,seval,azB.down,hk]|refine fsp ?_ ?_<;>intro hb|refine fd ?_|fail))
theorem aRB:∀avs,aX6 Try.prog 7 Try.f10.params.toList avs→om'.call (.fn 10) avs []=some (.ret (.bool true),[]):=by
 intro avs h
 rw[show Try.f10.params.toList=[27,66,3]from rfl]at h
 match avs,h with
 | [a,b,c],h=>
   obtain⟨h1,h2,h3,_⟩:=h
   obtain⟨m,rfl,hs⟩:=a6V h1
   obtain⟨nn,l,rfl,hl,hr⟩:=a17 h2
   obtain⟨x,rfl,_⟩:=bcD h3
   cases hn:a4Z m l x with
   |false=>exact a45 hs hl hr hn
   |true=>exact a05 hs hl hr hn
 | [],h=>exact h.elim
 | [_],h=>exact h.2.elim
 | [_,_],h=>exact h.2.2.elim
 |_::_::_::_::_,h=>exact h.2.2.2.elim
end Go.Proofs.Ytfkokgjfpojeoaa
