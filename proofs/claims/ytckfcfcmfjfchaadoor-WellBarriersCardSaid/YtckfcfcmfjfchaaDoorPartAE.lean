/- The functions of the layer, walked. -/
import Derived.Test.YtckfcfcmfjfchaaDoorPartAD
import Derived.Test.YtckfcfcmfjfchaaDoorPartAB
open List renaming length_map→ab8,all_cons→acB,all_nil→acC,flatMap_cons→acE,length_replicate→acF
open Bool renaming and_true→ab9,and_false→acA
open Int renaming reduceBEq→acD
set_option linter.unusedSimpArgs false
set_option linter.unusedVariables false
namespace Go.Proofs.YtckfcfcmfjfchaaDoor
open Go.Ev Go Go.Ev.Net
set_option maxRecDepth 100000
set_option maxHeartbeats 16000000
theorem ad8{E:List Net.Edge}{N:Nat}(hE:Zs E N){ds ds':List Nat}(n2:2≤N)(n8:N≤8)(h:Gz E 0 N Dc (fun v=>ds.getD v 0))(h':Gz E 0 N 1000 (fun v=>ds'.getD v 0)){k:Nat}(hk:k<900)(i:Nat):Qq E ds k i=Qq E ds' k i:=by
 unfold Qq
 cases hi:E[i]? with
 |none=>rfl
 |some e=>
  have he:=hE e.1 e.2.1 e.2.2 (List.mem_of_getElem? hi)
  have a:=Gz.num h h' (by unfold Dc;omega) (by omega) (by omega) hE he.1
  have b:=Gz.num h h' (by unfold Dc;omega) (by omega) (by omega) hE he.2.1
  rw[Bool.eq_iff_iff]
  simp only[Bool.and_eq_true,beq_iff_eq]
  generalize ds.getD e.1 0=x at *
  generalize ds.getD e.2.1 0=y at *
  generalize ds'.getD e.1 0=x' at *
  generalize ds'.getD e.2.1 0=y' at *
  obtain⟨a1,a2,a3⟩:=a
  obtain⟨b1,b2,b3⟩:=b
  by_cases hx:x=Dc
  ·have:=a1.1 hx
   unfold Dc at hx
   constructor<;>(rintro⟨⟨_,_⟩,_⟩;omega)
  ·by_cases hy:y=Dc
   ·have:=b1.1 hy
    unfold Dc at hy
    constructor<;>(rintro⟨⟨_,_⟩,_⟩;omega)
   ·rw[a2 hx,b2 hy]
theorem xK{E:List Net.Edge}{N:Nat}(hE:Zs E N){ds ds':List Nat}(n2:2≤N)(n8:N≤8)(h:Gz E 0 N Dc (fun v=>ds.getD v 0))(h':Gz E 0 N 1000 (fun v=>ds'.getD v 0)){n c:Nat}(hc:c≤900):Hz E ds n c=Hz E ds' n c:=by
 unfold Hz
 refine List.map_congr_left fun k hk=>?_
 have hk:=List.mem_range.1 hk
 have:Vm E ds n k=Vm E ds' n k:=by
  unfold Vm
  exact List.filter_congr fun i _=>ad8 hE n2 n8 h h' (by omega) i
 rw[this]
theorem acO{w:Au}{N:Nat}(hw:mI w N)(d:Int){ds:List Nat}(h:Gz (Fz w (Ax w d)) 0 N Dc (fun v=>ds.getD v 0)):
 (ds.getD 1 0=Dc→Ik (Fz w (Ax w d)) N (Rj w N d) [0] 0=none∧Rj w N d=w.parts.length+1)∧(ds.getD 1 0≠Dc→Rj w N d=ds.getD 1 0∧ds.getD 1 0<N):=by
 have n2:=hw.n2
 have n8:=hw.n8
 have hE:=Ll hw (Ax w d)
 have hn:=yQ (len:=w.parts.length) n2 (by omega) (by unfold Dc;omega) hE h
 rw[show Yh (Fz w (Ax w d)) N w.parts.length=Rj w N d from rfl]at hn
 refine⟨fun e=>⟨?_,by rw[←hn,if_pos e]⟩,fun e=>⟨by rw[←hn,if_neg e],(Gz.num h h (by unfold Dc;omega) (by unfold Dc;omega) (by omega) hE (v:=1) (by omega)).2.2 e⟩⟩
 cases hF:Ik (Fz w (Ax w d)) N (Rj w N d) [0] 0 with
 |none=>rfl
 |some l=>
  have hc:=(Vv hF).1.cst (s:=0) ⟨0,.nil 0⟩
  obtain⟨j,hj⟩:=Xj.ex hc
  have e1:=(h 1 (by omega)).1 j hj
  have e2:=hj.le (N:=N) (by omega) hE.ends hE.one
  simp only at e1
  unfold Dc at e;omega
theorem xI(H:Aa)(w:Au)(d:Int):Am (aM H) [.agg w.cells,.int .i64 d]=some [.agg w.cells,.int .i64 d]:=by
 have h1:aM H (.agg w.cells)=some (.agg w.cells):=Ni _ (d:=8) (by omega) (by simp[Au.cells,gZ,iR,Ia])
 have h2:aM H (.int .i64 d)=some (.int .i64 d):=rfl
 simp only[Tq,Xe,h1,h2,Qf]
theorem yB(w:Au)(d:Int):[AV.agg w.cells,.int .i64 d].all (Aq 8)=true:=by simp[Au.cells,gZ,iR,Ia]
theorem rA(g:HF)(w:Au)(d:Int):[AV.agg w.cells,.int .i64 d].flatMap (Ap 12 g)=[]:=by
 rw[acE,acE,List.flatMap_nil,Nl (d:=8) (v:=.agg w.cells) _ (by omega) (by simp[Au.cells,gZ,iR,Ia])];rfl
theorem Ud(E:List Net.Edge)(ds:List Nat)(n c:Nat):(Hz E ds n c).length=c:=by simp[Hz]
theorem rV{H:Aa}{v:AV}{E:List Net.Edge}{ds:List Nat}{n c i:Nat}{R:List Nat}(h:rd 6 (hf H) v=some (Bv 1 false false (Hz E ds n c),R))(hi:i<c):
 ∃b x,v=.slr 1 b 0 c∧Ny (H[b]?) i=some [x]∧∃R',rd 5 (hf H) x=some (Bv 1 true false ((Vm E ds n i).map Ci),R'):=by
 rcases bU h with⟨_,h0⟩|⟨b,rows',rfl,hb,_,_,hr⟩
 ·have:=Ud E ds n c
  rw[h0]at this;simp at this;omega
 ·obtain⟨R',hr⟩:=hr rfl
  have hX:(Hz E ds n c)[i]?=some [Bv 1 true false ((Vm E ds n i).map Ci)]:=by simp[Hz,hi]
  obtain⟨r,R2,k1,k2⟩:=bM (i:=i) hr hX
  obtain⟨a,l',R3,R4,rfl,k3,k4,_⟩:=jA k2
  obtain⟨rfl,_⟩:=rZ k4
  exact⟨b,a,by rw[Ud],by rw[acY hb,k1],R3,k3⟩
theorem kM{g:HF}{v:AV}{E:List Net.Edge}{ds:List Nat}{n c:Nat}{R:List Nat}(h:rd 6 g v=some (Bv 1 false false (Hz E ds n c),R)):ln Tryd.prog 27 (some v)=some (.ret (.int .i64 (c:Int)),[]):=by
 rcases bU h with⟨rfl,h0⟩|⟨b,rows',rfl,_⟩
 ·have:=Ud E ds n c
  rw[h0]at this;simp at this;subst this
  simp only[Vc.down,seval,qX.down]
 ·rw[Ud]
  simp only[Vc.down,seval,qX.down]
theorem aa4{g:HF}{d b n:Nat}{rows:List (List AV)}(h:(g b).bind Aw=some (1,true,rows))(hn:n≤rows.length):Eo (d+1) g (.slr 1 b 0 n)=some (.imm 1 true (rows.take n)):=by
 obtain⟨c,hc,hz⟩:=Option.bind_eq_some_iff.1 h
 have:Du g b 0 n=some (1,true,rows.take n):=by
  unfold Du
  rw[hc]
  cases c<;>simp[Aw]at hz<;>(obtain⟨rfl,rfl,rfl⟩:=hz;simp[hn])
 simp[Eo,Dy,this]
theorem dF(kn:Fe.call (.fn 10) [] []=some (.ret (.bool true),[]))(w:Au)(hs:w.small)(d:Int):Fe.call (.fn 3) [.agg [.int .i64 w.rooms,.int .i64 w.need,Bv 9 true w.nn (w.parts.map Ae.cells)],.int .i64 d] []=some (.ret (.bool true),[]):=by
 have hz0:(IntKind.i64.wrap 0==0)=true:=rfl
 have h1:=acZ w
 have h3:=ahZ w hs
 have h4:=yS d
 have hA0:=kL w hs d
 cases c1:nD w with
 |false=>
  rw[c1]at h1
  (refine ce Tryd.func3 ?_;simp only[Tryd.f3];(have hb:=trivial;with_reducible repeat' (first|simp only[hb,Vc.down,seval,qX.down,h1,kn,ab8]|refine Be ?_ ?_<;>intro hb|refine fd ?_|fail)))
 |true=>
 rw[c1]at h1
 cases c2:Pq w with
 |false=>
  rw[c2]at h3 hA0
  have hA0:=hA0 rfl
  (refine ce Tryd.func3 ?_;simp only[Tryd.f3];(have hb:=trivial;with_reducible repeat' (first|simp only[hb,Vc.down,seval,qX.down,hA0,hz0,h1,h3,kn,ab8]|refine Be ?_ ?_<;>intro hb|refine fd ?_|fail)))
 |true=>
 cases c3:Xk d with
 |false=>
  rw[c2,c3]at hA0
  rw[c2]at h3
  rw[c3]at h4
  have hA0:=hA0 rfl
  (refine ce Tryd.func3 ?_;simp only[Tryd.f3];(have hb:=trivial;with_reducible repeat' (first|simp only[hb,Vc.down,seval,qX.down,hA0,hz0,h1,h3,h4,kn,ab8]|refine Be ?_ ?_<;>intro hb|refine fd ?_|fail)))
 |true=>
 clear hA0
 rw[c2]at h3
 rw[c3]at h4
 obtain⟨N,hw,h12⟩:=qZ c2
 have hzd:(Pq w&&Xk d)=true:=by rw[c2,c3];rfl
 have n2:=hw.n2
 have n8:=hw.n8
 obtain⟨ds,hdl,hR,hB⟩:=pN hw h12 hs d hzd
 obtain⟨wn1,wn2⟩:=acO hw d hR
 have hF:=adN hw h12 d
 rcases hB with⟨e,hB⟩|⟨e,l,hl,hl0,outs,h',hB,hQ,hq1,hq2⟩
 ·rw[(wn1 e).1]at hF
  simp only[frO]at hF
  (refine ce Tryd.func3 ?_;simp only[Tryd.f3];(have hb:=trivial;with_reducible repeat' (first|simp only[hb,Vc.down,seval,qX.down,hB,hF,hz0,h1,h3,h4,kn,ab8]|refine Be ?_ ?_<;>intro hb|refine fd ?_|fail)))
 obtain⟨e2,e3⟩:=wn2 e
 have hRB:=oV hw h12 d
 have hR':=Qd n2 (by omega) (Ll hw (Ax w d))
 rw[e2]at hF hRB
 rw[hl]at hF
 rw[←xK (Ll hw (Ax w d)) n2 n8 hR hR' (by omega)]at hRB
 simp only[frO]at hF
 rw[gV (rows:=l.map Ci) (by simpa using hl0)]at hF
 have hll:l.length≤1000:=by
  have:=(Vv hl).1.len (Ll hw (Ax w d)) (by simp) (by simp;omega)
  simp at this;omega
 have hbl:∀k,(Vm (Fz w (Ax w d)) ds w.parts.length k).length≤1000:=fun k=>by
  have:=List.length_filter_le (Qq (Fz w (Ax w d)) ds k) (List.range w.parts.length)
  unfold Vm;simp at this;omega
 obtain⟨rows,n,hS,hn,hr1,hr2⟩:=hQ
 generalize ds.getD 1 0=c at *
 generalize Fz w (Ax w d)=E at *
 obtain⟨q,hq⟩:∃q,Fn.func 11=q:=⟨_,rfl⟩
 obtain⟨qR,hqR⟩:∃q,Fn.func 15=q:=⟨_,rfl⟩
 obtain⟨qS,hqS⟩:∃q,Fn.func 16=q:=⟨_,rfl⟩
 have kn':=kn
 refine ce Tryd.func3 ?_
 simp only[Tryd.f3]
 (have hb:=trivial;with_reducible repeat' (first|simp only[hb,Vc.down,seval,qX.down,h1,hq,ab8]|refine Be ?_ ?_<;>intro hb|refine fd ?_|fail))
 generalize hE:cl Fe _ (some (.func q [] [])) (some _)=E1
 rw[←hq]at hE
 obtain⟨outs1,es,H1,rfl,eh,k1,k2⟩:=akS hE (zP rfl) (xI _ w d) (yB w d) hB hS hq1 hq2
 rw[show [AV.agg [AV.int .i64 w.rooms,.int .i64 w.need,Bv 9 true w.nn (w.parts.map Ae.cells)],.int .i64 d]=[AV.agg w.cells,.int .i64 d]from rfl,rA]at k1
 obtain⟨v,b,R,rfl,kr,kl,kb,kb1,kR⟩:=k2.ex
 have m0:H1[0]?=some (.live 3 false false [[.int .i64 w.rooms,.int .i64 w.need,Bv 9 true w.nn (w.parts.map Ae.cells)]]):=k1.same 0 (by simp) (by simp)
 have hv:=gG kr
 obtain⟨p1,p2⟩:=hv
 (have hb:=trivial;with_reducible repeat' (first|simp only[hb,Vc.down,seval,qX.down,eh,p1,p2,m0,h3,h4,hF,hqR,ab9,acA,acB,acC,acD]|refine Be ?_ ?_<;>intro hb|refine fdl ?_|fail))
 generalize hE2:cl Fe _ (some (.func qR [] [])) (some _)=E2
 rw[←hqR]at hE2
 obtain⟨v2,es2,H2,R2,e5,eh2,j1,j2,j3,j4⟩:=hRB.cl (H:=H1) (zP rfl) (xI _ w d) (yB w d)
 have e6:=hE2.symm.trans e5
 subst e6
 rw[rA]at j1
 have g1:rd 6 (hf H2) v=some (Bv 1 false false (Hz E ds w.parts.length c),R):=alI j1 (by omega) kr
 have g2:(hf H2 b).bind Aw=some (1,true,rows):=(j1.rows b (aT kb)).trans kb
 obtain⟨w1,w2⟩:=gG j2
 have hn1:=kM g1
 have hn2:=kM j2
 have hcc:((c:Int)==(c:Int))=true:=by simp
 (have hb:=trivial;with_reducible repeat' (first|simp only[hb,Vc.down,seval,qX.down,eh2,w1,w2,hqS,hn1,hn2,ab9,acA,acB,acC,acD]|refine Be ?_ ?_<;>intro hb|refine fdl ?_|fail))
 generalize hE3:cl Fe _ (some (.func qS [] [])) (some _)=E3
 rw[←hqS]at hE3
 have hsl:aM H2 (.slr 1 b 0 l.length)=some (.imm 1 true (l.map Ci)):=by
  rw[←hr1];exact aa4 g2 hr2
 have hS:=hE3.symm.trans (jK (vs:=[.imm 1 true (l.map Ci),.imm 1 true (l.map Ci)]) (v:=.bool true) (fun _=>rfl) (by
  simp only[Tq,Xe,hsl,Qf];rfl) (by simp[Aq]) (by have:=qF l true true hll;simpa only[Bt]using this) rfl rfl)
 subst hS
 (have hb:=trivial;with_reducible repeat' (first|simp only[hb,Vc.down,seval,qX.down,hn1,hn2,bne,beq_self_eq_true,Bool.not_true,acD]|refine Be ?_ ?_<;>intro hb|refine fdl ?_|fail))
 refine Iy (aQ 100 (List.replicate c ()) (fun k (_:Unit) t h=>h=H2∧t 5=v∧t 10=v2∧t 11=.int .i64 (k:Int)) (fun _ _=>()) (fun _ e t h=>e=.exit 0) ?_ ?_ () _ _ ?_) (fun e t h hk=>?_)
 ·rintro _ t h Q' kQ ⟨rfl,g5,g10,g11⟩
  rw[acF]at g11
  (have hb:=trivial;with_reducible repeat' (first|simp only[hb,Vc.down,seval,qX.down,g5,g10,g11,hn1,Int.lt_irrefl,decide_false]|refine Be ?_ ?_<;>intro hb|refine fd ?_|fail))
  exact kQ _ _ _ rfl
 ·rintro _ rest k _ t h J Q' kJ kQ hx hi ⟨rfl,g5,g10,g11⟩
  rw[acF]at hi
  have hdd:decide ((k:Int)<(c:Int))=true:=decide_eq_true (by omega)
  have hii:((k:Int)<(c:Int))=True:=eq_true (by omega)
  have hwk:IntKind.i64.wrap ((k:Int)+1)=((k+1:Nat):Int):=by rw[Ee (by omega) (by omega)];omega
  obtain⟨b1,x1,rfl,y1,R1,z1⟩:=rV g1 hi
  obtain⟨b2,x2,rfl,y2,R3,z2⟩:=rV j2 hi
  obtain⟨u1,u2⟩:=gG z1
  obtain⟨u3,u4⟩:=gG z2
  (have hb:=trivial;with_reducible repeat' (first|simp only[hb,Vc.down,seval,qX.down,g5,g10,g11,hn1,hdd,hii,hwk,y1,y2,u1,u2,u3,u4,hqS,ab9,acA,acB,acC]|refine Be ?_ ?_<;>intro hb|refine fd ?_|fail))
  generalize hE4:cl Fe _ (some (.func qS [] [])) (some _)=E4
  rw[←hqS]at hE4
  have hS4:=hE4.symm.trans (jK (vs:=[Bv 1 true false ((Vm E ds w.parts.length k).map Ci),Bv 1 true false ((Vm E ds w.parts.length k).map Ci)]) (v:=.bool true) (fun _=>by
   rcases bU z1 with⟨rfl,_⟩|⟨b,_,rfl,_⟩<;>rfl) (by
   simp only[Tq,Xe,aM,aO (show 5≤12 by omega) z1,aO (show 5≤12 by omega) z2,Qf]) (by simp[Ia]) (qF _ false false (hbl k)) rfl rfl)
  subst hS4
  (have hb:=trivial;with_reducible repeat' (first|simp only[hb,Vc.down,seval,qX.down,g11,hwk]|refine Be ?_ ?_<;>intro hb|refine fd ?_|fail))
  exact Bc (kJ _ _ () ⟨rfl,by simp[up,g5],by simp[up,g10],by simp[up]⟩ rfl)
 ·exact⟨rfl,by simp[up],by simp[up],by simp[up]⟩
 ·subst hk
  (have hb:=trivial;with_reducible repeat' (first|simp only[hb,Vc.down,seval,qX.down,kn']|refine Be ?_ ?_<;>intro hb|refine fd ?_|fail))
theorem bQ(hk:Fe.call (.fn 10) [] []=some (.ret (.bool true),[])):∀avs,pG Tryd.prog 7 Tryd.f3.params.toList avs→Fe.call (.fn 3) avs []=some (.ret (.bool true),[]):=by
 intro avs h
 rw[show Tryd.f3.params.toList=[24,3]from rfl]at h
 match avs,h with
 | [a,b],h=>
   obtain⟨w,rfl,hs⟩:=aeK h.1
   obtain⟨d,rfl,_⟩:=ag6 h.2.1
   exact dF hk w hs d
 | [],h=>exact h.elim
 | [_],h=>exact h.2.elim
 |_::_::_::_,h=>exact h.2.2.elim
end Go.Proofs.YtckfcfcmfjfchaaDoor
