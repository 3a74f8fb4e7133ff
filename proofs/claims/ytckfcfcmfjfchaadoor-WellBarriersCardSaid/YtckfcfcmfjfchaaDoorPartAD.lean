/- The functions of the layer, walked. -/
import Derived.Test.YtckfcfcmfjfchaaDoorPartAC
import Derived.Test.YtckfcfcmfjfchaaDoorLibE
open List renaming getElem?_set_ne→ab8,getElem?_append_left→ab9,mem_cons→acA,getElem?_set_self→acB,getElem?_eq_getElem→acC,length_map→acD,getElem?_append_right→acE,nodup_cons→acF,nil_append→acG,append_nil→acH,getD_eq_getElem?_getD→acI,all_cons→adL,getElem?_eq_some_iff→afD,range→agR,take_of_length_le→agT,length_set→agU,mem_of_getElem?→agY,getElem?_map→ag5,replicate→ahG,getElem?_replicate→ajU,length_replicate→akU
open Nat renaming le_refl→af4,add_sub_cancel_left→agD
open Int renaming toNat_natCast→agW,natCast_zero→ajX
open Bool renaming false_eq_true→ajN,true_and→ajS,false_and→akV
set_option linter.unusedSimpArgs false
set_option linter.unusedVariables false
namespace Go.Proofs.YtckfcfcmfjfchaaDoor
open Go.Ev Go Go.Ev.Net
set_option maxRecDepth 100000
set_option maxHeartbeats 16000000
def wyR(E:List Net.Edge)(back:Nat→Nat)(most f tight:Nat)(rooms:List Nat)(at_:Nat):Nat→Net.Edge→Option (List Nat):=fun i e=>match dK e at_ with
 |none=>none
 |some r=>if r∈rooms∨most<tight+e.2.2+back r then none else(Td E back most f (tight+e.2.2) (r::rooms) r).map (i::·)
theorem uL{E:List Net.Edge}{back:Nat→Nat}{most f tight:Nat}{rooms:List Nat}{at_:Nat}(h:at_≠1):Td E back most (f+1) tight rooms at_=Gq (wyR E back most f tight rooms at_) 0 E:=by
 rw[Td,if_neg h];rfl
theorem fH{g:Nat→Net.Edge→Option (List Nat)}{E:List Net.Edge}{i:Nat}{e:Net.Edge}(h:E[i]?=some e):Gq g i (E.drop i)=match g i e with
 |some x=>some x
 |none=>Gq g (i+1) (E.drop (i+1)):=by
 obtain⟨hl,he⟩:=afD.1 h
 rw[List.drop_eq_getElem_cons hl,he];rfl
structure WyI(w:Au)(N:Nat)(d:Int)(L:List (Int × Bool))(bk:List Nat)(most f tight:Nat)(rs:List Nat)(room:Nat)(v:AV)(path:List Nat)(H h1:Aa)(LP:CB)(i:Nat)(h':Aa):Prop where
 W:∃v',Ym w N d L bk most (room::rs) v' path h'∧∀b∈Dz v',b∈Dz v∨H.length+5≤b
 ans:Td (Fz w (Ww L)) (fun v=>bk.getD v 0) most (f+1) tight (room::rs) room=Gq (wyR (Fz w (Ww L)) (fun v=>bk.getD v 0) most f tight (room::rs) room) i ((Fz w (Ww L)).drop i)
 b0:∃x,h'[H.length]?=some (.live 1 true x [[.int .i64 (tight:Int)]])
 b1:∃x,h'[H.length+1]?=some (.live 1 true x [[.bool false]])
 b2:∃x,h'[H.length+2]?=some (.live 1 false x [[.ptr 0 0 0]])
 b3:∃x,h'[H.length+3]?=some (.live 1 true x [[.int .i64 (room:Int)]])
 b4:h'[H.length+4]?=some LP
 len:H.length+5≤h'.length
 q:Ao h'=true
 ok:Ld h1 h'
 same:∀b,b<H.length→b∉6::7::Dz v→h'[b]?=(Eg H)[b]?
structure WyS(w:Au)(bk:List Nat)(L:List (Int × Bool))(most f tight:Nat)(rs:List Nat)(room:Nat)(v:AV)(path:List Nat)(H h1:Aa)(h':Aa):Prop where
 W:∃l v' fl x,Td (Fz w (Ww L)) (fun v=>bk.getD v 0) most (f+1) tight (room::rs) room=some l∧h'[6]?=some (.live 1 fl x [[v']])∧OS v' (path++l) h'∧∀b∈Dz v',b∈Dz v∨H.length+5≤b
 b1:∃x,h'[H.length+1]?=some (.live 1 true x [[.bool true]])
 b4:∃ps a b tm,h'[H.length+4]?=some (.lp ps a b tm (.done .ret))
 len:H.length+5≤h'.length
 q:Ao (h'.set (H.length+4) .dead)=true
 ok:Ld (h1.set (H.length+4) .dead) (h'.set (H.length+4) .dead)
 same:∀b,b<H.length→b∉6::7::Dz v→h'[b]?=(Eg H)[b]?
theorem Ld.p6{H G:Aa}(k:Ld H G){b:Nat}(hb:b<H.length):(Gk H G)[b]?=H[b]?∨∃c,(Gk H G)[b]?=some c∧Wrt c:=by
 obtain⟨c0,g0⟩:∃c0,H[b]?=some c0:=⟨_,acC hb⟩
 obtain⟨c,g1⟩:∃c,G[b]?=some c:=⟨_,acC (Nat.lt_of_lt_of_le hb k.1)⟩
 rcases k.2 b _ _ g0 g1 with⟨q1,_⟩|⟨q1,q2⟩
 ·exact .inl (by rw[Gm g0 g1 q1,g0])
 ·refine .inr ⟨c,?_,q2⟩
  rw[Lt g0 g1 (Qn q1 q2)]
  rcases q2 with⟨_,_,_,rfl⟩|rfl<;>rfl
theorem Ym.set7{w:Au}{N:Nat}{d:Int}{L:List (Int × Bool)}{bk:List Nat}{most:Nat}{rs rs2:List Nat}{v:AV}{path:List Nat}{H:Aa}(h:Ym w N d L bk most rs v path H)(x:Bool):Ym w N d L bk most rs2 v path (H.set 7 (.live 1 true x ((Pe N rs2).map Hu))):=by
 obtain⟨⟨x0,h0⟩,⟨x1,h1⟩,⟨x2,h2⟩,⟨x3,h3⟩,⟨x4,h4⟩,⟨x5,h5⟩,⟨fl,x6,h6⟩,⟨x7,h7⟩,⟨x8,h8⟩,⟨x9,h9⟩,hQ,hv⟩:=h
 have ne:∀(b:Nat) (c:CB),b≠7→H[b]?=some c→(H.set 7 (.live 1 true x ((Pe N rs2).map Hu)))[b]?=some c:=fun b c hb1 h=>by rw[ab8 (fun e=>hb1 e.symm)];exact h
 exact⟨⟨_,ne _ _ (by omega) h0⟩,⟨_,ne _ _ (by omega) h1⟩,⟨_,ne _ _ (by omega) h2⟩,⟨_,ne _ _ (by omega) h3⟩,⟨_,ne _ _ (by omega) h4⟩,⟨_,ne _ _ (by omega) h5⟩,⟨_,_,ne _ _ (by omega) h6⟩,⟨x,acB (Ac h7)⟩,⟨_,ne _ _ (by omega) h8⟩,⟨_,ne _ _ (by omega) h9⟩,hQ.keep fun b hb1 w0 rows h=>⟨w0,ne _ _ (by have:=hv b hb1;omega) h⟩,hv⟩
theorem afO{O:Do}{P:Program}(n:Nat)(k:List Aj)(t:List AV)(b:Nat)(h2:Aa)(ps:List Nat)(asg body:Code)(tm:List AV):rnX O P n k t b h2 (some (.lp ps asg body tm (.done .ret)))=Bj (Bq O P n) k .ret ⟨t,h2.set b .dead⟩:=Eq.trans rfl rfl
theorem wN(b:Nat)(Q:Db→Aa→Prop)(t:List AV)(h:Aa):RnE b Q (some (.ret,⟨t,h⟩))=∃o h',iI false (Jk h b Hw.isBusy (.done .ret))=some (o,h')∧Q o h':=Eq.trans rfl rfl
theorem bR:∀(H G:Aa) (b:Nat),H.length≤G.length→(Gk H G).set b .dead=Gk (H.set b .dead) (G.set b .dead)
 | [],G,b,_=>by simp[Gk]
 |c::H,[],b,h=>by simp at h
 |c::H,c1::G,0,h=>by simp[Gk,CB.quiet,CB.same]
 |c::H,c1::G,b+1,h=>by simp[Gk,bR H G b (by simpa using h)]
def WyQ(w:Au)(N:Nat)(d:Int)(L:List (Int × Bool))(bk:List Nat)(most f tight:Nat)(rs:List Nat)(room:Nat)(v:AV)(path:List Nat)(H h1:Aa)(LP:CB)(i:Nat)(h':Aa)(o:Db)(G:Aa):Prop:=
 eA h' G∧((o=.ret (.bool true)∧WyI w N d L bk most f tight rs room v path H h1 LP (i+1) (Gk h' G))∨(o=.ret (.bool false)∧WyS w bk L most f tight rs room v path H h1 (Gk h' G)))
theorem ahO{b:Nat}{w:Bool}{rows:List (List AV)}{path:List Nat}(ht:rows.take path.length=path.map Ci)(hl:path.length≤rows.length)(h39:path.length+1≤549755813888)(i base:Nat):apS 1 base b 0 path.length true [[.int .i64 (i:Int)]] (some (.live 1 true w rows))=some (.ret (.slr 1 base 0 (path.length+1)),[.put b .dead,.new base (.live 1 true false ((path++[i]).map Ci))]):=by
 rw[cH]
 have h2:path.length+([[AV.int .i64 (i:Int)]]:List (List AV)).length≤2 ^ 39:=h39
 by_cases e:path.length=rows.length
 ·rw[if_pos ⟨rfl,by omega,h2⟩]
  rw[e,List.take_length]at ht
  simp[ht,Ci]
 ·rw[if_neg (fun h=>e (by have:=h.2.1;omega))]
  unfold apT
  rw[if_pos ⟨rfl,by omega,h2⟩]
  simp[ht,Ci]
structure WyM(h':Aa)(B:Nat)(v':AV)(path:List Nat)(i:Nat)(LB:CB)(M:Aa):Prop where
 len:M.length=h'.length+2
 q:Ao M=true
 same:∀b,b<h'.length→b≠6→b≠B→b∉Dz v'→M[b]?=(Eg h')[b]?
 m6:M[6]?=some (.live 1 false true [[.slr 1 (h'.length+1) 0 (path.length+1)]])
 mv:∀b∈Dz v',M[b]?=some .dead
 mB:M[B]?=some LB
 mn:M[h'.length+1]?=some (.live 1 true false ((path++[i]).map Ci))
theorem WyM.W{w:Au}{N:Nat}{d:Int}{L:List (Int × Bool)}{bk:List Nat}{most:Nat}{rs:List Nat}{v':AV}{path:List Nat}{h' M:Aa}{B i:Nat}{LB:CB}(m:WyM h' B v' path i LB M)(hB:10≤B)(W:Ym w N d L bk most rs v' path h'):Ym w N d L bk most rs (.slr 1 (h'.length+1) 0 (path.length+1)) (path++[i]) M:=by
 have hv:∀b,b<10→b∉Dz v':=fun b hb h=>by have:=W.hv b h;omega
 obtain⟨⟨x0,h0⟩,⟨x1,h1⟩,⟨x2,h2⟩,⟨x3,h3⟩,⟨x4,h4⟩,⟨x5,h5⟩,⟨fl,x6,h6⟩,⟨x7,h7⟩,⟨x8,h8⟩,⟨x9,h9⟩,hQ,_⟩:=W
 have k:∀(b:Nat) (st:Nat) (fl x:Bool) (rows:List (List AV)),b<10→b≠6→h'[b]?=some (.live st fl x rows)→∃x',M[b]?=some (.live st fl x' rows):=fun b st fl x rows hb hn h=>⟨false,by
  rw[m.same b (Ac h) hn (by omega) (hv b hb),Bl h];rfl⟩
 have hl:=Ac h9
 refine⟨k _ _ _ _ _ (by omega) (by omega) h0,k _ _ _ _ _ (by omega) (by omega) h1,k _ _ _ _ _ (by omega) (by omega) h2,k _ _ _ _ _ (by omega) (by omega) h3,k _ _ _ _ _ (by omega) (by omega) h4,k _ _ _ _ _ (by omega) (by omega) h5,⟨_,_,m.m6⟩,k _ _ _ _ _ (by omega) (by omega) h7,k _ _ _ _ _ (by omega) (by omega) h8,k _ _ _ _ _ (by omega) (by omega) h9,?_,fun b hb=>by simp[Dz]at hb;omega⟩
 exact .inr ⟨_,_,_,by simp,m.mn,agT (by simp),by simp⟩
theorem zR{w:Au}{N:Nat}{d:Int}{L:List (Int × Bool)}{bk:List Nat}{most f tight:Nat}{rs:List Nat}{room:Nat}{v:AV}{path:List Nat}{H h1:Aa}{LP:CB}{i:Nat}{h':Aa}(I:WyI w N d L bk most f tight rs room v path H h1 LP i h')(hLc:LP.clean=LP)(hLq:LP.quiet LP=true)(hH:10≤H.length)(hQ:OS v path H)
 {v':AV} (W':Ym w N d L bk most (room::rs) v' path h') (I2:∀b∈Dz v',b∈Dz v∨H.length+5≤b) {LB:CB} {M:Aa} (m:WyM h' (H.length+4) v' path i LB M) {o:Db} {G:Aa}
 (P:WyP w N d L bk most (room::rs) (.slr 1 (h'.length+1) 0 (path.length+1)) (path++[i]) M none o G)
 (hans:Td (Fz w (Ww L)) (fun v=>bk.getD v 0) most (f+1) tight (room::rs) room=Gq (wyR (Fz w (Ww L)) (fun v=>bk.getD v 0) most f tight (room::rs) room) (i+1) ((Fz w (Ww L)).drop (i+1))):
 ∃b3 fl3 x3,G[6]?=some (.live 1 fl3 x3 [[.slr 1 b3 0 (path.length+1)]])∧G[H.length+4]?=some LB∧o=.ret (.bool false)∧∀fl4,WyQ w N d L bk most f tight rs room v path H h1 LP i h' (.ret (.bool true)) ((G.set 6 (.live 1 fl4 true [[.slr 1 b3 0 path.length]])).set (H.length+4) LP):=by
 obtain⟨kk,gq,gp,rfl,v3,W3,gv⟩:=P
 obtain⟨fl3,x3,h6⟩:=W3.h6
 have hl:=I.len
 have ml:=m.len
 have hvl:∀b∈Dz v',b<h'.length∧b≠H.length+4:=fun b hb=>⟨(W'.hQ.lt b hb).1,by
  rcases I2 b hb with h|h
  ·have:=(hQ.lt b h).1;omega
  ·omega⟩
 have sG:∀b,b<h'.length→b≠6→b≠7→G[b]?=M[b]?:=fun b hb n6 n7=>kk.same b (by omega) (by simp[Dz];omega)
 have hB:G[H.length+4]?=some LB:=by rw[sG _ (by omega) (by omega) (by omega)];exact m.mB
 rcases W3.hQ with⟨_,h⟩|⟨b3,w3,rows3,rfl,hb3,ht3,hl3⟩
 ·simp at h
 rw[show(path++[i]).length=path.length+1 by simp]at h6 ht3 hl3
 have hb3':=gv b3 (by simp[Dz])
 simp only[Dz,acA,List.not_mem_nil,or_false]at hb3'
 have hb3l:h'.length≤b3:=by omega
 refine⟨b3,fl3,x3,h6,hB,rfl,fun fl4=>?_⟩
 obtain⟨FG,hFG⟩:∃FG,(G.set 6 (.live 1 fl4 true [[.slr 1 b3 0 path.length]])).set (H.length+4) LP=FG:=⟨_,rfl⟩
 rw[hFG]
 have hGl:=kk.len
 have hFl:FG.length=G.length:=by rw[←hFG];simp
 have F6:FG[6]?=some (.live 1 fl4 true [[.slr 1 b3 0 path.length]]):=by rw[←hFG,ab8 (by omega),acB (Ac h6)]
 have FB:FG[H.length+4]?=some LP:=by rw[←hFG,acB (by simp;exact Ac hB)]
 have Fn:∀b,b≠6→b≠H.length+4→FG[b]?=G[b]?:=fun b n6 nB=>by rw[←hFG,ab8 (fun e=>nB e.symm),ab8 (fun e=>n6 e.symm)]
 have Fo:∀b,b<h'.length→b≠6→b≠7→b≠H.length+4→b∉Dz v'→FG[b]?=(Eg h')[b]?:=fun b hb n6 n7 nB nv=>by rw[Fn b n6 nB,sG b hb n6 n7,m.same b hb n6 nB nv]
 obtain⟨fl6,x6,j6⟩:=W'.h6
 obtain⟨x7,j7⟩:=W'.h7
 have kO:Ld h' FG:=⟨by omega,fun b c0 c g0 g1=>by
  have hb:=Ac g0
  by_cases eB:b=H.length+4
  ·subst eB;rw[FB]at g1;rw[I.b4]at g0;cases g0;cases g1
   exact .inl ⟨hLq,rfl⟩
  ·by_cases e6:b=6
   ·subst e6;rw[F6]at g1;rw[j6]at g0;cases g0;cases g1
    exact .inr ⟨rfl,.inl ⟨_,_,_,rfl⟩⟩
   ·by_cases ev:b∈Dz v'
    ·have n7:b≠7:=by have:=W'.hv b ev;omega
     rw[Fn b e6 eB,sG b hb e6 n7,m.mv b ev]at g1;cases g1
     obtain⟨_,_,_,h2⟩:=W'.hQ.lt b ev
     rw[h2]at g0;cases g0
     exact .inr ⟨rfl,.inr rfl⟩
    ·by_cases e7:b=7
     ·subst e7
      rw[Fn 7 (by omega) (by omega)]at g1
      rw[j7]at g0;cases g0
      rcases gp 7 (by simp)with h|⟨c',h,h'⟩
      ·rw[g1,m.same 7 hb (by omega) (by omega) ev,Bl j7]at h
       cases h;exact .inl ⟨rfl,rfl⟩
      ·rw[g1]at h;cases h
       exact .inr ⟨rfl,h'⟩
     ·rw[Fo b hb e6 e7 eB ev,Bl g0]at g1;cases g1
      exact .inl ⟨Bn I.q g0,(Jt c0).symm⟩⟩
 have hFq:Ao FG=true:=by rw[←hFG];exact Ar (Ar gq _ rfl) _ (by rw[hLc];exact hLq)
 have WF:Ym w N d L bk most (room::rs) (.slr 1 b3 0 path.length) path FG:=by
  obtain⟨⟨x0,h0⟩,⟨x1,h1⟩,⟨x2,h2⟩,⟨x3,h3⟩,⟨x4,h4⟩,⟨x5,h5⟩,_,⟨x7,h7⟩,⟨x8,h8⟩,⟨x9,h9⟩,_,_⟩:=W3
  have k:∀b (c:CB),b<10→b≠6→G[b]?=some c→FG[b]?=some c:=fun b c hb n6 h=>by rw[Fn b n6 (by omega)];exact h
  refine⟨⟨x0,k _ _ (by omega) (by omega) h0⟩,⟨x1,k _ _ (by omega) (by omega) h1⟩,⟨x2,k _ _ (by omega) (by omega) h2⟩,⟨x3,k _ _ (by omega) (by omega) h3⟩,⟨x4,k _ _ (by omega) (by omega) h4⟩,⟨x5,k _ _ (by omega) (by omega) h5⟩,⟨_,_,F6⟩,⟨x7,k _ _ (by omega) (by omega) h7⟩,⟨x8,k _ _ (by omega) (by omega) h8⟩,⟨x9,k _ _ (by omega) (by omega) h9⟩,?_,fun b hb=>by simp[Dz]at hb;omega⟩
  refine .inr ⟨b3,w3,rows3,rfl,by rw[Fn b3 (by omega) (by omega)];exact hb3,?_,by omega⟩
  have e:=congrArg (List.take path.length) ht3
  rw[List.take_take,Nat.min_eq_left (by omega),←List.map_take,List.take_left' rfl]at e
  exact e
 have mln:(Gk h' FG).length=FG.length:=Ju kO.1
 have old:∀(b:Nat),H.length≤b→b<H.length+4→b∉Dz v':=fun b h1 h2 hb=>by
  rcases I2 b hb with h|h
  ·have:=(hQ.lt b h).1;omega
  ·omega
 have li:∀{b st:Nat} {fl x:Bool} {rows:List (List AV)},H.length≤b→b<H.length+4→h'[b]?=some (.live st fl x rows)→∃x',(Gk h' FG)[b]?=some (.live st fl x' rows):=fun {b st fl x rows} g1 g2 g3=>kO.live (fl:=fl) (w:=false) (by rw[Fo b (Ac g3) (by omega) (by omega) (by omega) (old b g1 g2),Bl g3];rfl)
 obtain⟨y0,k0⟩:=I.b0
 obtain⟨y1,k1⟩:=I.b1
 obtain⟨y2,k2⟩:=I.b2
 obtain⟨y3,k3⟩:=I.b3
 refine⟨kO.sh,.inl ⟨rfl,⟨_,WF.okw kO,fun b hb=>by simp[Dz]at hb;omega⟩,hans,li (by omega) (by omega) k0,li (by omega) (by omega) k1,li (by omega) (by omega) k2,li (by omega) (by omega) k3,Ld.old I.b4 FB hLq,by omega,kO.quiet I.q hFq,I.ok.trans kO,fun b hb hn=>?_⟩⟩
 have hnv:b∉Dz v':=fun h=>by
  rcases I2 b h with h|h
  ·exact hn (by simp[h])
  ·omega
 obtain⟨c0,g0⟩:∃c0,h'[b]?=some c0:=⟨_,acC (by omega)⟩
 simp only[acA,not_or]at hn
 rw[Gm g0 (by rw[Fo b (by omega) hn.1 hn.2.1 (by omega) hnv];exact Bl g0) (Bn I.q g0),←g0]
 exact I.same b hb (by simp only[acA,not_or];exact hn)
theorem Ld.setd{H G:Aa}(k:Ld H G)(n:Nat):Ld (H.set n .dead) (G.set n .dead):=⟨by simpa using k.1,fun b c0 c g0 g1=>by
 by_cases e:n=b
 ·subst e
  have hl:=Ac g0
  have hl2:=Ac g1
  rw[acB (by simpa using hl)]at g0
  rw[acB (by simpa using hl2)]at g1
  cases g0;cases g1;exact .inl ⟨rfl,rfl⟩
 ·rw[ab8 e]at g0 g1
  exact k.2 b c0 c g0 g1⟩
theorem rP{w:Au}{N:Nat}{d:Int}{L:List (Int × Bool)}{bk:List Nat}{most f tight:Nat}{rs:List Nat}{room:Nat}{v:AV}{path:List Nat}{H h1:Aa}{LP:CB}{i:Nat}{h':Aa}(I:WyI w N d L bk most f tight rs room v path H h1 LP i h')(hLl:LP.isLive=true)(hH:10≤H.length)(hQ:OS v path H)
 {v':AV} (W':Ym w N d L bk most (room::rs) v' path h') (I2:∀b∈Dz v',b∈Dz v∨H.length+5≤b) {LB:CB} {M:Aa} (m:WyM h' (H.length+4) v' path i LB M) {o:Db} {G:Aa} {l:List Nat}
 (P:WyP w N d L bk most (room::rs) (.slr 1 (h'.length+1) 0 (path.length+1)) (path++[i]) M (some l) o G)
 (hans:Td (Fz w (Ww L)) (fun v=>bk.getD v 0) most (f+1) tight (room::rs) room=some (i::l)) {ps:List Nat} {ca cb:Code} {tm:List AV} (hLd:LP.quiet (.lp ps ca cb tm (.done .ret))=false):
 (∃x,G[H.length+1]?=some (.live 1 true x [[.bool false]]))∧G[H.length+4]?=some LB∧o=.ret (.bool true)∧WyQ w N d L bk most f tight rs room v path H h1 LP i h' (.ret (.bool false)) ((G.set (H.length+1) (.live 1 true true [[.bool true]])).set (H.length+4) (.lp ps ca cb tm (.done .ret))):=by
 obtain⟨kk,gq,gp,rfl,fl3,x3,v3,h6,hO3,gv⟩:=P
 have hl:=I.len
 have ml:=m.len
 have sG:∀b,b<h'.length→b≠6→b≠7→G[b]?=M[b]?:=fun b hb n6 n7=>kk.same b (by omega) (by simp[Dz];omega)
 have hB:G[H.length+4]?=some LB:=by rw[sG _ (by omega) (by omega) (by omega)];exact m.mB
 have old:∀(b:Nat),H.length≤b→b<H.length+4→b∉Dz v':=fun b h1 h2 hb=>by
  rcases I2 b hb with h|h
  ·have:=(hQ.lt b h).1;omega
  ·omega
 obtain⟨y1,k1⟩:=I.b1
 have hR:G[H.length+1]?=some (.live 1 true false [[.bool false]]):=by
  rw[sG _ (by omega) (by omega) (by omega),m.same _ (by omega) (by omega) (by omega) (old _ (by omega) (by omega)),Bl k1];rfl
 refine⟨⟨false,hR⟩,hB,rfl,?_⟩
 obtain⟨FG,hFG⟩:∃FG,(G.set (H.length+1) (.live 1 true true [[.bool true]])).set (H.length+4) (.lp ps ca cb tm (.done .ret))=FG:=⟨_,rfl⟩
 rw[hFG]
 have hGl:=kk.len
 have hFl:FG.length=G.length:=by rw[←hFG];simp
 have F1:FG[H.length+1]?=some (.live 1 true true [[.bool true]]):=by rw[←hFG,ab8 (by omega),acB (Ac hR)]
 have FB:FG[H.length+4]?=some (.lp ps ca cb tm (.done .ret)):=by rw[←hFG,acB (by simp;exact Ac hB)]
 have Fn:∀b,b≠H.length+1→b≠H.length+4→FG[b]?=G[b]?:=fun b n6 nB=>by rw[←hFG,ab8 (fun e=>nB e.symm),ab8 (fun e=>n6 e.symm)]
 have Fo:∀b,b<h'.length→b≠6→b≠7→b≠H.length+1→b≠H.length+4→b∉Dz v'→FG[b]?=(Eg h')[b]?:=fun b hb n6 n7 n1 nB nv=>by rw[Fn b n1 nB,sG b hb n6 n7,m.same b hb n6 nB nv]
 obtain⟨fl6,x6,j6⟩:=W'.h6
 obtain⟨x7,j7⟩:=W'.h7
 have one:∀b c0 c,b≠H.length+4→h'[b]?=some c0→FG[b]?=some c→(c0.quiet c=true∧c0.clean=c.clean)∨(c0.isLive=true∧Wrt c):=fun b c0 c eB g0 g1=>by
  have hb:=Ac g0
  by_cases e1:b=H.length+1
  ·subst e1;rw[F1]at g1;rw[k1]at g0;cases g0;cases g1
   exact .inr ⟨rfl,.inl ⟨_,_,_,rfl⟩⟩
  ·by_cases e6:b=6
   ·subst e6;rw[j6]at g0;cases g0
    rw[Fn 6 (by omega) (by omega)]at g1
    rcases gp 6 (by simp)with h|⟨c',h,hw⟩
    ·rw[g1,m.m6]at h;cases h;exact .inr ⟨rfl,.inl ⟨_,_,_,rfl⟩⟩
    ·rw[g1]at h;cases h;exact .inr ⟨rfl,hw⟩
   ·by_cases ev:b∈Dz v'
    ·have n7:b≠7:=by have:=W'.hv b ev;omega
     rw[Fn b e1 eB,sG b hb e6 n7,m.mv b ev]at g1;cases g1
     obtain⟨_,_,_,h2⟩:=W'.hQ.lt b ev
     rw[h2]at g0;cases g0
     exact .inr ⟨rfl,.inr rfl⟩
    ·by_cases e7:b=7
     ·subst e7
      rw[Fn 7 (by omega) (by omega)]at g1
      rw[j7]at g0;cases g0
      rcases gp 7 (by simp)with h|⟨c',h,hw⟩
      ·rw[g1,m.same 7 hb (by omega) (by omega) ev,Bl j7]at h
       cases h;exact .inl ⟨rfl,rfl⟩
      ·rw[g1]at h;cases h
       exact .inr ⟨rfl,hw⟩
     ·rw[Fo b hb e6 e7 e1 eB ev,Bl g0]at g1;cases g1
      exact .inl ⟨Bn I.q g0,(Jt c0).symm⟩
 have sh:eA h' FG:=⟨by omega,fun b c0 c g0 g1=>by
  by_cases eB:b=H.length+4
  ·subst eB;rw[I.b4]at g0;cases g0;exact .inr hLl
  ·exact(one b c0 c eB g0 g1).imp (fun h=>h.1) (fun h=>h.1)⟩
 have hqd:Ao (FG.set (H.length+4) .dead)=true:=by
  rw[←hFG,List.set_set];exact Ar (Ar gq _ rfl) _ rfl
 have k2:Ld (h'.set (H.length+4) .dead) (FG.set (H.length+4) .dead):=⟨by simp;omega,fun b c0 c g0 g1=>by
  by_cases eB:H.length+4=b
  ·subst eB
   rw[acB (by omega)]at g0 g1
   cases g0;cases g1;exact .inl ⟨rfl,rfl⟩
  ·rw[ab8 eB]at g0 g1
   exact one b c0 c (fun e=>eB e.symm) g0 g1⟩
 have mln:(Gk h' FG).length=FG.length:=Ju sh.1
 have md:=bR h' FG (H.length+4) sh.1
 have dne:∀{b:Nat} {X:Aa},b≠H.length+4→(X.set (H.length+4) CB.dead)[b]?=X[b]?:=fun {b X} n=>ab8 (fun e=>n e.symm)
 have lv:∀{b st:Nat} {fl x:Bool} {rows:List (List AV)},b≠H.length+4→FG[b]?=some (.live st fl x rows)→∃x',(Gk h' FG)[b]?=some (.live st fl x' rows):=fun {b st fl x rows} n g=>by
  obtain⟨x',h⟩:=k2.live (fl:=fl) (w:=x) (by rw[dne n];exact g)
  rw[←md,dne n]at h
  exact⟨x',h⟩
 have hv3:∀b∈Dz v3,h'.length≤b:=fun b hb=>by
  rcases gv b hb with h|h
  ·simp[Dz]at h;omega
  ·omega
 obtain⟨x6',m6⟩:=lv (b:=6) (by omega) (by rw[Fn 6 (by omega) (by omega)];exact h6)
 refine⟨sh,.inr ⟨rfl,⟨i::l,v3,fl3,x6',hans,m6,?_,fun b hb=>by have:=hv3 b hb;omega⟩,lv (by omega) F1,⟨ps,ca,cb,tm,Lt I.b4 FB hLd⟩,by omega,?_,?_,fun b hb hn=>?_⟩⟩
 ·rw[show path++i::l=path++[i]++l by simp]
  exact hO3.keep fun b hb w0 rows h=>lv (by have:=hv3 b hb;omega) (by rw[Fn b (by have:=hv3 b hb;omega) (by have:=hv3 b hb;omega)];exact h)
 ·rw[md];exact k2.quiet (Ar I.q _ rfl) hqd
 ·rw[md];exact(I.ok.setd _).trans k2
 have hnv:b∉Dz v':=fun h=>by
  rcases I2 b h with h|h
  ·exact hn (by simp[h])
  ·omega
 obtain⟨c0,g0⟩:∃c0,h'[b]?=some c0:=⟨_,acC (by omega)⟩
 simp only[acA,not_or]at hn
 rw[Gm g0 (by rw[Fo b (by omega) hn.1 hn.2.1 (by omega) (by omega) hnv];exact Bl g0) (Bn I.q g0),←g0]
 exact I.same b hb (by simp only[acA,not_or];exact hn)
theorem yX(b k:Nat):slx Tryd.prog 28 (some (.slr 1 b 0 (k+1))) (some none) (some (some (.int .i64 (k:Int))))=some (.ret (.slr 1 b 0 k),[]):=by
 have hz:Nu Tryd.prog 3=some 1:=by kernel_rfl
 simp only[slx,Option.bind_some,Yo,Tryd.underlying28,hz,Gp]
 simp[Gp,r1]
 rw[if_pos (by omega)];rfl
theorem Ku:∀(N:Nat) (l:List Nat),l.Nodup→(∀x∈l,x<N)→l.length≤N
 |0,[],_,_=>by simp
 |0,a::l,_,h=>absurd (h a (by simp)) (by omega)
 |N+1,l,hn,h=>by
  by_cases e:N∈l
  ·have h1:=Ku N (l.erase N) (hn.erase N) fun x hx=>by
    have h2:=h x (List.mem_of_mem_erase hx)
    have h3:x≠N:=fun e2=>by subst e2;exact(hn.not_mem_erase) hx
    omega
   rw[List.length_erase_of_mem e]at h1
   omega
  ·exact Nat.le_succ_of_le (Ku N l hn fun x hx=>by
    have h2:=h x hx
    have h3:x≠N:=fun e2=>e (e2▸hx)
    omega)
theorem ahC{w:Au}{N:Nat}(hw:mI w N)(h12:w.parts.length≤12){d:Int}{L:List (Int × Bool)}(hL12:L.length=12){bk:List Nat}(hbk:bk.length=N)(hbb:∀x∈bk,x≤Dc){most:Nat}(hmo:most≤1000):∀(f:Nat) (rs:List Nat) (room tight:Nat) (path:List Nat) (v:AV) (H:Aa),
 Ao H=true→Ym w N d L bk most rs v path H→room<N→(room::rs).Nodup→(∀r∈rs,r<N)→tight≤most→path.length=rs.length→N≤rs.length+f→
 oM Fe 61 ([.int .i64 (room:Int),.int .i64 (tight:Int)]++srA) H (WyP w N d L bk most rs v path H (Td (Fz w (Ww L)) (fun v=>bk.getD v 0) most f tight (room::rs) room)):=by
 intro f
 induction f with
 |zero=>
  intro rs room tight path v H _ _ hrN hnd hlt _ _ hfu
  have:=Ku N (room::rs) hnd fun x hx=>by
   rcases acA.1 hx with rfl|hx
   ·exact hrN
   ·exact hlt x hx
  simp at this;omega
 |succ f ih=>
 intro rs room tight path v H hq hW hrN hnd hlt htm hpl hfu
 have hrr:room∉rs:=(acF.1 hnd).1
 have hr:=hw.rooms
 have n2:=hw.n2
 have n8:=hw.n8
 obtain⟨⟨x0,h0⟩,⟨x1,h1⟩,⟨x2,h2⟩,⟨x3,h3⟩,⟨x4,h4⟩,⟨x5,h5⟩,⟨fl,x6,h6⟩,⟨x7,h7⟩,⟨x8,h8⟩,⟨x9,h9⟩,hQ,hv⟩:=id hW
 have hl9:=Ac h9
 refine pE rfl Tryd.func61 rfl rfl ?_
 simp only[Tryd.f61,srA,List.cons_append,acG]
 by_cases e1:room=1
 ·subst e1
  (have hb:=trivial;with_reducible repeat' (first|simp only[hb,Vc.down,seval,Xn.down,Ai h8,Gx,En]|refine Be ?_ ?_<;>intro hb|refine fd ?_|fail))
  have hw1:Td (Fz w (Ww L)) (fun v=>bk.getD v 0) most (f+1) tight (1::rs) 1=some []:=by rw[Td,if_pos rfl]
  rw[hw1]
  refine⟨(Rf.app _ _).mono (by simp),Bi hq rfl,fun b hb1=>.inl ?_,rfl,fl,x6,v,Ai h6 _,by rw[acH];exact hQ.app _,fun b hb1=>.inl hb1⟩
  refine ab9 ?_
  rcases acA.1 hb1 with rfl|hb1
  ·exact Ac h6
  ·rcases acA.1 hb1 with rfl|hb1
   ·exact Ac h7
   ·exact(hQ.lt b hb1).1
 ·have q1:((room:Int)==1)=false:=by simp;omega
  have o1:((room:Int)<(N:Int))=True:=eq_true (by omega)
  have hmr:((Pe N rs).map Hu)[room]?=some [.bool false]:=by rw[Kt rs hrN];simp[hrr]
  have hms:=xJ (N:=N) (room:=room) rs
  have hS:=Gu (b:=7) (Ac h7)
  have hat:=alX w d (room:Int) false
  have g0:∀c l,(H.set 7 c++l)[0]?=some (.live 4 false x0 [[.int .i64 w.rooms,.int .i64 w.need,Bv 9 true w.nn (w.parts.map Ae.cells),.int .i64 d]]):=fun c l=>by
   rw[ab9 (by simp;omega),ab8 (by omega)];exact h0
  have g1:∀c l,(H.set 7 c++l)[1]?=some (.live 1 false x1 [[.ptr 0 0 0]]):=fun c l=>by
   rw[ab9 (by simp;omega),ab8 (by omega)];exact h1
  rw[hr]at hat g0
  have m1:((N:Int)≤(N:Int))=True:=eq_true (Int.le_refl _)
  obtain⟨r2,hr2⟩:∃r,(Pe N (room::rs)).map Hu=r:=⟨_,rfl⟩
  obtain⟨r1,hr1⟩:∃r,(Pe N rs).map Hu=r:=⟨_,rfl⟩
  rw[hr1,hr2]at hms
  rw[hr1]at hmr h7
  (have hb:=trivial;with_reducible repeat' (first|simp only[hb,Vc.down,seval,Xn.down,Ai h8,Ai h7,hmr,hms,hS,q1,o1,g0,g1,hat,Gx,En,agU,agW]|refine Be ?_ ?_<;>intro hb|refine fd ?_|fail))
  generalize hLP:CB.lp _ _ _ _ _=LP
  obtain⟨h1',hh1⟩:∃h1:Aa,H.set 7 (.live 1 true true r2)++[.live 1 true false [[.int .i64 (tight:Int)]],.live 1 true false [[.bool false]],.live 1 false false [[.ptr 0 0 0]],.live 1 true false [[.int .i64 (room:Int)]],LP]=h1:=⟨_,rfl⟩
  refine ab3 (anE hw (d:=d) (r:=(room:Int)) (lb:=H.length+2) (rb:=H.length+3) (kb:=0) (WyI w N d L bk most f tight rs room v path H h1' LP) (WyS w bk L most f tight rs room v path H h1') ?_ ?_ ?_ ?_ ?_ ?_ ?_) ?_
  ·exact fun i h' I=>I.b2
  ·exact fun i h' I=>by obtain⟨v',I1,_⟩:=I.W;exact⟨_,I1.h0.choose_spec⟩
  ·exact fun i h' I=>I.b3
  ·intro i h' fl wf rows I
   obtain⟨v',I1,I2⟩:=I.W
   obtain⟨y0,I3⟩:=I.b0
   obtain⟨y1,I4⟩:=I.b1
   obtain⟨y2,I5⟩:=I.b2
   obtain⟨y3,I6⟩:=I.b3
   have:=I.len
   exact⟨⟨v',I1.app _,I2⟩,I.ans,⟨y0,Ai I3 _⟩,⟨y1,Ai I4 _⟩,⟨y2,Ai I5 _⟩,⟨y3,Ai I6 _⟩,Ai I.b4 _,by simp;omega,Bi I.q rfl,I.ok.app _,fun b hb1 hb2=>by rw[ab9 (by omega)];exact I.same b hb1 hb2⟩
  ·intro i p u h' hpx hu I
   have hLc:LP.clean=LP:=by rw[←hLP];rfl
   have hLq:LP.quiet LP=true:=by rw[←hLP];rfl
   have hLl:LP.isLive=true:=by rw[←hLP];rfl
   have hpo:=hw.part p (agY hpx)
   have hil:i<w.parts.length:=(afD.1 hpx).1
   obtain⟨pc,hpc⟩:∃x,L[i]?=some x:=⟨_,acC (by omega)⟩
   have he:=iF hpx hpc
   obtain⟨to,rfl,htN,hto⟩:∃to:Nat,u=(to:Int)∧to<N∧dK (p.one.toNat,p.other.toNat,if rY pc=true then 1 else 0) room=some to:=by
    rcases hu with⟨g1,g2⟩|⟨g1,g2,g3⟩
    ·exact⟨p.other.toNat,by omega,by omega,by unfold dK;rw[if_pos (by simp only;omega)]⟩
    ·exact⟨p.one.toNat,by omega,by omega,by unfold dK;rw[if_neg (by simp only;omega),if_pos (by simp only;omega)]⟩
   have hstep:=I.ans
   rw[fH he]at hstep
   simp only[wyR,hto]at hstep
   have round:RnQ Fe ([.int .i64 (i:Int),.int .i64 (to:Int)]++[.yl (H.length+4)]) (Eg h') (WyQ w N d L bk most f tight rs room v path H h1' LP i h'):=by
    obtain⟨v',W',I2⟩:=I.W
    obtain⟨⟨y0,j0⟩,⟨y1,j1⟩,⟨y2,j2⟩,⟨y3,j3⟩,⟨y4,j4⟩,⟨y5,j5⟩,⟨fl6,y6,j6⟩,⟨y7,j7⟩,⟨y8,j8⟩,⟨y9,j9⟩,jQ,jv⟩:=id W'
    obtain⟨z0,k0⟩:=I.b0
    obtain⟨z1,k1⟩:=I.b1
    have hlen:=I.len
    have k8:=I.b4
    have hbc:=Bl I.b4
    rw[hLc]at hbc
    have hne2:∀(b:Nat) (c X:CB),b≠H.length+4→h'[b]?=some c→((Eg h').set (H.length+4) X)[b]?=some c.clean:=fun b c X hn hc=>by rw[ab8 (fun e=>hn e.symm),Bl hc]
    obtain⟨q1,hq1⟩:∃q,Fn.func 61=q:=⟨_,rfl⟩
    have g2':=fun X=>hne2 2 _ X (by omega) j2
    have g3':=fun X=>hne2 3 _ X (by omega) j3
    have g4':=fun X=>hne2 4 _ X (by omega) j4
    have g5':=fun X=>hne2 5 _ X (by omega) j5
    have g6':=fun X=>hne2 6 _ X (by omega) j6
    have g7':=fun X=>hne2 7 _ X (by omega) j7
    have g8':=fun X=>hne2 8 _ X (by omega) j8
    have g9':=fun X=>hne2 9 _ X (by omega) j9
    have gb0:=fun X=>hne2 _ _ X (by omega) k0
    have gb1:=fun X=>hne2 _ _ X (by omega) k1
    rw[hq1]at g9'
    simp only[CB.clean]at g2' g3' g4' g5' g6' g7' g8' g9' gb0 gb1
    have hself:∀X:CB,((Eg h').set (H.length+4) X)[H.length+4]?=some X:=fun X=>acB (Ac hbc)
    have hback:∀X:CB,(((Eg h').set (H.length+4) X).set (H.length+4) LP)=Eg h':=fun X=>by
     rw[List.set_set];exact mT hbc
    have sm:=qM (l:=[]) I.q
    simp only[acH]at sm
    have fin0:∀(_:to∈room::rs∨most<tight+(if rY pc=true then 1 else 0)+bk.getD to 0),WyQ w N d L bk most f tight rs room v path H h1' LP i h' (.ret (.bool true)) (Eg h'):=fun hc=>by
     unfold WyQ;rw[sm.2]
     refine⟨sm.1.sh,.inl ⟨rfl,{ I with ans:=?_ }⟩⟩
     rw[hstep,if_pos hc]
    have hi12:((i:Int)<12)=True:=eq_true (by omega)
    have hp24:(i*2+2≤24)=True:=eq_true (by omega)
    have hpl24:(Hn L).length=24:=by rw[Me];omega
    have htk:=iO _ _ _ _ hpc
    have htt:=gR pc.1 pc.2
    rw[show(pc.1==0&& !pc.2)=rY pc from rfl]at htt
    have hbit:=agN (rY pc)
    have hmt:=Kt (room::rs) htN
    rw[hr2]at hmt g7'
    have hbt:=aN (d:=bk) (a:=to) (by omega)
    have hble:bk.getD to 0≤Dc:=hbb _ (by rw[acI,acC (by omega:to<bk.length)];exact List.getElem_mem _)
    obtain⟨rbk,hrbk⟩:∃r,bk.map Ci=r:=⟨_,rfl⟩
    rw[hrbk]at hbt g4'
    have htN':((to:Int)<(N:Int))=True:=eq_true (by omega)
    obtain⟨c,hc⟩:∃c:Nat,(if rY pc=true then 1 else 0)=c:=⟨_,rfl⟩
    have hc1:c≤1:=by rw[←hc];split<;>omega
    have hbit':(if rY pc=true then(1:Int)else 0)=(c:Int):=by rw[←hc];split<;>rfl
    simp only[hc]at hstep fin0
    have hw1:IntKind.i64.wrap ((tight:Int)+(c:Int))=((tight+c:Nat):Int):=by have:=Ee (n:=((tight+c:Nat):Int)) (by omega) (by omega);simpa using this
    have hw2:IntKind.i64.wrap (((tight+c:Nat):Int)+(bk.getD to 0:Nat))=((tight+c+bk.getD to 0:Nat):Int):=by have:Dc=1048576:=rfl;have:=Ee (n:=((tight+c+bk.getD to 0:Nat):Int)) (by omega) (by omega);simpa using this
    generalize bk.getD to 0=bt at *
    generalize Hn L=ps at *
    by_cases hA:to∈room::rs
    ·have fz:=fin0 (.inl hA)
     rw[decide_eq_true hA]at hmt
     subst hLP
     cases hgt:decide ((most:Int)<((tight+(c+bt):Nat):Int))<;>
     ·refine kC hbc rfl ?_
      (have hb:=trivial;with_reducible repeat' (first|simp only[hb,Vc.down,seval,Xn.down,k8,g2',g3',g4',g5',g7',g8',gb0,Iz,hi12,hp24,hpl24,htk,htt,hbit,hbit',hmt,hbt,htN',hw1,hw2,hgt,hself,hback]|refine Be ?_ ?_<;>intro hb|refine fd ?_|fail))
      exact⟨_,_,rfl,fz⟩
    ·rw[decide_eq_false hA]at hmt
     by_cases hB:most<tight+c+bt
     ·have fz:=fin0 (.inr hB)
      have hgt:decide ((most:Int)<((tight+(c+bt):Nat):Int))=true:=decide_eq_true (by omega)
      subst hLP
      refine kC hbc rfl ?_
      (have hb:=trivial;with_reducible repeat' (first|simp only[hb,Vc.down,seval,Xn.down,k8,g2',g3',g4',g5',g7',g8',gb0,Iz,hi12,hp24,hpl24,htk,htt,hbit,hbit',hmt,hbt,htN',hw1,hw2,hgt,hself,hback]|refine Be ?_ ?_<;>intro hb|refine fd ?_|fail))
      exact⟨_,_,rfl,fz⟩
     ·have hgt:decide ((most:Int)<((tight+(c+bt):Nat):Int))=false:=decide_eq_false (by omega)
      have hj:=I2
      have hjl:=fun b hb=>(jQ.lt b hb).1
      subst hLP
      have hl10:=Ac j9
      have ll:∀X:CB,((Eg h').set (H.length+4) X).length=h'.length:=fun X=>by simp[As]
      have an:∀(X c:CB),((Eg h').set (H.length+4) X++[c])[h'.length]?=some c:=fun X c=>by
       rw[acE (by rw[ll];exact af4 _),ll,Nat.sub_self];rfl
      have a6:=fun X l=>Ai (g6' X) l
      have s6:=fun X=>Gu (b:=6) (h:=(Eg h').set (H.length+4) X) (by rw[ll];omega)
      have a9:∀X c l,(((Eg h').set (H.length+4) X).set 6 c++l)[9]?=some (.live 1 false false [[.func q1 [] srA]]):=fun X c l=>by
       rw[ab9 (by simp[As];omega),ab8 (by omega)];exact g9' X
      rcases jQ with⟨rfl,hpe⟩|⟨b0,w0,rows0,rfl,jb,jt,jle⟩
      ·refine kC hbc rfl ?_
       (have hb:=trivial;with_reducible repeat' (first|simp only[hb,Vc.down,seval,Xn.down,k8,g2',g3',g4',g5',g6',g7',g8',g9',gb0,Iz,hi12,hp24,hpl24,htk,htt,hbit,hbit',hmt,hbt,htN',hw1,hw2,hgt,an,a6,s6,a9,ll]|refine Be ?_ ?_<;>intro hb|refine fd ?_|fail))
       generalize hLB:CB.lp _ _ _ _ Hw.busy=LB
       have hLBq:LB.quiet LB.clean=true:=by rw[←hLB];rfl
       obtain⟨M,hM⟩:∃M,((Eg h').set (H.length+4) LB).set 6 (CB.live 1 false true [[.slr 1 (h'.length+1) 0 1]])++[CB.live 1 true false [[.int .i64 (i:Int)]],CB.live 1 true false [[.int .i64 (i:Int)]]]=M:=⟨_,rfl⟩
       have hWM:WyM h' (H.length+4) .nils path i LB M:=by
        subst hpe
        rw[←hM]
        refine⟨by simp[As],Bi (Ar (Ar (Ft I.q) _ hLBq) _ rfl) rfl,fun b hb n6 nB _=>?_,?_,fun b hb=>by simp[Dz]at hb,?_,?_⟩
        ·rw[ab9 (by simp[As];omega),ab8 (fun e=>n6 e.symm),ab8 (fun e=>nB e.symm)]
        ·rw[ab9 (by simp[As];omega),acB (by simp[As];omega)];rfl
        ·rw[ab9 (by simp[As];omega),ab8 (by omega)];exact hself LB
        ·rw[acE (by simp[As])];simp[As,Ci]
       rw[hM]
       have W2:=hWM.W (by omega) W'
       have K:=ih (room::rs) to (tight+c) (path++[i]) _ (Eg M) (Ft hWM.q) W2.cln htN (acF.2 ⟨hA,hnd⟩) (fun r hr1=>by
        rcases acA.1 hr1 with rfl|hr1
        ·exact hrN
        ·exact hlt r hr1) (by omega) (by simp[hpl]) (by simp;omega)
       obtain⟨o,es,G,c1,c2,c3⟩:=oK hWM.q W2 K
       rw[hq1]at c1
       rw[if_neg (fun h=>h.elim hA hB)]at hstep
       have hw3:IntKind.i64.wrap (((path.length+1:Nat):Int)-1)=(path.length:Int):=by
        have:=Ku N rs (acF.1 hnd).2 hlt
        have:=Ee (n:=(path.length:Int)) (by omega) (by omega)
        rw[show(((path.length+1:Nat):Int)-1)=(path.length:Int) by omega];exact this
       have hsl:=yX
       cases hres:Td (Fz w (Ww L)) (fun v=>bk.getD v 0) most f (tight+c) (to::room::rs) to with
       |none=>
        rw[hres]at c3 hstep
        obtain⟨b3,fl3,x3,n6,nB,rfl,fz⟩:=zR I hLc hLq (by omega) hQ W' I2 hWM c3 hstep
        have nB2:∀X,(G.set 6 X)[H.length+4]?=some LB:=fun X=>by rw[ab8 (by omega)];exact nB
        subst hLB
        (have hb:=trivial;with_reducible repeat' (first|simp only[hb,Vc.down,seval,Xn.down,c1,c2,n6,nB,nB2,hw3,hsl]|refine Be ?_ ?_<;>intro hb|refine fd ?_|fail))
        exact⟨_,_,rfl,fz _⟩
       |some l=>
        rw[hres]at c3 hstep
        obtain⟨⟨x3,n1⟩,nB,rfl,fz⟩:=rP I hLl (by omega) hQ W' I2 hWM c3 hstep (by rfl)
        have nB2:∀X,(G.set (H.length+1) X)[H.length+4]?=some LB:=fun X=>by rw[ab8 (by omega)];exact nB
        subst hLB
        (have hb:=trivial;with_reducible repeat' (first|simp only[hb,Vc.down,seval,Xn.down,c1,c2,n1,nB,nB2,wN]|refine Be ?_ ?_<;>intro hb|refine fd ?_|fail))
        exact⟨_,_,rfl,fz⟩
      ·have hb4:b0≠H.length+4:=by
        have h:=hj b0 (by simp[Dz])
        rcases h with h|h
        ·have:=(hQ.lt b0 h).1;omega
        ·omega
       have gbb:=fun X=>hne2 b0 _ X hb4 jb
       simp only[CB.clean]at gbb
       have hbl:=hjl b0 (by simp[Dz])
       have h39:path.length+1≤549755813888:=by have:=Ku N rs (acF.1 hnd).2 hlt;omega
       have hap:=fun base=>ahO (w:=false) (b:=b0) jt jle h39 i base
       obtain⟨Cb,hCb⟩:∃c,CB.live 1 true false rows0=c:=⟨_,rfl⟩
       rw[hCb]at gbb hap
       have hb10:=jv b0 (by simp[Dz])
       have ab:=fun X l=>Ai (gbb X) l
       have sb:=fun X=>Gu (b:=b0) (h:=(Eg h').set (H.length+4) X) (by rw[ll];omega)
       have c6:∀X l,(((Eg h').set (H.length+4) X).set b0 .dead++l)[6]?=some (.live 1 fl6 false [[.slr 1 b0 0 path.length]]):=fun X l=>by
        rw[ab9 (by simp[As];omega),ab8 (by omega)];exact g6' X
       have t6:=fun X=>Gu (b:=6) (h:=((Eg h').set (H.length+4) X).set b0 .dead) (by simp[As];omega)
       have c9:∀X c l,((((Eg h').set (H.length+4) X).set b0 .dead).set 6 c++l)[9]?=some (.live 1 false false [[.func q1 [] srA]]):=fun X c l=>by
        rw[ab9 (by simp[As];omega),ab8 (by omega),ab8 (by omega)];exact g9' X
       refine kC hbc rfl ?_
       (have hb:=trivial;with_reducible repeat' (first|simp only[hb,Vc.down,seval,Xn.down,k8,g2',g3',g4',g5',g6',g7',g8',g9',gb0,gbb,Iz,hi12,hp24,hpl24,htk,htt,hbit,hbit',hmt,hbt,htN',hw1,hw2,hgt,an,a6,ab,sb,c6,t6,c9,ll,hap]|refine Be ?_ ?_<;>intro hb|refine fd ?_|fail))
       generalize hLB:CB.lp _ _ _ _ Hw.busy=LB
       have hLBq:LB.quiet LB.clean=true:=by rw[←hLB];rfl
       obtain⟨M,hM⟩:∃M,(((Eg h').set (H.length+4) LB).set b0 .dead).set 6 (CB.live 1 false true [[.slr 1 (h'.length+1) 0 (path.length+1)]])++[CB.live 1 true false [[.int .i64 (i:Int)]],CB.live 1 true false ((path++[i]).map Ci)]=M:=⟨_,rfl⟩
       have hWM:WyM h' (H.length+4) (.slr 1 b0 0 path.length) path i LB M:=by
        rw[←hM]
        refine⟨by simp[As],Bi (Ar (Ar (Ar (Ft I.q) _ hLBq) _ rfl) _ rfl) (by simp only[Ao,adL];rfl),fun b hb n6 nB nb=>?_,?_,fun b hb=>?_,?_,?_⟩
        ·rw[ab9 (by simp[As];omega),ab8 (fun e=>n6 e.symm),ab8 (fun e=>nb (by rw[←e];simp[Dz])),ab8 (fun e=>nB e.symm)]
        ·rw[ab9 (by simp[As];omega),acB (by simp[As];omega)]
        ·simp[Dz]at hb;subst hb
         rw[ab9 (by simp[As];omega),ab8 (by omega),acB (by simp[As];omega)]
        ·rw[ab9 (by simp[As];omega),ab8 (by omega),ab8 hb4];exact hself LB
        ·rw[acE (by simp[As])];simp[As]
       rw[hM]
       have W2:=hWM.W (by omega) W'
       have K:=ih (room::rs) to (tight+c) (path++[i]) _ (Eg M) (Ft hWM.q) W2.cln htN (acF.2 ⟨hA,hnd⟩) (fun r hr1=>by
        rcases acA.1 hr1 with rfl|hr1
        ·exact hrN
        ·exact hlt r hr1) (by omega) (by simp[hpl]) (by simp;omega)
       obtain⟨o,es,G,c1,c2,c3⟩:=oK hWM.q W2 K
       rw[hq1]at c1
       rw[if_neg (fun h=>h.elim hA hB)]at hstep
       have hw3:IntKind.i64.wrap (((path.length+1:Nat):Int)-1)=(path.length:Int):=by
        have:=Ku N rs (acF.1 hnd).2 hlt
        have:=Ee (n:=(path.length:Int)) (by omega) (by omega)
        rw[show(((path.length+1:Nat):Int)-1)=(path.length:Int) by omega];exact this
       have hsl:=yX
       cases hres:Td (Fz w (Ww L)) (fun v=>bk.getD v 0) most f (tight+c) (to::room::rs) to with
       |none=>
        rw[hres]at c3 hstep
        obtain⟨b3,fl3,x3,n6,nB,rfl,fz⟩:=zR I hLc hLq (by omega) hQ W' I2 hWM c3 hstep
        have nB2:∀X,(G.set 6 X)[H.length+4]?=some LB:=fun X=>by rw[ab8 (by omega)];exact nB
        subst hLB
        (have hb:=trivial;with_reducible repeat' (first|simp only[hb,Vc.down,seval,Xn.down,c1,c2,n6,nB,nB2,hw3,hsl]|refine Be ?_ ?_<;>intro hb|refine fd ?_|fail))
        exact⟨_,_,rfl,fz _⟩
       |some l=>
        rw[hres]at c3 hstep
        obtain⟨⟨x3,n1⟩,nB,rfl,fz⟩:=rP I hLl (by omega) hQ W' I2 hWM c3 hstep (by rfl)
        have nB2:∀X,(G.set (H.length+1) X)[H.length+4]?=some LB:=fun X=>by rw[ab8 (by omega)];exact nB
        subst hLB
        (have hb:=trivial;with_reducible repeat' (first|simp only[hb,Vc.down,seval,Xn.down,c1,c2,n1,nB,nB2,wN]|refine Be ?_ ?_<;>intro hb|refine fd ?_|fail))
        exact⟨_,_,rfl,fz⟩
   obtain⟨o,G,es,e1,e2,_,z1⟩:=sA round (fun o G h=>h.1)
   rcases z1 with⟨rfl,z1⟩|⟨rfl,z1⟩
   ·exact .inl ⟨es,e1,by rw[e2];exact z1⟩
   ·exact .inr ⟨es,e1,by rw[e2];exact z1⟩
  ·intro i p h' hpx n1 n3 I
   have hpo:=hw.part p (agY hpx)
   obtain⟨pc,hpc⟩:∃x,L[i]?=some x:=⟨_,acC (by have:=(afD.1 hpx).1;omega)⟩
   have he:=iF hpx hpc
   refine { I with ans:=?_ }
   rw[I.ans,fH he]
   have:dK (p.one.toNat,p.other.toNat,if rY pc=true then 1 else 0) room=none:=by
    unfold dK;rw[if_neg (by simp only;omega),if_neg (by simp only;omega)]
   simp only[wyR,this]
  ·have hLc:LP.clean=LP:=by rw[←hLP];rfl
   have hLq:LP.quiet LP=true:=by rw[←hLP];rfl
   have hvl:=fun b hb=>(hQ.lt b hb).1
   have W7:Ym w N d L bk most (room::rs) v path (H.set 7 (.live 1 true true r2)):=by
    have ne:∀(b:Nat) (c:CB),b≠7→H[b]?=some c→(H.set 7 (.live 1 true true r2))[b]?=some c:=fun b c hb1 h=>by rw[ab8 (fun e=>hb1 e.symm)];exact h
    exact⟨⟨_,ne _ _ (by omega) h0⟩,⟨_,ne _ _ (by omega) h1⟩,⟨_,ne _ _ (by omega) h2⟩,⟨_,ne _ _ (by omega) h3⟩,⟨_,ne _ _ (by omega) h4⟩,⟨_,ne _ _ (by omega) h5⟩,⟨_,_,ne _ _ (by omega) h6⟩,⟨true,by rw[hr2];exact acB (by omega)⟩,⟨_,ne _ _ (by omega) h8⟩,⟨_,ne _ _ (by omega) h9⟩,hQ.keep fun b hb1 w0 rows h=>⟨w0,ne _ _ (by have:=hv b hb1;omega) h⟩,hv⟩
   have ca:∀j,(Eg (H.set 7 (.live 1 true true r2))++[CB.live 1 true false [[.int .i64 (tight:Int)]],.live 1 true false [[.bool false]],.live 1 false false [[.ptr 0 0 0]],.live 1 true false [[.int .i64 (room:Int)]],LP])[H.length+j]?=[CB.live 1 true false [[.int .i64 (tight:Int)]],.live 1 true false [[.bool false]],.live 1 false false [[.ptr 0 0 0]],.live 1 true false [[.int .i64 (room:Int)]],LP][j]?:=fun j=>by
    have hl:(Eg (H.set 7 (.live 1 true true r2))).length=H.length:=by simp[Eg]
    rw[acE (by rw[hl];omega),hl,agD]
   have hqq:Ao [CB.live 1 true false [[.int .i64 (tight:Int)]],.live 1 true false [[.bool false]],.live 1 false false [[.ptr 0 0 0]],.live 1 true false [[.int .i64 (room:Int)]],LP]=true:=by simp only[Ao,adL,hLc,hLq];rfl
   have hq1:Ao (H.set 7 (.live 1 true true r2))=true:=Ar hq _ rfl
   have hok:=Ld.cl (Bi hq1 hqq)
   rw[hh1,←hh1,show Eg (H.set 7 (.live 1 true true r2)++[CB.live 1 true false [[.int .i64 (tight:Int)]],.live 1 true false [[.bool false]],.live 1 false false [[.ptr 0 0 0]],.live 1 true false [[.int .i64 (room:Int)]],LP])=Eg (H.set 7 (.live 1 true true r2))++[CB.live 1 true false [[.int .i64 (tight:Int)]],.live 1 true false [[.bool false]],.live 1 false false [[.ptr 0 0 0]],.live 1 true false [[.int .i64 (room:Int)]],LP] by simp only[Eg,List.map_append,List.map_cons,List.map_nil,hLc];rfl,hh1]at hok
   exact⟨⟨v,W7.cln.app _,fun b hb1=>.inl hb1⟩,by rw[uL e1];rfl,⟨false,ca 0⟩,⟨false,ca 1⟩,⟨false,ca 2⟩,⟨false,ca 3⟩,ca 4,by simp[Eg],Bi (Ft hq1) hqq,hok,fun b hb1 hb2=>by
    rw[ab9 (by simpa [Eg]using hb1)]
    simp only[Eg,ag5]
    rw[ab8 (fun e=>hb2 (by rw[←e];simp))]⟩
  ·rintro o h' ⟨rfl,I|I⟩
   ·obtain⟨v',I1,I2⟩:=I.W
    obtain⟨y1,I4⟩:=I.b1
    have kO:=I.ok
    have hnone:Td (Fz w (Ww L)) (fun v=>bk.getD v 0) most (f+1) tight (room::rs) room=none:=by
     rw[I.ans,List.drop_eq_nil_of_le (by simp[Fz,Ww];omega)];rfl
    have hLc:LP.clean=LP:=by rw[←hLP];rfl
    have hLq:LP.quiet LP=true:=by rw[←hLP];rfl
    have ca:∀j,h1'[H.length+j]?=[CB.live 1 true false [[.int .i64 (tight:Int)]],.live 1 true false [[.bool false]],.live 1 false false [[.ptr 0 0 0]],.live 1 true false [[.int .i64 (room:Int)]],LP][j]?:=fun j=>by
     have hl:(H.set 7 (.live 1 true true r2)).length=H.length:=by simp
     rw[←hh1,acE (by rw[hl];omega),hl,agD]
    have hqq:Ao h1'=true:=by
     rw[←hh1];exact Bi (Ar hq _ rfl) (by simp only[Ao,adL,hLc,hLq];rfl)
    have hln:h1'.length=H.length+5:=by rw[←hh1];simp
    obtain⟨es,e2,e3⟩:=Oe h1' h' [] kO.sh
    have e2':Cd 0 h1' h'=some es:=e2
    simp only[acG]at e3
    have mW:=I1.okw kO
    obtain⟨z1,m1'⟩:=kO.live I4
    have mB:=Ld.old (ca 4) I.b4 hLq
    have mqt:=kO.quiet hqq I.q
    have mln:(Gk h1' h').length=h'.length:=Ju kO.1
    have mS:∀b,b<H.length→b∉6::7::Dz v→(Gk h1' h')[b]?=H[b]?:=fun b hb1 hb2=>by
     have g0:H[b]?=some H[b]:=acC hb1
     have g1:h1'[b]?=some H[b]:=by
      rw[←hh1,ab9 (by simpa using hb1),ab8 (fun e=>hb2 (by rw[←e];simp))];exact g0
     have g2:=I.same b hb1 hb2
     rw[Bl g0]at g2
     rw[Gm g1 g2 (Bn hq g0),g0]
    have mP:∀b∈6::7::Dz v,b<H.length:=fun b hb1=>by
     rcases acA.1 hb1 with rfl|hb1
     ·exact Ac h6
     ·rcases acA.1 hb1 with rfl|hb1
      ·exact Ac h7
      ·exact(hQ.lt b hb1).1
    have mX:∀b∈6::Dz v,(Gk h1' h')[b]?=H[b]?∨∃c,(Gk h1' h')[b]?=some c∧Wrt c:=fun b hb1=>by
     have hb2:=mP b (by rcases acA.1 hb1 with rfl|hb1;simp;simp[hb1])
     have hb7:b≠7:=by
      rcases acA.1 hb1 with rfl|hb1
      ·omega
      ·have:=hv b hb1;omega
     have:=kO.p6 (b:=b) (by rw[hln];omega)
     rwa[show h1'[b]?=H[b]? by rw[←hh1,ab9 (by simpa using hb2),ab8 (fun e=>hb7 e.symm)]]at this
    have hlen:=I.len
    rw[hnone]
    rw[hh1,Vh]
    simp only[hh1]at *
    rw[e2']
    generalize hM:Gk h1' h'=M at *
    have dne:∀(b:Nat) (c:CB),b≠H.length+4→M[b]?=some c→(M.set (H.length+4) .dead)[b]?=some c:=fun b c hn hc=>by rw[ab8 (fun e=>hn e.symm)];exact hc
    have hvb:∀b∈Dz v',b≠H.length+4:=fun b hb1=>by
     rcases I2 b hb1 with h|h
     ·have:=(hQ.lt b h).1;omega
     ·omega
    have dW:Ym w N d L bk most (room::rs) v' path (M.set (H.length+4) .dead):=mW.keep fun b st fl x rows hb1 h=>⟨x,dne b _ (by rcases hb1 with h|h;omega;exact hvb b h) h⟩
    have d1:=dne _ _ (by omega) m1'
    have dq:Ao (M.set (H.length+4) .dead)=true:=Ar mqt _ rfl
    have dS:∀b,b<H.length→b∉6::7::Dz v→(M.set (H.length+4) .dead)[b]?=H[b]?:=fun b hb1 hb2=>by rw[ab8 (by omega)];exact mS b hb1 hb2
    have dl:(M.set (H.length+4) .dead).length=h'.length:=by simp[mln]
    subst hLP
    (have hb:=trivial;with_reducible repeat' (first|simp only[hb,Vc.down,seval,Xn.down,e3,mB]|refine Be ?_ ?_<;>intro hb|refine fd ?_|fail))
    generalize hD:M.set (H.length+4) CB.dead=D at *
    obtain⟨a8,g8⟩:=dW.h8
    obtain⟨a7,g7⟩:=dW.h7
    rw[hr2]at g7
    have hu:=nT (N:=N) hrr
    rw[hr2]at hu
    have hmr2:r2[room]?=some [.bool true]:=by rw[←hr2,Kt _ hrN];simp
    have w1:∀c,(D.set 7 c)[H.length+1]?=some (.live 1 true z1 [[.bool false]]):=fun c=>by rw[ab8 (by omega)];exact d1
    have w2:∀c c2,((D.set 7 c).set (H.length+1) c2)[H.length+1]?=some c2:=fun c c2=>acB (by simp;omega)
    obtain⟨r0,hr0⟩:∃r,(Pe N rs).map Hu=r:=⟨_,rfl⟩
    rw[hr0]at hu
    (have hb:=trivial;with_reducible repeat' (first|simp only[hb,Vc.down,seval,Xn.down,g8,g7,hmr2,hu,w1,w2,o1,agW]|refine Be ?_ ?_<;>intro hb|refine fd ?_|fail))
    have fne:∀b,b≠7→b≠H.length+1→((D.set 7 (CB.live 1 true true r0)).set (H.length+1) (CB.live 1 true true [[.bool false]]))[b]?=D[b]?:=fun b n1 n3=>by rw[ab8 (fun e=>n3 e.symm),ab8 (fun e=>n1 e.symm)]
    have dne2:∀b,b<H.length→D[b]?=M[b]?:=fun b hb1=>by rw[←hD,ab8 (by omega)]
    refine⟨⟨by simp;omega,fun b hb1 hb2=>by rw[fne b (fun e=>hb2 (by rw[e];simp)) (by omega)];exact dS b hb1 hb2⟩,Ar (Ar dq _ rfl) _ rfl,fun b hb1=>?_,rfl,v',?_,fun b hb1=>(I2 b hb1).imp id (fun h=>by omega)⟩
    ·by_cases e7:b=7
     ·subst e7
      exact .inr ⟨_,by rw[ab8 (by omega),acB (by omega)],.inl ⟨_,_,_,rfl⟩⟩
     ·have hb2:=mP b hb1
      rw[fne b e7 (by omega),dne2 b hb2]
      refine mX b ?_
      rcases acA.1 hb1 with rfl|hb1
      ·simp
      ·rcases acA.1 hb1 with rfl|hb1
       ·exact absurd rfl e7
       ·simp[hb1]
    ·rw[←hr0]
     refine(dW.set7 true).keep fun b st fl x rows hb1 h=>⟨x,?_⟩
     rw[ab8 (fun e=>?_)]
     ·exact h
     ·subst e
      rcases hb1 with hb1|hb1
      ·omega
      ·rcases I2 _ hb1 with h|h
       ·have:=(hQ.lt _ h).1;omega
       ·omega
   ·obtain⟨l,v',fl',x',hans,I1,I2,I3⟩:=I.W
    obtain⟨y1,I4⟩:=I.b1
    obtain⟨ps,ca1,ca2,tm,I5⟩:=I.b4
    have hLc:LP.clean=LP:=by rw[←hLP];rfl
    have hLq:LP.quiet LP=true:=by rw[←hLP];rfl
    have hLl:LP.isLive=true:=by rw[←hLP];rfl
    have hLd:LP.quiet (.lp ps ca1 ca2 tm (.done .ret))=false:=by rw[←hLP];rfl
    have ca:∀j,h1'[H.length+j]?=[CB.live 1 true false [[.int .i64 (tight:Int)]],.live 1 true false [[.bool false]],.live 1 false false [[.ptr 0 0 0]],.live 1 true false [[.int .i64 (room:Int)]],LP][j]?:=fun j=>by
     have hl:(H.set 7 (.live 1 true true r2)).length=H.length:=by simp
     rw[←hh1,acE (by rw[hl];omega),hl,agD]
    have hB:h1'[H.length+4]?=some LP:=ca 4
    have hqq:Ao h1'=true:=by
     rw[←hh1];exact Bi (Ar hq _ rfl) (by simp only[Ao,adL,hLc,hLq];rfl)
    have hln:h1'.length=H.length+5:=by rw[←hh1];simp
    have kO:=I.ok
    have hlen:=I.len
    have sh:eA h1' h':=⟨by rw[hln];exact hlen,fun b c0 c g0 g1=>by
     by_cases e:b=H.length+4
     ·subst e;rw[hB]at g0;cases g0;exact .inr hLl
     ·exact kO.sh.2 b c0 c (by rw[ab8 (fun h=>e h.symm)];exact g0) (by rw[ab8 (fun h=>e h.symm)];exact g1)⟩
    obtain⟨es,e2,e3⟩:=Oe h1' h' [] sh
    have e2':Cd 0 h1' h'=some es:=e2
    simp only[acG]at e3
    have mB:(Gk h1' h')[H.length+4]?=some (.lp ps ca1 ca2 tm (.done .ret)):=Lt hB I5 hLd
    have mD:=bR h1' h' (H.length+4) sh.1
    have ne4:∀(b:Nat) (c:CB),b≠H.length+4→h'[b]?=some c→(h'.set (H.length+4) .dead)[b]?=some c:=fun b c hn hc=>by rw[ab8 (fun e=>hn e.symm)];exact hc
    have hvb:∀b∈Dz v',b≠H.length+4:=fun b hb1=>by
     rcases I3 b hb1 with h|h
     ·have:=(hQ.lt b h).1;omega
     ·omega
    have hl6:=Ac h6
    obtain⟨z6,m6⟩:=kO.live (ne4 6 _ (by omega) I1)
    obtain⟨z1,m1'⟩:=kO.live (ne4 _ _ (by omega) I4)
    have mO:=OS.okw kO (I2.keep fun b hb1 w0 rows h=>⟨w0,ne4 b _ (hvb b hb1) h⟩)
    have mq:=kO.quiet (Ar hqq _ rfl) I.q
    have mln:(Gk (h1'.set (H.length+4) .dead) (h'.set (H.length+4) .dead)).length=h'.length:=by rw[Ju kO.1];simp
    have g1':∀b,b<H.length→(h1'.set (H.length+4) .dead)[b]?=(H.set 7 (.live 1 true true r2))[b]?:=fun b hb1=>by
     rw[ab8 (by omega),←hh1,ab9 (by simpa using hb1)]
    have mS:∀b,b<H.length→b∉6::7::Dz v→(Gk (h1'.set (H.length+4) .dead) (h'.set (H.length+4) .dead))[b]?=H[b]?:=fun b hb1 hb2=>by
     have g0:H[b]?=some H[b]:=acC hb1
     have g1:(h1'.set (H.length+4) .dead)[b]?=some H[b]:=by rw[g1' b hb1,ab8 (fun e=>hb2 (by rw[←e];simp)),g0]
     have g2:=I.same b hb1 hb2
     rw[Bl g0]at g2
     rw[Gm g1 (ne4 b _ (by omega) g2) (Bn hq g0),g0]
    have mP:∀b∈6::7::Dz v,b<H.length:=fun b hb1=>by
     rcases acA.1 hb1 with rfl|hb1
     ·exact Ac h6
     ·rcases acA.1 hb1 with rfl|hb1
      ·exact Ac h7
      ·exact(hQ.lt b hb1).1
    have mX:∀b∈6::7::Dz v,(Gk (h1'.set (H.length+4) .dead) (h'.set (H.length+4) .dead))[b]?=H[b]?∨∃c,(Gk (h1'.set (H.length+4) .dead) (h'.set (H.length+4) .dead))[b]?=some c∧Wrt c:=fun b hb1=>by
     have hb2:=mP b hb1
     rcases kO.p6 (b:=b) (by simp[hln];omega)with h|h
     ·by_cases e7:b=7
      ·subst e7
       rw[g1' 7 hb2,acB hb2]at h
       exact .inr ⟨_,h,.inl ⟨_,_,_,rfl⟩⟩
      ·rw[g1' b hb2,ab8 (fun e=>e7 e.symm)]at h
       exact .inl h
     ·exact .inr h
    rw[←mD]at m6 m1' mO mq mln mS mX
    rw[hans,hh1,Vh]
    simp only[hh1]at *
    rw[e2']
    generalize hM:Gk h1' h'=M at *
    subst hLP
    (have hb:=trivial;with_reducible repeat' (first|simp only[hb,Vc.down,seval,Xn.down,e3,mB,afO]|refine Be ?_ ?_<;>intro hb|refine fd ?_|fail))
    generalize hD:M.set (H.length+4) CB.dead=D at *
    (have hb:=trivial;with_reducible repeat' (first|simp only[hb,Vc.down,seval,Xn.down,m1']|refine Be ?_ ?_<;>intro hb|refine fd ?_|fail))
    exact⟨⟨by omega,fun b hb1 hb2=>mS b hb1 hb2⟩,mq,mX,rfl,fl',z6,v',m6,mO,fun b hb1=>(I3 b hb1).imp id (fun h=>by omega)⟩
theorem anT{w:Au}{N:Nat}(hw:mI w N)(h12:w.parts.length≤12){d:Int}{L:List (Int × Bool)}(hL12:L.length=12){most:Nat}(hmo:most≤1000){wf:Bool}{l:List Nat}(hl:Ik (Fz w (Ww L)) N most [0] 0=some l)(hl0:l≠[]):
 vL Fe 38 [.ptr 0 0 0,.agg (Hn L),.int .i64 (most:Int)] [.live 4 false wf [[.int .i64 w.rooms,.int .i64 w.need,Bv 9 true w.nn (w.parts.map Ae.cells),.int .i64 d]]] fun o h'=>∃x rows,o=.ret (.slr 1 1 0 l.length)∧h'=[.live 4 false wf [[.int .i64 w.rooms,.int .i64 w.need,Bv 9 true w.nn (w.parts.map Ae.cells),.int .i64 d]],.live 1 true x rows]∧rows.take l.length=l.map Ci∧l.length≤rows.length:=by
 have hr:=hw.rooms
 have n2:=hw.n2
 have n8:=hw.n8
 obtain⟨o,h',hc,f,ds,rfl,rfl,hdl,hR⟩:=Rn hw h12 (d:=d) (s:=1) (by omega) hL12 rfl (wf:=false)
 have hf1:=cF L
 have hf2:=cO L
 have hpl:(Hn L).length=24:=by rw[Me];omega
 have hav:=nJ L
 have hlv:=nO L
 have hrf:=oJ L
 have htk:List.take 24 (Hn L)=Hn L:=agT (by omega)
 obtain⟨bk,hbk⟩:∃r,ds.map Ci=r:=⟨_,rfl⟩
 rw[hbk]at hc
 have hln:bk.length=N:=by rw[←hbk];simp[hdl]
 simp only[Int.natCast_one]at hc
 refine pF rfl Tryd.func38 rfl rfl ?_
 simp only[Tryd.f38]
 rw[hr]at hc ⊢
 have h39:(N≤549755813888)=True:=eq_true (by omega)
 have m1:((N:Int)≤(N:Int))=True:=eq_true (Int.le_refl _)
 have m2:((N:Int)≤1099511627776)=True:=eq_true (by omega)
 obtain⟨q1,hq1⟩:∃q,Fn.func 61=q:=⟨_,rfl⟩
 obtain⟨M,hM⟩:∃M:Aa,[CB.live 4 false wf [[.int .i64 (N:Int),.int .i64 w.need,Bv 9 true w.nn (w.parts.map Ae.cells),.int .i64 d]],.live 1 false false [[.ptr 0 0 0]],.live 24 true false [Hn L],.live 1 true false [[.int .i64 (most:Int)]],.live 1 true f bk,.live 1 false true [[.slr 1 4 0 N]],.live 1 false false [[.nils]],.live 1 true false (ahG N [.bool false]),.live 1 false true [[.slr 1 7 0 N]],.live 1 false true [[.func (.func 61) [] [.ptr 8 0 0,.ptr 1 0 0,.ptr 2 0 0,.ptr 5 0 0,.ptr 3 0 0,.ptr 6 0 0,.ptr 9 0 0]]]]=M:=⟨_,rfl⟩
 have hmt:(Pe N []).map Hu=ahG N [.bool false]:=by
  refine List.ext_getElem? fun v=>?_
  by_cases hv:v<N
  ·rw[Kt _ hv,ajU,if_pos hv];simp
  ·rw[dG _ hv,ajU,if_neg hv]
 have hW:Ym w N d L ds most [] .nils [] M:=by
  rw[←hM,hbk.symm]
  exact⟨⟨wf,by rw[hr];rfl⟩,⟨_,rfl⟩,⟨_,rfl⟩,⟨_,rfl⟩,⟨_,rfl⟩,⟨_,rfl⟩,⟨_,_,rfl⟩,⟨_,by rw[hmt];rfl⟩,⟨_,rfl⟩,⟨_,rfl⟩,.inl ⟨rfl,rfl⟩,fun b hb=>by simp[Dz]at hb⟩
 have hq:Ao M=true:=by rw[←hM];rfl
 have hEo:=Ll hw (Ww L)
 have hLe:∀v k,Xj (Fz w (Ww L)) 1 v k→k<Dc:=fun v k h=>by
  have:=Xj.le (N:=N) (by omega) (fun a b c h=>⟨(hEo a b c h).1,(hEo a b c h).2.1⟩) (fun a b c h=>(hEo a b c h).2.2.2) h
  unfold Dc;omega
 have hwp:Td (Fz w (Ww L)) (fun v=>ds.getD v 0) most N 0 [0] 0=some l:=by
  rw[abY hEo hR hLe (by unfold Dc;omega) N 0 [0] 0 (by omega)];simpa using hl
 have hbb:∀x∈ds,x≤Dc:=by
  intro x hx
  obtain⟨i,hi⟩:=List.getElem?_of_mem hx
  have hil:i<N:=by rw[←hdl];exact(afD.1 hi).1
  have e:ds.getD i 0=x:=by rw[acI,hi];rfl
  obtain⟨r1,r2⟩:=hR i hil
  simp only[e]at r1 r2
  by_cases hc1:∃k,aU (Fz w (Ww L)) 1 i k
  ·obtain⟨k,hk⟩:=hc1
   obtain⟨j,hj⟩:=Xj.ex hk
   have h1:=r1 j hj
   have h2:=hLe i j hj
   omega
  ·exact Nat.le_of_eq (r2 fun k hk=>hc1 ⟨k,hk⟩)
 have K:=ahC hw h12 hL12 hdl hbb hmo N [] 0 0 [] .nils (Eg M) (Ft hq) hW.cln (by omega) (by simp) (by simp) (by omega) rfl (by simp)
 obtain⟨o,es,G,c1,c2,c3⟩:=oK hq hW K
 rw[hq1]at c1
 obtain⟨x9,n9⟩:=hW.h9
 rw[hq1]at n9
 simp only[ajX]at c1
 rw[hwp]at c3
 obtain⟨kk,gq,gp,rfl,fl,x6,v,g6,hO,gv⟩:=c3
 rcases hO with⟨_,h⟩|⟨b3,w3,rows3,rfl,hb3,ht3,hl3⟩
 ·exact absurd (by simpa using h) hl0
 simp only[acG]at hl3 ht3 g6
 have hb0:10≤b3:=by
  have:=gv b3 (by simp[Dz])
  rw[←hM]at this
  simpa [Dz]using this
 have g0:G[0]?=M[0]?:=kk.same 0 (by rw[←hM];simp) (by simp[Dz])
 rw[show M[0]?=some (.live 4 false wf [[.int .i64 (N:Int),.int .i64 w.need,Bv 9 true w.nn (w.parts.map Ae.cells),.int .i64 d]]) by rw[←hM];rfl]at g0
 have e0:(b3==0)=false:=by simp;omega
 have e1:(0==b3)=false:=by simp;omega
 have e2:(b3=0)=False:=eq_false (by omega)
 have e3:(0=b3)=False:=eq_false (by omega)
 (have hb:=trivial;with_reducible repeat' (first|simp only[hb,Vc.down,seval,aoS.down,hpl,hf1,hf2,htk,hav,hlv,hrf,hc,hln,h39,m1,m2,hM,n9,c1,c2,g6,g0,hb3,e0,e1,e2,e3,agW]|refine Be ?_ ?_<;>intro hb|refine fd ?_|fail))
 exact⟨w3,rows3,rfl,ht3,hl3⟩
theorem jV{d:Nat}{h:Aa}{v:AV}{p:AV × List Nat}{l:Aa}(hr:rd (d+1) (hf h) v=some p)(hd:d+1≤9:=by omega):rd (d+1) (hf (h++l)) v=some p:=by
 have:=ac7 (g':=hf (h++l)) (nZ hr xE) fun j hj z hz=>by
  show((h++l)[j]?).bind Aw=_
  rw[ab9 (aiU hd (nZ hr xE) j hj)];exact hz
 obtain⟨a,l',R1,R2,e,h1,h2,h3⟩:=jA this
 cases e
 obtain⟨_,rfl⟩:=rZ h2
 simp at h3
 rw[h1,←h3]
theorem kL(w:Au)(hs:w.small)(d:Int)(h0:(Pq w&&Xk d)=false):Fe.call (.fn 11) [.agg [.int .i64 w.rooms,.int .i64 w.need,Bv 9 true w.nn (w.parts.map Ae.cells)],.int .i64 d] []=some (.ret (.tup [.nils,.nils,.int .i64 2]),[]):=by
 have h1:=qU w hs d
 rw[h0]at h1
 (refine ce Tryd.func11 ?_;simp only[Tryd.f11];(have hb:=trivial;with_reducible repeat' (first|simp only[hb,Vc.down,seval,Vy.down,h1]|refine Be ?_ ?_<;>intro hb|refine fd ?_|fail)))
def al8(Q:AV)(l:List Nat)(lo:Nat)(outs:List AV)(h:Aa):Prop:=∃rows n,yL Q 1 l.length rows .i64 0 n lo outs h∧n≤14∧rows.take l.length=l.map Ci∧l.length≤rows.length
def EBr(w:Au)(d:Int)(L:List (Int × Bool))(ds:List Nat)(h:Aa):Prop:=(∃x,h[1]?=some (.live 4 false x [[.int .i64 w.rooms,.int .i64 w.need,Bv 9 true w.nn (w.parts.map Ae.cells),.int .i64 d]]))∧(∃x,h[2]?=some (.live 24 true x [Hn L]))∧∃x,h[3]?=some (.live 1 true x (ds.map Ci))
theorem pN{w:Au}{N:Nat}(hw:mI w N)(h12:w.parts.length≤12)(hs:w.small)(d:Int)(hb0:(Pq w&&Xk d)=true):
 ∃ds:List Nat,ds.length=N∧Gz (Fz w (Ax w d)) 0 N Dc (fun v=>ds.getD v 0)∧
  ((ds.getD 1 0=Dc∧Fe.call (.fn 11) [.agg [.int .i64 w.rooms,.int .i64 w.need,Bv 9 true w.nn (w.parts.map Ae.cells)],.int .i64 d] []=some (.ret (.tup [.nils,.nils,.int .i64 5]),[]))∨
   (ds.getD 1 0≠Dc∧∃l,Ik (Fz w (Ax w d)) N (ds.getD 1 0) [0] 0=some l∧l≠[]∧∃outs h',Fe.call (.fn 11) [.agg [.int .i64 w.rooms,.int .i64 w.need,Bv 9 true w.nn (w.parts.map Ae.cells)],.int .i64 d] []=some (.ret (.tup outs),h')∧al8 (Bv 1 false false (Hz (Fz w (Ax w d)) ds w.parts.length (ds.getD 1 0))) l 0 outs h'∧(∀f,∃y,Ba 8 f (.tup outs)=some y)∧∀c∈h',vO c)):=by
 have n2:=hw.n2
 have n8:=hw.n8
 have hlen:=hw.len
 have h1:=qU w hs d
 rw[hb0]at h1
 have hpc:=vW w d false h12
 have hL:=nR (d:=d) h12
 obtain⟨o,h',hc,f,ds,rfl,rfl,hdl,hR⟩:=Rn hw h12 (d:=d) (s:=0) (by omega) hL rfl (wf:=false)
 have hEq:=pJ (w:=w) (d:=d)
 have hEo:=Ll hw (Ax w d)
 rw[hEq]at hR
 refine⟨ds,hdl,hR,?_⟩
 have f0:=cF (Df w d)
 have k0:=cO (Df w d)
 have v0:=nJ (Df w d)
 have l0:=nO (Df w d)
 have r0:=oJ (Df w d)
 have p0:=aiZ (Df w d)
 have n0:=ajQ (Df w d)
 have i0:=ajG (Df w d)
 have hpl:(Hn (Df w d)).length=24:=by rw[Me];omega
 have htk24:=agT (l:=Hn (Df w d)) (i:=24) (by omega)
 have hd1:ds[1]?=some (ds.getD 1 0):=by rw[acI,acC (by omega)];rfl
 have h1N:((1:Int)<(N:Int))=True:=eq_true (by omega)
 have hne:ds.getD 1 0≠Dc→ds.getD 1 0<N∧∃l,Ik (Fz w (Ax w d)) N (ds.getD 1 0) [0] 0=some l∧l≠[]:=fun e=>by
  refine⟨(Gz.num hR hR (by unfold Dc;omega) (by unfold Dc;omega) (by omega) hEo (v:=1) (by omega)).2.2 e,?_⟩
  obtain⟨r1,r2⟩:=hR 1 (by omega)
  obtain⟨k,hk⟩:∃k,aU (Fz w (Ax w d)) 0 1 k:=Classical.byContradiction fun h=>e (r2 fun k hk=>h ⟨k,hk⟩)
  obtain⟨j,hj⟩:=Xj.ex hk
  have e1:=r1 j hj
  obtain⟨l,hl⟩:=am2 hEo (by omega) hj.1 (Nat.le_of_eq e1.symm)
  refine⟨l,hl,fun h=>?_⟩
  subst h
  have:=(Vv hl).1
  cases this
 simp only[ajX]at hc
 have hln:(ds.map Ci).length=N:=by simp[hdl]
 by_cases e:ds.getD 1 0=Dc
 ·left
  refine⟨e,?_⟩
  have e1:(((ds.getD 1 0:Nat):Int)==1048576)=true:=by rw[e];rfl
  have hd2:(ds.map Ci)[1]?=some [.int .i64 (ds.getD 1 0:Nat)]:=by rw[ag5,hd1];rfl
  generalize ds.map Ci=dr at *
  generalize Hn (Df w d)=ps at *
  (refine ce Tryd.func11 ?_;simp only[Tryd.f11];(have hb:=trivial;with_reducible repeat' (first|simp only[hb,Vc.down,seval,Vy.down,h1,hpc,f0,k0,v0,l0,r0,p0,n0,i0,hpl,htk24,hc,hd2,h1N,e1,hln,acD]|refine Be ?_ ?_<;>intro hb|refine fd ?_|fail)))
 ·right
  obtain⟨hlt,l,hl,hl0⟩:=hne e
  refine⟨e,l,hl,hl0,?_⟩
  have e1:(((ds.getD 1 0:Nat):Int)==1048576)=false:=beq_eq_false_iff_ne.2 fun h=>e (by unfold Dc;omega)
  suffices k:vL Fe 11 [.agg [.int .i64 w.rooms,.int .i64 w.need,Bv 9 true w.nn (w.parts.map Ae.cells)],.int .i64 d] [] fun o h'=>∃outs,o=.ret (.tup outs)∧al8 (Bv 1 false false (Hz (Fz w (Ax w d)) ds w.parts.length (ds.getD 1 0))) l 0 outs h'∧(∀f,∃y,Ba 8 f (.tup outs)=some y)∧∀c∈h',vO c by
   obtain⟨o,h',hc,outs,rfl,q1,q2⟩:=k
   exact⟨outs,h',hc,q1,q2⟩
  obtain⟨o,h',hwy,xw,rw',rfl,rfl,hw1,hw2⟩:=anT hw h12 (d:=d) hL (most:=ds.getD 1 0) (by omega) (wf:=false) (by rw[hEq];exact hl) hl0
  have hEg:∀(i:Nat) (p:Ae),w.parts[i]?=some p→(Fz w (Ax w d))[i]?=some (p.one.toNat,p.other.toNat,if Ou p d=true then 1 else 0):=fun i p h1=>by simp[Fz,Ax,List.getElem?_zipWith,h1]
  have hpa:∀i p,w.parts[i]?=some p→(Df w d)[i]?=some (Jj p d,p.opn):=fun i p hp=>uV hp
  generalize ds.getD 1 0=c at *
  have hn:c≤13:=by omega
  generalize Fz w (Ax w d)=E at *
  generalize Df w d=L at *
  refine pF rfl Tryd.func11 rfl rfl ?_
  simp only[Tryd.f11]
  refine Dp (fun KK iN hK=>?_)
  (have hb:=trivial;with_reducible repeat' (first|simp only[hb,Vc.down,seval,Vy.down,h1,hpc,f0,k0,v0,l0,r0,p0,n0,i0,hpl,htk24,hc,hd1,Ci,h1N,e1,hln,acD]|refine Be ?_ ?_<;>intro hb|refine fd ?_|fail))
  refine Iy (aQ 98 (ahG c ()) (fun k (_:Unit) t h=>t 7=.ptr 1 0 0∧t 9=.ptr 2 0 0∧t 10=.slr 1 3 0 N∧t 37=.int .i64 (c:Int)∧t 38=.int .i64 (k:Int)∧EBr w d L ds h∧∃rows Ro,LLH 4 (t 11) h rows (Hz E ds w.parts.length k) Ro∧rows.length=k∧Ro.length≤k) (fun _ _=>())
   (fun _ e t h=>e=.exit 0∧t 7=.ptr 1 0 0∧t 9=.ptr 2 0 0∧t 10=.slr 1 3 0 N∧EBr w d L ds h∧∃rows Ro,LLH 4 (t 11) h rows (Hz E ds w.parts.length c) Ro∧rows.length=c∧Ro.length≤c) ?_ ?_ () _ _ ?_) (fun e t h hk=>?_)
  ·rintro _ t h Q' kQ ⟨g7,g9,g10,g37,g38,hB,hL⟩
   rw[akU]at g38 hL
   (have hb:=trivial;with_reducible repeat' (first|simp only[hb,Vc.down,seval,Vy.down,g37,g38,Int.lt_irrefl,decide_false]|refine Be ?_ ?_<;>intro hb|refine fd ?_|fail))
   exact kQ _ _ _ ⟨rfl,by simp[up,g7],by simp[up,g9],by simp[up,g10],hB,by simpa [up]using hL⟩
  ·rintro _ rest k _ t h J Q' kJ kQ hx hi ⟨g7,g9,g10,g37,g38,hB,rows,Ro,hL,hrl,hRl⟩
   rw[akU]at hi
   obtain⟨⟨x1,b1⟩,⟨x2,b2⟩,⟨x3,b3⟩⟩:=hB
   have hdk:decide ((k:Int)<(c:Int))=true:=decide_eq_true (by omega)
   have hwk:IntKind.i64.wrap ((k:Int)+1)=((k+1:Nat):Int):=by rw[Ee (by omega) (by omega)];omega
   obtain⟨ov,g11⟩:∃ov,t 11=ov:=⟨_,rfl⟩
   rw[g11]at hL
   have p1:=Ac b1
   have p2:=Ac b2
   have p3:=Ac b3
   (have hb:=trivial;with_reducible repeat' (first|simp only[hb,Vc.down,seval,Vy.down,g7,g9,g10,g37,g38,b1,b2,b3,hdk,acD]|refine Be ?_ ?_<;>intro hb|refine fd ?_|fail))
   refine Iy (aQ 98 w.parts (fun i (_:Unit) t h'=>t 7=.ptr 1 0 0∧t 9=.ptr 2 0 0∧t 10=.slr 1 3 0 N∧t 11=ov∧t 12=.int .i64 (k:Int)∧t 37=.int .i64 (c:Int)∧t 38=.int .i64 (k:Int)∧t 45=Bv 9 true w.nn (w.parts.map Ae.cells)∧t 46=.int .i64 (w.parts.length:Nat)∧t 47=.int .i64 (i:Int)∧(h.length≤h'.length∧∀b,b<h.length→h'[b]?=h[b]?)∧Si (t 13) ((agR i).filter (Qq E ds k)) h' h.length) (fun _ _=>())
    (fun _ e t h'=>e=.exit 2∧t 7=.ptr 1 0 0∧t 9=.ptr 2 0 0∧t 10=.slr 1 3 0 N∧t 11=ov∧t 37=.int .i64 (c:Int)∧t 38=.int .i64 (k:Int)∧(h.length≤h'.length∧∀b,b<h.length→h'[b]?=h[b]?)∧Si (t 13) (Vm E ds w.parts.length k) h' h.length) ?_ ?_ () _ _ ?_) (fun e t' h' hk=>?_)
   ·rintro _ t h' Q'' kQ ⟨g7,g9,g10,g11,g12,g37,g38,g45,g46,g47,hs,hN⟩
    (have hb:=trivial;with_reducible repeat' (first|simp only[hb,Vc.down,seval,Vy.down,g46,g47,Int.lt_irrefl,decide_false]|refine Be ?_ ?_<;>intro hb|refine fd ?_|fail))
    exact kQ _ _ _ ⟨rfl,by simp[up,g7],by simp[up,g9],by simp[up,g10],by simp[up,g11],by simp[up,g37],by simp[up,g38],hs,by simpa [up,Vm]using hN⟩
   ·rintro p rest i _ t h' J' Q'' kJ' kQ' hx hi ⟨g7,g9,g10,g11,g12,g37,g38,g45,g46,g47,hs,hN⟩
    have hdd:decide ((i:Int)<(w.parts.length:Int))=true:=decide_eq_true (by omega)
    have hdp:((i:Int)<(w.parts.length:Int))=True:=eq_true (by omega)
    have hww:=Ew hi (by unfold maxLen;omega)
    have c1:=(hs.2 1 p1).trans b1
    have c2:=(hs.2 2 p2).trans b2
    have c3:=(hs.2 3 p3).trans b3
    have d2:=Ai c2
    have d3:=Ai c3
    have hy:=hpa i p hx
    have htt:=gR (Jj p d) p.opn
    rw[show(Jj p d==0&& !p.opn)=Ou p d from rfl]at htt
    have htk:=iO _ _ _ _ hy
    have i12:((i:Int)<12)=True:=eq_true (by omega)
    have hpz:(i*2≤23)=True:=eq_true (by omega)
    have hp24:(i*2+2≤24)=True:=eq_true (by omega)
    have hpo:=hw.part p (agY hx)
    have hE:=hEg i p hx
    generalize Ou p d=tt at *
    have hra:ds[p.one.toNat]?=some (ds.getD p.one.toNat 0):=by rw[acI,acC (by omega)];rfl
    have hrb:ds[p.other.toNat]?=some (ds.getD p.other.toNat 0):=by rw[acI,acC (by omega)];rfl
    have o1:(0≤p.one)=True:=eq_true hpo.1.1
    have o2:(p.one<(N:Int))=True:=eq_true hpo.1.2
    have o3:(0≤p.other)=True:=eq_true hpo.2.1.1
    have o4:(p.other<(N:Int))=True:=eq_true hpo.2.1.2
    have hbar:Qq E ds k i=(tt&&min (ds.getD p.one.toNat 0) (ds.getD p.other.toNat 0)==k&&max (ds.getD p.one.toNat 0) (ds.getD p.other.toNat 0)==k+1):=by
     unfold Qq;rw[hE];cases tt<;>simp
    have hrf:=eG (Qq E ds k) i
    rw[hbar]at hrf
    generalize ds.getD p.one.toNat 0=da at *
    generalize ds.getD p.other.toNat 0=db at *
    have hmn:(if(db:Int)<(da:Int)then(db:Int)else(da:Int))=((min da db:Nat):Int):=by split<;>omega
    have hmx:(if(db:Int)>(da:Int)then(db:Int)else(da:Int))=((max da db:Nat):Int):=by split<;>omega
    have hcast:∀a b:Nat,((a:Int)==(b:Int))=(a==b):=fun a b=>by rw[Bool.eq_iff_iff];simp;omega
    have hsA:h.length≤(h'++[CB.live 9 true true [p.cells]]).length∧∀b,b<h.length→(h'++[CB.live 9 true true [p.cells]])[b]?=h[b]?:=⟨by simp;omega,fun b hb=>by rw[ab9 (by omega)];exact hs.2 b hb⟩
    cases tt with
    |false=>
     simp only[akV,ajN,if_false,acH]at hrf
     (have hb:=trivial;with_reducible repeat' (first|simp only[hb,Vc.down,seval,Vy.down,g7,g9,g10,g12,g45,g46,g47,c1,c2,c3,d2,d3,hdd,hdp,hww,hx,htt,htk,i12,hpz,hp24,hpl,Iz,hra,hrb,o1,o2,o3,o4,hmn,hmx,hwk,hcast,Hu,Ci,Ae.cells,acD]|refine Be ?_ ?_<;>intro hb|refine fd ?_|fail))
     exact Bc (kJ' _ _ () ⟨by simp[up,g7],by simp[up,g9],by simp[up,g10],by simp[up,g11],by simp[up,g12],by simp[up,g37],by simp[up,g38],by simp[up,g45],by simp[up,g46],by simp[up],hsA,by rw[hrf];simpa [up]using hN.app _⟩ rfl)
    |true=>
     simp only[ajS]at hrf
     cases q1:(min da db==k)with
     |false=>
      simp only[q1,akV,ajN,if_false,acH]at hrf
      (have hb:=trivial;with_reducible repeat' (first|simp only[hb,Vc.down,seval,Vy.down,g7,g9,g10,g12,g45,g46,g47,c1,c2,c3,d2,d3,hdd,hdp,hww,hx,htt,htk,i12,hpz,hp24,hpl,Iz,hra,hrb,o1,o2,o3,o4,hmn,hmx,hwk,hcast,q1,Hu,Ci,Ae.cells,acD]|refine Be ?_ ?_<;>intro hb|refine fd ?_|fail))
      exact Bc (kJ' _ _ () ⟨by simp[up,g7],by simp[up,g9],by simp[up,g10],by simp[up,g11],by simp[up,g12],by simp[up,g37],by simp[up,g38],by simp[up,g45],by simp[up,g46],by simp[up],hsA,by rw[hrf];simpa [up]using hN.app _⟩ rfl)
     |true=>
     cases q2:(max da db==k+1)with
     |false=>
      simp only[q1,q2,ajS,ajN,if_false,acH]at hrf
      (have hb:=trivial;with_reducible repeat' (first|simp only[hb,Vc.down,seval,Vy.down,g7,g9,g10,g12,g45,g46,g47,c1,c2,c3,d2,d3,hdd,hdp,hww,hx,htt,htk,i12,hpz,hp24,hpl,Iz,hra,hrb,o1,o2,o3,o4,hmn,hmx,hwk,hcast,q1,q2,Hu,Ci,Ae.cells,acD]|refine Be ?_ ?_<;>intro hb|refine fd ?_|fail))
      exact Bc (kJ' _ _ () ⟨by simp[up,g7],by simp[up,g9],by simp[up,g10],by simp[up,g11],by simp[up,g12],by simp[up,g37],by simp[up,g38],by simp[up,g45],by simp[up,g46],by simp[up],hsA,by rw[hrf];simpa [up]using hN.app _⟩ rfl)
     |true=>
     simp only[q1,q2,ajS,if_true]at hrf
     have hal:((agR i).filter (Qq E ds k)).length≤i:=by have:=List.length_filter_le (Qq E ds k) (agR i);simpa using this
     generalize(agR i).filter (Qq E ds k)=a at *
     rcases hN with⟨rfl,ho⟩|⟨hne,b,hb3,ho,hb⟩
     ·(have hb:=trivial;with_reducible repeat' (first|simp only[hb,Vc.down,seval,Vy.down,g7,g9,g10,g12,g45,g46,g47,c1,c2,c3,d2,d3,hdd,hdp,hww,hx,htt,htk,i12,hpz,hp24,hpl,Iz,hra,hrb,o1,o2,o3,o4,hmn,hmx,hwk,hcast,q1,q2,Hu,Ci,Ae.cells,acD,ho]|refine Be ?_ ?_<;>intro hb|refine fd ?_|fail))
      exact Bc (kJ' _ _ () ⟨by simp[up,g7],by simp[up,g9],by simp[up,g10],by simp[up,g11],by simp[up,g12],by simp[up,g37],by simp[up,g38],by simp[up,g45],by simp[up,g46],by simp[up],⟨by simp;omega,fun b hb=>by rw[ab9 (by omega)];exact hs.2 b hb⟩,by rw[hrf];exact .inr ⟨by simp,h'.length+2,by omega,by simp[up],by rw[acE (by omega),agD];rfl⟩⟩ rfl)
     ·have hbl:=Ac hb
      have hB2:=Ai hb
      have hS:=Gu hbl
      have hi39:(a.length+1≤549755813888)=True:=eq_true (by omega)
      (with_reducible repeat' (first|simp only[hb,Vc.down,seval,Vy.down,g7,g9,g10,g12,g45,g46,g47,c1,c2,c3,d2,d3,hdd,hdp,hww,hx,htt,htk,i12,hpz,hp24,hpl,Iz,hra,hrb,o1,o2,o3,o4,hmn,hmx,hwk,hcast,q1,q2,Hu,Ci,Ae.cells,acD,ho,hb,hB2,hS,Gx,En,agU,hi39]|refine Be ?_ ?_<;>intro hb|refine fd ?_|fail))
      exact Bc (kJ' _ _ () ⟨by simp[up,g7],by simp[up,g9],by simp[up,g10],by simp[up,g11],by simp[up,g12],by simp[up,g37],by simp[up,g38],by simp[up,g45],by simp[up,g46],by simp[up],⟨by simp;omega,fun b' hb'=>by rw[ab9 (by simp;omega),ab8 (by omega)];exact hs.2 b' hb'⟩,by rw[hrf];exact .inr ⟨by simp,h'.length+2,by omega,by simp[up],by rw[En];simp[Ci]⟩⟩ rfl)
   ·exact⟨by simp[up,g7],by simp[up,g9],by simp[up,g10],by simp[up,g11],by simp[up],by simp[up,g37],by simp[up,g38],by simp[up],by simp[up],by simp[up],⟨af4 _,fun _ _=>rfl⟩,.inl ⟨rfl,by simp[up]⟩⟩
   obtain⟨rfl,g7,g9,g10,g11,g37,g38,hs,hN⟩:=hk
   obtain⟨bv,g13⟩:∃bv,t' 13=bv:=⟨_,rfl⟩
   rw[g13]at hN
   have hLk:=hL.keep hs.1 hs.2
   have hap:=fun(q:Aa) (r:List AV)=>qP hLk.own (pre:=[]) rfl q r [] (by simp;omega)
   have hhp:=fun(q:Aa) (r:List (List AV)) (ba:Nat)=>kY hLk.own (pre:=[]) rfl q 1 false r ba
   simp only[acG,List.length_cons,List.length_append,List.length_nil,agU,Nat.reduceAdd,hrl]at hap hhp
   have hcell:bv.isCell=true∧bv.flat=false∧Af bv=[bv]:=by
    rcases hN with⟨_,rfl⟩|⟨_,b,_,rfl,_⟩<;>exact⟨rfl,rfl,rfl⟩
   obtain⟨hc1,hc2,hc3⟩:=hcell
   (have hb:=trivial;with_reducible repeat' (first|simp only[hb,Vc.down,seval,Vy.down,g11,g13,g38,hwk,hap,hhp,hc1,hc2,hc3,Bool.and_true,Bool.and_false,adL,List.all_nil]|refine Be ?_ ?_<;>intro hb|refine fd ?_|fail))
   obtain⟨R',r1,hL'⟩:=hL.snoc hs.1 hs.2 hN (by omega) (.live 1 false false [[bv]]) rfl (show k+1=rows.length+1 by omega)
   have low:∀j,j<4→(kl 0 ov h'++[CB.live 1 false false [[bv]],CB.live 1 false false (rows++[[bv]])])[j]?=h[j]?:=fun j hj=>by
    rw[bK _ (by have:=hs.1;omega) fun st m r n e e2=>by have:=(hL.dov st m r n e).1;omega,hs.2 j (by omega)]
   refine Bc (kJ _ _ () ⟨by simp[up,g7],by simp[up,g9],by simp[up,g10],by simp[up,g37],by simp[up],⟨⟨x1,by rw[low 1 (by omega)];exact b1⟩,⟨x2,by rw[low 2 (by omega)];exact b2⟩,⟨x3,by rw[low 3 (by omega)];exact b3⟩⟩,rows++[[bv]],Ro++R',?_,by simp[hrl],by simp;omega⟩ rfl)
   rw[cG]
   simpa [up]using hL'
  ·exact⟨by simp[up],by simp[up],by simp[up],by simp[up],by simp[up],⟨⟨_,rfl⟩,⟨_,rfl⟩,⟨_,rfl⟩⟩,[],[],⟨.inl ⟨rfl,by simp[up]⟩,fun _=>by simp[up],rfl,by simp,fun _ _ _ _ e=>by simp[up]at e⟩,rfl,af4 _⟩
  ·obtain⟨rfl,g7,g9,g10,hB,rows,Ro,hL,hrl,hRl⟩:=hk
   obtain⟨ov,g11⟩:∃ov,t 11=ov:=⟨_,rfl⟩
   rw[g11]at hL
   obtain⟨⟨x1,b1⟩,⟨x2,b2⟩,⟨x3,b3⟩⟩:=hB
   have hd2:(ds.map Ci)[1]?=some [.int .i64 (c:Nat)]:=by rw[ag5,hd1];rfl
   (have hb:=trivial;with_reducible repeat' (first|simp only[hb,Vc.down,seval,Vy.down,g7,g9,g10,g11,b1,b2,b3,f0,k0,v0,l0,r0,p0,n0,i0,hpl,htk24,hwy,hd1,Ci,h1N,hln,acD]|refine Be ?_ ?_<;>intro hb|refine fdl ?_|fail))
   obtain⟨R,r1,r2⟩:=zY (d:=5) hL.own hL.q hL.nil
   simp only at r1 r2
   refine hK _ ?_
   rw[pD]
   have r1':rd 6 (hf (h++[CB.live 1 true xw rw'])) ov=some (Bv 1 false false (Hz E ds w.parts.length c),R):=jV r1
   refine wB (vs:=[ov,.slr 1 h.length 0 l.length,.int .i64 0]) ?_ (ag8 (rows:=rw') r1' (by omega) ?_ fun outs h' k1 k2 k3=>⟨outs,rfl,⟨rw',_,k1,by omega,hw1,hw2⟩,k2,k3⟩)
   ·simp only[Vc.down,seval,Vy.down]
   ·show((h++_)[h.length]?).bind Aw=_
    rw[acE (af4 _),Nat.sub_self];rfl
end Go.Proofs.YtckfcfcmfjfchaaDoor
