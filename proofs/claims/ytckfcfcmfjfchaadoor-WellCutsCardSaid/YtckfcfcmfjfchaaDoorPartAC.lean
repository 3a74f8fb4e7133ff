/- The functions of the layer, walked. -/
import Derived.Test.YtckfcfcmfjfchaaDoorPartAB
open List renaming getElem?_set_ne→aaI,mem_cons→abN,getElem?_set_self→abO,getElem?_append_left→abP,getElem?_eq_getElem→abQ,nodup_cons→abR,getElem?_append_right→abS,nil_append→abT,getElem?_eq_some_iff→abU,all_cons→abV,getElem?_eq_none→abY,ext_getElem?→ab7,take_of_length_le→afG,append_nil→af8,mem_of_getElem?→af9,getD_eq_getElem?_getD→agB,replicate→agF,getElem?_replicate→agG
open Int renaming toNat_natCast→aeJ
open Nat renaming add_sub_cancel_left→afE
set_option linter.unusedSimpArgs false
set_option linter.unusedVariables false
namespace Go.Proofs.YtckfcfcmfjfchaaDoor
open Go.Ev Go Go.Ev.Net
set_option maxRecDepth 100000
set_option maxHeartbeats 16000000
def Of(N:Nat)(rs:List Nat):List Bool:=(List.range N).map fun v=>decide (v∈rs)
theorem Jo{N v:Nat}(rs:List Nat)(h:v<N):((Of N rs).map Tc)[v]?=some [.bool (decide (v∈rs))]:=by
 simp[Of,h,Tc]
theorem bN{N v:Nat}(rs:List Nat)(h:¬v<N):((Of N rs).map Tc)[v]?=none:=by
 rw[abY];simp[Of];omega
theorem yO{N room:Nat}(rs:List Nat):((Of N rs).map Tc).set room [.bool true]=(Of N (room::rs)).map Tc:=by
 refine ab7 fun v=>?_
 by_cases hv:v<N
 ·rw[Jo _ hv]
  by_cases e:room=v
  ·subst e;rw[abO (by simpa [Of]using hv)];simp
  ·have e':v≠room:=fun h=>e h.symm
   rw[aaI e,Jo _ hv];simp[e']
 ·rw[bN _ hv,abY];simp[Of];omega
theorem mM{N room:Nat}{rs:List Nat}(hr:room∉rs):((Of N (room::rs)).map Tc).set room [.bool false]=(Of N rs).map Tc:=by
 refine ab7 fun v=>?_
 by_cases hv:v<N
 ·rw[Jo _ hv]
  by_cases e:room=v
  ·subst e;rw[abO (by simpa [Of]using hv)];simp[hr]
  ·have e':v≠room:=fun h=>e h.symm
   rw[aaI e,Jo _ hv];simp[e']
 ·rw[bN _ hv,abY];simp[Of];omega
def OS(v:AV)(q:List Nat)(H:Aa):Prop:=
 (v=.nils∧q=[])∨∃b w rows,v=.slr 1 b 0 q.length∧H[b]?=some (.live 1 true w rows)∧rows.take q.length=q.map Ez∧q.length≤rows.length
theorem OS.keep{v:AV}{q:List Nat}{H G:Aa}(h:OS v q H)(k:∀b∈Dq v,∀w rows,H[b]?=some (.live 1 true w rows)→∃w',G[b]?=some (.live 1 true w' rows)):OS v q G:=by
 rcases h with h|⟨b,w,rows,h1,h2,h3⟩
 ·exact .inl h
 ·obtain⟨w',h4⟩:=k b (by rw[h1];simp[Dq]) w rows h2
  exact .inr ⟨b,w',rows,h1,h4,h3⟩
theorem OS.app{v:AV}{q:List Nat}{H:Aa}(h:OS v q H)(l:Aa):OS v q (H++l):=h.keep fun _ _ w _ h2=>⟨w,Ak h2 l⟩
theorem OS.lt{v:AV}{q:List Nat}{H:Aa}(h:OS v q H):∀b∈Dq v,b<H.length∧∃w rows,H[b]?=some (.live 1 true w rows):=by
 rcases h with⟨rfl,_⟩|⟨b,w,rows,rfl,h2,_⟩
 ·intro b hb1;simp[Dq]at hb1
 ·intro b' hb1;simp[Dq]at hb1;subst hb1;exact⟨Ac h2,w,rows,h2⟩
theorem OS.okw{v:AV}{q:List Nat}{H G:Aa}(k:Kq H G)(h:OS v q G):OS v q (Gg H G):=h.keep fun _ _ _ _ h2=>k.live h2
def srA:List AV:=[.ptr 8 0 0,.ptr 1 0 0,.ptr 2 0 0,.ptr 5 0 0,.ptr 3 0 0,.ptr 6 0 0,.ptr 9 0 0]
structure Xy(w:Au)(N:Nat)(d:Int)(L:List (Int × Bool))(bk:List Nat)(most:Nat)(rs:List Nat)(v:AV)(path:List Nat)(H:Aa):Prop where
 h0:∃x,H[0]?=some (.live 4 false x [[.int .i64 w.rooms,.int .i64 w.need,Dh 9 true w.nn (w.parts.map Ag.cells),.int .i64 d]])
 h1:∃x,H[1]?=some (.live 1 false x [[.ptr 0 0 0]])
 h2:∃x,H[2]?=some (.live 24 true x [Gz L])
 h3:∃x,H[3]?=some (.live 1 true x [[.int .i64 (most:Int)]])
 h4:∃x,H[4]?=some (.live 1 true x (bk.map Ez))
 h5:∃x,H[5]?=some (.live 1 false x [[.slr 1 4 0 N]])
 h6:∃fl x,H[6]?=some (.live 1 fl x [[v]])
 h7:∃x,H[7]?=some (.live 1 true x ((Of N rs).map Tc))
 h8:∃x,H[8]?=some (.live 1 false x [[.slr 1 7 0 N]])
 h9:∃x,H[9]?=some (.live 1 false x [[.func (.func 61) [] srA]])
 hQ:OS v path H
 hv:∀b∈Dq v,10≤b
theorem Xy.keep{w:Au}{N:Nat}{d:Int}{L:List (Int × Bool)}{bk:List Nat}{most:Nat}{rs:List Nat}{v:AV}{path:List Nat}{H G:Aa}(h:Xy w N d L bk most rs v path H)
 (k:∀(b st:Nat) (fl x:Bool) (rows:List (List AV)),b<10∨b∈Dq v→H[b]?=some (.live st fl x rows)→∃x',G[b]?=some (.live st fl x' rows)):Xy w N d L bk most rs v path G:=by
 obtain⟨⟨x0,h0⟩,⟨x1,h1⟩,⟨x2,h2⟩,⟨x3,h3⟩,⟨x4,h4⟩,⟨x5,h5⟩,⟨fl,x6,h6⟩,⟨x7,h7⟩,⟨x8,h8⟩,⟨x9,h9⟩,hQ,hv⟩:=h
 exact⟨k _ _ _ _ _ (.inl (by omega)) h0,k _ _ _ _ _ (.inl (by omega)) h1,k _ _ _ _ _ (.inl (by omega)) h2,k _ _ _ _ _ (.inl (by omega)) h3,k _ _ _ _ _ (.inl (by omega)) h4,k _ _ _ _ _ (.inl (by omega)) h5,⟨fl,k _ _ _ _ _ (.inl (by omega)) h6⟩,k _ _ _ _ _ (.inl (by omega)) h7,k _ _ _ _ _ (.inl (by omega)) h8,k _ _ _ _ _ (.inl (by omega)) h9,hQ.keep fun b hb w rows h=>k b _ _ w rows (.inr hb) h,hv⟩
theorem Xy.cln{w:Au}{N:Nat}{d:Int}{L:List (Int × Bool)}{bk:List Nat}{most:Nat}{rs:List Nat}{v:AV}{path:List Nat}{H:Aa}(h:Xy w N d L bk most rs v path H):Xy w N d L bk most rs v path (Eb H):=h.keep fun _ _ _ _ _ _ h2=>⟨false,Bj h2⟩
theorem Xy.app{w:Au}{N:Nat}{d:Int}{L:List (Int × Bool)}{bk:List Nat}{most:Nat}{rs:List Nat}{v:AV}{path:List Nat}{H:Aa}(h:Xy w N d L bk most rs v path H)(l:Aa):Xy w N d L bk most rs v path (H++l):=h.keep fun _ _ _ x _ _ h2=>⟨x,Ak h2 l⟩
theorem Xy.okw{w:Au}{N:Nat}{d:Int}{L:List (Int × Bool)}{bk:List Nat}{most:Nat}{rs:List Nat}{v:AV}{path:List Nat}{H G:Aa}(k:Kq H G)(h:Xy w N d L bk most rs v path G):Xy w N d L bk most rs v path (Gg H G):=h.keep fun _ _ _ _ _ _ h2=>k.live h2
def Wrt(c:CB):Prop:=(∃st fl rows,c=.live st fl true rows)∨c=.dead
def WyP(w:Au)(N:Nat)(d:Int)(L:List (Int × Bool))(bk:List Nat)(most:Nat)(rs:List Nat)(v:AV)(path:List Nat)(H:Aa)(res:Option (List Nat))(o:Cj)(G:Aa):Prop:=
 Qk (6::7::Dq v) H G∧An G=true∧(∀b∈6::7::Dq v,G[b]?=H[b]?∨∃c,G[b]?=some c∧Wrt c)∧
 match res with
 |none=>o=.ret (.bool false)∧∃v',Xy w N d L bk most rs v' path G∧∀b∈Dq v',b∈Dq v∨H.length≤b
 |some l=>o=.ret (.bool true)∧∃fl x v',G[6]?=some (.live 1 fl x [[v']])∧OS v' (path++l) G∧∀b∈Dq v',b∈Dq v∨H.length≤b
theorem nJ{w:Au}{N:Nat}{d:Int}{L:List (Int × Bool)}{bk:List Nat}{most:Nat}{rs:List Nat}{v:AV}{path:List Nat}{M:Aa}(hq:An M=true)(hW:Xy w N d L bk most rs v path M){room tight:Nat}{res:Option (List Nat)}
 (K:mU Fq 61 ([.int .i64 (room:Int),.int .i64 (tight:Int)]++srA) (Eb M) (WyP w N d L bk most rs v path (Eb M) res)):
 ∃o es G,cl Fq M (some (.func (.func 61) [] srA)) (some [.int .i64 (room:Int),.int .i64 (tight:Int)])=some (o,es)∧Ax M es=G∧WyP w N d L bk most rs v path M res o G:=by
 have ok:∀o G,WyP w N d L bk most rs v path (Eb M) res o G→Kq M G:=fun o G ⟨k1,k2,k3,_⟩=>⟨by have:=k1.len;rwa[As]at this,fun b c0 c g0 g1=>by
  by_cases hb:b∈6::7::Dq v
  ·rcases k3 b hb with h|⟨c',h,h'⟩
   ·rw[h,Bj g0]at g1;cases g1
    exact .inl ⟨Bl hq g0,(Jb c0).symm⟩
   ·rw[g1]at h;cases h
    refine .inr ⟨?_,h'⟩
    rcases abN.1 hb with rfl|hb
    ·obtain⟨_,_,h6⟩:=hW.h6
     rw[g0]at h6;cases h6;rfl
    ·rcases abN.1 hb with rfl|hb
     ·obtain⟨_,h7⟩:=hW.h7
      rw[g0]at h7;cases h7;rfl
     ·obtain⟨_,_,_,h2⟩:=hW.hQ.lt b hb
      rw[g0]at h2;cases h2;rfl
  ·rw[k1.same b (by rw[As];exact Ac g0) hb,Bj g0]at g1;cases g1
   exact .inl ⟨Bl hq g0,(Jb c0).symm⟩⟩
 obtain⟨o,G,hc,hp⟩:=K
 have kO:=ok o G hp
 obtain⟨es,e1,e2⟩:=Nk M G [] kO.sh
 refine⟨o,es,Gg M G,?_,by simpa using e2,?_⟩
 ·rw[jT]
  have hd:Zu ([]++[.int .i64 (room:Int),.int .i64 (tight:Int)]++srA)=true:=rfl
  have hm:Fq.md 61=true:=rfl
  rw[hd,if_pos rfl]
  simp only[abT,shC,hm,Bool.or_true,hc,if_true]
  rw[Us]
  have e1':Bv 0 M G=some es:=e1
  rw[e1'];rfl
 obtain⟨k1,k2,k3,k4⟩:=hp
 have hlen:(Gg M G).length=G.length:=Ji kO.1
 have same:∀b,b<M.length→G[b]?=(Eb M)[b]?→(Gg M G)[b]?=M[b]?:=fun b hb h=>by
  have g0:M[b]?=some M[b]:=abQ hb
  rw[Bj g0]at h
  rw[Gh g0 h (Bl hq g0),g0]
 have h67:∀b∈6::7::Dq v,b<M.length:=fun b hb=>by
  rcases abN.1 hb with rfl|hb
  ·obtain⟨_,_,h6⟩:=hW.h6;exact Ac h6
  ·rcases abN.1 hb with rfl|hb
   ·obtain⟨_,h7⟩:=hW.h7;exact Ac h7
   ·exact(hW.hQ.lt b hb).1
 refine⟨⟨by rw[hlen];exact kO.1,fun b hb hn=>same b hb (k1.same b (by rw[As];exact hb) hn)⟩,kO.quiet hq k2,fun b hb=>?_,?_⟩
 ·rcases k3 b hb with h|⟨c,h,h'⟩
  ·exact .inl (same b (h67 b hb) h)
  ·right
   obtain⟨c0,g0⟩:∃c0,M[b]?=some c0:=⟨_,abQ (h67 b hb)⟩
   rcases kO.2 b _ _ g0 h with⟨q1,q2⟩|⟨q1,q2⟩
   ·exfalso
    have hl:c0.isLive=true:=by
     rcases abN.1 hb with rfl|hb
     ·obtain⟨_,_,h6⟩:=hW.h6
      rw[g0]at h6;cases h6;rfl
     ·rcases abN.1 hb with rfl|hb
      ·obtain⟨_,h7⟩:=hW.h7
       rw[g0]at h7;cases h7;rfl
      ·obtain⟨_,_,_,h2⟩:=hW.hQ.lt b hb
       rw[g0]at h2;cases h2;rfl
    rw[Pe hl h']at q1;cases q1
   ·refine⟨c,?_,h'⟩
    rw[Le g0 h (Pe q1 q2)]
    rcases h' with⟨_,_,_,rfl⟩|rfl<;>rfl
 ·rw[As]at k4
  cases res with
  |none=>
   obtain⟨rfl,v',a1,a2⟩:=k4
   exact⟨rfl,v',a1.okw kO,a2⟩
  |some l=>
   obtain⟨rfl,fl,x,v',a1,a2,a3⟩:=k4
   obtain⟨x',a4⟩:=kO.live a1
   exact⟨rfl,fl,x',v',a4,a2.okw kO,a3⟩
def wyR(E:List Net.Edge)(back:Nat→Nat)(most f tight:Nat)(rooms:List Nat)(at_:Nat):Nat→Net.Edge→Option (List Nat):=fun i e=>match bW e at_ with
 |none=>none
 |some r=>if r∈rooms∨most<tight+e.2.2+back r then none else(Rq E back most f (tight+e.2.2) (r::rooms) r).map (i::·)
theorem sV{E:List Net.Edge}{back:Nat→Nat}{most f tight:Nat}{rooms:List Nat}{at_:Nat}(h:at_≠1):Rq E back most (f+1) tight rooms at_=Hv (wyR E back most f tight rooms at_) 0 E:=by
 rw[Rq,if_neg h];rfl
theorem dJ{g:Nat→Net.Edge→Option (List Nat)}{E:List Net.Edge}{i:Nat}{e:Net.Edge}(h:E[i]?=some e):Hv g i (E.drop i)=match g i e with
 |some x=>some x
 |none=>Hv g (i+1) (E.drop (i+1)):=by
 obtain⟨hl,he⟩:=abU.1 h
 rw[List.drop_eq_getElem_cons hl,he];rfl
structure WyI(w:Au)(N:Nat)(d:Int)(L:List (Int × Bool))(bk:List Nat)(most f tight:Nat)(rs:List Nat)(room:Nat)(v:AV)(path:List Nat)(H h1:Aa)(LP:CB)(i:Nat)(h':Aa):Prop where
 W:∃v',Xy w N d L bk most (room::rs) v' path h'∧∀b∈Dq v',b∈Dq v∨H.length+5≤b
 ans:Rq (Gj w (Vq L)) (fun v=>bk.getD v 0) most (f+1) tight (room::rs) room=Hv (wyR (Gj w (Vq L)) (fun v=>bk.getD v 0) most f tight (room::rs) room) i ((Gj w (Vq L)).drop i)
 b0:∃x,h'[H.length]?=some (.live 1 true x [[.int .i64 (tight:Int)]])
 b1:∃x,h'[H.length+1]?=some (.live 1 true x [[.bool false]])
 b2:∃x,h'[H.length+2]?=some (.live 1 false x [[.ptr 0 0 0]])
 b3:∃x,h'[H.length+3]?=some (.live 1 true x [[.int .i64 (room:Int)]])
 b4:h'[H.length+4]?=some LP
 len:H.length+5≤h'.length
 q:An h'=true
 ok:Kq h1 h'
 same:∀b,b<H.length→b∉6::7::Dq v→h'[b]?=(Eb H)[b]?
structure WyS(w:Au)(bk:List Nat)(L:List (Int × Bool))(most f tight:Nat)(rs:List Nat)(room:Nat)(v:AV)(path:List Nat)(H h1:Aa)(h':Aa):Prop where
 W:∃l v' fl x,Rq (Gj w (Vq L)) (fun v=>bk.getD v 0) most (f+1) tight (room::rs) room=some l∧h'[6]?=some (.live 1 fl x [[v']])∧OS v' (path++l) h'∧∀b∈Dq v',b∈Dq v∨H.length+5≤b
 b1:∃x,h'[H.length+1]?=some (.live 1 true x [[.bool true]])
 b4:∃ps a b tm,h'[H.length+4]?=some (.lp ps a b tm (.done .ret))
 len:H.length+5≤h'.length
 q:An (h'.set (H.length+4) .dead)=true
 ok:Kq (h1.set (H.length+4) .dead) (h'.set (H.length+4) .dead)
 same:∀b,b<H.length→b∉6::7::Dq v→h'[b]?=(Eb H)[b]?
theorem Kq.p6{H G:Aa}(k:Kq H G){b:Nat}(hb:b<H.length):(Gg H G)[b]?=H[b]?∨∃c,(Gg H G)[b]?=some c∧Wrt c:=by
 obtain⟨c0,g0⟩:∃c0,H[b]?=some c0:=⟨_,abQ hb⟩
 obtain⟨c,g1⟩:∃c,G[b]?=some c:=⟨_,abQ (Nat.lt_of_lt_of_le hb k.1)⟩
 rcases k.2 b _ _ g0 g1 with⟨q1,_⟩|⟨q1,q2⟩
 ·exact .inl (by rw[Gh g0 g1 q1,g0])
 ·refine .inr ⟨c,?_,q2⟩
  rw[Le g0 g1 (Pe q1 q2)]
  rcases q2 with⟨_,_,_,rfl⟩|rfl<;>rfl
theorem Xy.set7{w:Au}{N:Nat}{d:Int}{L:List (Int × Bool)}{bk:List Nat}{most:Nat}{rs rs2:List Nat}{v:AV}{path:List Nat}{H:Aa}(h:Xy w N d L bk most rs v path H)(x:Bool):Xy w N d L bk most rs2 v path (H.set 7 (.live 1 true x ((Of N rs2).map Tc))):=by
 obtain⟨⟨x0,h0⟩,⟨x1,h1⟩,⟨x2,h2⟩,⟨x3,h3⟩,⟨x4,h4⟩,⟨x5,h5⟩,⟨fl,x6,h6⟩,⟨x7,h7⟩,⟨x8,h8⟩,⟨x9,h9⟩,hQ,hv⟩:=h
 have ne:∀(b:Nat) (c:CB),b≠7→H[b]?=some c→(H.set 7 (.live 1 true x ((Of N rs2).map Tc)))[b]?=some c:=fun b c hb1 h=>by rw[aaI (fun e=>hb1 e.symm)];exact h
 exact⟨⟨_,ne _ _ (by omega) h0⟩,⟨_,ne _ _ (by omega) h1⟩,⟨_,ne _ _ (by omega) h2⟩,⟨_,ne _ _ (by omega) h3⟩,⟨_,ne _ _ (by omega) h4⟩,⟨_,ne _ _ (by omega) h5⟩,⟨_,_,ne _ _ (by omega) h6⟩,⟨x,abO (Ac h7)⟩,⟨_,ne _ _ (by omega) h8⟩,⟨_,ne _ _ (by omega) h9⟩,hQ.keep fun b hb1 w0 rows h=>⟨w0,ne _ _ (by have:=hv b hb1;omega) h⟩,hv⟩
theorem aeT{O:Do}{P:Program}(n:Nat)(k:List Ai)(t:List AV)(b:Nat)(h2:Aa)(ps:List Nat)(asg body:Code)(tm:List AV):rnX O P n k t b h2 (some (.lp ps asg body tm (.done .ret)))=Bi (Bm O P n) k .ret ⟨t,h2.set b .dead⟩:=Eq.trans rfl rfl
theorem wZ(b:Nat)(Q:Cj→Aa→Prop)(t:List AV)(h:Aa):RnE b Q (some (.ret,⟨t,h⟩))=∃o h',fU false (It h b Hl.isBusy (.done .ret))=some (o,h')∧Q o h':=Eq.trans rfl rfl
theorem aJ:∀(H G:Aa) (b:Nat),H.length≤G.length→(Gg H G).set b .dead=Gg (H.set b .dead) (G.set b .dead)
 | [],G,b,_=>by simp[Gg]
 |c::H,[],b,h=>by simp at h
 |c::H,c1::G,0,h=>by simp[Gg,CB.quiet,CB.same]
 |c::H,c1::G,b+1,h=>by simp[Gg,aJ H G b (by simpa using h)]
def WyQ(w:Au)(N:Nat)(d:Int)(L:List (Int × Bool))(bk:List Nat)(most f tight:Nat)(rs:List Nat)(room:Nat)(v:AV)(path:List Nat)(H h1:Aa)(LP:CB)(i:Nat)(h':Aa)(o:Cj)(G:Aa):Prop:=
 cT h' G∧((o=.ret (.bool true)∧WyI w N d L bk most f tight rs room v path H h1 LP (i+1) (Gg h' G))∨(o=.ret (.bool false)∧WyS w bk L most f tight rs room v path H h1 (Gg h' G)))
theorem akF{b:Nat}{w:Bool}{rows:List (List AV)}{path:List Nat}(ht:rows.take path.length=path.map Ez)(hl:path.length≤rows.length)(h39:path.length+1≤549755813888)(i base:Nat):apS 1 base b 0 path.length true [[.int .i64 (i:Int)]] (some (.live 1 true w rows))=some (.ret (.slr 1 base 0 (path.length+1)),[.put b .dead,.new base (.live 1 true false ((path++[i]).map Ez))]):=by
 rw[aT]
 have h2:path.length+([[AV.int .i64 (i:Int)]]:List (List AV)).length≤2 ^ 39:=h39
 by_cases e:path.length=rows.length
 ·rw[if_pos ⟨rfl,by omega,h2⟩]
  rw[e,List.take_length]at ht
  simp[ht,Ez]
 ·rw[if_neg (fun h=>e (by have:=h.2.1;omega))]
  unfold apT
  rw[if_pos ⟨rfl,by omega,h2⟩]
  simp[ht,Ez]
structure WyM(h':Aa)(B:Nat)(v':AV)(path:List Nat)(i:Nat)(LB:CB)(M:Aa):Prop where
 len:M.length=h'.length+2
 q:An M=true
 same:∀b,b<h'.length→b≠6→b≠B→b∉Dq v'→M[b]?=(Eb h')[b]?
 m6:M[6]?=some (.live 1 false true [[.slr 1 (h'.length+1) 0 (path.length+1)]])
 mv:∀b∈Dq v',M[b]?=some .dead
 mB:M[B]?=some LB
 mn:M[h'.length+1]?=some (.live 1 true false ((path++[i]).map Ez))
theorem WyM.W{w:Au}{N:Nat}{d:Int}{L:List (Int × Bool)}{bk:List Nat}{most:Nat}{rs:List Nat}{v':AV}{path:List Nat}{h' M:Aa}{B i:Nat}{LB:CB}(m:WyM h' B v' path i LB M)(hB:10≤B)(W:Xy w N d L bk most rs v' path h'):Xy w N d L bk most rs (.slr 1 (h'.length+1) 0 (path.length+1)) (path++[i]) M:=by
 have hv:∀b,b<10→b∉Dq v':=fun b hb h=>by have:=W.hv b h;omega
 obtain⟨⟨x0,h0⟩,⟨x1,h1⟩,⟨x2,h2⟩,⟨x3,h3⟩,⟨x4,h4⟩,⟨x5,h5⟩,⟨fl,x6,h6⟩,⟨x7,h7⟩,⟨x8,h8⟩,⟨x9,h9⟩,hQ,_⟩:=W
 have k:∀(b:Nat) (st:Nat) (fl x:Bool) (rows:List (List AV)),b<10→b≠6→h'[b]?=some (.live st fl x rows)→∃x',M[b]?=some (.live st fl x' rows):=fun b st fl x rows hb hn h=>⟨false,by
  rw[m.same b (Ac h) hn (by omega) (hv b hb),Bj h];rfl⟩
 have hl:=Ac h9
 refine⟨k _ _ _ _ _ (by omega) (by omega) h0,k _ _ _ _ _ (by omega) (by omega) h1,k _ _ _ _ _ (by omega) (by omega) h2,k _ _ _ _ _ (by omega) (by omega) h3,k _ _ _ _ _ (by omega) (by omega) h4,k _ _ _ _ _ (by omega) (by omega) h5,⟨_,_,m.m6⟩,k _ _ _ _ _ (by omega) (by omega) h7,k _ _ _ _ _ (by omega) (by omega) h8,k _ _ _ _ _ (by omega) (by omega) h9,?_,fun b hb=>by simp[Dq]at hb;omega⟩
 exact .inr ⟨_,_,_,by simp,m.mn,afG (by simp),by simp⟩
theorem xE{w:Au}{N:Nat}{d:Int}{L:List (Int × Bool)}{bk:List Nat}{most f tight:Nat}{rs:List Nat}{room:Nat}{v:AV}{path:List Nat}{H h1:Aa}{LP:CB}{i:Nat}{h':Aa}(I:WyI w N d L bk most f tight rs room v path H h1 LP i h')(hLc:LP.clean=LP)(hLq:LP.quiet LP=true)(hH:10≤H.length)(hQ:OS v path H)
 {v':AV} (W':Xy w N d L bk most (room::rs) v' path h') (I2:∀b∈Dq v',b∈Dq v∨H.length+5≤b) {LB:CB} {M:Aa} (m:WyM h' (H.length+4) v' path i LB M) {o:Cj} {G:Aa}
 (P:WyP w N d L bk most (room::rs) (.slr 1 (h'.length+1) 0 (path.length+1)) (path++[i]) M none o G)
 (hans:Rq (Gj w (Vq L)) (fun v=>bk.getD v 0) most (f+1) tight (room::rs) room=Hv (wyR (Gj w (Vq L)) (fun v=>bk.getD v 0) most f tight (room::rs) room) (i+1) ((Gj w (Vq L)).drop (i+1))):
 ∃b3 fl3 x3,G[6]?=some (.live 1 fl3 x3 [[.slr 1 b3 0 (path.length+1)]])∧G[H.length+4]?=some LB∧o=.ret (.bool false)∧∀fl4,WyQ w N d L bk most f tight rs room v path H h1 LP i h' (.ret (.bool true)) ((G.set 6 (.live 1 fl4 true [[.slr 1 b3 0 path.length]])).set (H.length+4) LP):=by
 obtain⟨kk,gq,gp,rfl,v3,W3,gv⟩:=P
 obtain⟨fl3,x3,h6⟩:=W3.h6
 have hl:=I.len
 have ml:=m.len
 have hvl:∀b∈Dq v',b<h'.length∧b≠H.length+4:=fun b hb=>⟨(W'.hQ.lt b hb).1,by
  rcases I2 b hb with h|h
  ·have:=(hQ.lt b h).1;omega
  ·omega⟩
 have sG:∀b,b<h'.length→b≠6→b≠7→G[b]?=M[b]?:=fun b hb n6 n7=>kk.same b (by omega) (by simp[Dq];omega)
 have hB:G[H.length+4]?=some LB:=by rw[sG _ (by omega) (by omega) (by omega)];exact m.mB
 rcases W3.hQ with⟨_,h⟩|⟨b3,w3,rows3,rfl,hb3,ht3,hl3⟩
 ·simp at h
 rw[show(path++[i]).length=path.length+1 by simp]at h6 ht3 hl3
 have hb3':=gv b3 (by simp[Dq])
 simp only[Dq,abN,List.not_mem_nil,or_false]at hb3'
 have hb3l:h'.length≤b3:=by omega
 refine⟨b3,fl3,x3,h6,hB,rfl,fun fl4=>?_⟩
 obtain⟨FG,hFG⟩:∃FG,(G.set 6 (.live 1 fl4 true [[.slr 1 b3 0 path.length]])).set (H.length+4) LP=FG:=⟨_,rfl⟩
 rw[hFG]
 have hGl:=kk.len
 have hFl:FG.length=G.length:=by rw[←hFG];simp
 have F6:FG[6]?=some (.live 1 fl4 true [[.slr 1 b3 0 path.length]]):=by rw[←hFG,aaI (by omega),abO (Ac h6)]
 have FB:FG[H.length+4]?=some LP:=by rw[←hFG,abO (by simp;exact Ac hB)]
 have Fn:∀b,b≠6→b≠H.length+4→FG[b]?=G[b]?:=fun b n6 nB=>by rw[←hFG,aaI (fun e=>nB e.symm),aaI (fun e=>n6 e.symm)]
 have Fo:∀b,b<h'.length→b≠6→b≠7→b≠H.length+4→b∉Dq v'→FG[b]?=(Eb h')[b]?:=fun b hb n6 n7 nB nv=>by rw[Fn b n6 nB,sG b hb n6 n7,m.same b hb n6 nB nv]
 obtain⟨fl6,x6,j6⟩:=W'.h6
 obtain⟨x7,j7⟩:=W'.h7
 have kO:Kq h' FG:=⟨by omega,fun b c0 c g0 g1=>by
  have hb:=Ac g0
  by_cases eB:b=H.length+4
  ·subst eB;rw[FB]at g1;rw[I.b4]at g0;cases g0;cases g1
   exact .inl ⟨hLq,rfl⟩
  ·by_cases e6:b=6
   ·subst e6;rw[F6]at g1;rw[j6]at g0;cases g0;cases g1
    exact .inr ⟨rfl,.inl ⟨_,_,_,rfl⟩⟩
   ·by_cases ev:b∈Dq v'
    ·have n7:b≠7:=by have:=W'.hv b ev;omega
     rw[Fn b e6 eB,sG b hb e6 n7,m.mv b ev]at g1;cases g1
     obtain⟨_,_,_,h2⟩:=W'.hQ.lt b ev
     rw[h2]at g0;cases g0
     exact .inr ⟨rfl,.inr rfl⟩
    ·by_cases e7:b=7
     ·subst e7
      rw[Fn 7 (by omega) (by omega)]at g1
      rw[j7]at g0;cases g0
      rcases gp 7 (by simp)with h|⟨c',h,h'⟩
      ·rw[g1,m.same 7 hb (by omega) (by omega) ev,Bj j7]at h
       cases h;exact .inl ⟨rfl,rfl⟩
      ·rw[g1]at h;cases h
       exact .inr ⟨rfl,h'⟩
     ·rw[Fo b hb e6 e7 eB ev,Bj g0]at g1;cases g1
      exact .inl ⟨Bl I.q g0,(Jb c0).symm⟩⟩
 have hFq:An FG=true:=by rw[←hFG];exact Ar (Ar gq _ rfl) _ (by rw[hLc];exact hLq)
 have WF:Xy w N d L bk most (room::rs) (.slr 1 b3 0 path.length) path FG:=by
  obtain⟨⟨x0,h0⟩,⟨x1,h1⟩,⟨x2,h2⟩,⟨x3,h3⟩,⟨x4,h4⟩,⟨x5,h5⟩,_,⟨x7,h7⟩,⟨x8,h8⟩,⟨x9,h9⟩,_,_⟩:=W3
  have k:∀b (c:CB),b<10→b≠6→G[b]?=some c→FG[b]?=some c:=fun b c hb n6 h=>by rw[Fn b n6 (by omega)];exact h
  refine⟨⟨x0,k _ _ (by omega) (by omega) h0⟩,⟨x1,k _ _ (by omega) (by omega) h1⟩,⟨x2,k _ _ (by omega) (by omega) h2⟩,⟨x3,k _ _ (by omega) (by omega) h3⟩,⟨x4,k _ _ (by omega) (by omega) h4⟩,⟨x5,k _ _ (by omega) (by omega) h5⟩,⟨_,_,F6⟩,⟨x7,k _ _ (by omega) (by omega) h7⟩,⟨x8,k _ _ (by omega) (by omega) h8⟩,⟨x9,k _ _ (by omega) (by omega) h9⟩,?_,fun b hb=>by simp[Dq]at hb;omega⟩
  refine .inr ⟨b3,w3,rows3,rfl,by rw[Fn b3 (by omega) (by omega)];exact hb3,?_,by omega⟩
  have e:=congrArg (List.take path.length) ht3
  rw[List.take_take,Nat.min_eq_left (by omega),←List.map_take,List.take_left' rfl]at e
  exact e
 have mln:(Gg h' FG).length=FG.length:=Ji kO.1
 have old:∀(b:Nat),H.length≤b→b<H.length+4→b∉Dq v':=fun b h1 h2 hb=>by
  rcases I2 b hb with h|h
  ·have:=(hQ.lt b h).1;omega
  ·omega
 have li:∀{b st:Nat} {fl x:Bool} {rows:List (List AV)},H.length≤b→b<H.length+4→h'[b]?=some (.live st fl x rows)→∃x',(Gg h' FG)[b]?=some (.live st fl x' rows):=fun {b st fl x rows} g1 g2 g3=>kO.live (fl:=fl) (w:=false) (by rw[Fo b (Ac g3) (by omega) (by omega) (by omega) (old b g1 g2),Bj g3];rfl)
 obtain⟨y0,k0⟩:=I.b0
 obtain⟨y1,k1⟩:=I.b1
 obtain⟨y2,k2⟩:=I.b2
 obtain⟨y3,k3⟩:=I.b3
 refine⟨kO.sh,.inl ⟨rfl,⟨_,WF.okw kO,fun b hb=>by simp[Dq]at hb;omega⟩,hans,li (by omega) (by omega) k0,li (by omega) (by omega) k1,li (by omega) (by omega) k2,li (by omega) (by omega) k3,Kq.old I.b4 FB hLq,by omega,kO.quiet I.q hFq,I.ok.trans kO,fun b hb hn=>?_⟩⟩
 have hnv:b∉Dq v':=fun h=>by
  rcases I2 b h with h|h
  ·exact hn (by simp[h])
  ·omega
 obtain⟨c0,g0⟩:∃c0,h'[b]?=some c0:=⟨_,abQ (by omega)⟩
 simp only[abN,not_or]at hn
 rw[Gh g0 (by rw[Fo b (by omega) hn.1 hn.2.1 (by omega) hnv];exact Bj g0) (Bl I.q g0),←g0]
 exact I.same b hb (by simp only[abN,not_or];exact hn)
theorem Kq.setd{H G:Aa}(k:Kq H G)(n:Nat):Kq (H.set n .dead) (G.set n .dead):=⟨by simpa using k.1,fun b c0 c g0 g1=>by
 by_cases e:n=b
 ·subst e
  have hl:=Ac g0
  have hl2:=Ac g1
  rw[abO (by simpa using hl)]at g0
  rw[abO (by simpa using hl2)]at g1
  cases g0;cases g1;exact .inl ⟨rfl,rfl⟩
 ·rw[aaI e]at g0 g1
  exact k.2 b c0 c g0 g1⟩
theorem pI{w:Au}{N:Nat}{d:Int}{L:List (Int × Bool)}{bk:List Nat}{most f tight:Nat}{rs:List Nat}{room:Nat}{v:AV}{path:List Nat}{H h1:Aa}{LP:CB}{i:Nat}{h':Aa}(I:WyI w N d L bk most f tight rs room v path H h1 LP i h')(hLl:LP.isLive=true)(hH:10≤H.length)(hQ:OS v path H)
 {v':AV} (W':Xy w N d L bk most (room::rs) v' path h') (I2:∀b∈Dq v',b∈Dq v∨H.length+5≤b) {LB:CB} {M:Aa} (m:WyM h' (H.length+4) v' path i LB M) {o:Cj} {G:Aa} {l:List Nat}
 (P:WyP w N d L bk most (room::rs) (.slr 1 (h'.length+1) 0 (path.length+1)) (path++[i]) M (some l) o G)
 (hans:Rq (Gj w (Vq L)) (fun v=>bk.getD v 0) most (f+1) tight (room::rs) room=some (i::l)) {ps:List Nat} {ca cb:Code} {tm:List AV} (hLd:LP.quiet (.lp ps ca cb tm (.done .ret))=false):
 (∃x,G[H.length+1]?=some (.live 1 true x [[.bool false]]))∧G[H.length+4]?=some LB∧o=.ret (.bool true)∧WyQ w N d L bk most f tight rs room v path H h1 LP i h' (.ret (.bool false)) ((G.set (H.length+1) (.live 1 true true [[.bool true]])).set (H.length+4) (.lp ps ca cb tm (.done .ret))):=by
 obtain⟨kk,gq,gp,rfl,fl3,x3,v3,h6,hO3,gv⟩:=P
 have hl:=I.len
 have ml:=m.len
 have sG:∀b,b<h'.length→b≠6→b≠7→G[b]?=M[b]?:=fun b hb n6 n7=>kk.same b (by omega) (by simp[Dq];omega)
 have hB:G[H.length+4]?=some LB:=by rw[sG _ (by omega) (by omega) (by omega)];exact m.mB
 have old:∀(b:Nat),H.length≤b→b<H.length+4→b∉Dq v':=fun b h1 h2 hb=>by
  rcases I2 b hb with h|h
  ·have:=(hQ.lt b h).1;omega
  ·omega
 obtain⟨y1,k1⟩:=I.b1
 have hR:G[H.length+1]?=some (.live 1 true false [[.bool false]]):=by
  rw[sG _ (by omega) (by omega) (by omega),m.same _ (by omega) (by omega) (by omega) (old _ (by omega) (by omega)),Bj k1];rfl
 refine⟨⟨false,hR⟩,hB,rfl,?_⟩
 obtain⟨FG,hFG⟩:∃FG,(G.set (H.length+1) (.live 1 true true [[.bool true]])).set (H.length+4) (.lp ps ca cb tm (.done .ret))=FG:=⟨_,rfl⟩
 rw[hFG]
 have hGl:=kk.len
 have hFl:FG.length=G.length:=by rw[←hFG];simp
 have F1:FG[H.length+1]?=some (.live 1 true true [[.bool true]]):=by rw[←hFG,aaI (by omega),abO (Ac hR)]
 have FB:FG[H.length+4]?=some (.lp ps ca cb tm (.done .ret)):=by rw[←hFG,abO (by simp;exact Ac hB)]
 have Fn:∀b,b≠H.length+1→b≠H.length+4→FG[b]?=G[b]?:=fun b n6 nB=>by rw[←hFG,aaI (fun e=>nB e.symm),aaI (fun e=>n6 e.symm)]
 have Fo:∀b,b<h'.length→b≠6→b≠7→b≠H.length+1→b≠H.length+4→b∉Dq v'→FG[b]?=(Eb h')[b]?:=fun b hb n6 n7 n1 nB nv=>by rw[Fn b n1 nB,sG b hb n6 n7,m.same b hb n6 nB nv]
 obtain⟨fl6,x6,j6⟩:=W'.h6
 obtain⟨x7,j7⟩:=W'.h7
 have one:∀b c0 c,b≠H.length+4→h'[b]?=some c0→FG[b]?=some c→(c0.quiet c=true∧c0.clean=c.clean)∨(c0.isLive=true∧Wrt c):=fun b c0 c eB g0 g1=>by
  have hb:=Ac g0
  by_cases e1:b=H.length+1
  ·subst e1;rw[F1]at g1;rw[k1]at g0;cases g0;cases g1
   exact .inr ⟨rfl,.inl ⟨_,_,_,rfl⟩⟩
  ·by_cases e6:b=6
   ·subst e6;rw[j6]at g0;cases g0
    rw[Fn 6 (by omega) (by omega)]at g1
    rcases gp 6 (by simp)with h|⟨c',h,hw⟩
    ·rw[g1,m.m6]at h;cases h;exact .inr ⟨rfl,.inl ⟨_,_,_,rfl⟩⟩
    ·rw[g1]at h;cases h;exact .inr ⟨rfl,hw⟩
   ·by_cases ev:b∈Dq v'
    ·have n7:b≠7:=by have:=W'.hv b ev;omega
     rw[Fn b e1 eB,sG b hb e6 n7,m.mv b ev]at g1;cases g1
     obtain⟨_,_,_,h2⟩:=W'.hQ.lt b ev
     rw[h2]at g0;cases g0
     exact .inr ⟨rfl,.inr rfl⟩
    ·by_cases e7:b=7
     ·subst e7
      rw[Fn 7 (by omega) (by omega)]at g1
      rw[j7]at g0;cases g0
      rcases gp 7 (by simp)with h|⟨c',h,hw⟩
      ·rw[g1,m.same 7 hb (by omega) (by omega) ev,Bj j7]at h
       cases h;exact .inl ⟨rfl,rfl⟩
      ·rw[g1]at h;cases h
       exact .inr ⟨rfl,hw⟩
     ·rw[Fo b hb e6 e7 e1 eB ev,Bj g0]at g1;cases g1
      exact .inl ⟨Bl I.q g0,(Jb c0).symm⟩
 have sh:cT h' FG:=⟨by omega,fun b c0 c g0 g1=>by
  by_cases eB:b=H.length+4
  ·subst eB;rw[I.b4]at g0;cases g0;exact .inr hLl
  ·exact(one b c0 c eB g0 g1).imp (fun h=>h.1) (fun h=>h.1)⟩
 have hqd:An (FG.set (H.length+4) .dead)=true:=by
  rw[←hFG,List.set_set];exact Ar (Ar gq _ rfl) _ rfl
 have k2:Kq (h'.set (H.length+4) .dead) (FG.set (H.length+4) .dead):=⟨by simp;omega,fun b c0 c g0 g1=>by
  by_cases eB:H.length+4=b
  ·subst eB
   rw[abO (by omega)]at g0 g1
   cases g0;cases g1;exact .inl ⟨rfl,rfl⟩
  ·rw[aaI eB]at g0 g1
   exact one b c0 c (fun e=>eB e.symm) g0 g1⟩
 have mln:(Gg h' FG).length=FG.length:=Ji sh.1
 have md:=aJ h' FG (H.length+4) sh.1
 have dne:∀{b:Nat} {X:Aa},b≠H.length+4→(X.set (H.length+4) CB.dead)[b]?=X[b]?:=fun {b X} n=>aaI (fun e=>n e.symm)
 have lv:∀{b st:Nat} {fl x:Bool} {rows:List (List AV)},b≠H.length+4→FG[b]?=some (.live st fl x rows)→∃x',(Gg h' FG)[b]?=some (.live st fl x' rows):=fun {b st fl x rows} n g=>by
  obtain⟨x',h⟩:=k2.live (fl:=fl) (w:=x) (by rw[dne n];exact g)
  rw[←md,dne n]at h
  exact⟨x',h⟩
 have hv3:∀b∈Dq v3,h'.length≤b:=fun b hb=>by
  rcases gv b hb with h|h
  ·simp[Dq]at h;omega
  ·omega
 obtain⟨x6',m6⟩:=lv (b:=6) (by omega) (by rw[Fn 6 (by omega) (by omega)];exact h6)
 refine⟨sh,.inr ⟨rfl,⟨i::l,v3,fl3,x6',hans,m6,?_,fun b hb=>by have:=hv3 b hb;omega⟩,lv (by omega) F1,⟨ps,ca,cb,tm,Le I.b4 FB hLd⟩,by omega,?_,?_,fun b hb hn=>?_⟩⟩
 ·rw[show path++i::l=path++[i]++l by simp]
  exact hO3.keep fun b hb w0 rows h=>lv (by have:=hv3 b hb;omega) (by rw[Fn b (by have:=hv3 b hb;omega) (by have:=hv3 b hb;omega)];exact h)
 ·rw[md];exact k2.quiet (Ar I.q _ rfl) hqd
 ·rw[md];exact(I.ok.setd _).trans k2
 have hnv:b∉Dq v':=fun h=>by
  rcases I2 b h with h|h
  ·exact hn (by simp[h])
  ·omega
 obtain⟨c0,g0⟩:∃c0,h'[b]?=some c0:=⟨_,abQ (by omega)⟩
 simp only[abN,not_or]at hn
 rw[Gh g0 (by rw[Fo b (by omega) hn.1 hn.2.1 (by omega) (by omega) hnv];exact Bj g0) (Bl I.q g0),←g0]
 exact I.same b hb (by simp only[abN,not_or];exact hn)
theorem wT(b k:Nat):slx Tryd.prog 28 (some (.slr 1 b 0 (k+1))) (some none) (some (some (.int .i64 (k:Int))))=some (.ret (.slr 1 b 0 k),[]):=by
 have hz:Md Tryd.prog 3=some 1:=by kernel_rfl
 simp only[slx,Option.bind_some,Xu,Tryd.underlying28,hz,Gl]
 simp[Gl,r1]
 rw[if_pos (by omega)];rfl
theorem Jv:∀(N:Nat) (l:List Nat),l.Nodup→(∀x∈l,x<N)→l.length≤N
 |0,[],_,_=>by simp
 |0,a::l,_,h=>absurd (h a (by simp)) (by omega)
 |N+1,l,hn,h=>by
  by_cases e:N∈l
  ·have h1:=Jv N (l.erase N) (hn.erase N) fun x hx=>by
    have h2:=h x (List.mem_of_mem_erase hx)
    have h3:x≠N:=fun e2=>by subst e2;exact(hn.not_mem_erase) hx
    omega
   rw[List.length_erase_of_mem e]at h1
   omega
  ·exact Nat.le_succ_of_le (Jv N l hn fun x hx=>by
    have h2:=h x hx
    have h3:x≠N:=fun e2=>e (e2▸hx)
    omega)
theorem ahS{w:Au}{N:Nat}(hw:tO w N)(h12:w.parts.length≤12){d:Int}{L:List (Int × Bool)}(hL12:L.length=12){bk:List Nat}(hbk:bk.length=N)(hbb:∀x∈bk,x≤Dj){most:Nat}(hmo:most≤1000):∀(f:Nat) (rs:List Nat) (room tight:Nat) (path:List Nat) (v:AV) (H:Aa),
 An H=true→Xy w N d L bk most rs v path H→room<N→(room::rs).Nodup→(∀r∈rs,r<N)→tight≤most→path.length=rs.length→N≤rs.length+f→
 mU Fq 61 ([.int .i64 (room:Int),.int .i64 (tight:Int)]++srA) H (WyP w N d L bk most rs v path H (Rq (Gj w (Vq L)) (fun v=>bk.getD v 0) most f tight (room::rs) room)):=by
 intro f
 induction f with
 |zero=>
  intro rs room tight path v H _ _ hrN hnd hlt _ _ hfu
  have:=Jv N (room::rs) hnd fun x hx=>by
   rcases abN.1 hx with rfl|hx
   ·exact hrN
   ·exact hlt x hx
  simp at this;omega
 |succ f ih=>
 intro rs room tight path v H hq hW hrN hnd hlt htm hpl hfu
 have hrr:room∉rs:=(abR.1 hnd).1
 have hr:=hw.rooms
 have n2:=hw.n2
 have n8:=hw.n8
 obtain⟨⟨x0,h0⟩,⟨x1,h1⟩,⟨x2,h2⟩,⟨x3,h3⟩,⟨x4,h4⟩,⟨x5,h5⟩,⟨fl,x6,h6⟩,⟨x7,h7⟩,⟨x8,h8⟩,⟨x9,h9⟩,hQ,hv⟩:=id hW
 have hl9:=Ac h9
 refine mT rfl Tryd.func61 rfl rfl ?_
 simp only[Tryd.f61,srA,List.cons_append,abT]
 by_cases e1:room=1
 ·subst e1
  (have hb:=trivial;with_reducible repeat' (first|simp only[hb,Vc.down,seval,Wq.down,Ak h8,Hn,Fe]|refine Br ?_ ?_<;>intro hb|refine fd ?_|fail))
  have hw1:Rq (Gj w (Vq L)) (fun v=>bk.getD v 0) most (f+1) tight (1::rs) 1=some []:=by rw[Rq,if_pos rfl]
  rw[hw1]
  refine⟨(Qk.app _ _).mono (by simp),Bg hq rfl,fun b hb1=>.inl ?_,rfl,fl,x6,v,Ak h6 _,by rw[af8];exact hQ.app _,fun b hb1=>.inl hb1⟩
  refine abP ?_
  rcases abN.1 hb1 with rfl|hb1
  ·exact Ac h6
  ·rcases abN.1 hb1 with rfl|hb1
   ·exact Ac h7
   ·exact(hQ.lt b hb1).1
 ·have q1:((room:Int)==1)=false:=by simp;omega
  have o1:((room:Int)<(N:Int))=True:=eq_true (by omega)
  have hmr:((Of N rs).map Tc)[room]?=some [.bool false]:=by rw[Jo rs hrN];simp[hrr]
  have hms:=yO (N:=N) (room:=room) rs
  have hS:=Hg (b:=7) (Ac h7)
  have hat:=amJ w d (room:Int) false
  have g0:∀c l,(H.set 7 c++l)[0]?=some (.live 4 false x0 [[.int .i64 w.rooms,.int .i64 w.need,Dh 9 true w.nn (w.parts.map Ag.cells),.int .i64 d]]):=fun c l=>by
   rw[abP (by simp;omega),aaI (by omega)];exact h0
  have g1:∀c l,(H.set 7 c++l)[1]?=some (.live 1 false x1 [[.ptr 0 0 0]]):=fun c l=>by
   rw[abP (by simp;omega),aaI (by omega)];exact h1
  rw[hr]at hat g0
  have m1:((N:Int)≤(N:Int))=True:=eq_true (Int.le_refl _)
  obtain⟨r2,hr2⟩:∃r,(Of N (room::rs)).map Tc=r:=⟨_,rfl⟩
  obtain⟨r1,hr1⟩:∃r,(Of N rs).map Tc=r:=⟨_,rfl⟩
  rw[hr1,hr2]at hms
  rw[hr1]at hmr h7
  (have hb:=trivial;with_reducible repeat' (first|simp only[hb,Vc.down,seval,Wq.down,Ak h8,Ak h7,hmr,hms,hS,q1,o1,g0,g1,hat,Hn,Fe,List.length_set,aeJ]|refine Br ?_ ?_<;>intro hb|refine fd ?_|fail))
  generalize hLP:CB.lp _ _ _ _ _=LP
  obtain⟨h1',hh1⟩:∃h1:Aa,H.set 7 (.live 1 true true r2)++[.live 1 true false [[.int .i64 (tight:Int)]],.live 1 true false [[.bool false]],.live 1 false false [[.ptr 0 0 0]],.live 1 true false [[.int .i64 (room:Int)]],LP]=h1:=⟨_,rfl⟩
  refine yD (alZ hw (d:=d) (r:=(room:Int)) (lb:=H.length+2) (rb:=H.length+3) (kb:=0) (WyI w N d L bk most f tight rs room v path H h1' LP) (WyS w bk L most f tight rs room v path H h1') ?_ ?_ ?_ ?_ ?_ ?_ ?_) ?_
  ·exact fun i h' I=>I.b2
  ·exact fun i h' I=>by obtain⟨v',I1,_⟩:=I.W;exact⟨_,I1.h0.choose_spec⟩
  ·exact fun i h' I=>I.b3
  ·intro i h' fl wf rows I
   obtain⟨v',I1,I2⟩:=I.W
   obtain⟨y0,I3⟩:=I.b0
   obtain⟨y1,I4⟩:=I.b1
   obtain⟨y2,I5⟩:=I.b2
   obtain⟨y3,I6⟩:=I.b3
   have:=I.len
   exact⟨⟨v',I1.app _,I2⟩,I.ans,⟨y0,Ak I3 _⟩,⟨y1,Ak I4 _⟩,⟨y2,Ak I5 _⟩,⟨y3,Ak I6 _⟩,Ak I.b4 _,by simp;omega,Bg I.q rfl,I.ok.app _,fun b hb1 hb2=>by rw[abP (by omega)];exact I.same b hb1 hb2⟩
  ·intro i p u h' hpx hu I
   have hLc:LP.clean=LP:=by rw[←hLP];rfl
   have hLq:LP.quiet LP=true:=by rw[←hLP];rfl
   have hLl:LP.isLive=true:=by rw[←hLP];rfl
   have hpo:=hw.part p (af9 hpx)
   have hil:i<w.parts.length:=(abU.1 hpx).1
   obtain⟨pc,hpc⟩:∃x,L[i]?=some x:=⟨_,abQ (by omega)⟩
   have he:=gU hpx hpc
   obtain⟨to,rfl,htN,hto⟩:∃to:Nat,u=(to:Int)∧to<N∧bW (p.one.toNat,p.other.toNat,if pG pc=true then 1 else 0) room=some to:=by
    rcases hu with⟨g1,g2⟩|⟨g1,g2,g3⟩
    ·exact⟨p.other.toNat,by omega,by omega,by unfold bW;rw[if_pos (by simp only;omega)]⟩
    ·exact⟨p.one.toNat,by omega,by omega,by unfold bW;rw[if_neg (by simp only;omega),if_pos (by simp only;omega)]⟩
   have hstep:=I.ans
   rw[dJ he]at hstep
   simp only[wyR,hto]at hstep
   have round:RnQ Fq ([.int .i64 (i:Int),.int .i64 (to:Int)]++[.yl (H.length+4)]) (Eb h') (WyQ w N d L bk most f tight rs room v path H h1' LP i h'):=by
    obtain⟨v',W',I2⟩:=I.W
    obtain⟨⟨y0,j0⟩,⟨y1,j1⟩,⟨y2,j2⟩,⟨y3,j3⟩,⟨y4,j4⟩,⟨y5,j5⟩,⟨fl6,y6,j6⟩,⟨y7,j7⟩,⟨y8,j8⟩,⟨y9,j9⟩,jQ,jv⟩:=id W'
    obtain⟨z0,k0⟩:=I.b0
    obtain⟨z1,k1⟩:=I.b1
    have hlen:=I.len
    have k8:=I.b4
    have hbc:=Bj I.b4
    rw[hLc]at hbc
    have hne2:∀(b:Nat) (c X:CB),b≠H.length+4→h'[b]?=some c→((Eb h').set (H.length+4) X)[b]?=some c.clean:=fun b c X hn hc=>by rw[aaI (fun e=>hn e.symm),Bj hc]
    obtain⟨q1,hq1⟩:∃q,Fn.func 61=q:=⟨_,rfl⟩
    have g2':=fun X=>hne2 2 _ X (by omega) j2
    have g3':=fun X=>hne2 3 _ X (by omega) j3
    have g4':=fun X=>hne2 4 _ X (by omega) j4
    have g5':=fun X=>hne2 5 _ X (by omega) j5
    have g6':=fun X=>hne2 6 _ X (by omega) j6
    have g7':=fun X=>hne2 7 _ X (by omega) j7
    have g8':=fun X=>hne2 8 _ X (by omega) j8
    have g9':=fun X=>hne2 9 _ X (by omega) j9
    have gb0:=fun X=>hne2 _ _ X (by omega) k0
    have gb1:=fun X=>hne2 _ _ X (by omega) k1
    rw[hq1]at g9'
    simp only[CB.clean]at g2' g3' g4' g5' g6' g7' g8' g9' gb0 gb1
    have hself:∀X:CB,((Eb h').set (H.length+4) X)[H.length+4]?=some X:=fun X=>abO (Ac hbc)
    have hback:∀X:CB,(((Eb h').set (H.length+4) X).set (H.length+4) LP)=Eb h':=fun X=>by
     rw[List.set_set];exact jH hbc
    have sm:=pL (l:=[]) I.q
    simp only[af8]at sm
    have fin0:∀(_:to∈room::rs∨most<tight+(if pG pc=true then 1 else 0)+bk.getD to 0),WyQ w N d L bk most f tight rs room v path H h1' LP i h' (.ret (.bool true)) (Eb h'):=fun hc=>by
     unfold WyQ;rw[sm.2]
     refine⟨sm.1.sh,.inl ⟨rfl,{ I with ans:=?_ }⟩⟩
     rw[hstep,if_pos hc]
    have hi12:((i:Int)<12)=True:=eq_true (by omega)
    have hp24:(i*2+2≤24)=True:=eq_true (by omega)
    have hpl24:(Gz L).length=24:=by rw[Ld];omega
    have htk:=fR _ _ _ _ hpc
    have htt:=hU pc.1 pc.2
    rw[show(pc.1==0&& !pc.2)=pG pc from rfl]at htt
    have hbit:=agJ (pG pc)
    have hmt:=Jo (room::rs) htN
    rw[hr2]at hmt g7'
    have hbt:=Zt (d:=bk) (a:=to) (by omega)
    have hble:bk.getD to 0≤Dj:=hbb _ (by rw[agB,abQ (by omega:to<bk.length)];exact List.getElem_mem _)
    obtain⟨rbk,hrbk⟩:∃r,bk.map Ez=r:=⟨_,rfl⟩
    rw[hrbk]at hbt g4'
    have htN':((to:Int)<(N:Int))=True:=eq_true (by omega)
    obtain⟨c,hc⟩:∃c:Nat,(if pG pc=true then 1 else 0)=c:=⟨_,rfl⟩
    have hc1:c≤1:=by rw[←hc];split<;>omega
    have hbit':(if pG pc=true then(1:Int)else 0)=(c:Int):=by rw[←hc];split<;>rfl
    simp only[hc]at hstep fin0
    have hw1:IntKind.i64.wrap ((tight:Int)+(c:Int))=((tight+c:Nat):Int):=by have:=Fz (n:=((tight+c:Nat):Int)) (by omega) (by omega);simpa using this
    have hw2:IntKind.i64.wrap (((tight+c:Nat):Int)+(bk.getD to 0:Nat))=((tight+c+bk.getD to 0:Nat):Int):=by have:Dj=1048576:=rfl;have:=Fz (n:=((tight+c+bk.getD to 0:Nat):Int)) (by omega) (by omega);simpa using this
    generalize bk.getD to 0=bt at *
    generalize Gz L=ps at *
    by_cases hA:to∈room::rs
    ·have fz:=fin0 (.inl hA)
     rw[decide_eq_true hA]at hmt
     subst hLP
     cases hgt:decide ((most:Int)<((tight+(c+bt):Nat):Int))<;>
     ·refine lN hbc rfl ?_
      (have hb:=trivial;with_reducible repeat' (first|simp only[hb,Vc.down,seval,Wq.down,k8,g2',g3',g4',g5',g7',g8',gb0,Im,hi12,hp24,hpl24,htk,htt,hbit,hbit',hmt,hbt,htN',hw1,hw2,hgt,hself,hback]|refine Br ?_ ?_<;>intro hb|refine fd ?_|fail))
      exact⟨_,_,rfl,fz⟩
    ·rw[decide_eq_false hA]at hmt
     by_cases hB:most<tight+c+bt
     ·have fz:=fin0 (.inr hB)
      have hgt:decide ((most:Int)<((tight+(c+bt):Nat):Int))=true:=decide_eq_true (by omega)
      subst hLP
      refine lN hbc rfl ?_
      (have hb:=trivial;with_reducible repeat' (first|simp only[hb,Vc.down,seval,Wq.down,k8,g2',g3',g4',g5',g7',g8',gb0,Im,hi12,hp24,hpl24,htk,htt,hbit,hbit',hmt,hbt,htN',hw1,hw2,hgt,hself,hback]|refine Br ?_ ?_<;>intro hb|refine fd ?_|fail))
      exact⟨_,_,rfl,fz⟩
     ·have hgt:decide ((most:Int)<((tight+(c+bt):Nat):Int))=false:=decide_eq_false (by omega)
      have hj:=I2
      have hjl:=fun b hb=>(jQ.lt b hb).1
      subst hLP
      have hl10:=Ac j9
      have ll:∀X:CB,((Eb h').set (H.length+4) X).length=h'.length:=fun X=>by simp[As]
      have an:∀(X c:CB),((Eb h').set (H.length+4) X++[c])[h'.length]?=some c:=fun X c=>by
       rw[abS (by rw[ll];exact Nat.le_refl _),ll,Nat.sub_self];rfl
      have a6:=fun X l=>Ak (g6' X) l
      have s6:=fun X=>Hg (b:=6) (h:=(Eb h').set (H.length+4) X) (by rw[ll];omega)
      have a9:∀X c l,(((Eb h').set (H.length+4) X).set 6 c++l)[9]?=some (.live 1 false false [[.func q1 [] srA]]):=fun X c l=>by
       rw[abP (by simp[As];omega),aaI (by omega)];exact g9' X
      rcases jQ with⟨rfl,hpe⟩|⟨b0,w0,rows0,rfl,jb,jt,jle⟩
      ·refine lN hbc rfl ?_
       (have hb:=trivial;with_reducible repeat' (first|simp only[hb,Vc.down,seval,Wq.down,k8,g2',g3',g4',g5',g6',g7',g8',g9',gb0,Im,hi12,hp24,hpl24,htk,htt,hbit,hbit',hmt,hbt,htN',hw1,hw2,hgt,an,a6,s6,a9,ll]|refine Br ?_ ?_<;>intro hb|refine fd ?_|fail))
       generalize hLB:CB.lp _ _ _ _ Hl.busy=LB
       have hLBq:LB.quiet LB.clean=true:=by rw[←hLB];rfl
       obtain⟨M,hM⟩:∃M,((Eb h').set (H.length+4) LB).set 6 (CB.live 1 false true [[.slr 1 (h'.length+1) 0 1]])++[CB.live 1 true false [[.int .i64 (i:Int)]],CB.live 1 true false [[.int .i64 (i:Int)]]]=M:=⟨_,rfl⟩
       have hWM:WyM h' (H.length+4) .nils path i LB M:=by
        subst hpe
        rw[←hM]
        refine⟨by simp[As],Bg (Ar (Ar (Fh I.q) _ hLBq) _ rfl) rfl,fun b hb n6 nB _=>?_,?_,fun b hb=>by simp[Dq]at hb,?_,?_⟩
        ·rw[abP (by simp[As];omega),aaI (fun e=>n6 e.symm),aaI (fun e=>nB e.symm)]
        ·rw[abP (by simp[As];omega),abO (by simp[As];omega)];rfl
        ·rw[abP (by simp[As];omega),aaI (by omega)];exact hself LB
        ·rw[abS (by simp[As])];simp[As,Ez]
       rw[hM]
       have W2:=hWM.W (by omega) W'
       have K:=ih (room::rs) to (tight+c) (path++[i]) _ (Eb M) (Fh hWM.q) W2.cln htN (abR.2 ⟨hA,hnd⟩) (fun r hr1=>by
        rcases abN.1 hr1 with rfl|hr1
        ·exact hrN
        ·exact hlt r hr1) (by omega) (by simp[hpl]) (by simp;omega)
       obtain⟨o,es,G,c1,c2,c3⟩:=nJ hWM.q W2 K
       rw[hq1]at c1
       rw[if_neg (fun h=>h.elim hA hB)]at hstep
       have hw3:IntKind.i64.wrap (((path.length+1:Nat):Int)-1)=(path.length:Int):=by
        have:=Jv N rs (abR.1 hnd).2 hlt
        have:=Fz (n:=(path.length:Int)) (by omega) (by omega)
        rw[show(((path.length+1:Nat):Int)-1)=(path.length:Int) by omega];exact this
       have hsl:=wT
       cases hres:Rq (Gj w (Vq L)) (fun v=>bk.getD v 0) most f (tight+c) (to::room::rs) to with
       |none=>
        rw[hres]at c3 hstep
        obtain⟨b3,fl3,x3,n6,nB,rfl,fz⟩:=xE I hLc hLq (by omega) hQ W' I2 hWM c3 hstep
        have nB2:∀X,(G.set 6 X)[H.length+4]?=some LB:=fun X=>by rw[aaI (by omega)];exact nB
        subst hLB
        (have hb:=trivial;with_reducible repeat' (first|simp only[hb,Vc.down,seval,Wq.down,c1,c2,n6,nB,nB2,hw3,hsl]|refine Br ?_ ?_<;>intro hb|refine fd ?_|fail))
        exact⟨_,_,rfl,fz _⟩
       |some l=>
        rw[hres]at c3 hstep
        obtain⟨⟨x3,n1⟩,nB,rfl,fz⟩:=pI I hLl (by omega) hQ W' I2 hWM c3 hstep (by rfl)
        have nB2:∀X,(G.set (H.length+1) X)[H.length+4]?=some LB:=fun X=>by rw[aaI (by omega)];exact nB
        subst hLB
        (have hb:=trivial;with_reducible repeat' (first|simp only[hb,Vc.down,seval,Wq.down,c1,c2,n1,nB,nB2,wZ]|refine Br ?_ ?_<;>intro hb|refine fd ?_|fail))
        exact⟨_,_,rfl,fz⟩
      ·have hb4:b0≠H.length+4:=by
        have h:=hj b0 (by simp[Dq])
        rcases h with h|h
        ·have:=(hQ.lt b0 h).1;omega
        ·omega
       have gbb:=fun X=>hne2 b0 _ X hb4 jb
       simp only[CB.clean]at gbb
       have hbl:=hjl b0 (by simp[Dq])
       have h39:path.length+1≤549755813888:=by have:=Jv N rs (abR.1 hnd).2 hlt;omega
       have hap:=fun base=>akF (w:=false) (b:=b0) jt jle h39 i base
       obtain⟨Cb,hCb⟩:∃c,CB.live 1 true false rows0=c:=⟨_,rfl⟩
       rw[hCb]at gbb hap
       have hb10:=jv b0 (by simp[Dq])
       have ab:=fun X l=>Ak (gbb X) l
       have sb:=fun X=>Hg (b:=b0) (h:=(Eb h').set (H.length+4) X) (by rw[ll];omega)
       have c6:∀X l,(((Eb h').set (H.length+4) X).set b0 .dead++l)[6]?=some (.live 1 fl6 false [[.slr 1 b0 0 path.length]]):=fun X l=>by
        rw[abP (by simp[As];omega),aaI (by omega)];exact g6' X
       have t6:=fun X=>Hg (b:=6) (h:=((Eb h').set (H.length+4) X).set b0 .dead) (by simp[As];omega)
       have c9:∀X c l,((((Eb h').set (H.length+4) X).set b0 .dead).set 6 c++l)[9]?=some (.live 1 false false [[.func q1 [] srA]]):=fun X c l=>by
        rw[abP (by simp[As];omega),aaI (by omega),aaI (by omega)];exact g9' X
       refine lN hbc rfl ?_
       (have hb:=trivial;with_reducible repeat' (first|simp only[hb,Vc.down,seval,Wq.down,k8,g2',g3',g4',g5',g6',g7',g8',g9',gb0,gbb,Im,hi12,hp24,hpl24,htk,htt,hbit,hbit',hmt,hbt,htN',hw1,hw2,hgt,an,a6,ab,sb,c6,t6,c9,ll,hap]|refine Br ?_ ?_<;>intro hb|refine fd ?_|fail))
       generalize hLB:CB.lp _ _ _ _ Hl.busy=LB
       have hLBq:LB.quiet LB.clean=true:=by rw[←hLB];rfl
       obtain⟨M,hM⟩:∃M,(((Eb h').set (H.length+4) LB).set b0 .dead).set 6 (CB.live 1 false true [[.slr 1 (h'.length+1) 0 (path.length+1)]])++[CB.live 1 true false [[.int .i64 (i:Int)]],CB.live 1 true false ((path++[i]).map Ez)]=M:=⟨_,rfl⟩
       have hWM:WyM h' (H.length+4) (.slr 1 b0 0 path.length) path i LB M:=by
        rw[←hM]
        refine⟨by simp[As],Bg (Ar (Ar (Ar (Fh I.q) _ hLBq) _ rfl) _ rfl) (by simp only[An,abV];rfl),fun b hb n6 nB nb=>?_,?_,fun b hb=>?_,?_,?_⟩
        ·rw[abP (by simp[As];omega),aaI (fun e=>n6 e.symm),aaI (fun e=>nb (by rw[←e];simp[Dq])),aaI (fun e=>nB e.symm)]
        ·rw[abP (by simp[As];omega),abO (by simp[As];omega)]
        ·simp[Dq]at hb;subst hb
         rw[abP (by simp[As];omega),aaI (by omega),abO (by simp[As];omega)]
        ·rw[abP (by simp[As];omega),aaI (by omega),aaI hb4];exact hself LB
        ·rw[abS (by simp[As])];simp[As]
       rw[hM]
       have W2:=hWM.W (by omega) W'
       have K:=ih (room::rs) to (tight+c) (path++[i]) _ (Eb M) (Fh hWM.q) W2.cln htN (abR.2 ⟨hA,hnd⟩) (fun r hr1=>by
        rcases abN.1 hr1 with rfl|hr1
        ·exact hrN
        ·exact hlt r hr1) (by omega) (by simp[hpl]) (by simp;omega)
       obtain⟨o,es,G,c1,c2,c3⟩:=nJ hWM.q W2 K
       rw[hq1]at c1
       rw[if_neg (fun h=>h.elim hA hB)]at hstep
       have hw3:IntKind.i64.wrap (((path.length+1:Nat):Int)-1)=(path.length:Int):=by
        have:=Jv N rs (abR.1 hnd).2 hlt
        have:=Fz (n:=(path.length:Int)) (by omega) (by omega)
        rw[show(((path.length+1:Nat):Int)-1)=(path.length:Int) by omega];exact this
       have hsl:=wT
       cases hres:Rq (Gj w (Vq L)) (fun v=>bk.getD v 0) most f (tight+c) (to::room::rs) to with
       |none=>
        rw[hres]at c3 hstep
        obtain⟨b3,fl3,x3,n6,nB,rfl,fz⟩:=xE I hLc hLq (by omega) hQ W' I2 hWM c3 hstep
        have nB2:∀X,(G.set 6 X)[H.length+4]?=some LB:=fun X=>by rw[aaI (by omega)];exact nB
        subst hLB
        (have hb:=trivial;with_reducible repeat' (first|simp only[hb,Vc.down,seval,Wq.down,c1,c2,n6,nB,nB2,hw3,hsl]|refine Br ?_ ?_<;>intro hb|refine fd ?_|fail))
        exact⟨_,_,rfl,fz _⟩
       |some l=>
        rw[hres]at c3 hstep
        obtain⟨⟨x3,n1⟩,nB,rfl,fz⟩:=pI I hLl (by omega) hQ W' I2 hWM c3 hstep (by rfl)
        have nB2:∀X,(G.set (H.length+1) X)[H.length+4]?=some LB:=fun X=>by rw[aaI (by omega)];exact nB
        subst hLB
        (have hb:=trivial;with_reducible repeat' (first|simp only[hb,Vc.down,seval,Wq.down,c1,c2,n1,nB,nB2,wZ]|refine Br ?_ ?_<;>intro hb|refine fd ?_|fail))
        exact⟨_,_,rfl,fz⟩
   obtain⟨o,G,es,e1,e2,_,z1⟩:=qG round (fun o G h=>h.1)
   rcases z1 with⟨rfl,z1⟩|⟨rfl,z1⟩
   ·exact .inl ⟨es,e1,by rw[e2];exact z1⟩
   ·exact .inr ⟨es,e1,by rw[e2];exact z1⟩
  ·intro i p h' hpx n1 n3 I
   have hpo:=hw.part p (af9 hpx)
   obtain⟨pc,hpc⟩:∃x,L[i]?=some x:=⟨_,abQ (by have:=(abU.1 hpx).1;omega)⟩
   have he:=gU hpx hpc
   refine { I with ans:=?_ }
   rw[I.ans,dJ he]
   have:bW (p.one.toNat,p.other.toNat,if pG pc=true then 1 else 0) room=none:=by
    unfold bW;rw[if_neg (by simp only;omega),if_neg (by simp only;omega)]
   simp only[wyR,this]
  ·have hLc:LP.clean=LP:=by rw[←hLP];rfl
   have hLq:LP.quiet LP=true:=by rw[←hLP];rfl
   have hvl:=fun b hb=>(hQ.lt b hb).1
   have W7:Xy w N d L bk most (room::rs) v path (H.set 7 (.live 1 true true r2)):=by
    have ne:∀(b:Nat) (c:CB),b≠7→H[b]?=some c→(H.set 7 (.live 1 true true r2))[b]?=some c:=fun b c hb1 h=>by rw[aaI (fun e=>hb1 e.symm)];exact h
    exact⟨⟨_,ne _ _ (by omega) h0⟩,⟨_,ne _ _ (by omega) h1⟩,⟨_,ne _ _ (by omega) h2⟩,⟨_,ne _ _ (by omega) h3⟩,⟨_,ne _ _ (by omega) h4⟩,⟨_,ne _ _ (by omega) h5⟩,⟨_,_,ne _ _ (by omega) h6⟩,⟨true,by rw[hr2];exact abO (by omega)⟩,⟨_,ne _ _ (by omega) h8⟩,⟨_,ne _ _ (by omega) h9⟩,hQ.keep fun b hb1 w0 rows h=>⟨w0,ne _ _ (by have:=hv b hb1;omega) h⟩,hv⟩
   have ca:∀j,(Eb (H.set 7 (.live 1 true true r2))++[CB.live 1 true false [[.int .i64 (tight:Int)]],.live 1 true false [[.bool false]],.live 1 false false [[.ptr 0 0 0]],.live 1 true false [[.int .i64 (room:Int)]],LP])[H.length+j]?=[CB.live 1 true false [[.int .i64 (tight:Int)]],.live 1 true false [[.bool false]],.live 1 false false [[.ptr 0 0 0]],.live 1 true false [[.int .i64 (room:Int)]],LP][j]?:=fun j=>by
    have hl:(Eb (H.set 7 (.live 1 true true r2))).length=H.length:=by simp[Eb]
    rw[abS (by rw[hl];omega),hl,afE]
   have hqq:An [CB.live 1 true false [[.int .i64 (tight:Int)]],.live 1 true false [[.bool false]],.live 1 false false [[.ptr 0 0 0]],.live 1 true false [[.int .i64 (room:Int)]],LP]=true:=by simp only[An,abV,hLc,hLq];rfl
   have hq1:An (H.set 7 (.live 1 true true r2))=true:=Ar hq _ rfl
   have hok:=Kq.cl (Bg hq1 hqq)
   rw[hh1,←hh1,show Eb (H.set 7 (.live 1 true true r2)++[CB.live 1 true false [[.int .i64 (tight:Int)]],.live 1 true false [[.bool false]],.live 1 false false [[.ptr 0 0 0]],.live 1 true false [[.int .i64 (room:Int)]],LP])=Eb (H.set 7 (.live 1 true true r2))++[CB.live 1 true false [[.int .i64 (tight:Int)]],.live 1 true false [[.bool false]],.live 1 false false [[.ptr 0 0 0]],.live 1 true false [[.int .i64 (room:Int)]],LP] by simp only[Eb,List.map_append,List.map_cons,List.map_nil,hLc];rfl,hh1]at hok
   exact⟨⟨v,W7.cln.app _,fun b hb1=>.inl hb1⟩,by rw[sV e1];rfl,⟨false,ca 0⟩,⟨false,ca 1⟩,⟨false,ca 2⟩,⟨false,ca 3⟩,ca 4,by simp[Eb],Bg (Fh hq1) hqq,hok,fun b hb1 hb2=>by
    rw[abP (by simpa [Eb]using hb1)]
    simp only[Eb,List.getElem?_map]
    rw[aaI (fun e=>hb2 (by rw[←e];simp))]⟩
  ·rintro o h' ⟨rfl,I|I⟩
   ·obtain⟨v',I1,I2⟩:=I.W
    obtain⟨y1,I4⟩:=I.b1
    have kO:=I.ok
    have hnone:Rq (Gj w (Vq L)) (fun v=>bk.getD v 0) most (f+1) tight (room::rs) room=none:=by
     rw[I.ans,List.drop_eq_nil_of_le (by simp[Gj,Vq];omega)];rfl
    have hLc:LP.clean=LP:=by rw[←hLP];rfl
    have hLq:LP.quiet LP=true:=by rw[←hLP];rfl
    have ca:∀j,h1'[H.length+j]?=[CB.live 1 true false [[.int .i64 (tight:Int)]],.live 1 true false [[.bool false]],.live 1 false false [[.ptr 0 0 0]],.live 1 true false [[.int .i64 (room:Int)]],LP][j]?:=fun j=>by
     have hl:(H.set 7 (.live 1 true true r2)).length=H.length:=by simp
     rw[←hh1,abS (by rw[hl];omega),hl,afE]
    have hqq:An h1'=true:=by
     rw[←hh1];exact Bg (Ar hq _ rfl) (by simp only[An,abV,hLc,hLq];rfl)
    have hln:h1'.length=H.length+5:=by rw[←hh1];simp
    obtain⟨es,e2,e3⟩:=Nk h1' h' [] kO.sh
    have e2':Bv 0 h1' h'=some es:=e2
    simp only[abT]at e3
    have mW:=I1.okw kO
    obtain⟨z1,m1'⟩:=kO.live I4
    have mB:=Kq.old (ca 4) I.b4 hLq
    have mqt:=kO.quiet hqq I.q
    have mln:(Gg h1' h').length=h'.length:=Ji kO.1
    have mS:∀b,b<H.length→b∉6::7::Dq v→(Gg h1' h')[b]?=H[b]?:=fun b hb1 hb2=>by
     have g0:H[b]?=some H[b]:=abQ hb1
     have g1:h1'[b]?=some H[b]:=by
      rw[←hh1,abP (by simpa using hb1),aaI (fun e=>hb2 (by rw[←e];simp))];exact g0
     have g2:=I.same b hb1 hb2
     rw[Bj g0]at g2
     rw[Gh g1 g2 (Bl hq g0),g0]
    have mP:∀b∈6::7::Dq v,b<H.length:=fun b hb1=>by
     rcases abN.1 hb1 with rfl|hb1
     ·exact Ac h6
     ·rcases abN.1 hb1 with rfl|hb1
      ·exact Ac h7
      ·exact(hQ.lt b hb1).1
    have mX:∀b∈6::Dq v,(Gg h1' h')[b]?=H[b]?∨∃c,(Gg h1' h')[b]?=some c∧Wrt c:=fun b hb1=>by
     have hb2:=mP b (by rcases abN.1 hb1 with rfl|hb1;simp;simp[hb1])
     have hb7:b≠7:=by
      rcases abN.1 hb1 with rfl|hb1
      ·omega
      ·have:=hv b hb1;omega
     have:=kO.p6 (b:=b) (by rw[hln];omega)
     rwa[show h1'[b]?=H[b]? by rw[←hh1,abP (by simpa using hb2),aaI (fun e=>hb7 e.symm)]]at this
    have hlen:=I.len
    rw[hnone]
    rw[hh1,Us]
    simp only[hh1]at *
    rw[e2']
    generalize hM:Gg h1' h'=M at *
    have dne:∀(b:Nat) (c:CB),b≠H.length+4→M[b]?=some c→(M.set (H.length+4) .dead)[b]?=some c:=fun b c hn hc=>by rw[aaI (fun e=>hn e.symm)];exact hc
    have hvb:∀b∈Dq v',b≠H.length+4:=fun b hb1=>by
     rcases I2 b hb1 with h|h
     ·have:=(hQ.lt b h).1;omega
     ·omega
    have dW:Xy w N d L bk most (room::rs) v' path (M.set (H.length+4) .dead):=mW.keep fun b st fl x rows hb1 h=>⟨x,dne b _ (by rcases hb1 with h|h;omega;exact hvb b h) h⟩
    have d1:=dne _ _ (by omega) m1'
    have dq:An (M.set (H.length+4) .dead)=true:=Ar mqt _ rfl
    have dS:∀b,b<H.length→b∉6::7::Dq v→(M.set (H.length+4) .dead)[b]?=H[b]?:=fun b hb1 hb2=>by rw[aaI (by omega)];exact mS b hb1 hb2
    have dl:(M.set (H.length+4) .dead).length=h'.length:=by simp[mln]
    subst hLP
    (have hb:=trivial;with_reducible repeat' (first|simp only[hb,Vc.down,seval,Wq.down,e3,mB]|refine Br ?_ ?_<;>intro hb|refine fd ?_|fail))
    generalize hD:M.set (H.length+4) CB.dead=D at *
    obtain⟨a8,g8⟩:=dW.h8
    obtain⟨a7,g7⟩:=dW.h7
    rw[hr2]at g7
    have hu:=mM (N:=N) hrr
    rw[hr2]at hu
    have hmr2:r2[room]?=some [.bool true]:=by rw[←hr2,Jo _ hrN];simp
    have w1:∀c,(D.set 7 c)[H.length+1]?=some (.live 1 true z1 [[.bool false]]):=fun c=>by rw[aaI (by omega)];exact d1
    have w2:∀c c2,((D.set 7 c).set (H.length+1) c2)[H.length+1]?=some c2:=fun c c2=>abO (by simp;omega)
    obtain⟨r0,hr0⟩:∃r,(Of N rs).map Tc=r:=⟨_,rfl⟩
    rw[hr0]at hu
    (have hb:=trivial;with_reducible repeat' (first|simp only[hb,Vc.down,seval,Wq.down,g8,g7,hmr2,hu,w1,w2,o1,aeJ]|refine Br ?_ ?_<;>intro hb|refine fd ?_|fail))
    have fne:∀b,b≠7→b≠H.length+1→((D.set 7 (CB.live 1 true true r0)).set (H.length+1) (CB.live 1 true true [[.bool false]]))[b]?=D[b]?:=fun b n1 n3=>by rw[aaI (fun e=>n3 e.symm),aaI (fun e=>n1 e.symm)]
    have dne2:∀b,b<H.length→D[b]?=M[b]?:=fun b hb1=>by rw[←hD,aaI (by omega)]
    refine⟨⟨by simp;omega,fun b hb1 hb2=>by rw[fne b (fun e=>hb2 (by rw[e];simp)) (by omega)];exact dS b hb1 hb2⟩,Ar (Ar dq _ rfl) _ rfl,fun b hb1=>?_,rfl,v',?_,fun b hb1=>(I2 b hb1).imp id (fun h=>by omega)⟩
    ·by_cases e7:b=7
     ·subst e7
      exact .inr ⟨_,by rw[aaI (by omega),abO (by omega)],.inl ⟨_,_,_,rfl⟩⟩
     ·have hb2:=mP b hb1
      rw[fne b e7 (by omega),dne2 b hb2]
      refine mX b ?_
      rcases abN.1 hb1 with rfl|hb1
      ·simp
      ·rcases abN.1 hb1 with rfl|hb1
       ·exact absurd rfl e7
       ·simp[hb1]
    ·rw[←hr0]
     refine(dW.set7 true).keep fun b st fl x rows hb1 h=>⟨x,?_⟩
     rw[aaI (fun e=>?_)]
     ·exact h
     ·subst e
      rcases hb1 with hb1|hb1
      ·omega
      ·rcases I2 _ hb1 with h|h
       ·have:=(hQ.lt _ h).1;omega
       ·omega
   ·obtain⟨l,v',fl',x',hans,I1,I2,I3⟩:=I.W
    obtain⟨y1,I4⟩:=I.b1
    obtain⟨ps,ca1,ca2,tm,I5⟩:=I.b4
    have hLc:LP.clean=LP:=by rw[←hLP];rfl
    have hLq:LP.quiet LP=true:=by rw[←hLP];rfl
    have hLl:LP.isLive=true:=by rw[←hLP];rfl
    have hLd:LP.quiet (.lp ps ca1 ca2 tm (.done .ret))=false:=by rw[←hLP];rfl
    have ca:∀j,h1'[H.length+j]?=[CB.live 1 true false [[.int .i64 (tight:Int)]],.live 1 true false [[.bool false]],.live 1 false false [[.ptr 0 0 0]],.live 1 true false [[.int .i64 (room:Int)]],LP][j]?:=fun j=>by
     have hl:(H.set 7 (.live 1 true true r2)).length=H.length:=by simp
     rw[←hh1,abS (by rw[hl];omega),hl,afE]
    have hB:h1'[H.length+4]?=some LP:=ca 4
    have hqq:An h1'=true:=by
     rw[←hh1];exact Bg (Ar hq _ rfl) (by simp only[An,abV,hLc,hLq];rfl)
    have hln:h1'.length=H.length+5:=by rw[←hh1];simp
    have kO:=I.ok
    have hlen:=I.len
    have sh:cT h1' h':=⟨by rw[hln];exact hlen,fun b c0 c g0 g1=>by
     by_cases e:b=H.length+4
     ·subst e;rw[hB]at g0;cases g0;exact .inr hLl
     ·exact kO.sh.2 b c0 c (by rw[aaI (fun h=>e h.symm)];exact g0) (by rw[aaI (fun h=>e h.symm)];exact g1)⟩
    obtain⟨es,e2,e3⟩:=Nk h1' h' [] sh
    have e2':Bv 0 h1' h'=some es:=e2
    simp only[abT]at e3
    have mB:(Gg h1' h')[H.length+4]?=some (.lp ps ca1 ca2 tm (.done .ret)):=Le hB I5 hLd
    have mD:=aJ h1' h' (H.length+4) sh.1
    have ne4:∀(b:Nat) (c:CB),b≠H.length+4→h'[b]?=some c→(h'.set (H.length+4) .dead)[b]?=some c:=fun b c hn hc=>by rw[aaI (fun e=>hn e.symm)];exact hc
    have hvb:∀b∈Dq v',b≠H.length+4:=fun b hb1=>by
     rcases I3 b hb1 with h|h
     ·have:=(hQ.lt b h).1;omega
     ·omega
    have hl6:=Ac h6
    obtain⟨z6,m6⟩:=kO.live (ne4 6 _ (by omega) I1)
    obtain⟨z1,m1'⟩:=kO.live (ne4 _ _ (by omega) I4)
    have mO:=OS.okw kO (I2.keep fun b hb1 w0 rows h=>⟨w0,ne4 b _ (hvb b hb1) h⟩)
    have mq:=kO.quiet (Ar hqq _ rfl) I.q
    have mln:(Gg (h1'.set (H.length+4) .dead) (h'.set (H.length+4) .dead)).length=h'.length:=by rw[Ji kO.1];simp
    have g1':∀b,b<H.length→(h1'.set (H.length+4) .dead)[b]?=(H.set 7 (.live 1 true true r2))[b]?:=fun b hb1=>by
     rw[aaI (by omega),←hh1,abP (by simpa using hb1)]
    have mS:∀b,b<H.length→b∉6::7::Dq v→(Gg (h1'.set (H.length+4) .dead) (h'.set (H.length+4) .dead))[b]?=H[b]?:=fun b hb1 hb2=>by
     have g0:H[b]?=some H[b]:=abQ hb1
     have g1:(h1'.set (H.length+4) .dead)[b]?=some H[b]:=by rw[g1' b hb1,aaI (fun e=>hb2 (by rw[←e];simp)),g0]
     have g2:=I.same b hb1 hb2
     rw[Bj g0]at g2
     rw[Gh g1 (ne4 b _ (by omega) g2) (Bl hq g0),g0]
    have mP:∀b∈6::7::Dq v,b<H.length:=fun b hb1=>by
     rcases abN.1 hb1 with rfl|hb1
     ·exact Ac h6
     ·rcases abN.1 hb1 with rfl|hb1
      ·exact Ac h7
      ·exact(hQ.lt b hb1).1
    have mX:∀b∈6::7::Dq v,(Gg (h1'.set (H.length+4) .dead) (h'.set (H.length+4) .dead))[b]?=H[b]?∨∃c,(Gg (h1'.set (H.length+4) .dead) (h'.set (H.length+4) .dead))[b]?=some c∧Wrt c:=fun b hb1=>by
     have hb2:=mP b hb1
     rcases kO.p6 (b:=b) (by simp[hln];omega)with h|h
     ·by_cases e7:b=7
      ·subst e7
       rw[g1' 7 hb2,abO hb2]at h
       exact .inr ⟨_,h,.inl ⟨_,_,_,rfl⟩⟩
      ·rw[g1' b hb2,aaI (fun e=>e7 e.symm)]at h
       exact .inl h
     ·exact .inr h
    rw[←mD]at m6 m1' mO mq mln mS mX
    rw[hans,hh1,Us]
    simp only[hh1]at *
    rw[e2']
    generalize hM:Gg h1' h'=M at *
    subst hLP
    (have hb:=trivial;with_reducible repeat' (first|simp only[hb,Vc.down,seval,Wq.down,e3,mB,aeT]|refine Br ?_ ?_<;>intro hb|refine fd ?_|fail))
    generalize hD:M.set (H.length+4) CB.dead=D at *
    (have hb:=trivial;with_reducible repeat' (first|simp only[hb,Vc.down,seval,Wq.down,m1']|refine Br ?_ ?_<;>intro hb|refine fd ?_|fail))
    exact⟨⟨by omega,fun b hb1 hb2=>mS b hb1 hb2⟩,mq,mX,rfl,fl',z6,v',m6,mO,fun b hb1=>(I3 b hb1).imp id (fun h=>by omega)⟩
theorem al1{w:Au}{N:Nat}(hw:tO w N)(h12:w.parts.length≤12){d:Int}{L:List (Int × Bool)}(hL12:L.length=12){most:Nat}(hmo:most≤1000){wf:Bool}{l:List Nat}(hl:Qi (Gj w (Vq L)) N most [0] 0=some l)(hl0:l≠[]):
 ClQ Fq 38 [.ptr 0 0 0,.agg (Gz L),.int .i64 (most:Int)] [.live 4 false wf [[.int .i64 w.rooms,.int .i64 w.need,Dh 9 true w.nn (w.parts.map Ag.cells),.int .i64 d]]] fun o h'=>∃x rows,o=.ret (.slr 1 1 0 l.length)∧h'=[.live 4 false wf [[.int .i64 w.rooms,.int .i64 w.need,Dh 9 true w.nn (w.parts.map Ag.cells),.int .i64 d]],.live 1 true x rows]∧rows.take l.length=l.map Ez∧l.length≤rows.length:=by
 have hr:=hw.rooms
 have n2:=hw.n2
 have n8:=hw.n8
 obtain⟨o,h',hc,f,ds,rfl,rfl,hdl,hR⟩:=Rk hw h12 (d:=d) (s:=1) (by omega) hL12 rfl (wf:=false)
 have hf1:=Wj L
 have hf2:=Vh L
 have hpl:(Gz L).length=24:=by rw[Ld];omega
 have hav:=iF L
 have hlv:=fH L
 have hrf:=fL L
 have htk:List.take 24 (Gz L)=Gz L:=afG (by omega)
 obtain⟨bk,hbk⟩:∃r,ds.map Ez=r:=⟨_,rfl⟩
 rw[hbk]at hc
 have hln:bk.length=N:=by rw[←hbk];simp[hdl]
 simp only[Int.natCast_one]at hc
 refine adR rfl Tryd.func38 rfl rfl ?_
 simp only[Tryd.f38]
 rw[hr]at hc ⊢
 have h39:(N≤549755813888)=True:=eq_true (by omega)
 have m1:((N:Int)≤(N:Int))=True:=eq_true (Int.le_refl _)
 have m2:((N:Int)≤1099511627776)=True:=eq_true (by omega)
 obtain⟨q1,hq1⟩:∃q,Fn.func 61=q:=⟨_,rfl⟩
 obtain⟨M,hM⟩:∃M:Aa,[CB.live 4 false wf [[.int .i64 (N:Int),.int .i64 w.need,Dh 9 true w.nn (w.parts.map Ag.cells),.int .i64 d]],.live 1 false false [[.ptr 0 0 0]],.live 24 true false [Gz L],.live 1 true false [[.int .i64 (most:Int)]],.live 1 true f bk,.live 1 false true [[.slr 1 4 0 N]],.live 1 false false [[.nils]],.live 1 true false (agF N [.bool false]),.live 1 false true [[.slr 1 7 0 N]],.live 1 false true [[.func (.func 61) [] [.ptr 8 0 0,.ptr 1 0 0,.ptr 2 0 0,.ptr 5 0 0,.ptr 3 0 0,.ptr 6 0 0,.ptr 9 0 0]]]]=M:=⟨_,rfl⟩
 have hmt:(Of N []).map Tc=agF N [.bool false]:=by
  refine ab7 fun v=>?_
  by_cases hv:v<N
  ·rw[Jo _ hv,agG,if_pos hv];simp
  ·rw[bN _ hv,agG,if_neg hv]
 have hW:Xy w N d L ds most [] .nils [] M:=by
  rw[←hM,hbk.symm]
  exact⟨⟨wf,by rw[hr];rfl⟩,⟨_,rfl⟩,⟨_,rfl⟩,⟨_,rfl⟩,⟨_,rfl⟩,⟨_,rfl⟩,⟨_,_,rfl⟩,⟨_,by rw[hmt];rfl⟩,⟨_,rfl⟩,⟨_,rfl⟩,.inl ⟨rfl,rfl⟩,fun b hb=>by simp[Dq]at hb⟩
 have hq:An M=true:=by rw[←hM];rfl
 have hEo:=Um hw (Vq L)
 have hLe:∀v k,Qn (Gj w (Vq L)) 1 v k→k<Dj:=fun v k h=>by
  have:=Qn.le (N:=N) (by omega) (fun a b c h=>⟨(hEo a b c h).1,(hEo a b c h).2.1⟩) (fun a b c h=>(hEo a b c h).2.2.2) h
  unfold Dj;omega
 have hwp:Rq (Gj w (Vq L)) (fun v=>ds.getD v 0) most N 0 [0] 0=some l:=by
  rw[vA hEo hR hLe (by unfold Dj;omega) N 0 [0] 0 (by omega)];simpa using hl
 have hbb:∀x∈ds,x≤Dj:=by
  intro x hx
  obtain⟨i,hi⟩:=List.getElem?_of_mem hx
  have hil:i<N:=by rw[←hdl];exact(abU.1 hi).1
  have e:ds.getD i 0=x:=by rw[agB,hi];rfl
  obtain⟨r1,r2⟩:=hR i hil
  simp only[e]at r1 r2
  by_cases hc1:∃k,Yy (Gj w (Vq L)) 1 i k
  ·obtain⟨k,hk⟩:=hc1
   obtain⟨j,hj⟩:=Qn.ex hk
   have h1:=r1 j hj
   have h2:=hLe i j hj
   omega
  ·exact Nat.le_of_eq (r2 fun k hk=>hc1 ⟨k,hk⟩)
 have K:=ahS hw h12 hL12 hdl hbb hmo N [] 0 0 [] .nils (Eb M) (Fh hq) hW.cln (by omega) (by simp) (by simp) (by omega) rfl (by simp)
 obtain⟨o,es,G,c1,c2,c3⟩:=nJ hq hW K
 rw[hq1]at c1
 obtain⟨x9,n9⟩:=hW.h9
 rw[hq1]at n9
 simp only[Int.natCast_zero]at c1
 rw[hwp]at c3
 obtain⟨kk,gq,gp,rfl,fl,x6,v,g6,hO,gv⟩:=c3
 rcases hO with⟨_,h⟩|⟨b3,w3,rows3,rfl,hb3,ht3,hl3⟩
 ·exact absurd (by simpa using h) hl0
 simp only[abT]at hl3 ht3 g6
 have hb0:10≤b3:=by
  have:=gv b3 (by simp[Dq])
  rw[←hM]at this
  simpa [Dq]using this
 have g0:G[0]?=M[0]?:=kk.same 0 (by rw[←hM];simp) (by simp[Dq])
 rw[show M[0]?=some (.live 4 false wf [[.int .i64 (N:Int),.int .i64 w.need,Dh 9 true w.nn (w.parts.map Ag.cells),.int .i64 d]]) by rw[←hM];rfl]at g0
 have e0:(b3==0)=false:=by simp;omega
 have e1:(0==b3)=false:=by simp;omega
 have e2:(b3=0)=False:=eq_false (by omega)
 have e3:(0=b3)=False:=eq_false (by omega)
 (have hb:=trivial;with_reducible repeat' (first|simp only[hb,Vc.down,seval,aLB.down,hpl,hf1,hf2,htk,hav,hlv,hrf,hc,hln,h39,m1,m2,hM,n9,c1,c2,g6,g0,hb3,e0,e1,e2,e3,aeJ]|refine Br ?_ ?_<;>intro hb|refine fd ?_|fail))
 exact⟨w3,rows3,rfl,ht3,hl3⟩
end Go.Proofs.YtckfcfcmfjfchaaDoor
