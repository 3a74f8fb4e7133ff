/- The functions of the layer, walked. -/
import Derived.Test.YtfkokgjfpojeoaaPartAE
import Derived.Test.YtfkokgjfpojeoaaPartAC
open List renaming length_map→acE,getElem?_append_right→acG,getElem?_set_ne→acK,getElem?_of_mem→acZ,mem_of_getElem?→adD,length_set→ahZ,length_cons→ah3,getElem?_set_self→aiC,length_take→aiH,nil_append→aiI,append_nil→aiK,foldl_cons→al2,length_eq_zero_iff→al4,getElem?_eq_getElem→al5,length_nil→al6,getElem?_append_left→al7,take_add_one→al9,cons_append→amP,getElem?_eq_some_iff→anF,mem_cons→an5,length_append→aoC,take_length→ao3,filter_append→apC,length_filter_le→apH,take_of_length_le→ap9,getElem?_eq_none→asB,reverse_cons→asI,mem_append→asS,map_append→asX,find?_cons→as6,mem_cons_of_mem→as8
open Int renaming lt_irrefl→al3
open Nat renaming add_sub_cancel_left→anC
open Option renaming bind_eq_some_iff→apN
set_option linter.unusedSimpArgs false
set_option linter.unusedVariables false
namespace Go.Proofs.Ytfkokgjfpojeoaa
open Go.Ev Go Go.Ev.Bfs
set_option maxRecDepth 100000
set_option maxHeartbeats 16000000
theorem ae7{m:Ad}(hm:Bh m=true):(He m).length≤320:=by
 rw[←zH m []]
 have:Few m (dP m 0 m.sens.length [] ([],[])):=by unfold dP;exact tR hm _ (Few.start m)
 exact this.le hm
theorem apQ{m:Ad}(hs:m.small)(hm:Bh m=true){H:Ab}(hq:Bc H=true):∃lv b x rows Ro es M,shK H (Dc.call (.sh 54) [.agg m.cells] (Hf H))=some (.ret (.tup [lv,.slr 2 b 0 (He m).length]),es)∧Dm H es=M∧nH 2 (H.length+8) lv M rows ((He m).map fun x=>(tsc x).cells) Ro∧rows.length=(He m).length∧M[b]?=some (.live 2 true x ((He m).map (sgC m)))∧H.length≤b∧Ns H M∧Bc M=true∧∀c,c<H.length→Ge H M c:=by
 obtain⟨o,G,es,M,a1,a2,⟨lv,b,x,rows,Ro,rfl,s1,s2,s3,s4,_,_,s5⟩,a4,a5,a6⟩:=Ti (O:=Dc) (H:=H) (f:=54) (args:=[.agg m.cells]) (Q:=ScR m (Hf H)) hq (by
  obtain⟨o,G,c,lv,b,x,rows,Ro,r,s1,s2,s3,s4,s5,s6,s7⟩:=aGP hs hm (Ha hq)
  exact⟨o,G,c,⟨lv,b,x,rows,Ro,r,s1,s2,s3,s4,s5,s6,s7⟩,s5,s6⟩)
 obtain⟨z,g⟩:=Ir a4.symm ⟨x,s3⟩
 rw[Cm]at s1 s4 s5
 exact⟨lv,b,z,rows,Ro,es,M,a1,a2,s1.cl a4.symm,s2,g,s4,a5,a6,fun c hc=>(((Ge.refl H c).eqR (Gz H).symm).trans (s5 c hc)).eqR a4.symm⟩
theorem aoY{m:Ad}(hs:m.small)(hm:Bh m=true){X:List (List Int × Int)}(hX:X.length≤2000){H:Ab}(hq:Bc H=true){sb:Nat}{x:Bool}(hsb:H[sb]?=some (.live 2 true x (X.map (sgC m)))):∃D ob ox mb y es M,shK H (Dc.call (.sh 55) [.agg m.cells,.slr 2 sb 0 X.length] (Hf H))=some (.ret (.tup [.slr 2 ob 0 D.length,.mapr mb]),es)∧Dm H es=M∧mT m X D∧M[ob]?=some (.live 2 true ox (D.map fun x=>aP x.1))∧H.length≤ob∧M[mb]?=some (Hr (lP kN y (D.map (·.1))))∧(∀x∈D,y x.1=cmC m X x)∧H.length≤mb∧Ns H M∧Bc M=true∧∀c,c<H.length→Ge H M c:=by
 obtain⟨o,G,es,M,a1,a2,⟨D,ob,ox,mb,y,rfl,s1,s2,s3,s4,s5,s6,_,_,s7⟩,a4,a5,a6⟩:=Ti (O:=Dc) (H:=H) (f:=55) (args:=[.agg m.cells,.slr 2 sb 0 X.length]) (Q:=FdR m X (Hf H)) hq (by
  obtain⟨o,G,c,D,ob,ox,mb,y,r,s1,s2,s3,s4,s5,s6,s7,s8,s9⟩:=aV7 hs hm hX (Ha hq) (Nx hsb)
  exact⟨o,G,c,⟨D,ob,ox,mb,y,r,s1,s2,s3,s4,s5,s6,s7,s8,s9⟩,s7,s8⟩)
 obtain⟨z,g⟩:=Ir a4.symm ⟨ox,s2⟩
 rw[Cm]at s3 s6 s7
 exact⟨D,ob,z,mb,y,es,M,a1,a2,s1,g,s3,aoN a4.symm s4,s5,s6,a5,a6,fun c hc=>(((Ge.refl H c).eqR (Gz H).symm).trans (s7 c hc)).eqR a4.symm⟩
def eF(D:List ((Int × Int) × List Nat))(s:Int):Bool:=D.any fun x=>x.1.1==s
def Zp(m:Ad)(D:List ((Int × Int) × List Nat)):List Int:=(fK m.states.toNat 0).filter (eF D)
theorem axB{m:Ad}(hs:m.small)(hm:Bh m=false):Dc.call (.fn 29) [.agg [Af 3 true m.nS (m.sens.map Bz.cells),Af 4 false m.nV (m.votes.map Aj.cells),Af 5 false m.nM (m.moves.map Ap.cells),.int .i64 m.states,.int .i64 m.cmds,.int .i64 m.bgn,Af 1 true m.nO (m.opn.map iv)]] []=some (.ret (.tup [.nils,.int .i64 2]),[]):=by
 have h1:=mO m hs
 rw[hm]at h1
 (refine ce Try.func29 ?_;simp only[Try.f29];(have hb:=trivial;with_reducible repeat' (first|simp only[hb,Vc.down,seval,aaG.down,h1]|refine Aq ?_ ?_<;>intro hb|refine fd ?_|fail)))
theorem fP:∀(d:Nat) (n:Int) (i:Nat) (x:Int),(fK d n)[i]?=some x→x=n+i∧i<d
 |0,n,i,x,h=>by simp[fK]at h
 |d+1,n,0,x,h=>by simp[fK]at h;omega
 |d+1,n,i+1,x,h=>by
  simp only[fK,List.getElem?_cons_succ]at h
  have:=fP d (n+1) i x h
  omega
theorem Lx:∀(d:Nat) (n:Int),(fK d n).length=d
 |0,_=>rfl
 |d+1,n=>by simp[fK,Lx d]
def ReI(D:List ((Int × Int) × List Nat))(ob:Nat)(O:List Int)(v:AV)(h:Ab):Prop:=(∃x,h[ob]?=some (.live 2 true x (D.map fun x=>aP x.1)))∧Wc 0 1 true (O.map iv) v h∧∀a b r n,v=.slr a b r n→b≠ob
theorem ReI.app{D:List ((Int × Int) × List Nat)}{ob:Nat}{O:List Int}{v:AV}{h:Ab}(I:ReI D ob O v h)(l:Ab):ReI D ob O v (h++l):=by
 obtain⟨⟨x,h1⟩,h2,h3⟩:=I
 exact⟨⟨x,Ac h1 l⟩,h2.app l,h3⟩
theorem ReI.snoc{D:List ((Int × Int) × List Nat)}{ob:Nat}{O:List Int}{v:AV}{h:Ab}(I:ReI D ob O v h)(s:Int)(l:Ab){n:Nat}(hn:n=h.length+l.length):ReI D ob (O++[s]) (.slr 1 n 0 (O.length+1)) (kl 0 v h++(l++[.live 1 true false (O.map iv++[[.int .i64 s]])])):=by
 obtain⟨⟨x,h1⟩,h2,h3⟩:=I
 have hkl:(kl 0 v h).length=h.length:=Jq ..
 have h1l:=An h1
 refine⟨⟨x,?_⟩,Wc.blk (b:=n) (w:=false) ?_ (by omega) (by simp),fun a b r k e=>by cases e;omega⟩
 ·rw[al7 (by omega)]
  rcases h2 with⟨_,rfl⟩|⟨b,w,rfl,h2⟩
  ·exact h1
  ·simp only[kl]
   rw[acK (fun e=>h3 _ _ _ _ rfl (by omega))];exact h1
 ·rw[acG (by omega),acG (by omega),hkl,show n-h.length-l.length=0 by omega]
  simp[iv]
theorem aAW{m:Ad}(hs:m.small)(hm:Bh m=true):∃D nn,mT m (He m) D∧RdT Dc 29 [.agg m.cells] [Af 1 true nn ((Zp m D).map iv),.int .i64 0] 10:=by
 have key:ClQ Dc 29 [.agg m.cells] [] fun o h'=>∃D nn outs R,mT m (He m) D∧o=.ret (.tup outs)∧Xa (rd 6 (hf h')) outs=some ([Af 1 true nn ((Zp m D).map iv),.int .i64 0],R)∧R.length≤10∧∀c∈h',Rnm c:=by
  have h1:=mO m hs
  rw[hm]at h1
  have hst:=Ie hm
  obtain⟨lv,sb,x,rows,Ro,es1,M1,a1,a2,_,_,a3,a4,a5,a6,a7⟩:=apQ hs hm (H:=[.live 7 false false [m.cells]]) rfl
  rw[show Hf [CB.live 7 false false [m.cells]]=[CB.live 7 false false [m.cells]]from rfl]at a1
  obtain⟨D,ob,ox,mb,y,es2,M2,b1,b2,b3,b4,b5,_,_,_,b6,b7,b8⟩:=aoY hs hm (X:=He m) (by have:=ae7 hm;omega) a6 a3
  obtain⟨xm,hm0⟩:=(a7 0 (by simp)).live ⟨false,rfl⟩
  obtain⟨xm2,hm2⟩:=(b8 0 (An hm0)).live ⟨_,hm0⟩
  refine abD rfl Try.func29 rfl rfl ?_
  simp only[Try.f29]
  refine Ik (fun K iN hK=>?_)
  (have hb:=trivial;with_reducible repeat' (first|simp only[hb,Vc.down,seval,aaG.down,Ol.down,h1,a1,a2,hm0,b1,b2,hm2,acE]|refine Aq ?_ ?_<;>intro hb|refine fd ?_|fail))
  refine Dl (Ss 48 (fK m.states.toNat 0) (fun i (_:Unit) t h=>∃v,t 6=.slr 2 ob 0 D.length∧t 8=v∧t 27=.int .i64 m.states∧t 28=.int .i64 i∧ReI D ob (((fK m.states.toNat 0).take i).filter (eF D)) v h) (fun _ _=>()) (fun _ e t h=>e=.exit 0∧∃v,t 8=v∧ReI D ob (Zp m D) v h) ?_ ?_ () _ _ ?_) (fun e t h hk=>?_)
  ·rintro _ t h Q' kQ ⟨v,g6,g8,g27,g28,I⟩
   rw[Lx]at g28
   have hd:((m.states.toNat:Int)<m.states)=False:=eq_false (by omega)
   rw[ao3]at I
   (have hb:=trivial;with_reducible repeat' (first|simp only[hb,Vc.down,seval,aaG.down,Ol.down,g27,g28,hd]|refine Aq ?_ ?_<;>intro hb|refine fd ?_|fail))
   exact kQ _ _ _ ⟨rfl,v,by simp[up,g8],I⟩
  ·rintro s rest i _ t h J Q' kJ kQ hx hi ⟨v,g6,g8,g27,g28,I⟩
   rw[Lx]at hi
   obtain⟨hs0,_⟩:=fP _ _ _ _ hx
   rw[Int.zero_add]at hs0
   have hd:((i:Int)<m.states)=True:=eq_true (by omega)
   have hw:=Av hi (show m.states.toNat≤maxLen by unfold maxLen;omega)
   have htk:((fK m.states.toNat 0).take (i+1)).filter (eF D)=((fK m.states.toNat 0).take i).filter (eF D)++if eF D s=true then [s]else []:=by
    rw[al9,hx,apC]
    congr 1
    cases hh:eF D s<;>simp[hh]
   generalize hO:((fK m.states.toNat 0).take i).filter (eF D)=O at I htk
   have hOl:O.length≤8:=by
    rw[←hO]
    refine Nat.le_trans (apH _ _) ?_
    rw[aiH,Lx];omega
   subst hs0
   (have hb:=trivial;with_reducible repeat' (first|simp only[hb,Vc.down,seval,aaG.down,Ol.down,g6,g8,g27,g28,hd]|refine Aq ?_ ?_<;>intro hb|refine fd ?_|fail))
   obtain⟨c,hc⟩:∃c:Int,(i:Int)=c:=⟨_,rfl⟩
   refine Dl (Ss 48 D (fun k (_:Unit) t h'=>t 6=.slr 2 ob 0 D.length∧t 8=v∧t 9=.int .i64 (i:Int)∧t 27=.int .i64 m.states∧t 28=.int .i64 i∧t 31=.slr 2 ob 0 D.length∧t 32=.int .i64 D.length∧t 33=.int .i64 k∧ReI D ob O v h') (fun rest _=>eF rest (i:Int)) (fun r e t h'=>t 6=.slr 2 ob 0 D.length∧t 27=.int .i64 m.states∧t 28=.int .i64 i∧((r=true∧e=.exit 1∧∃v',t 8=v'∧ReI D ob (O++[(i:Int)]) v' h')∨(r=false∧e=.exit 2∧t 8=v∧ReI D ob O v h'))) ?_ ?_ () _ _ ?_) (fun e t h' hk=>?_)
   ·rintro _ t h' Q2 kQ2 ⟨c6,c8,c9,c27,c28,c31,c32,c33,I2⟩
    (have hb:=trivial;with_reducible repeat' (first|simp only[hb,Vc.down,seval,aaG.down,Ol.down,c31,c32,c33,al3,decide_false]|refine Aq ?_ ?_<;>intro hb|refine fd ?_|fail))
    exact kQ2 _ _ _ ⟨by simp[up,c6],by simp[up,c27],by simp[up,c28],.inr ⟨rfl,rfl,by simp[up,c8],I2⟩⟩
   ·rintro x rest k _ t h' J2 Q2 kJ2 kQ2 hx2 hk2 ⟨c6,c8,c9,c27,c28,c31,c32,c33,I2⟩
    obtain⟨⟨xo,ho⟩,own',hne⟩:=id I2
    have hd2:((k:Int)<(D.length:Int))=True:=eq_true (by omega)
    have hw2:=Av hk2 (show D.length≤maxLen by unfold maxLen;have:=La hm b3;omega)
    have hap:=fun(q:Ab) (r:List AV)=>fW own' (pre:=[]) rfl q r [] (by simp;omega)
    have hhp:=fun(q:Ab) (r:List (List AV)) (ba:Nat)=>jG own' (pre:=[]) rfl q 1 true r ba
    simp only[aiI]at hap hhp
    cases hp:(x.1.1==(i:Int))with
    |true=>
     (have hb:=trivial;with_reducible repeat' (first|simp only[hb,Vc.down,seval,aaG.down,Ol.down,c6,c8,c9,c27,c28,c31,c32,c33,ho,hx2,aP,hd2,hw2,hp,hap,hhp,acE]|refine Aq ?_ ?_<;>intro hb|refine fd ?_|fail))
     exact kQ2 _ _ _ ⟨by simp[up,c6],by simp[up,c27],by simp[up,c28],.inl ⟨by simp[eF,hp],rfl,.slr 1 (h'.length+2) 0 (O.length+1),by simp[up],I2.snoc (i:Int) [.live 2 true true [[.int .i64 x.1.1,.int .i64 x.1.2]],.live 1 true false [[.int .i64 (i:Int)]]] (by simp)⟩⟩
    |false=>
     (have hb:=trivial;with_reducible repeat' (first|simp only[hb,Vc.down,seval,aaG.down,Ol.down,c6,c8,c9,c27,c28,c31,c32,c33,ho,hx2,aP,hd2,hw2,hp,hap,hhp,acE]|refine Aq ?_ ?_<;>intro hb|refine fd ?_|fail))
     exact Ax (kJ2 _ _ () ⟨by simp[up,c6],by simp[up,c8],by simp[up,c9],by simp[up,c27],by simp[up,c28],by simp[up,c31],by simp[up,c32],by simp[up]<;>omega,I2.app _⟩ (by simp[eF,hp]))
   ·exact⟨by simp[up,g6],by simp[up,g8],by simp[up],by simp[up,g27],by simp[up,g28],by simp[up],by simp[up],by simp[up],I⟩
   obtain⟨c6,c27,c28,⟨hr,rfl,v',c8,I2⟩|⟨hr,rfl,c8,I2⟩⟩:=hk
   ·rw[hr,if_pos rfl]at htk
    (have hb:=trivial;with_reducible repeat' (first|simp only[hb,Vc.down,seval,aaG.down,Ol.down,c6,c8,c27,c28,hw]|refine Aq ?_ ?_<;>intro hb|refine fd ?_|fail))
    exact Ax (kJ _ _ () ⟨v',by simp[up,c6],by simp[up,c8],by simp[up,c27],by simp[up]<;>omega,by rw[htk];exact I2⟩ rfl)
   ·rw[hr,if_neg (by simp),aiK]at htk
    (have hb:=trivial;with_reducible repeat' (first|simp only[hb,Vc.down,seval,aaG.down,Ol.down,c6,c8,c27,c28,hw]|refine Aq ?_ ?_<;>intro hb|refine fd ?_|fail))
    exact Ax (kJ _ _ () ⟨v,by simp[up,c6],by simp[up,c8],by simp[up,c27],by simp[up]<;>omega,by rw[htk];exact I2⟩ rfl)
  ·exact⟨.nils,by simp[up],by simp[up],by simp[up],by simp[up],⟨ox,b4⟩,Wc.nil _ _ _ _,fun a b r n e=>by cases e⟩
  ·obtain⟨rfl,v,g8,⟨_,own,_⟩⟩:=hk
   obtain⟨nn,R,hR⟩:=yS own
   (have hb:=trivial;with_reducible repeat' (first|simp only[hb,Vc.down,seval,aaG.down,Ol.down,g8]|refine Aq ?_ ?_<;>intro hb|refine fd ?_|fail))
   refine hK _ ?_
   rw[fX]
   refine lC (vs:=[v,.int .i64 0]) (by simp only[Vc.down,seval,aaG.down]) (yQ (Oq (hR 5).1 (Oq (vB ..) nL)) (by have:=(hR 5).2;simp;omega) rfl fun outs h' R' k1 k2 k3=>⟨D,nn,outs,R',b3,rfl,k1,by have:=(hR 5).2;simp at k2;omega,k3⟩)
 obtain⟨o,h',e,D,nn,outs,R,hF,rfl,k1,k2,k3⟩:=key
 exact⟨D,nn,hF,outs,h',R,e,k1,k2,k3⟩
structure PtH(m:Ad)(X:List (List Int × Int))(D:List ((Int × Int) × List Nat))(kb lb:Nat)(h:Ab):Prop where
 kb_:∃x mb,h[kb]?=some (.live 1 false x [[.mapr mb]])∧∃y,h[mb]?=some (Hr (lP kN y (D.map (·.1))))∧∀x∈D,y x.1=cmC m X x
 lb_:∃x lv,h[lb]?=some (.live 1 false x [[lv]])∧∃lo rows Ro,nH 2 lo lv h rows (X.map fun x=>(tsc x).cells) Ro∧rows.length=X.length
theorem PtH.app{m:Ad}{X:List (List Int × Int)}{D:List ((Int × Int) × List Nat)}{kb lb:Nat}{h:Ab}(P:PtH m X D kb lb h){G:Ab}(hl:h.length≤G.length)(k:∀c,c<h.length→Ge h G c):PtH m X D kb lb G:=by
 obtain⟨⟨x,mb,h1,y,h2,h3⟩,⟨x',lv,h4,lo,rows,Ro,h5,h6⟩⟩:=P
 obtain⟨z,g⟩:=(k kb (An h1)).live ⟨x,h1⟩
 obtain⟨z',g'⟩:=(k lb (An h4)).live ⟨x',h4⟩
 exact⟨⟨z,mb,g,y,(k mb (An h2)).map h2,h3⟩,⟨z',lv,g',lo,rows,Ro,h5.sm hl fun b _ hb=>k b hb,h6⟩⟩
theorem Leg.len{m:Ad}{X:List (List Int × Int)}(hX:Qj m X){x:List Int × Int}(hx:x∈X):x.1.length=m.sens.length:=(hX.leg x hx).1
theorem bcQ{X:List (List Int × Int)}{lo:Nat}{lv:AV}{h:Ab}{rows:List (List AV)}{Ro:List Nat}(L:nH 2 lo lv h rows (X.map fun x=>(tsc x).cells) Ro)(hr:rows.length=X.length){a:Nat}{x:List Int × Int}(hx:X[a]?=some x):
 ∃b c w ob,lv=.slr 2 ob 0 X.length∧h[ob]?=some (.live 2 false w rows)∧rows[a]?=some [.slr 1 b 0 x.1.length,.int .i64 x.2]∧h[b]?=some c∧Ci c=some (1,true,x.1.map iv):=by
 have hX:rows≠[]:=fun e=>by rw[e]at hr;have:=al4.1 hr.symm;subst this;simp at hx
 rcases L.own with⟨h1,_⟩|⟨ob,w,rfl,h2⟩
 ·exact absurd h1 hX
 obtain⟨r,R,r1,r2⟩:=yX L.q (i:=a) (X:=(tsc x).cells) (by simp only[List.getElem?_map,hx];rfl)
 obtain⟨v0,l1,R1,R2,rfl,r3,r4,_⟩:=Oi (show Xa (rd 5 (hf h)) r=some (Af 1 true true (x.1.map iv)::[.int .i64 x.2],R)from r2)
 obtain⟨v1,l2,R3,R4,rfl,r5,r6,_⟩:=Oi r4
 obtain⟨rfl,_⟩:=fH r6
 obtain⟨rfl,_⟩:=aiF r5
 rcases Rf r3 with⟨rfl,e⟩|⟨b,rows',rfl,e2,e3,e4,_⟩
 ·rw[e]at r3
  simp[rd,Af]at r3
 ·obtain⟨c,c1,c2⟩:=apN.1 e2
  rw[e4 rfl]at c2
  exact⟨b,c,w,ob,by rw[hr,Nat.add_zero],h2,by simpa using r1,c1,c2⟩
def PtR(m:Ad)(X:List (List Int × Int))(z:(Int × Int) × List Nat)(H:Ab)(o:Gp)(G:Ab):Prop:=
 (z.2=[]∧o=.ret (.tup [.agg [.int .i64 z.1.1,.int .i64 z.1.2],.agg [.nils,.int .i64 0],.bool false]))∨
 ∃p a x cb w,z.2=p++[a]∧X[a]?=some x∧let u:=run (fun v i=>Ww m v (gS X i)) (m.bgn,0) p
  o=.ret (.tup [.agg [.int .i64 u.1,.int .i64 u.2],.agg [.slr 1 cb 0 x.1.length,.int .i64 x.2],.bool true])∧G[cb]?=some (.live 1 true w (x.1.map iv))∧H.length≤cb
theorem apA{m:Ad}(hm:Bh m=true){X:List (List Int × Int)}(hX:Qj m X){D:List ((Int × Int) × List Nat)}(B:mT m X D){H:Ab}(hq:Bc H=true){kb lb:Nat}(P:PtH m X D kb lb H){z:(Int × Int) × List Nat}(hz:z∈D):
 ShQ Dc 64 [.agg [.int .i64 z.1.1,.int .i64 z.1.2],.ptr kb 0 0,.ptr lb 0 0] H fun o G=>(PtR m X z H o G∧∀c,c<H.length→Ge H G c)∧Ns H G∧Bc G=true:=by
 obtain⟨⟨x1,mb,k1,y,k2,k3⟩,⟨x2,lv,k4,lo,rows,Ro,L,hr⟩⟩:=P
 have hin:z.1∈D.map (·.1):=List.mem_map.2 ⟨z,hz,rfl⟩
 have hlk:=fun l=>ayC.lk_yes (ty:=100) (z:=.agg [.int .i64 0,.int .i64 0,.int .i64 0]) Try.underlying100 (by kernel_rfl) (Ac k2 l) (fun _ _=>trivial) hin false
 rw[k3 z hz]at hlk
 obtain⟨kz,hkz⟩:=acZ hz
 rcases List.eq_nil_or_concat z.2 with hw|⟨p,a,hw⟩
 ·have hc:cmC m X z=.agg [.int .i64 z.1.1,.int .i64 z.1.2,.int .i64 (-1)]:=by simp[cmC,hw]
  rw[hc]at hlk
  simp only[cond_false,kN]at hlk
  refine mZ rfl Try.func64 rfl rfl ?_
  simp only[Try.f64,amP,aiI]
  (have hb:=trivial;with_reducible repeat' (first|simp only[hb,Vc.down,seval,bhF.down,Ol.down,Ac k1,hlk]|refine Aq ?_ ?_<;>intro hb|refine fd ?_|fail))
  exact⟨⟨.inl ⟨hw,rfl⟩,fun c hc=>(Ge.refl H c).app hc _⟩,(Ns.refl H).app _,Bw hq rfl⟩
 ·rw[List.concat_eq_append]at hw
  have ha:=(B.way kz z hkz).2 a (by rw[hw];simp)
  obtain⟨x,hx⟩:∃x,X[a]?=some x:=⟨_,al5 ha⟩
  have hc:cmC m X z=.agg [.int .i64 (run (fun v i=>Ww m v (gS X i)) (m.bgn,0) p).1,.int .i64 (run (fun v i=>Ww m v (gS X i)) (m.bgn,0) p).2,.int .i64 (a:Int)]:=by simp[cmC,hw]
  rw[hc]at hlk
  obtain⟨u,hu⟩:∃u,run (fun v i=>Ww m v (gS X i)) (m.bgn,0) p=u:=⟨_,rfl⟩
  rw[hu]at hlk
  simp only[cond_false,kN]at hlk
  have hlt:decide ((a:Int)<0)=false:=decide_eq_false (by omega)
  have hlt2:((a:Int)<0)=False:=eq_false (by omega)
  have hal:((a:Int)<(X.length:Int))=True:=eq_true (by omega)
  have ha0:((0:Int)≤(a:Int))=True:=eq_true (by omega)
  have hx6:x.1.length≤1000:=by have:=Leg.len hX (adD hx);have:=dG hm;omega
  have hcl:=aiT x.1 hx6
  rw[Wv]at hcl
  obtain⟨b,c,w,ob,rfl,g1,g2,g3,g4⟩:=bcQ L hr hx
  have htk:List.take x.1.length (x.1.map iv)=x.1.map iv:=ap9 (by simp)
  have hbl:=An g3
  obtain⟨sf,s1,sn,sk⟩:∃sf:Nat→Nat,sf b=1∧sf H.length=10∧∀k,sf (H.length+k)=k+10:=⟨fun b=>if H.length≤b then b-H.length+10 else 1,by simp;omega,by simp,fun k=>by simp⟩
  cases c with
  |live st fl w2 rs=>
   simp only[Ci,Option.some.injEq,Prod.mk.injEq]at g4
   obtain⟨rfl,rfl,rfl⟩:=g4
   refine mZ rfl Try.func64 rfl rfl ?_
   simp only[Try.f64,amP,aiI]
   (have hb:=trivial;with_reducible repeat' (first|simp only[hb,Vc.down,seval,bhF.down,Ol.down,Ac k1,Ac k4,hlk,hlt,hlt2,hal,ha0,Ac g1,g2,Ac g3,hcl,htk,acE]|refine Aq ?_ ?_<;>intro hb|((refine Zi (Up (sf) ?_) ?_);(simp (discharger:=decide) only[Zq,Ul,List.map_cons,List.map_nil,Qd,Zo,Zk,Zh,Qc,ah3,al6,s1,sn,sk];kernel_rfl);intro _)|refine fdq ?_|fail))
   refine⟨⟨.inr ⟨p,a,x,H.length+5,false,hw,hx,?_,?_,by omega⟩,fun c hc=>(Ge.refl H c).app hc _⟩,(Ns.refl H).app _,Bw hq rfl⟩
   ·rw[hu]
   ·rw[acG (by omega),anC];rfl
  |frz st fl rs=>
   simp only[Ci,Option.some.injEq,Prod.mk.injEq]at g4
   obtain⟨rfl,rfl,rfl⟩:=g4
   refine mZ rfl Try.func64 rfl rfl ?_
   simp only[Try.f64,amP,aiI]
   (have hb:=trivial;with_reducible repeat' (first|simp only[hb,Vc.down,seval,bhF.down,Ol.down,Ac k1,Ac k4,hlk,hlt,hlt2,hal,ha0,Ac g1,g2,Ac g3,hcl,htk,acE]|refine Aq ?_ ?_<;>intro hb|((refine Zi (Up (sf) ?_) ?_);(simp (discharger:=decide) only[Zq,Ul,List.map_cons,List.map_nil,Qd,Zo,Zk,Zh,Qc,ah3,al6,s1,sn,sk];kernel_rfl);intro _)|refine fdq ?_|fail))
   refine⟨⟨.inr ⟨p,a,x,H.length+5,false,hw,hx,?_,?_,by omega⟩,fun c hc=>(Ge.refl H c).app hc _⟩,(Ns.refl H).app _,Bw hq rfl⟩
   ·rw[hu]
   ·rw[acG (by omega),anC];rfl
  |_=>simp[Ci]at g4
def rwQ(q:AV × AV):List AV:=[q.1,q.2]
def Rv{A:Type}(i:Nat)(L Q:List A):Prop:=L.length=Q.length∧∀k,k<Q.length→L[k]?=if k<i∨Q.length<i+k+1 then Q[Q.length-1-k]? else Q[k]?
theorem Rv.start{A:Type}(Q:List A):Rv 0 Q Q:=⟨rfl,fun k hk=>by rw[if_neg (by omega)]⟩
theorem Rv.fin{A:Type}{i j:Nat}{L Q:List A}(h:Rv i L Q)(hij:i+j+1=Q.length)(hle:j≤i):L=Q.reverse:=by
 apply List.ext_getElem?
 intro k
 by_cases hk:k<Q.length
 ·rw[h.2 k hk,List.getElem?_reverse hk]
  split
  ·rfl
  ·congr 1;omega
 ·rw[asB (by rw[h.1];omega),asB (by simp;omega)]
theorem Rv.step{A:Type}{i j:Nat}{L Q:List A}(h:Rv i L Q)(hij:i+j+1=Q.length)(hlt:i<j){a b:A}(ha:L[i]?=some a)(hb:L[j]?=some b):Rv (i+1) ((L.set i b).set j a) Q:=by
 refine⟨by simp[h.1],fun k hk=>?_⟩
 have hi:=h.2 i (by omega)
 have hj:=h.2 j (by omega)
 rw[if_neg (by omega)]at hi hj
 by_cases e1:k=j
 ·subst e1
  rw[aiC (by simp[h.1];omega),if_pos (by omega),←ha,hi]
  congr 1;omega
 ·rw[acK (fun e=>e1 e.symm)]
  by_cases e2:k=i
  ·subst e2
   rw[aiC (by rw[h.1];omega),if_pos (by omega),←hb,hj]
   congr 1;omega
  ·rw[acK (fun e=>e2 e.symm),h.2 k hk]
   by_cases e3:k<i∨Q.length<i+k+1
   ·rw[if_pos e3,if_pos (by omega)]
   ·rw[if_neg e3,if_neg (by omega)]
theorem arK{H:Ab}(hq:Bc H=true){b:Nat}{w:Bool}{Q:List (AV × AV)}(hB:H[b]?=some (.live 2 false w (Q.map rwQ)))(hc:∀q∈Q,q.1.isCell=true∧q.2.isCell=true)(h1:1≤Q.length)(h2:Q.length≤1000):
 ShQ Dc 83 [.slr 2 b 0 Q.length] H fun o G=>((o=.ret (.tup [])∧∃w',G[b]?=some (.live 2 false w' (Q.reverse.map rwQ)))∧∀c,c<H.length→c≠b→Ge H G c)∧Ns H G∧Bc G=true:=by
 have hbl:=An hB
 refine mZ rfl Try.func83 rfl rfl ?_
 simp only[Try.f83]
 have hw1:IntKind.i64.wrap ((Q.length:Int)-1)=((Q.length-1:Nat):Int):=by rw[Ed (by omega) (by omega)];omega
 (have hb:=trivial;with_reducible repeat' (first|simp only[hb,Vc.down,seval,anW.down,hw1,acE]|refine Aq ?_ ?_<;>intro hb|refine fd ?_|fail))
 refine Dl (cnt 28 (fun n (_:Unit) t h=>∃i j L w',n+i=Q.length∧i+j+1=Q.length∧Rv i L Q∧t 0=.slr 2 b 0 Q.length∧t 2=.int .i64 i∧t 3=.int .i64 j∧h[b]?=some (.live 2 false w' (L.map rwQ))∧(∀c,c≠b→h[c]?=H[c]?)∧h.length=H.length∧Ns H h∧Bc h=true) (fun _ _=>()) (fun _ e t h=>e=.exit 0∧(∃w',h[b]?=some (.live 2 false w' (Q.reverse.map rwQ)))∧(∀c,c≠b→h[c]?=H[c]?)∧Ns H h∧Bc h=true) ?_ ?_ Q.length () _ _ ?_) (fun e t h hk=>?_)
 ·rintro _ t h Q' kQ ⟨i,j,L,w',c1,c2,_⟩
  omega
 ·rintro n _ t h J Q' kJ kQ ⟨i,j,L,w',c1,c2,c3,c4,c5,c6,c7,c8,c9,c10,c11⟩
  by_cases hij:i<j
  ·have hd:((i:Int)<(j:Int))=True:=eq_true (by omega)
   have hil:((i:Int)<(Q.length:Int))=True:=eq_true (by omega)
   have hjl:((j:Int)<(Q.length:Int))=True:=eq_true (by omega)
   obtain⟨⟨a1,a2⟩,hai⟩:∃a,L[i]?=some a:=⟨_,al5 (by rw[c3.1];omega)⟩
   obtain⟨⟨b1,b2⟩,hbj⟩:∃a,L[j]?=some a:=⟨_,al5 (by rw[c3.1];omega)⟩
   have hmem:∀q∈L,q.1.isCell=true∧q.2.isCell=true:=fun q hq=>by
    obtain⟨k,hk⟩:=acZ hq
    have hkl:=(anF.1 hk).1
    rw[c3.2 k (by rw[←c3.1];exact hkl)]at hk
    split at hk<;>exact hc q (adD hk)
   obtain⟨ca1,ca2⟩:=hmem _ (adD hai)
   obtain⟨cb1,cb2⟩:=hmem _ (adD hbj)
   simp only at ca1 ca2 cb1 cb2
   have hs1:(L.map rwQ).set i [b1,b2]=(L.set i (b1,b2)).map rwQ:=by rw[List.map_set];rfl
   have hs2:((L.set i (b1,b2)).map rwQ).set j [a1,a2]=((L.set i (b1,b2)).set j (a1,a2)).map rwQ:=(List.map_set (f:=rwQ) (l:=L.set i (b1,b2)) (i:=j) (a:=(a1,a2))).symm
   have hbl2:=An c7
   have hgs:∀c:CB,(h.set b c)[b]?=some c:=fun c=>aiC hbl2
   have hgj:(L.set i (b1,b2))[j]?=some (b1,b2):=by rw[acK (by omega)];exact hbj
   have hwi:IntKind.i64.wrap ((i:Int)+1)=((i+1:Nat):Int):=by rw[Ed (by omega) (by omega)];omega
   have hwj:IntKind.i64.wrap ((j:Int)-1)=((j-1:Nat):Int):=by rw[Ed (by omega) (by omega)];omega
   (have hb:=trivial;with_reducible repeat' (first|simp only[hb,Vc.down,seval,anW.down,c4,c5,c6,c7,hd,hil,hjl,hai,hbj,rwQ,ca1,ca2,cb1,cb2,hs1,hs2,hgs,hgj,hwi,hwj,acE]|refine Aq ?_ ?_<;>intro hb|refine fd ?_|fail))
   refine Ax (kJ _ _ () ⟨i+1,j-1,(L.set i (b1,b2)).set j (a1,a2),true,by omega,by omega,c3.step c2 hij hai hbj,by simp[up,c4],by simp[up],by simp[up],aiC (by simpa using hbl2),fun c hc=>?_,by simp[c9],?_,Dj (Dj c11 _ rfl) _ rfl⟩ rfl)
   ·rw[acK (fun e=>hc e.symm),acK (fun e=>hc e.symm),c8 c hc]
   ·exact(c10.put c7 2 false _).put (aiC hbl2) 2 false _
  ·have hd:((i:Int)<(j:Int))=False:=eq_false (by omega)
   (have hb:=trivial;with_reducible repeat' (first|simp only[hb,Vc.down,seval,anW.down,c4,c5,c6,hd]|refine Aq ?_ ?_<;>intro hb|refine fd ?_|fail))
   exact kQ _ _ _ ⟨rfl,⟨w',by rw[←c3.fin c2 (by omega)];exact c7⟩,c8,c10,c11⟩
 ·exact⟨0,Q.length-1,Q,w,by omega,by omega,Rv.start Q,by simp[up,Eg],by simp[up],by simp[up],hB,fun _ _=>rfl,rfl,Ns.refl H,hq⟩
 ·obtain⟨rfl,hw',c8,c10,c11⟩:=hk
  (have hb:=trivial;with_reducible repeat' (first|simp only[hb,Vc.down,seval,anW.down]|refine Aq ?_ ?_<;>intro hb|refine fd ?_|fail))
  exact⟨⟨hw',fun c _ hc=>Ge.of (c8 c hc)⟩,c10,c11⟩
theorem abE{f:AV→Option (AV × List Nat)}:∀{l:List (List AV)} {p:List (List AV) × List Nat},Cj f l=some p→∃R',Cj f l.reverse=some (p.1.reverse,R')∧(∀b,b∈R'→b∈p.2)∧R'.length=p.2.length
 | [],p,h=>by simp[Cj]at h;subst h;exact⟨[],rfl,by simp,rfl⟩
 |r::l,p,h=>by
  simp only[Cj,apN,Option.map_eq_some_iff]at h
  obtain⟨q,hq,s,hs,rfl⟩:=h
  obtain⟨R',k1,k2,k3⟩:=abE hs
  refine⟨R'++q.2,by rw[asI,jO k1 hq];simp,fun b hb=>?_,by simp[k3];omega⟩
  rcases asS.1 hb with hb|hb
  ·exact List.mem_append_right _ (k2 b hb)
  ·exact List.mem_append_left _ hb
theorem amN:Dc.call (.fn 83) [.nils] []=some (.ret (.tup []),[]):=by
 have hwm:IntKind.i64.wrap (0-1)= -1:=by decide
 have hwm2:IntKind.i64.wrap (-1)= -1:=by decide
 (refine ce Try.func83 ?_;simp only[Try.f83];(have hb:=trivial;with_reducible repeat' (first|simp only[hb,Vc.down,seval,anW.down,hwm,hwm2]|refine Aq ?_ ?_<;>intro hb|refine fd ?_|fail)))
 refine Dl (Ss 28 ([]:List Unit) (fun i (_:Unit) t h=>t 2=.int .i64 0∧t 3=.int .i64 (-1)∧h=[]) (fun _ _=>()) (fun _ e t h=>e=.exit 0∧h=[]) ?_ ?_ () _ _ ?_) (fun e t h hk=>?_)
 ·rintro _ t h Q' kQ ⟨c2,c3,rfl⟩
  (have hb:=trivial;with_reducible repeat' (first|simp only[hb,Vc.down,seval,anW.down,c2,c3]|refine Aq ?_ ?_<;>intro hb|refine fd ?_|fail))
  exact kQ _ _ _ ⟨rfl,rfl⟩
 ·rintro x rest i _ t h J Q' kJ kQ hx
  simp at hx
 ·exact⟨by simp[up],by simp[up],rfl⟩
 ·obtain⟨rfl,rfl⟩:=hk
  (have hb:=trivial;with_reducible repeat' (first|simp only[hb,Vc.down,seval,anW.down]|refine Aq ?_ ?_<;>intro hb|refine fd ?_|fail))
theorem Yg{α:Type}{l:List α}{k:Nat}{x:α}(h:l[k]?=some x):k<l.length:=(anF.1 h).1
theorem abU{V:Type}{step:V→Nat→V}{n:Nat}{v0:V}{D:List (V × List Nat)}{i j:Nat}(B:BF step n v0 D i j):∀(k:Nat) (x:V × List Nat),D[k]?=some x→x.2.length≤k:=by
 intro k
 induction k using Nat.strongRecOn with
 |_ k ih=>
  intro x hx
  by_cases h0:k=0
  ·subst h0;rw[B.hd]at hx;cases hx;simp
  ·obtain⟨k',u,p,a,h1,h2,rfl,_,_⟩:=B.par k x hx h0
   have:=ih k' h1 _ h2
   simp only at this
   simp;omega
structure BkI(m:Ad)(X:List (List Int × Int))(D:List ((Int × Int) × List Nat))(kb lb:Nat)(H:Ab)(z0 z:(Int × Int) × List Nat)(r:List Nat)(ov:AV)(h:Ab):Prop where
 zD:z∈D
 zr:z0.2=z.2++r
 nd:∃x,h[H.length]?=some (.live 2 true x [aP z.1])
 L:∃(Q:List (AV × AV)) (Ro:List Nat),nH 2 (H.length+1) ov h (Q.map rwQ) (r.reverse.map fun a=>(tsc (gS X a)).cells) Ro∧(Q.length=r.length∧Ro.length≤r.length)∧∀q∈Q,q.1.isCell=true∧q.2.isCell=true
 w:Ns H h
 q:Bc h=true
 k:∀c,c<H.length→Ge H h c
def BkR(m:Ad)(X:List (List Int × Int))(H:Ab)(w:List Nat)(o:Gp)(G:Ab):Prop:=∃(ov:AV) (Q:List (AV × AV)) (Ro:List Nat),o=.ret ov∧nH 2 (H.length+1) ov G (Q.map rwQ) (w.map fun a=>(tsc (gS X a)).cells) Ro∧Q.length=w.length∧Ro.length≤w.length
theorem bf1{m:Ad}(hm:Bh m=true){X:List (List Int × Int)}(hX:Qj m X){D:List ((Int × Int) × List Nat)}(B:mT m X D){H:Ab}(hq:Bc H=true){kb lb:Nat}(P:PtH m X D kb lb H){z0:(Int × Int) × List Nat}(hz0:z0∈D):
 ShQ Dc 63 [.agg [.int .i64 z0.1.1,.int .i64 z0.1.2],.func (.func 64) [] [.ptr kb 0 0,.ptr lb 0 0]] H fun o G=>(BkR m X H z0.2 o G∧∀c,c<H.length→Ge H G c)∧Ns H G∧Bc G=true:=by
 refine mZ rfl Try.func63 rfl rfl ?_
 simp only[Try.f63]
 (have hb:=trivial;with_reducible repeat' (first|simp only[hb,Vc.down,seval,axF.down,Ol.down,acE]|refine Aq ?_ ?_<;>intro hb|refine fd ?_|fail))
 have st0:BkI m X D kb lb H z0 z0 [] .nils (H++[.live 2 true false [aP z0.1]]):=⟨hz0,by simp,⟨false,by simp⟩,⟨[],[],nH.none,⟨rfl,by simp⟩,by simp⟩,(Ns.refl H).app _,Bw hq rfl,fun c hc=>(Ge.refl H c).app hc _⟩
 refine Dl (cnt 26 (fun n (_:Unit) t h=>∃z r ov,z.2.length=n∧t 1=.func (.func 64) [] [.ptr kb 0 0,.ptr lb 0 0]∧t 2=.ptr H.length 0 0∧t 5=ov∧BkI m X D kb lb H z0 z r ov h) (fun _ _=>()) (fun _ e t h=>e=.ret∧BkR m X H z0.2 (.ret (t 4)) h∧(∀c,c<H.length→Ge H h c)∧Ns H h∧Bc h=true) ?_ ?_ z0.2.length () _ _ ?_) (fun e t h hk=>?_)
 ·rintro _ t h Q' kQ ⟨z,r,ov,hn,g1,g2,g5,I⟩
  have hz2:z.2=[]:=al4.1 hn
  obtain⟨xn,nd⟩:=I.nd
  obtain⟨o,G,es,M,a1,a2,⟨hR,sm⟩,a4,a5,a6⟩:=Ti (O:=Dc) (H:=h) I.q (apA hm hX B (Ha I.q) (P.app (by rw[Cm];exact I.w.1) fun c hc=>(I.k c hc).eqR (Gz h).symm) I.zD)
  have ho:o=.ret (.tup [.agg [.int .i64 z.1.1,.int .i64 z.1.2],.agg [.nils,.int .i64 0],.bool false]):=by
   rcases hR with⟨_,h⟩|⟨p,a,x,cb,w,e,_⟩
   ·exact h
   ·rw[hz2]at e;simp at e
  subst ho
  have smM:∀c,c<h.length→Ge h M c:=fun c hc=>(((Ge.refl h c).eqR (Gz h).symm).trans (sm c (by rw[Cm];exact hc))).eqR a4.symm
  obtain⟨Q,Ro,L,⟨hQ,hRl⟩,hcell⟩:=I.L
  have LM:=L.sm a5.1 fun b _ hb=>smM b hb
  have hzr:z0.2=r:=by rw[I.zr,hz2];rfl
  have hlo:H.length≤h.length:=I.w.1
  rcases LM.own with⟨h1,rfl⟩|⟨b,wb,rfl,hb⟩
  ·have hQ0:Q=[]:=List.map_eq_nil_iff.1 h1
   subst hQ0
   have hr0:r=[]:=al4.1 hQ.symm
   have hrv:=amN
   (have hb:=trivial;with_reducible repeat' (first|simp only[hb,Vc.down,seval,axF.down,Ol.down,g1,g2,g5,nd,aP,a1,a2,hrv,acE]|refine Aq ?_ ?_<;>intro hb|refine fd ?_|fail))
   refine kQ _ _ _ ⟨rfl,⟨.nils,[],[],by simp[up],by rw[hzr,hr0];exact nH.none,by rw[hzr,hr0];rfl,by simp⟩,fun c hc=>((I.k c hc).trans (smM c (by omega))).app (by have:=a5.1;omega) _,(I.w.trans a5).app _,Bw a6 rfl⟩
  ·rw[acE]at *
   have hQ1:1≤Q.length:=by
    rcases Nat.eq_zero_or_pos Q.length with h0|h0
    ·have:=LM.nil (by rw[al4.1 h0];rfl);cases this
    ·exact h0
   have hl9:z0.2.length≤1000:=by
    have:=La hm B
    obtain⟨k0,hk0⟩:=acZ hz0
    have:=abU B k0 z0 hk0
    have:=Yg hk0
    omega
   obtain⟨K2,hK2⟩:∃K2,M++[CB.live 2 true true [[.int .i64 z.1.1,.int .i64 z.1.2]],.live 2 false true [[.nils,.int .i64 0]]]=K2:=⟨_,rfl⟩
   have hcl:Hf (M++[CB.live 2 true true [[.int .i64 z.1.1,.int .i64 z.1.2]],.live 2 false true [[.nils,.int .i64 0]]])=Hf M++[CB.live 2 true false [[.int .i64 z.1.1,.int .i64 z.1.2]],.live 2 false false [[.nils,.int .i64 0]]]:=by simp[Hf,CB.clean]
   have hqK:Bc K2=true:=by rw[←hK2];exact Bw a6 rfl
   have kb2:K2[b]?=some (.live 2 false wb (Q.map rwQ)):=by rw[←hK2];exact Ac hb _
   obtain⟨o,G3,es3,M3,b1,b2,⟨⟨rfl,w3,b7⟩,b8⟩,b4,b5,b6⟩:=Ti (O:=Dc) (H:=K2) (f:=83) (args:=[.slr 2 b 0 Q.length]) hqK (arK (Ha hqK) (Nx kb2) hcell hQ1 (by rw[hQ,←hzr];exact hl9))
   obtain⟨w4,b9⟩:=Ir b4.symm ⟨_,b7⟩
   have sm3:∀c,c<M.length→c≠b→Ge M M3 c:=fun c c1 c2=>by
    have e1:Ge M K2 c:=by rw[←hK2];exact(Ge.refl M c).app c1 _
    exact(e1.trans ((((Ge.refl _ c).eqR (Gz _).symm).trans (b8 c (by rw[Cm,←hK2];simp;omega) c2)))).eqR b4.symm
   obtain⟨d1,d2,d3⟩:=LM.dov _ _ _ _ rfl
   obtain⟨R',r1,r2,r3⟩:=abE (bS (g':=hf M3) LM.q fun j hj zz hz=>(sm3 j (fB (by omega) LM.q j hj) (fun e=>d2 (e▸hj))).rows hz)
   rw[←hK2,hcl]at b1
   rw[←hK2]at b2
   (have hb:=trivial;with_reducible repeat' (first|simp only[hb,Vc.down,seval,axF.down,Ol.down,g1,g2,g5,nd,aP,a1,a2,b1,b2,acE]|refine Aq ?_ ?_<;>intro hb|refine fd ?_|fail))
   refine kQ _ _ _ ⟨rfl,⟨.slr 2 b 0 Q.length,Q.reverse,R',by simp[up],⟨Wc.blk b9 rfl (by simp),fun e=>by simp at e;rw[e]at hQ1;simp at hQ1,?_,fun c hc=>LM.dx c (r2 c hc),fun a' b' r' n' e=>by cases e;exact⟨d1,fun hb=>d2 (r2 _ hb),An b9⟩⟩,by rw[hzr];simp[hQ],by rw[hzr,r3];exact hRl⟩,fun c hc=>((I.k c hc).trans (smM c (by omega))).trans (sm3 c (by have:=a5.1;omega) (by omega)),((I.w.trans a5).app _).trans (by rw[hK2];exact b5),b6⟩
   rw[hzr,List.map_reverse (f:=rwQ)]
   rw[show r.map (fun a=>(tsc (gS X a)).cells)=(r.reverse.map fun a=>(tsc (gS X a)).cells).reverse from by simp]
   exact r1
 ·rintro n _ t h J Q' kJ kQ ⟨z,r,ov,hn,g1,g2,g5,I⟩
  obtain⟨xn,nd⟩:=I.nd
  obtain⟨o,G,es,M,a1,a2,⟨hR,sm⟩,a4,a5,a6⟩:=Ti (O:=Dc) (H:=h) I.q (apA hm hX B (Ha I.q) (P.app (by rw[Cm];exact I.w.1) fun c hc=>(I.k c hc).eqR (Gz h).symm) I.zD)
  rcases hR with⟨e,_⟩|⟨p,a,x,cb,w,e,hx,rfl,hcb,hcl⟩
  ·rw[e]at hn;simp at hn
  obtain⟨u,hu⟩:∃u,run (fun v i=>Ww m v (gS X i)) (m.bgn,0) p=u:=⟨_,rfl⟩
  rw[hu]at a1
  have smM:∀c,c<h.length→Ge h M c:=fun c hc=>(((Ge.refl h c).eqR (Gz h).symm).trans (sm c (by rw[Cm];exact hc))).eqR a4.symm
  obtain⟨Q,Ro,L,⟨hQ,hRl⟩,hcell⟩:=I.L
  have LM:=L.sm a5.1 fun b _ hb=>smM b hb
  have hlo:H.length<h.length:=An nd
  have hMl:=a5.1
  have hl9:r.length≤100:=by
   obtain⟨k0,hk0⟩:=acZ hz0
   have:=abU B k0 z0 hk0
   have:=Yg hk0
   have:=La hm B
   have h1:z0.2.length=z.2.length+r.length:=by rw[I.zr];simp
   omega
  obtain⟨w5,hcb2⟩:=Ir a4.symm ⟨_,hcb⟩
  rw[Cm]at hcl
  have own':=LM.own
  have hap:=fun(q:Ab) (r:List AV)=>fW own' (pre:=[]) rfl q r [] (by simp;omega)
  have hhp:=fun(q:Ab) (r:List (List AV)) (ba:Nat)=>jG own' (pre:=[]) rfl q 2 false r ba
  simp only[aiI]at hap hhp
  obtain⟨xp,ndM⟩:=(smM H.length hlo).live ⟨_,nd⟩
  have hdov:∀a b r n,ov=.slr a b r n→H.length<b:=fun a b r n e=>(LM.dov a b r n e).1
  have hkg:∀l,(kl 0 ov M++l)[H.length]?=some (.live 2 true xp [aP z.1]):=fun l=>by
   rw[al7 (by rw[Jq];omega)]
   rcases own' with⟨_,rfl⟩|⟨b,wb,rfl,hb⟩
   ·exact ndM
   ·simp only[kl]
    rw[acK (fun e=>by have:=hdov _ _ _ _ rfl;omega)];exact ndM
  have hks:∀l c,(kl 0 ov M++l).set H.length c=(kl 0 ov M).set H.length c++l:=fun l c=>Jt (by rw[Jq];omega) l c
  have hkM:∀(l:Ab) (k:Nat),(kl 0 ov M++l)[M.length+k]?=l[k]?:=fun l k=>by
   rw[acG (by rw[Jq];omega),Jq,anC]
  have hkM0:∀(l:Ab),(kl 0 ov M++l)[M.length]?=l[0]?:=fun l=>hkM l 0
  have F:∀l:Ab,l.length=3→Bc l=true→BkI m X D kb lb H z0 (u,p) (a::r) (.slr 2 (M.length+3) 0 (Q.length+1)) ((kl 0 ov M).set H.length (.live 2 true true [aP u])++(l++[.live 2 false false (Q.map rwQ++[[.slr 1 cb 0 x.1.length,.int .i64 x.2]])])):=fun l hl hlq=>by
   have hkl:Ns H (kl 0 ov M)∧∀c,c<M.length→c∉Pl ov→Ge M (kl 0 ov M) c:=by
    rcases own' with⟨_,rfl⟩|⟨b,wb,rfl,hb⟩
    ·exact⟨I.w.trans a5,fun c _ _=>Ge.refl M c⟩
    ·exact⟨(I.w.trans a5).kill hb,fun c _ hc=>(Ge.refl M c).set (fun e=>hc (by simp[Pl];omega)) _⟩
   have hkp:(kl 0 ov M)[H.length]?=some (.live 2 true xp [aP z.1]):=by
    have:=hkg []
    simpa [aP]using this
   have hsc:∀b∈Pl ov,H.length<b:=fun b hb=>by
    rcases own' with⟨_,rfl⟩|⟨b',wb,rfl,hb'⟩
    ·simp[Pl]at hb
    ·have:=hdov _ _ _ _ rfl
     simp[Pl]at hb;omega
   have hRo:∀j∈Ro,j∉Pl ov:=fun j hj hb=>by
    rcases own' with⟨_,rfl⟩|⟨b',wb,rfl,hb'⟩
    ·simp[Pl]at hb
    ·have:=(LM.dov _ _ _ _ rfl).2.1
     simp[Pl]at hb
     exact this (by rw[Nat.add_zero,←hb];exact hj)
   have smG:∀c,c<M.length→c≠H.length→c∉Pl ov→Ge M ((kl 0 ov M).set H.length (.live 2 true true [aP u])++(l++[.live 2 false false (Q.map rwQ++[[.slr 1 cb 0 x.1.length,.int .i64 x.2]])])) c:=fun c c1 c2 c3=>((hkl.2 c c1 c3).set (fun e=>c2 e.symm) _).app (by simp[Jq];omega) _
   have hcbM:cb<M.length:=An hcb2
   obtain⟨kz,hkz⟩:=acZ I.zD
   obtain⟨k',u',q1,q2,q3,q4⟩:=B.pre (v:=z.1) (p:=p) (a:=a) (by rw[hkz,←e])
   have hu':u'=u:=by have:=(B.way _ _ q2).1;simp only at this;rw[←this,hu]
   subst hu'
   have hgs:gS X a=x:=oZ hx
   have hcbs:cb∉Pl ov:=fun hb=>by
    rcases L.own with⟨_,rfl⟩|⟨b',wb,rfl,hb'⟩
    ·simp[Pl]at hb
    ·have:=(L.dov _ _ _ _ rfl).2.2
     simp[Pl]at hb;omega
   obtain⟨w6,gcb⟩:=(smG cb hcbM (by omega) hcbs).live ⟨_,hcb2⟩
   have gnew:((kl 0 ov M).set H.length (.live 2 true true [aP u'])++(l++[.live 2 false false (Q.map rwQ++[[.slr 1 cb 0 x.1.length,.int .i64 x.2]])]))[M.length+3]?=some (.live 2 false false (Q.map rwQ++[[.slr 1 cb 0 x.1.length,.int .i64 x.2]])):=by
    rw[acG (by simp[Jq]),acG (by simp[Jq];omega)]
    simp[Jq,hl]
   have hrd:Xa (rd 5 (hf ((kl 0 ov M).set H.length (.live 2 true true [aP u'])++(l++[.live 2 false false (Q.map rwQ++[[.slr 1 cb 0 x.1.length,.int .i64 x.2]])])))) [.slr 1 cb 0 x.1.length,.int .i64 x.2]=some ((tsc x).cells,[cb]):=by
    have:=Oq (f:=rd 5 (hf ((kl 0 ov M).set H.length (.live 2 true true [aP u'])++(l++[.live 2 false false (Q.map rwQ++[[.slr 1 cb 0 x.1.length,.int .i64 x.2]])])))) (wO (d:=4) (st:=1) (b:=cb) (n:=x.1.length) (rows:=x.1.map iv) (by show(Option.bind _ Ci)=_;rw[show hf _ cb=_ from gcb];rfl) (by simp)) (Oq (vB (d:=4) .i64 x.2) nL)
    simpa [Ii.cells,tsc,Wv]using this
   refine⟨adD q2,by rw[I.zr,e];simp,⟨true,?_⟩,⟨Q++[(.slr 1 cb 0 x.1.length,.int .i64 x.2)],Ro++[cb],?_,⟨by simp[hQ],by simp;omega⟩,fun q hq2=>?_⟩,((hkl.1.put hkp 2 true _).app _),Bw (Dj (as2 a6) _ rfl) (Bw hlq rfl),fun c hc=>((I.k c hc).trans (smM c (by omega))).trans (smG c (by omega) (by omega) fun hb=>by have:=hsc c hb;omega)⟩
   ·rw[al7 (by simp[Jq];omega),aiC (by simp[Jq];omega)]
   ·have:=LM.step gnew (fun j hj zz hz=>(smG j (fB (by omega) LM.q j hj) (by have:=LM.dx j hj;omega) (hRo j hj)).rows hz) hrd (fun b hb=>by simp at hb;subst hb;exact⟨by omega,by omega⟩) (show H.length+1≤M.length+3 by omega) (fun hb=>by have:=fB (by omega) LM.q _ hb;omega) (n:=Q.length+1) (by simp)
    rw[asX,asI,asX]
    simpa [rwQ,hgs]using this
   ·rcases asS.1 hq2 with hq2|hq2
    ·exact hcell q hq2
    ·simp at hq2;subst hq2;exact⟨rfl,rfl⟩
  simp only[aP]at hkg
  (have hb:=trivial;with_reducible repeat' (first|simp only[hb,Vc.down,seval,axF.down,Ol.down,g1,g2,g5,nd,aP,a1,a2,hap,hhp,hkg,hks,hkM,hkM0,acE]|refine Aq ?_ ?_<;>intro hb|refine fd ?_|fail))
  exact Ax (kJ _ _ () ⟨(u,p),a::r,.slr 2 (M.length+3) 0 (Q.length+1),by rw[e]at hn;simpa using hn,by simp[up,g1],by simp[up,g2],by simp[up],F [.live 2 true true [[.int .i64 u.1,.int .i64 u.2]],.live 2 false true [[.slr 1 cb 0 x.1.length,.int .i64 x.2]],.live 2 false false [[.slr 1 cb 0 x.1.length,.int .i64 x.2]]] rfl rfl⟩ rfl)
 ·exact⟨z0,[],.nils,rfl,by simp[up,Eg],by simp[up],by simp[up],st0⟩
 ·obtain⟨rfl,hR,k1,k2,k3⟩:=hk
  (have hb:=trivial;with_reducible repeat' (first|simp only[hb,Vc.down,seval,axF.down,Ol.down]|refine Aq ?_ ?_<;>intro hb|refine fd ?_|fail))
  exact⟨⟨hR,k1⟩,k2,k3⟩
theorem aoK{m:Ad}(hs:m.small){s:Int}(hm:(Bh m&&To s 0 (IntKind.i64.wrap (m.states-1)))=false):Dc.call (.fn 30) [.agg [Af 3 true m.nS (m.sens.map Bz.cells),Af 4 false m.nV (m.votes.map Aj.cells),Af 5 false m.nM (m.moves.map Ap.cells),.int .i64 m.states,.int .i64 m.cmds,.int .i64 m.bgn,Af 1 true m.nO (m.opn.map iv)],.int .i64 s] []=some (.ret (.tup [.nils,.int .i64 2]),[]):=by
 have h1:=mO m hs
 cases c1:Bh m with
 |false=>
  rw[c1]at h1
  (refine ce Try.func30 ?_;simp only[Try.f30];(have hb:=trivial;with_reducible repeat' (first|simp only[hb,Vc.down,seval,acN.down,h1,Xb]|refine Aq ?_ ?_<;>intro hb|refine fd ?_|fail)))
 |true=>
  rw[c1]at h1 hm
  simp only[Bool.true_and]at hm
  (refine ce Try.func30 ?_;simp only[Try.f30];(have hb:=trivial;with_reducible repeat' (first|simp only[hb,Vc.down,seval,acN.down,h1,Xb,hm]|refine Aq ?_ ?_<;>intro hb|refine fd ?_|fail)))
def PaQ(m:Ad)(D:List ((Int × Int) × List Nat))(s:Int)(o:Gp)(h':Ab):Prop:=match jD D s with
 |none=>o=.ret (.tup [.nils,.int .i64 5])∧h'=[]
 |some z=>∃outs R,o=.ret (.tup outs)∧Xa (rd 6 (hf h')) outs=some ([Af 2 false false (z.2.map fun a=>(tsc (gS (He m) a)).cells),.int .i64 0],R)∧R.length≤200∧∀c∈h',Rnm c
theorem bg9{m:Ad}(hs:m.small)(hm:Bh m=true){s:Int}(hst:0≤s∧s<m.states):ClQ Dc 30 [.agg m.cells,.int .i64 s] [] fun o h'=>∃D,mT m (He m) D∧PaQ m D s o h':=by
 have h1:=mO m hs
 rw[hm]at h1
 have hin:To s 0 (IntKind.i64.wrap (m.states-1))=true:=by
  have:=Ie hm
  rw[Ed (by omega) (by omega)];simp[To];omega
 obtain⟨lv,sb,x,rows,Ro,es1,M1,a1,a2,aL,aR,a3,a4,a5,a6,a7⟩:=apQ hs hm (H:=[.live 7 false false [m.cells]]) rfl
 rw[show Hf [CB.live 7 false false [m.cells]]=[CB.live 7 false false [m.cells]]from rfl]at a1
 have hlvc:Am lv=[lv]∧lv.flat=false∧lv.isCell=true:=by
  rcases aL.own with⟨_,rfl⟩|⟨b,w,rfl,_⟩
  ·exact⟨rfl,rfl,rfl⟩
  ·exact⟨rfl,rfl,rfl⟩
 obtain⟨l1,l2,l3⟩:=hlvc
 have hq1:Bc (M1++[.live 1 false true [[lv]]])=true:=Bw a6 rfl
 obtain⟨D,ob,ox,mb,y,es2,M2,b1,b2,b3,b4,b5,b6,b6',b6'',b7,b8,b9⟩:=aoY hs hm (X:=He m) (by have:=ae7 hm;omega) hq1 (Ac a3 _)
 have hcl:Hf (M1++[.live 1 false true [[lv]]])=Hf M1++[.live 1 false false [[lv]]]:=by simp[Hf,CB.clean]
 rw[hcl]at b1
 obtain⟨xm,hm0⟩:=(a7 0 (by simp)).live ⟨false,rfl⟩
 obtain⟨xm2,hm2⟩:=(b9 0 (An (Ac hm0 _))).live ⟨_,Ac hm0 _⟩
 have hX:=Uh hm
 have PH:PtH m (He m) D M2.length M1.length (M2++[.live 1 false true [[.mapr mb]]]):=by
  have hM:=b7.1
  simp at hM
  refine⟨⟨true,mb,by simp,y,Ac b6 _,b6'⟩,?_⟩
  obtain⟨z,g⟩:=(b9 M1.length (by simp)).live (st:=1) (fl:=false) (rows:=[[lv]]) ⟨true,by simp⟩
  exact⟨z,lv,Ac g _,_,rows,Ro,aL.sm (by simp;omega) fun c _ hc=>(((Ge.refl M1 c).app hc _).trans (b9 c (by simp;omega))).app (by omega) _,aR⟩
 refine abD rfl Try.func30 rfl rfl ?_
 simp only[Try.f30]
 refine Ik (fun K iN hK=>?_)
 (have hb:=trivial;with_reducible repeat' (first|simp only[hb,Vc.down,seval,acN.down,Ol.down,h1,Xb,hin,a1,a2,hm0,Ac hm0,l1,l2,l3,b1,b2,hm2,Ac hm2,yK,yM,yD,yO,yA,yR,acE]|refine Aq ?_ ?_<;>intro hb|refine fd ?_|fail))
 have h88:=La hm b3
 refine Dl (Ss 48 D (fun k (_:Unit) t h=>t 1=.int .i64 s∧t 6=.ptr M1.length 0 0∧t 9=.ptr M2.length 0 0∧t 34=.slr 2 ob 0 D.length∧t 35=.int .i64 D.length∧t 36=.int .i64 k∧PtH m (He m) D M2.length M1.length h∧(∃x,h[ob]?=some (.live 2 true x (D.map fun x=>aP x.1)))∧Bc h=true) (fun rest _=>jD rest s) (fun r e t h=>match r with
  |none=>e=.exit 0
  |some z=>e=.ret∧t 5=.int .i64 0∧∃H',BkR m (He m) H' z.2 (.ret (t 4)) h) ?_ ?_ () _ _ ?_) (fun e t h hk=>?_)
 ·rintro _ t h Q' kQ ⟨c1,c6,c9,c34,c35,c36,c7,c8,c10⟩
  (have hb:=trivial;with_reducible repeat' (first|simp only[hb,Vc.down,seval,acN.down,Ol.down,c34,c35,c36,al3,decide_false]|refine Aq ?_ ?_<;>intro hb|refine fd ?_|fail))
  exact kQ _ _ _ (by simp[jD])
 ·rintro z rest k _ t h J Q' kJ kQ hx hk2 ⟨c1,c6,c9,c34,c35,c36,c7,⟨xo,c8⟩,c10⟩
  have hd2:((k:Int)<(D.length:Int))=True:=eq_true (by omega)
  have hw2:=Av hk2 (show D.length≤maxLen by unfold maxLen;omega)
  have hzD:z∈D:=adD hx
  cases hp:(z.1.1==s)with
  |false=>
   have hf:jD (z::rest) s=jD rest s:=by simp[jD,as6,hp]
   rw[hf]at kJ kQ
   (have hb:=trivial;with_reducible repeat' (first|simp only[hb,Vc.down,seval,acN.down,Ol.down,c1,c6,c9,c34,c35,c36,c8,hx,aP,hd2,hw2,hp,acE]|refine Aq ?_ ?_<;>intro hb|refine fd ?_|fail))
   exact Ax (kJ _ _ () ⟨by simp[up,c1],by simp[up,c6],by simp[up,c9],by simp[up,c34],by simp[up,c35],by simp[up]<;>omega,c7.app (by simp) (fun c hc=>(Ge.refl h c).app hc _),⟨xo,Ac c8 _⟩,Bw c10 rfl⟩ rfl)
  |true=>
   have hf:jD (z::rest) s=some z:=by simp[jD,as6,hp]
   rw[hf]at kQ
   obtain⟨K2,hK2⟩:∃K2,h++[CB.live 2 true true [[.int .i64 z.1.1,.int .i64 z.1.2]]]=K2:=⟨_,rfl⟩
   have hcl2:Hf (h++[CB.live 2 true true [[.int .i64 z.1.1,.int .i64 z.1.2]]])=Hf h++[CB.live 2 true false [[.int .i64 z.1.1,.int .i64 z.1.2]]]:=by simp[Hf,CB.clean]
   have hqK:Bc K2=true:=by rw[←hK2];exact Bw c10 rfl
   have PK:PtH m (He m) D M2.length M1.length (Hf K2):=c7.app (by rw[Cm,←hK2];simp) fun c hc=>by rw[←hK2];exact((Ge.refl h c).app hc _).eqR (Gz _).symm
   obtain⟨o,G,es,M,d1,d2,⟨⟨ov,Q,Ro,rfl,dL,dQ,dR⟩,_⟩,d4,d5,d6⟩:=Ti (O:=Dc) (H:=K2) hqK (bf1 hm hX b3 (Ha hqK) PK hzD)
   rw[←hK2,hcl2]at d1
   rw[←hK2]at d2
   (have hb:=trivial;with_reducible repeat' (first|simp only[hb,Vc.down,seval,acN.down,Ol.down,c1,c6,c9,c34,c35,c36,c8,hx,aP,hd2,hw2,hp,d1,d2,acE]|refine Aq ?_ ?_<;>intro hb|refine fd ?_|fail))
   exact kQ _ _ _ ⟨rfl,by simp[up],Hf K2,ov,Q,Ro,by simp[up],dL.cl d4.symm,dQ,dR⟩
 ·exact⟨by simp[up,Eg],by simp[up],by simp[up],by simp[up],by simp[up],by simp[up],PH,⟨ox,Ac b4 _⟩,Bw b8 rfl⟩
 ·cases hr:jD D s with
  |none=>
   rw[hr]at hk
   obtain rfl:=hk
   (have hb:=trivial;with_reducible repeat' (first|simp only[hb,Vc.down,seval,acN.down,Ol.down]|refine Aq ?_ ?_<;>intro hb|refine fd ?_|fail))
   refine hK _ ?_
   (have hb:=trivial;with_reducible repeat' (first|simp only[hb,Vc.down,seval,acN.down,Ol.down]|refine Aq ?_ ?_<;>intro hb|refine fd ?_|fail))
   exact⟨D,b3,by unfold PaQ;rw[hr];exact⟨rfl,rfl⟩⟩
  |some z=>
   rw[hr]at hk
   obtain⟨rfl,g5,H',ov,Q,Ro,g4,L,hQ,hR⟩:=hk
   (have hb:=trivial;with_reducible repeat' (first|simp only[hb,Vc.down,seval,acN.down,Ol.down,g5]|refine Aq ?_ ?_<;>intro hb|refine fd ?_|fail))
   obtain⟨R,r1,_,r2⟩:=L.read
   have g4':t 4=ov:=by simpa using g4
   have hzl:z.2.length≤88:=by
    obtain⟨k0,hk0⟩:=acZ (List.mem_of_find?_eq_some hr)
    have:=abU b3 k0 z hk0
    have:=Yg hk0
    omega
   refine hK _ ?_
   rw[fX]
   refine lC (vs:=[ov,.int .i64 0]) (by simp only[Vc.down,seval,acN.down,g4',g5]) (yQ (Oq r1 (Oq (vB ..) nL)) (by simp;omega) rfl fun outs h' R' k1 k2 k3=>⟨D,b3,by unfold PaQ;rw[hr];exact⟨outs,R',rfl,k1,by simp at k2;omega,k3⟩⟩)
end Go.Proofs.Ytfkokgjfpojeoaa
namespace Go.Proofs.Ytfkokgjfpojeoaa
open Go.Ev Go
set_option maxRecDepth 100000
set_option maxHeartbeats 16000000
theorem mE{α:Type}{f:α→List AV}{p:List AV→Prop}{q:α→Prop}(hf:∀r,p r→∃x,r=f x∧q x):∀{rows:List (List AV)},(∀r∈rows,p r)→∃l:List α,rows=l.map f∧∀x∈l,q x
 | [],_=>⟨[],rfl,fun x hx=>by simp at hx⟩
 |r::rows,h=>by
  obtain⟨x,rfl,hx⟩:=hf r (h r (List.mem_cons_self ..))
  obtain⟨l,rfl,hl⟩:=mE hf (fun r hr=>h r (as8 _ hr))
  exact⟨x::l,rfl,fun y hy=>by
   rcases an5.1 hy with rfl|hy
   ·exact hx
   ·exact hl y hy⟩
def i64(n:Int):Prop:= -9223372036854775808≤n∧n≤9223372036854775807
theorem Wt{n:Nat}{r:List AV}(h:Ty Try.prog (n+1) 3 r):∃x,r=[.int .i64 x]∧i64 x:=by
 simp only[Ty,Try.underlying3]at h
 obtain⟨x,rfl,h1,h2⟩:=h
 exact⟨x,rfl,h1,h2⟩
theorem ahO{n:Nat}{r:List AV}(h:Ty Try.prog (n+1) 4 r):∃x,r=[.bool x]:=by
 simp only[Ty,Try.underlying4]at h
 exact h
theorem apB{n:Nat}{r:List AV}(h:Ty Try.prog (n+2) 25 r):∃(nn:Bool) (l:List Int),r=[Af 1 true nn (l.map iv)]∧l.length≤maxLen∧∀x∈l,i64 x:=by
 unfold Ty at h
 simp only[Try.underlying25]at h
 obtain⟨nn,rows,rfl,hl,hrows⟩:=h
 obtain⟨l,rfl,hi⟩:=mE (f:=iv) (q:=i64) (fun r hr=>by obtain⟨x,rfl,hx⟩:=Wt hr;exact⟨x,rfl,hx⟩) hrows
 have e1:Try.prog.cellsOf 3=1:=by kernel_rfl
 have e2:yC Try.prog (n+1) 3=true:=by
  simp only[yC,Try.underlying3]
 rw[e1,e2]
 exact⟨nn,l,rfl,by simpa using hl,hi⟩
theorem bf9{n:Nat}{r:List AV}(h:Ty Try.prog (n+2) 50 r):∃x:Bz,r=x.cells∧True:=by
 unfold Ty at h
 simp only[Try.underlying50,ai4]at h
 obtain⟨a0,b0,rfl,h0,a1,b1,rfl,h1,a2,b2,rfl,h2,rfl⟩:=h
 obtain⟨x0,rfl,_⟩:=Wt h0
 obtain⟨x1,rfl,_⟩:=Wt h1
 obtain⟨x2,rfl⟩:=ahO h2
 exact⟨⟨x0,x1,x2⟩,rfl,trivial⟩
theorem aZ4{n:Nat}{r:List AV}(h:Ty Try.prog (n+2) 56 r):∃x:Ao,r=x.cells∧True:=by
 unfold Ty at h
 simp only[Try.underlying56,ai4]at h
 obtain⟨a0,b0,rfl,h0,a1,b1,rfl,h1,rfl⟩:=h
 obtain⟨x0,rfl,_⟩:=Wt h0
 obtain⟨x1,rfl⟩:=ahO h1
 exact⟨⟨x0,x1⟩,rfl,trivial⟩
theorem aQJ{n:Nat}{r:List AV}(h:Ty Try.prog (n+3) 48 r):∃x:Aj,r=x.cells∧x.sens.length≤maxLen:=by
 unfold Ty at h
 simp only[Try.underlying48,ai4]at h
 obtain⟨a0,b0,rfl,h0,a1,b1,rfl,h1,a2,b2,rfl,h2,a3,b3,rfl,h3,rfl⟩:=h
 obtain⟨nn,l,rfl,hl,_⟩:=apB h0
 obtain⟨x1,rfl,_⟩:=Wt h1
 obtain⟨x2,rfl,_⟩:=Wt h2
 obtain⟨x3,rfl⟩:=ahO h3
 exact⟨⟨nn,l,x1,x2,x3⟩,rfl,hl⟩
theorem aA5{n:Nat}{r:List AV}(h:Ty Try.prog (n+4) 59 r):∃x:Ap,r=x.cells∧x.wants.length≤maxLen:=by
 unfold Ty at h
 simp only[Try.underlying59,ai4]at h
 obtain⟨a0,b0,rfl,h0,a1,b1,rfl,h1,a2,b2,rfl,h2,a3,b3,rfl,h3,a4,b4,rfl,h4,rfl⟩:=h
 obtain⟨x0,rfl,_⟩:=Wt h0
 obtain⟨x1,rfl,_⟩:=Wt h1
 obtain⟨x3,rfl,_⟩:=Wt h3
 obtain⟨x4,rfl,_⟩:=Wt h4
 unfold Ty at h2
 simp only[Try.underlying57]at h2
 obtain⟨nn,rows,rfl,hl,hrows⟩:=h2
 obtain⟨l,rfl,_⟩:=mE (fun r hr=>aZ4 hr) hrows
 have e1:Try.prog.cellsOf 56=2:=by kernel_rfl
 have e2:yC Try.prog (n+2) 56=true:=by
  simp only[yC,Try.underlying56,Try.underlying3,Try.underlying4];rfl
 rw[e1,e2]
 exact⟨⟨x0,x1,nn,l,x3,x4⟩,rfl,by simpa using hl⟩
theorem azQ{n:Nat}{r:List AV}(h:Ty Try.prog (n+6) 27 r):∃m:Ad,r=m.cells∧m.small:=by
 unfold Ty at h
 simp only[Try.underlying27,ai4]at h
 obtain⟨a0,b0,rfl,h0,a1,b1,rfl,h1,a2,b2,rfl,h2,a3,b3,rfl,h3,a4,b4,rfl,h4,a5,b5,rfl,h5,a6,b6,rfl,h6,rfl⟩:=h
 obtain⟨x3,rfl,_⟩:=Wt h3
 obtain⟨x4,rfl,_⟩:=Wt h4
 obtain⟨x5,rfl,_⟩:=Wt h5
 obtain⟨n6,l6,rfl,hl6,_⟩:=apB h6
 unfold Ty at h0 h1 h2
 simp only[Try.underlying22]at h0
 simp only[Try.underlying23]at h1
 simp only[Try.underlying24]at h2
 obtain⟨n0,rows0,rfl,hl0,hrows0⟩:=h0
 obtain⟨n1,rows1,rfl,hl1,hrows1⟩:=h1
 obtain⟨n2,rows2,rfl,hl2,hrows2⟩:=h2
 obtain⟨l0,rfl,_⟩:=mE (fun r hr=>bf9 hr) hrows0
 obtain⟨l1,rfl,hv⟩:=mE (fun r hr=>aQJ hr) hrows1
 obtain⟨l2,rfl,hm⟩:=mE (fun r hr=>aA5 hr) hrows2
 have e0:Try.prog.cellsOf 50=3:=by kernel_rfl
 have e1:Try.prog.cellsOf 48=4:=by kernel_rfl
 have e2:Try.prog.cellsOf 59=5:=by kernel_rfl
 have f0:yC Try.prog (n+4) 50=true:=by
  simp only[yC,Try.underlying50,Try.underlying3,Try.underlying4];rfl
 have f1:yC Try.prog (n+4) 48=false:=by
  simp only[yC,Try.underlying48,Try.underlying25];simp
 have f2:yC Try.prog (n+4) 59=false:=by
  simp only[yC,Try.underlying59,Try.underlying57];simp
 rw[e0,e1,e2,f0,f1,f2]
 exact⟨⟨n0,l0,n1,l1,n2,l2,x3,x4,x5,n6,l6⟩,rfl,⟨by simpa using hl0,by simpa using hl1,by simpa using hl2,hl6,hv,hm⟩⟩
theorem aBL{av:AV}(h:TyV Try.prog 7 27 av):∃m:Ad,av=.agg m.cells∧m.small:=by
 unfold TyV at h
 simp only[Try.underlying27]at h
 obtain⟨cs,rfl,h⟩:=h
 obtain⟨s,rfl,hs⟩:=azQ h
 exact⟨s,rfl,hs⟩
theorem bhT{av:AV}(h:TyV Try.prog 7 3 av):∃x,av=.int .i64 x∧i64 x:=by
 unfold TyV at h
 simp only[Try.underlying3]at h
 obtain⟨x,hx,hi⟩:=Wt h
 simp only[List.cons.injEq,and_true]at hx
 exact⟨x,hx,hi⟩
end Go.Proofs.Ytfkokgjfpojeoaa
namespace Go.Proofs.Ytfkokgjfpojeoaa
open Go.Ev Go Go.Ev.Bfs
set_option maxRecDepth 100000
set_option maxHeartbeats 16000000
structure EnI(m:Ad)(s:Bz)(A O:List Int)(a o:Nat)(h:Ab):Prop where
 h0:∃x,h[0]?=some (.live 7 false x [m.cells])
 h1:∃x,h[1]?=some (.live 3 true x [s.cells])
 ha:∃x,h[a]?=some (.live 1 true x (A.map iv))
 ho:∃x,h[o]?=some (.live 1 true x (O.map iv))
 ne:a≠o
 a2:2≤a
 o2:2≤o
theorem EnI.app{m:Ad}{s:Bz}{A O:List Int}{a o:Nat}{h:Ab}(I:EnI m s A O a o h)(l:Ab):EnI m s A O a o (h++l):=by
 obtain⟨⟨x0,h0⟩,⟨x1,h1⟩,⟨x2,ha⟩,⟨x3,ho⟩,ne,a2,o2⟩:=I
 exact⟨⟨x0,Ac h0 l⟩,⟨x1,Ac h1 l⟩,⟨x2,Ac ha l⟩,⟨x3,Ac ho l⟩,ne,a2,o2⟩
theorem EnI.snocA{m:Ad}{s:Bz}{A O:List Int}{a o:Nat}{h:Ab}(I:EnI m s A O a o h)(n:Int)(l:Ab){k:Nat}(hk:k=h.length+l.length):EnI m s (A++[n]) O k o (h.set a .dead++(l++[.live 1 true false (A.map iv++[[.int .i64 n]])])):=by
 obtain⟨⟨x0,h0⟩,⟨x1,h1⟩,⟨x2,ha⟩,⟨x3,ho⟩,ne,a2,o2⟩:=I
 have l3:=An ho
 refine⟨⟨x0,Us _ (by omega) h0 _⟩,⟨x1,Us _ (by omega) h1 _⟩,⟨false,?_⟩,⟨x3,Us _ ne ho _⟩,by omega,by omega,o2⟩
 subst hk
 rw[acG (by simp),acG (by simp)]
 simp[iv]
theorem EnI.snocO{m:Ad}{s:Bz}{A O:List Int}{a o:Nat}{h:Ab}(I:EnI m s A O a o h)(n:Int)(l:Ab){k:Nat}(hk:k=h.length+l.length):EnI m s A (O++[n]) a k (h.set o .dead++(l++[.live 1 true false (O.map iv++[[.int .i64 n]])])):=by
 obtain⟨⟨x0,h0⟩,⟨x1,h1⟩,⟨x2,ha⟩,⟨x3,ho⟩,ne,a2,o2⟩:=I
 have l3:=An ha
 refine⟨⟨x0,Us _ (by omega) h0 _⟩,⟨x1,Us _ (by omega) h1 _⟩,⟨x2,Us _ (fun e=>ne e.symm) ha _⟩,⟨false,?_⟩,by omega,a2,by omega⟩
 subst hk
 rw[acG (by simp),acG (by simp)]
 simp[iv]
def aK(s:Bz)(v:Aj):List Int:=if s.lo<(if v.above=true then v.level else v.level+1)∧(if v.above=true then v.level else v.level+1)≤s.hi then [if v.above=true then v.level else v.level+1]else []
def adC(n:Int)(O:List Int)(a:Int):List Int:=if a=n∧O.getLast?≠some n then O++[n]else O
theorem afR(n:Int):∀(L O:List Int),O.getLast?≠some n→L.foldl (adC n) O=if n∈L then O++[n]else O
 | [],O,_=>by simp
 |a::L,O,h=>by
  rw[al2]
  by_cases e:a=n
  ·subst e
   have e1:adC a O a=O++[a]:=if_pos ⟨rfl,h⟩
   rw[e1,if_pos (by simp)]
   have key:∀L:List Int,L.foldl (adC a) (O++[a])=O++[a]:=by
    intro L
    induction L with
    |nil=>rfl
    |cons b L ih=>
     rw[al2]
     have:adC a (O++[a]) b=O++[a]:=if_neg (by simp)
     rw[this,ih]
   exact key L
  ·have e1:adC n O a=O:=if_neg (fun h=>e h.1)
   rw[e1,afR n L O h]
   have:n∈a::L↔n∈L:=⟨fun h=>(an5.1 h).resolve_left fun h=>e h.symm,fun h=>as8 _ h⟩
   by_cases hm:n∈L
   ·rw[if_pos hm,if_pos (this.2 hm)]
   ·rw[if_neg hm,if_neg (fun h=>hm (this.1 h))]
theorem atI{m:Ad}(hs:m.small)(hm:Bh m=true){k:Nat}(hk:k<m.sens.length):∃nn,RdV Dc 77 [.agg m.cells,.int .i64 (k:Int)] (Af 1 true nn ((Ll m k).map iv)) 2:=by
 have key:ClQ Dc 77 [.agg m.cells,.int .i64 (k:Int)] [] fun o h'=>∃v nn R,o=.ret v∧rd 6 (hf h') v=some (Af 1 true nn ((Ll m k).map iv),R)∧R.length≤2∧∀c∈h',Rnm c:=by
  obtain⟨q1,q2,q3⟩:=qJ hm (ahG hk)
  have hgk:=cR (m:=m) (k:=(k:Int)) (by simpa using hk)
  simp only[Int.toNat_natCast]at hgk
  have hv6:=gY hm
  have hkl:((k:Int)<(m.sens.length:Int))=True:=eq_true (by omega)
  have hE:Ll m k= -10000::if(Qb m k).byp=true then []else(fK 20000 (-9999)).filter fun n=>decide (n∈asY m k):=rfl
  have hA:asY m k=[(Qb m k).lo,(Qb m k).hi+1]++m.votes.flatMap (aK (Qb m k)):=rfl
  rw[hE,hA]
  generalize Qb m k=s at *
  have hw1:IntKind.i64.wrap (s.hi+1)=s.hi+1:=Ed (by omega) (by omega)
  cases hby:s.byp with
  |true=>
   refine abD rfl Try.func77 rfl rfl ?_
   simp only[Try.f77]
   refine Ik (fun K iN hK=>?_)
   (have hb:=trivial;with_reducible repeat' (first|simp only[hb,Vc.down,seval,fG.down,hgk,hkl,hby,Bz.cells,acE]|refine Aq ?_ ?_<;>intro hb|refine fd ?_|fail))
   obtain⟨nn,R,hR⟩:=yS (n:=1) (rows:=[-10000].map iv) (v:=.slr 1 2 0 1) (H:=[.live 7 false false [m.cells],.live 3 true true [[.int .i64 s.lo,.int .i64 s.hi,.bool true]],.live 1 true false [[.int .i64 (-10000)]]]) (Wc.blk (b:=2) (w:=false) rfl rfl rfl)
   refine hK _ ?_
   rw[fX]
   refine lC (vs:=[.slr 1 2 0 1]) (by simp only[Vc.down,seval,fG.down]) (rR (hR 5).1 (by have:=(hR 5).2;omega) fun v h' R' k1 k2 k3=>⟨v,nn,R',rfl,k1,by have:=(hR 5).2;omega,k3⟩)
  |false=>
   refine abD rfl Try.func77 rfl rfl ?_
   simp only[Try.f77]
   refine Ik (fun K iN hK=>?_)
   (have hb:=trivial;with_reducible repeat' (first|simp only[hb,Vc.down,seval,fG.down,hgk,hkl,hby,hw1,Bz.cells,acE]|refine Aq ?_ ?_<;>intro hb|refine fd ?_|fail))
   have I0:EnI m s [s.lo,s.hi+1] [-10000] 4 2 [.live 7 false false [m.cells],.live 3 true true [[.int .i64 s.lo,.int .i64 s.hi,.bool false]],.live 1 true false [[.int .i64 (-10000)]],.live 1 true false [[.int .i64 s.lo],[.int .i64 (s.hi+1)]],.live 1 true false [[.int .i64 s.lo],[.int .i64 (s.hi+1)]]]:=⟨⟨false,rfl⟩,⟨true,by simp[Bz.cells,hby]⟩,⟨false,rfl⟩,⟨false,rfl⟩,by omega,by omega,by omega⟩
   have hfl:∀v,(aK s v).length≤1:=fun v=>by
    have:∀(p:Prop) [Decidable p] (n:Int),(if p then [n]else []).length≤1:=fun p _ n=>by split<;>simp
    exact this _ _
   have hfm:∀l:List Aj,(l.flatMap (aK s)).length≤l.length:=fun l=>by
    induction l with
    |nil=>simp
    |cons v l ih=>rw[List.flatMap_cons,aoC,ah3];have:=hfl v;omega
   refine Dl (Ss 94 m.votes (fun i (_:Unit) t h=>∃a,t 2=.ptr 0 0 0∧t 5=.ptr 1 0 0∧t 6=.slr 1 2 0 1∧t 7=.slr 1 a 0 ([s.lo,s.hi+1]++(m.votes.take i).flatMap (aK s)).length∧t 8=.int .i64 i∧EnI m s ([s.lo,s.hi+1]++(m.votes.take i).flatMap (aK s)) [-10000] a 2 h) (fun _ _=>()) (fun _ e t h=>e=.exit 0∧∃a,t 6=.slr 1 2 0 1∧t 7=.slr 1 a 0 ([s.lo,s.hi+1]++m.votes.flatMap (aK s)).length∧EnI m s ([s.lo,s.hi+1]++m.votes.flatMap (aK s)) [-10000] a 2 h) ?_ ?_ () _ _ ?_) (fun e t h hk=>?_)
   ·rintro _ t h Q' kQ ⟨a,c2,c5,c6,c7,c8,I⟩
    obtain⟨x0,h0⟩:=I.h0
    rw[ao3]at c7 I
    (have hb:=trivial;with_reducible repeat' (first|simp only[hb,Vc.down,seval,fG.down,c2,c8,h0,al3,decide_false,acE]|refine Aq ?_ ?_<;>intro hb|refine fd ?_|fail))
    exact kQ _ _ _ ⟨rfl,a,by simp[up,c6],by simp[up,c7],I⟩
   ·rintro v rest i _ t h J Q' kJ kQ hx hi ⟨a,c2,c5,c6,c7,c8,I⟩
    obtain⟨x0,h0⟩:=I.h0
    obtain⟨x1,h1⟩:=I.h1
    obtain⟨x2,ha⟩:=I.ha
    obtain⟨lv1,lv2⟩:=alX hm (adD hx)
    have hd:((i:Int)<(m.votes.length:Int))=True:=eq_true (by omega)
    have hw:=Av hi hs.votes
    have hw2:IntKind.i64.wrap (v.level+1)=v.level+1:=Ed (by omega) (by omega)
    have htk:(m.votes.take (i+1)).flatMap (aK s)=(m.votes.take i).flatMap (aK s)++aK s v:=by rw[al9,hx,List.flatMap_append];simp
    generalize hAA:[s.lo,s.hi+1]++(m.votes.take i).flatMap (aK s)=AA at c7 I ha
    have htk2:[s.lo,s.hi+1]++(m.votes.take (i+1)).flatMap (aK s)=AA++aK s v:=by rw[htk,←hAA,List.append_assoc]
    have hAl:AA.length≤20:=by
     rw[←hAA]
     have:=hfm (m.votes.take i)
     have:(m.votes.take i).length≤6:=by rw[aiH];omega
     rw[aoC];simp only[ah3,al6];omega
    have hB:=Ac ha
    have hSb:=Jt (An ha)
    have h39:(AA.length+1≤549755813888)=True:=eq_true (by omega)
    cases hab:v.above with
    |true=>
     have hnn:(if v.above=true then v.level else v.level+1)=v.level:=by rw[hab];rfl
     have hV0:aK s v=if s.lo<v.level∧v.level≤s.hi then [v.level]else []:=by unfold aK;rw[hnn]
     by_cases g1:s.lo<v.level
     ·by_cases g2:v.level≤s.hi
      ·have hV:aK s v=[v.level]:=by rw[hV0,if_pos ⟨g1,g2⟩]
       have g1:=eq_true g1
       have g2:=eq_true g2
       (have hb:=trivial;with_reducible repeat' (first|simp only[hb,Vc.down,seval,fG.down,c2,c5,c6,c7,c8,h0,Ac h0,h1,Ac h1,hab,hd,hx,hw,hw2,g1,g2,hB,hSb,h39,Bz.cells,Aj.cells,hby,Lm,Gj,ahZ,acE]|refine Aq ?_ ?_<;>intro hb|refine fd ?_|fail))
       exact Ax (kJ _ _ () ⟨h.length+2,by simp[up,c2],by simp[up,c5],by simp[up,c6],by rw[htk2,hV];simp[up],by simp[up]<;>omega,by rw[htk2,hV];exact I.snocA (k:=h.length+2) (v.level) [.live 4 false true [[Af 1 true v.nn (v.sens.map iv),.int .i64 v.need,.int .i64 v.level,.bool true]],.live 1 true false [[.int .i64 (v.level)]]] (by simp)⟩ rfl)
      ·have hV:aK s v=[]:=by rw[hV0,if_neg (fun h=>g2 h.2)]
       have g1:=eq_true g1
       have g2:=eq_false g2
       (have hb:=trivial;with_reducible repeat' (first|simp only[hb,Vc.down,seval,fG.down,c2,c5,c6,c7,c8,h0,Ac h0,h1,Ac h1,hab,hd,hx,hw,hw2,g1,g2,hB,hSb,h39,Bz.cells,Aj.cells,hby,Lm,Gj,ahZ,acE]|refine Aq ?_ ?_<;>intro hb|refine fd ?_|fail))
       exact Ax (kJ _ _ () ⟨a,by simp[up,c2],by simp[up,c5],by simp[up,c6],by simp[up,c7,htk2,hV],by simp[up]<;>omega,by rw[htk2,hV,aiK];exact I.app _⟩ rfl)
     ·have hV:aK s v=[]:=by rw[hV0,if_neg (fun h=>g1 h.1)]
      have g1:=eq_false g1
      have g2:=True.intro
      (have hb:=trivial;with_reducible repeat' (first|simp only[hb,Vc.down,seval,fG.down,c2,c5,c6,c7,c8,h0,Ac h0,h1,Ac h1,hab,hd,hx,hw,hw2,g1,g2,hB,hSb,h39,Bz.cells,Aj.cells,hby,Lm,Gj,ahZ,acE]|refine Aq ?_ ?_<;>intro hb|refine fd ?_|fail))
      exact Ax (kJ _ _ () ⟨a,by simp[up,c2],by simp[up,c5],by simp[up,c6],by simp[up,c7,htk2,hV],by simp[up]<;>omega,by rw[htk2,hV,aiK];exact I.app _⟩ rfl)
    |false=>
     have hnn:(if v.above=true then v.level else v.level+1)=v.level+1:=by rw[hab];rfl
     have hV0:aK s v=if s.lo<v.level+1∧v.level+1≤s.hi then [v.level+1]else []:=by unfold aK;rw[hnn]
     by_cases g1:s.lo<v.level+1
     ·by_cases g2:v.level+1≤s.hi
      ·have hV:aK s v=[v.level+1]:=by rw[hV0,if_pos ⟨g1,g2⟩]
       have g1:=eq_true g1
       have g2:=eq_true g2
       (have hb:=trivial;with_reducible repeat' (first|simp only[hb,Vc.down,seval,fG.down,c2,c5,c6,c7,c8,h0,Ac h0,h1,Ac h1,hab,hd,hx,hw,hw2,g1,g2,hB,hSb,h39,Bz.cells,Aj.cells,hby,Lm,Gj,ahZ,acE]|refine Aq ?_ ?_<;>intro hb|refine fd ?_|fail))
       exact Ax (kJ _ _ () ⟨h.length+2,by simp[up,c2],by simp[up,c5],by simp[up,c6],by rw[htk2,hV];simp[up],by simp[up]<;>omega,by rw[htk2,hV];exact I.snocA (k:=h.length+2) (v.level+1) [.live 4 false true [[Af 1 true v.nn (v.sens.map iv),.int .i64 v.need,.int .i64 v.level,.bool false]],.live 1 true false [[.int .i64 (v.level+1)]]] (by simp)⟩ rfl)
      ·have hV:aK s v=[]:=by rw[hV0,if_neg (fun h=>g2 h.2)]
       have g1:=eq_true g1
       have g2:=eq_false g2
       (have hb:=trivial;with_reducible repeat' (first|simp only[hb,Vc.down,seval,fG.down,c2,c5,c6,c7,c8,h0,Ac h0,h1,Ac h1,hab,hd,hx,hw,hw2,g1,g2,hB,hSb,h39,Bz.cells,Aj.cells,hby,Lm,Gj,ahZ,acE]|refine Aq ?_ ?_<;>intro hb|refine fd ?_|fail))
       exact Ax (kJ _ _ () ⟨a,by simp[up,c2],by simp[up,c5],by simp[up,c6],by simp[up,c7,htk2,hV],by simp[up]<;>omega,by rw[htk2,hV,aiK];exact I.app _⟩ rfl)
     ·have hV:aK s v=[]:=by rw[hV0,if_neg (fun h=>g1 h.1)]
      have g1:=eq_false g1
      have g2:=True.intro
      (have hb:=trivial;with_reducible repeat' (first|simp only[hb,Vc.down,seval,fG.down,c2,c5,c6,c7,c8,h0,Ac h0,h1,Ac h1,hab,hd,hx,hw,hw2,g1,g2,hB,hSb,h39,Bz.cells,Aj.cells,hby,Lm,Gj,ahZ,acE]|refine Aq ?_ ?_<;>intro hb|refine fd ?_|fail))
      exact Ax (kJ _ _ () ⟨a,by simp[up,c2],by simp[up,c5],by simp[up,c6],by simp[up,c7,htk2,hV],by simp[up]<;>omega,by rw[htk2,hV,aiK];exact I.app _⟩ rfl)
   ·exact⟨4,by simp[up,Eg],by simp[up],by simp[up],by simp[up],by simp[up],by simpa using I0⟩
   ·obtain⟨rfl,a,c6,c7,I⟩:=hk
    (have hb:=trivial;with_reducible repeat' (first|simp only[hb,Vc.down,seval,fG.down]|refine Aq ?_ ?_<;>intro hb|refine fd ?_|fail))
    generalize hAA:[s.lo,s.hi+1]++m.votes.flatMap (aK s)=AA at c7 I ⊢
    have hAl:AA.length≤20:=by
     rw[←hAA]
     have:=hfm m.votes
     rw[aoC];simp only[ah3,al6];omega
    have hlast0:∀i,∀z∈(-10000::((fK 20000 (-9999)).take i).filter fun n=>decide (n∈AA)),z < -9999+(i:Int):=fun i z hz=>by
     rcases an5.1 hz with rfl|hz
     ·omega
     ·obtain⟨j,hj⟩:=acZ (List.mem_filter.1 hz).1
      have hjl:=(anF.1 hj).1
      rw[List.getElem?_take_of_lt (by rw[aiH]at hjl;omega)]at hj
      have:=fP _ _ _ _ hj
      rw[aiH]at hjl
      omega
    refine Dl (Ss 94 (fK 20000 (-9999)) (fun i (_:Unit) t h=>∃O o,O=(-10000::((fK 20000 (-9999)).take i).filter fun n=>decide (n∈AA))∧t 6=.slr 1 o 0 O.length∧t 7=.slr 1 a 0 AA.length∧t 11=.int .i64 (-9999+(i:Int))∧EnI m s AA O a o h) (fun _ _=>()) (fun _ e t h=>e=.exit 2∧∃o,t 6=.slr 1 o 0 (-10000::(fK 20000 (-9999)).filter fun n=>decide (n∈AA)).length∧EnI m s AA (-10000::(fK 20000 (-9999)).filter fun n=>decide (n∈AA)) a o h) ?_ ?_ () _ _ ?_) (fun e t h hk=>?_)
    ·rintro _ t h Q' kQ ⟨O,o,hO,c6,c7,c11,I⟩
     rw[Lx]at c11
     rw[ap9 (by rw[Lx];omega)]at hO
     subst hO
     have hd:((-9999+((20000:Nat):Int))≤10000)=False:=eq_false (by omega)
     (have hb:=trivial;with_reducible repeat' (first|simp only[hb,Vc.down,seval,fG.down,c11,hd]|refine Aq ?_ ?_<;>intro hb|refine fd ?_|fail))
     exact kQ _ _ _ ⟨rfl,o,by simp[up,c6],I⟩
    ·rintro n rest i _ t h J Q' kJ kQ hx hi ⟨O,o,hO,c6,c7,c11,I⟩
     rw[Lx]at hi
     obtain⟨hn,_⟩:=fP _ _ _ _ hx
     rw[←hn]at c11
     have hd:(n≤10000)=True:=eq_true (by omega)
     have hw:IntKind.i64.wrap (n+1)= -9999+((i+1:Nat):Int):=by rw[Ed (by omega) (by omega)];omega
     have hOl:O.length≤20001:=by
      rw[hO,ah3]
      have:=apH (fun n=>decide (n∈AA)) ((fK 20000 (-9999)).take i)
      rw[aiH,Lx]at this
      omega
     have hgl:O.getLast?≠some n:=fun e=>by
      have:=hlast0 i n (by rw[←hO];exact List.mem_of_getLast? e)
      omega
     have hnext:AA.foldl (adC n) O=(-10000::((fK 20000 (-9999)).take (i+1)).filter fun n=>decide (n∈AA)):=by
      rw[afR n AA O hgl,al9,hx,apC,hO]
      by_cases hm:n∈AA
      ·rw[if_pos hm];simp[hm]
      ·rw[if_neg hm];simp[hm]
     (have hb:=trivial;with_reducible repeat' (first|simp only[hb,Vc.down,seval,fG.down,c7,c11,hd]|refine Aq ?_ ?_<;>intro hb|refine fd ?_|fail))
     refine Dl (Ss 94 AA (fun j (O:List Int) t h=>∃o,1≤O.length∧O.length≤20001+j∧t 6=.slr 1 o 0 O.length∧t 7=.slr 1 a 0 AA.length∧t 11=.int .i64 n∧t 12=.int .i64 j∧EnI m s AA O a o h) (fun rest O=>rest.foldl (adC n) O) (fun O e t h=>e=.exit 4∧∃o,t 6=.slr 1 o 0 O.length∧t 7=.slr 1 a 0 AA.length∧t 11=.int .i64 n∧EnI m s AA O a o h) ?_ ?_ O _ _ ?_) (fun e t h' hk=>?_)
     ·rintro O t h Q2 kQ2 ⟨o,l1,l2,d6,d7,d11,d12,I⟩
      (have hb:=trivial;with_reducible repeat' (first|simp only[hb,Vc.down,seval,fG.down,d7,d12,al3,decide_false]|refine Aq ?_ ?_<;>intro hb|refine fd ?_|fail))
      exact kQ2 _ _ _ ⟨rfl,o,by simp[up,d6],by simp[up,d7],by simp[up,d11],I⟩
     ·rintro z rest j O t h J2 Q2 kJ2 kQ2 hx2 hj ⟨o,l1,l2,d6,d7,d11,d12,I⟩
      obtain⟨x2,ha⟩:=I.ha
      obtain⟨x3,ho⟩:=I.ho
      have hdj:((j:Int)<(AA.length:Int))=True:=eq_true (by omega)
      have hwj:=Av hj (show AA.length≤maxLen by unfold maxLen;omega)
      cases hz:(z==n)with
      |false=>
       have hG:adC n O z=O:=if_neg fun h=>by rw[h.1]at hz;simp at hz
       (have hb:=trivial;with_reducible repeat' (first|simp only[hb,Vc.down,seval,fG.down,d6,d7,d11,d12,ha,hx2,iv,hdj,hwj,hz,acE]|refine Aq ?_ ?_<;>intro hb|refine fd ?_|fail))
       exact Ax (kJ2 _ _ O ⟨o,l1,by omega,by simp[up,d6],by simp[up,d7],by simp[up,d11],by simp[up]<;>omega,I⟩ (by rw[al2,hG]))
      |true=>
       obtain⟨y,hy⟩:∃y,O[O.length-1]?=some y:=⟨_,al5 (by omega)⟩
       have hyl:O.getLast?=some y:=by rw[List.getLast?_eq_getElem?];exact hy
       have hw1:IntKind.i64.wrap ((O.length:Int)-1)=((O.length-1:Nat):Int):=by rw[Ed (by omega) (by omega)];omega
       have hlo:(((O.length-1:Nat):Int)<(O.length:Int))=True:=eq_true (by omega)
       have hzn:z=n:=by simpa using hz
       cases hyn:(y==n)with
       |true=>
        have hG:adC n O z=O:=if_neg fun h=>h.2 (by rw[hyl];congr 1;simpa using hyn)
        (have hb:=trivial;with_reducible repeat' (first|simp only[hb,Vc.down,seval,fG.down,d6,d7,d11,d12,ha,ho,hx2,iv,hdj,hwj,hz,hy,hyn,hw1,hlo,acE]|refine Aq ?_ ?_<;>intro hb|refine fd ?_|fail))
        exact Ax (kJ2 _ _ O ⟨o,l1,by omega,by simp[up,d6],by simp[up,d7],by simp[up,d11],by simp[up]<;>omega,I⟩ (by rw[al2,hG]))
       |false=>
        have hG:adC n O z=O++[n]:=if_pos ⟨hzn,fun h=>by rw[hyl]at h;cases h;simp at hyn⟩
        have hB:=Ac ho
        have hSb:=Jt (An ho)
        have h39:(O.length+1≤549755813888)=True:=eq_true (by omega)
        (have hb:=trivial;with_reducible repeat' (first|simp only[hb,Vc.down,seval,fG.down,d6,d7,d11,d12,ha,ho,hx2,iv,hdj,hwj,hz,hy,hyn,hw1,hlo,hB,hSb,h39,Lm,Gj,ahZ,acE]|refine Aq ?_ ?_<;>intro hb|refine fd ?_|fail))
        exact Ax (kJ2 _ _ (O++[n]) ⟨h.length+1,by simp,by simp;omega,by simp[up],by simp[up,d7],by simp[up,d11],by simp[up]<;>omega,I.snocO (k:=h.length+1) n [.live 1 true false [[.int .i64 n]]] (by simp)⟩ (by rw[al2,hG]))
     ·exact⟨o,by rw[hO];simp,by omega,by simp[up,c6],by simp[up,c7],by simp[up,c11],by simp[up],I⟩
     ·rw[hnext]at hk
      obtain⟨rfl,o',d6,d7,d11,I2⟩:=hk
      (have hb:=trivial;with_reducible repeat' (first|simp only[hb,Vc.down,seval,fG.down,d11,hw]|refine Aq ?_ ?_<;>intro hb|refine fd ?_|fail))
      exact Ax (kJ _ _ () ⟨(-10000::((fK 20000 (-9999)).take (i+1)).filter fun n=>decide (n∈AA)),o',rfl,by simp only[up,d6];simp,by simp[up,d7],by simp[up]<;>omega,I2⟩ rfl)
    ·exact⟨[-10000],2,by simp,by simp[up,c6],by simp[up,c7],by simp[up],I⟩
    ·obtain⟨rfl,o,c6,I⟩:=hk
     subst hAA
     obtain⟨x3,ho⟩:=I.ho
     generalize hnl:List.length _=nl at c6
     obtain⟨nn,R,hR⟩:=yS (Wc.blk (k:=0) (n:=nl) ho rfl (by rw[acE];exact hnl.symm))
     (have hb:=trivial;with_reducible repeat' (first|simp only[hb,Vc.down,seval,fG.down,c6]|refine Aq ?_ ?_<;>intro hb|refine fd ?_|fail))
     refine hK _ ?_
     rw[fX]
     refine lC (vs:=[.slr 1 o 0 nl]) (by simp only[Vc.down,seval,fG.down,c6]) (rR (hR 5).1 (by have:=(hR 5).2;omega) fun v h' R' k1 k2 k3=>⟨v,nn,R',rfl,k1,by have:=(hR 5).2;omega,k3⟩)
 obtain⟨o,h',e,v,nn,R,rfl,k1,k2,k3⟩:=key
 exact⟨nn,v,h',R,e,k1,k2,k3⟩
theorem known_ok:Dc.call (.fn 13) [] []=some (.ret (.bool true),[]):=aoO (pr:=pr) (p:=ahM) rfl rfl
def prT(y:Ii):List Int × Int:=(y.reads,y.cmd)
end Go.Proofs.Ytfkokgjfpojeoaa
