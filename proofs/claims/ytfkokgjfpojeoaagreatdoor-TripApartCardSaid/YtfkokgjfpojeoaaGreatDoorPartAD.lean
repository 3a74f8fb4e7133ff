/- The functions of the layer, walked. -/
import Derived.Test.YtfkokgjfpojeoaaGreatDoorPartAC
import Derived.Test.YtfkokgjfpojeoaaGreatDoorLibE
open List renaming length_map→acQ,nil_append→aeG,getElem?_append_left→ahB,append_assoc→am7,length_set→an9,mem_append→aoD,mem_of_getElem?→aoF,append_nil→aoG,all_cons→apM,all_nil→ap1,getElem?_append_right→aq0,cons_append→arI,getElem?_set_ne→atT,getElem?_set_self→atV,mem_cons→at0,map_append→auJ,mem_cons_self→auT,length_cons→auW,map_cons→avD,mem_map→avI,flatMap_cons→av7,flatMap_nil→av8,mem_cons_of_mem→azS,length_nil→azT,take_of_length_le→az1,length_append→aAQ,all_eq_true→aAZ,map_eq_nil_iff→aBV,getElem?_map→aBX,mem_append_left→aC9,mem_append_right→aD8
open Bool renaming and_eq_true→alV,and_true→aoU,and_false→apD
open Nat renaming le_refl→atX,sub_self→axA,add_sub_cancel_left→ayL,mod_eq_of_lt→aD9
open Int renaming lt_irrefl→atY,toNat_natCast→azU,tmod_eq_emod_of_nonneg→aFB
open Option renaming bind_eq_some_iff→aFG
set_option linter.unusedSimpArgs false
set_option linter.unusedVariables false
namespace Go.Proofs.YtfkokgjfpojeoaaGreatDoor
open Go.Ev Go
set_option maxRecDepth 100000
set_option maxHeartbeats 16000000
def aR4(m:ad5)(st ag:Int)(nn:Bool)(l:List ac6):List AV:=m.cells++[.int .i64 st,.int .i64 ag,slv 2 false nn (l.map ac6.cells),.bool true]
theorem aHB{g:HF}{d:Nat}{cs:List AV}{m:ad5}{R:List Nat}(h:rdL (rd (d+1) g) cs=some (m.cells,R)):∃sv vv mv ov,cs=[sv,vv,mv,.int .i64 m.states,.int .i64 m.cmds,.int .i64 m.bgn,ov]∧(sv.isCell=true∧sv.flat=false)∧(vv.isCell=true∧vv.flat=false)∧(mv.isCell=true∧mv.flat=false)∧(ov.isCell=true∧ov.flat=false):=by
 obtain⟨sv,l1,R1,S1,rfl,a1,h,_⟩:=ai3 h
 obtain⟨vv,l2,R2,S2,rfl,a2,h,_⟩:=ai3 h
 obtain⟨mv,l3,R3,S3,rfl,a3,h,_⟩:=ai3 h
 obtain⟨i1,l4,R4,S4,rfl,a4,h,_⟩:=ai3 h
 obtain⟨i2,l5,R5,S5,rfl,a5,h,_⟩:=ai3 h
 obtain⟨i3,l6,R6,S6,rfl,a6,h,_⟩:=ai3 h
 obtain⟨ov,l7,R7,S7,rfl,a7,h,_⟩:=ai3 h
 obtain⟨rfl,_⟩:=aHG h
 obtain⟨rfl,_⟩:=avR a4
 obtain⟨rfl,_⟩:=avR a5
 obtain⟨rfl,_⟩:=avR a6
 exact⟨sv,vv,mv,ov,rfl,auR a1,auR a2,auR a3,auR a7⟩
theorem aCX(m:ad5):[AV.agg m.cells].all (ahO 8)=true:=by simp[avG,avY,ap4]
theorem aNR(g:HF)(m:ad5):[AV.agg m.cells].flatMap (ahD 12 g)=[]:=by
 rw[av7,av8,atQ (d:=8) (v:=.agg m.cells) _ (by omega) (by simp[avG,avY,ap4])];rfl
theorem aRW(H:aaP)(m:ad5):afG (rdV H) [.agg m.cells]=some [.agg m.cells]:=by
 have hs:rdV H (.agg m.cells)=some (.agg m.cells):=asF _ (d:=8) (by omega) (by simp[avG,avY,ap4])
 simp only[arT,asP,hs,aqO]
theorem a4G(m:ad5)(hs:m.small)(hM:m.tiny)(ho:m.opn≠[])(hv:an4 m=true):
 ClQ om' 7 [.agg [slv 3 true m.nS (m.sens.map ak7.cells),slv 4 false m.nV (m.votes.map acT.cells),slv 5 false m.nM (m.moves.map acS.cells),.int .i64 m.states,.int .i64 m.cmds,.int .i64 m.bgn,slv 1 true m.nO (m.opn.map iv)]] [] fun o h'=>∃i,o=.ret (.tup [.ptr i 0 0,.int .i64 0])∧PB (hf h') i 11 (aR4 m m.bgn 0 false []) 3000∧(∀c∈h',Rnm c)∧∀c∈h',Rws c∧c.hasImm=false:=by
 have h1:=aMF m hs
 rw[hv]at h1
 obtain⟨v,h',R,hc,hr,hk,hn⟩:=a24 m hM ho
 obtain⟨v1,es,cs1,e1,e2,e3,e4,e5⟩:=a0R (H:=[.live 7 false false [m.cells]]) (args:=[.agg m.cells]) (awP rfl) (aRW _ m) (aCX m) hc (fun f=>aGH f (by omega) hr) hn (aNR _ m)
 obtain⟨R',r1,r2,r3⟩:=aD1 (aGF e3) (atD (aL4 _) e4) hr
 obtain⟨cs,rfl,r4⟩:=a0Y r1
 obtain⟨sv,vv,mv,ov,rfl,⟨p1,p1'⟩,⟨p2,p2'⟩,⟨p3,p3'⟩,⟨p4,p4'⟩⟩:=aHB r4
 obtain⟨q,hq⟩:∃q,Fn.func 24=q:=⟨_,rfl⟩
 have hft:ftC om' [.live 7 false false [m.cells]] (some (.func (Fn.func 24) [] [])) (some [.agg m.cells])=some []:=by
  rw[aGQ]
  simp only[aeG,aoG]
  rw[if_neg (by simp[hdR]),if_pos (aCX m)]
 rw[hq]at e1 hft
 have b0:([.live 7 false false [m.cells]]++cs1)[0]?=some (.live 7 false false [m.cells]):=rfl
 refine a3P rfl Tryz.func7 rfl rfl ?_
 simp only[Tryz.f7]
 refine hid (fun KK iN hK=>?_)
 generalize hG:([.live 7 false false [m.cells]]++cs1:aaP)=G at *
 (have hb:=trivial;with_reducible repeat' (first|simp only[hb,Va.down,seval,TY7.down,h1,hq,e1,e2,hft,b0,p1,p2,p3,p4,p1',p2',p3',p4',aoU,apD,apM,ap1]|refine fsp ?_ ?_<;>intro hb|refine fdq ?_|fail))
 have hgl:G.length=1+cs1.length:=by rw[←hG];simp;omega
 refine asZ (fun b=>if b<1 then 0 else 1) [([],[.cells 0 0 7]),([.blk 1],[]),([],[]),([],[.cells 0 5 1]),([],[]),([],[]),([.blk 1],[]),([],[]),([],[])] (by kernel_rfl) ?_ (fun _=>?_)
 ·simp only[aQO,aRG,List.not_mem_nil,false_imp_iff,implies_true,and_true,true_and,at0,or_false,forall_eq,aw4,aC6,aAD]
  refine⟨by simp,fun e he=>?_,by simp,by rw[if_neg (by omega)];simp⟩
  obtain⟨b,hb1,hb2⟩:=e5 e he
  right
  have hb3:1≤b:=hb2
  rw[hb1,aAD,if_neg (by omega)]
 have r5:=aIH (show 5≤6 by omega) (aq7 r4 (g':=hf (G++[.live 11 false false [[sv,vv,mv,.int .i64 m.states,.int .i64 m.cmds,.int .i64 m.bgn,ov,.int .i64 m.bgn,.int .i64 0,.nils,.bool true]]])) fun b hb1 z hz=>by
  show((G++_)[b]?).bind agI=_
  rw[ahB (aDW (by omega) r4 b hb1)];exact hz)
 refine hK _ ?_
 rw[aLA]
 refine aQ0 (vs:=[.ptr G.length 0 0,.int .i64 0]) ?_ (a2T (st:=11) (k:=3000) (X:=aR4 m m.bgn 0 false []) (PB.of (w:=false) (row:=[sv,vv,mv,.int .i64 m.states,.int .i64 m.cmds,.int .i64 m.bgn,ov,.int .i64 m.bgn,.int .i64 0,.nils,.bool true]) (R:=R'++[]) ?_ ?_ ?_ ?_) (by omega) fun i h' k1 k2 k3=>⟨i,rfl,k1,k2,k3⟩)
 ·simp only[Va.down,seval,TY7.down]
 ·show(G++_)[G.length]?=_
  rw[aq0 (atX _),axA];rfl
 ·exact aMX r5 (agK (aoL ..) (agK (aoL ..) (agK aUM (agK (aCS ..) as0))))
 ·intro hm
  rw[aoG]at hm
  exact absurd (aDW (by omega) r4 _ hm) (by omega)
 ·have v1:=hM.votes
  have v2:=hM.moves
  rw[aoG,r2];simp only;omega
theorem aGE(b r o:Nat):ao1 Tryz.prog .eql 31 (.ptr b r o) .nilp=some (.bool false):=by kernel_rfl
structure TAt(H:aaP)(p:Nat)(m:ad5)(st ag:Int)(l:List ac6)(w:Bool)(sv vv mv ov sc:AV)(Rm Rs:List Nat)(rows:List (List AV)):Prop where
 cell:H[p]?=some (.live 11 false w [[sv,vv,mv,.int .i64 m.states,.int .i64 m.cmds,.int .i64 m.bgn,ov,.int .i64 st,.int .i64 ag,sc,.bool true]])
 mach:rdL (rd 6 (hf H)) [sv,vv,mv,.int .i64 m.states,.int .i64 m.cmds,.int .i64 m.bgn,ov]=some (m.cells,Rm)
 own:aEQ 0 2 false rows sc H
 scs:alA (rd 6 (hf H)) rows=some (l.map ac6.cells,Rs)
 nil:rows=[]→sc=.nils
 dp:p∉Rm++Rs
 ds:∀a b r n,sc=.slr a b r n→b≠p∧b∉Rm++Rs
theorem TAt.cln{H:aaP}{p:Nat}{m:ad5}{st ag:Int}{l:List ac6}{w:Bool}{sv vv mv ov sc:AV}{Rm Rs:List Nat}{rows:List (List AV)}(T:TAt H p m st ag l w sv vv mv ov sc Rm Rs rows):TAt (clH H) p m st ag l false sv vv mv ov sc Rm Rs rows:=by
 have agr:∀R,Agr R (hf H) (hf (clH H)):=fun R b _ z hz=>by
  show((clH H)[b]?).bind agI=_
  cases h3:H[b]? with
  |none=>have:(H[b]?).bind agI=some z:=hz;rw[h3]at this;cases this
  |some c=>rw[avL h3];have:(H[b]?).bind agI=some z:=hz;rw[h3]at this;exact(ayD c).trans this
 refine⟨avL T.cell,aq7 T.mach (agr _),?_,aqE T.scs (agr _),T.nil,T.dp,T.ds⟩
 rcases T.own with h|⟨b,w',h1,h2⟩
 ·exact .inl h
 ·exact .inr ⟨b,false,h1,avL h2⟩
theorem TAt.app{H:aaP}{p:Nat}{m:ad5}{st ag:Int}{l:List ac6}{w:Bool}{sv vv mv ov sc:AV}{Rm Rs:List Nat}{rows:List (List AV)}(T:TAt H p m st ag l w sv vv mv ov sc Rm Rs rows)(L:aaP):TAt (H++L) p m st ag l w sv vv mv ov sc Rm Rs rows:=
 ⟨ahZ T.cell L,aq7 T.mach fun b hb z hz=>by
   show((H++L)[b]?).bind agI=_
   rw[ahB (as5 hz)];exact hz,T.own.app L,aqE T.scs fun b hb z hz=>by
   show((H++L)[b]?).bind agI=_
   rw[ahB (as5 hz)];exact hz,T.nil,T.dp,T.ds⟩
theorem a0O{H:aaP}{p:Nat}{w:Bool}{a b c d e f g h i j:AV}(hc:H[p]?=some (.live 11 false w [[a,b,c,d,e,f,g,h,i,j,.bool true]])):om'.call (.sh 28) [.ptr p 0 0] H=some (.ret (.bool false),H):=by
 (refine csh Tryz.func28 ?_;simp only[Tryz.f28];(have hb:=trivial;with_reducible repeat' (first|simp only[hb,Va.down,seval,a7E.down,hc,aGE]|refine fsp ?_ ?_<;>intro hb|refine fd ?_|fail)))
theorem aHL{H:aaP}{p:Nat}{w:Bool}{a b c d e f g h i j:AV}(hc:H[p]?=some (.live 11 false w [[a,b,c,d,e,f,g,h,i,j,.bool true]]))(hq:ajX H=true):cl om' H (some (.func (.func 28) [] [])) (some [.ptr p 0 0])=some (.ret (.bool false),[]):=
 aMV rfl rfl (a0O (avL hc)) hq
theorem aVQ{H:aaP}{p:Nat}{m:ad5}{st ag:Int}{l:List ac6}{w:Bool}{sv vv mv ov sc:AV}{Rm Rs:List Nat}{rows:List (List AV)}(T:TAt H p m st ag l w sv vv mv ov sc Rm Rs rows)(hq:ajX H=true)(h0:0≤st){o:Int}(ho:m.opn[st.toNat]?=some o):
 om'.call (.sh 12) [.ptr p 0 0] H=some (.ret (.tup [.int .i64 st,.int .i64 ag,.int .i64 o,.int .i64 0]),H):=by
 have hc:=T.cell
 obtain⟨q,hqq⟩:∃q,Fn.func 28=q:=⟨_,rfl⟩
 have hn:=aHL hc hq
 rw[hqq]at hn
 have hm:=T.mach
 obtain⟨_,_,_,_,h1,_,hm,_⟩:=ai3 hm
 cases h1
 obtain⟨_,_,_,_,h1,_,hm,_⟩:=ai3 hm
 cases h1
 obtain⟨_,_,_,_,h1,_,hm,_⟩:=ai3 hm
 cases h1
 obtain⟨_,_,_,_,h1,_,hm,_⟩:=ai3 hm
 cases h1
 obtain⟨_,_,_,_,h1,_,hm,_⟩:=ai3 hm
 cases h1
 obtain⟨_,_,_,_,h1,_,hm,_⟩:=ai3 hm
 cases h1
 obtain⟨_,_,_,_,h1,ha,hm,_⟩:=ai3 hm
 cases h1
 have hlt:st.toNat<m.opn.length:=(List.getElem?_eq_some_iff.1 ho).1
 rcases awK ha with⟨_,he⟩|⟨b,rows',rfl,hb,hl,hr,_⟩
 ·rw[aBV.1 he]at hlt;simp at hlt
 rw[hr rfl]at hb
 have hrow:asX (H[b]?) st.toNat=some (iv o):=by rw[aWW hb,aBX,ho];rfl
 have hin:(st<(m.opn.length:Int))=True:=eq_true (by omega)
 have h00:(0≤st)=True:=eq_true h0
 simp only[iv]at hrow
 (refine csh Tryz.func12 ?_;simp only[Tryz.f12];(have hb:=trivial;with_reducible repeat' (first|simp only[hb,Va.down,seval,a7V.down,hc,hqq,hn,hrow,hin,h00,aGE,acQ]|refine fsp ?_ ?_<;>intro hb|refine fd ?_|fail)))
theorem aZR(c:Int):om'.call (.fn 32) [.agg [.nils,.int .i64 c]] []=some (.ret (.agg [.nils,.int .i64 c]),[]):=by
 (refine ce Tryz.func32 ?_;simp only[Tryz.f32];(have hb:=trivial;with_reducible repeat' (first|simp only[hb,Va.down,seval,a5P.down,aK1]|refine fsp ?_ ?_<;>intro hb|refine fd ?_|fail)))
theorem a0X{l:List Int}(c:Int)(hl:l.length≤1000):om'.call (.fn 32) [.agg [.imm 1 true (l.map iv),.int .i64 c]] []=some (.ret (.agg [.slr 1 0 0 l.length,.int .i64 c]),[.live 1 true false (l.map iv)]):=by
 have h:=aHE hl
 (refine ce Tryz.func32 ?_;simp only[Tryz.f32];(have hb:=trivial;with_reducible repeat' (first|simp only[hb,Va.down,seval,a5P.down,h]|refine fsp ?_ ?_<;>intro hb|refine fd ?_|fail)))
theorem TAt.arg{H:aaP}{p:Nat}{m:ad5}{st ag:Int}{l:List ac6}{w:Bool}{sv vv mv ov sc:AV}{Rm Rs:List Nat}{rows:List (List AV)}(T:TAt H p m st ag l w sv vv mv ov sc Rm Rs rows):rdV H (.agg [sv,vv,mv,.int .i64 m.states,.int .i64 m.cmds,.int .i64 m.bgn,ov])=some (.agg m.cells):=
 auF (d:=7) (by omega) (aI5 T.mach)
theorem TAt.cs{H:aaP}{p:Nat}{m:ad5}{st ag:Int}{l:List ac6}{w:Bool}{sv vv mv ov sc:AV}{Rm Rs:List Nat}{rows:List (List AV)}(T:TAt H p m st ag l w sv vv mv ov sc Rm Rs rows):(sv.isCell=true∧sv.flat=false)∧(vv.isCell=true∧vv.flat=false)∧(mv.isCell=true∧mv.flat=false)∧(ov.isCell=true∧ov.flat=false):=by
 obtain⟨a,b,c,d,e,h1,h2,h3,h4⟩:=aHB T.mach
 cases e
 exact⟨h1,h2,h3,h4⟩
theorem TAt.sc{H:aaP}{p:Nat}{m:ad5}{st ag:Int}{l:List ac6}{w:Bool}{sv vv mv ov sc:AV}{Rm Rs:List Nat}{rows:List (List AV)}(T:TAt H p m st ag l w sv vv mv ov sc Rm Rs rows):sc.isCell=true∧sc.flat=false:=by
 rcases T.own with⟨_,rfl⟩|⟨b,w,rfl,_⟩<;>exact⟨rfl,rfl⟩
theorem TAt.rl{H:aaP}{p:Nat}{m:ad5}{st ag:Int}{l:List ac6}{w:Bool}{sv vv mv ov sc:AV}{Rm Rs:List Nat}{rows:List (List AV)}(T:TAt H p m st ag l w sv vv mv ov sc Rm Rs rows):rows.length=l.length:=by
 rw[ayK T.scs];simp
theorem aWJ{H:aaP}{p:Nat}{m:ad5}{st ag:Int}{l:List ac6}{w:Bool}{sv vv mv ov sc:AV}{Rm Rs:List Nat}{rows:List (List AV)}(T:TAt H p m st ag l w sv vv mv ov sc Rm Rs rows)(bits com:Int)(hs:m.small)(hv:an4 m=true):
 cl om' H (some (.func (.func 30) [] [])) (some [.agg [sv,vv,mv,.int .i64 m.states,.int .i64 m.cmds,.int .i64 m.bgn,ov],.agg [.int .i64 st,.int .i64 ag],.agg [.int .i64 bits,.int .i64 com]])=some (.ret (.agg [.int .i64 (apP st ag bits com m.moves).1,.int .i64 (apP st ag bits com m.moves).2]),[])∧
 ∃fs,ftC om' H (some (.func (.func 30) [] [])) (some [.agg [sv,vv,mv,.int .i64 m.states,.int .i64 m.cmds,.int .i64 m.bgn,ov],.agg [.int .i64 st,.int .i64 ag],.agg [.int .i64 bits,.int .i64 com]])=some fs:=by
 have h1:∀a b:Int,rdV H (.agg [.int .i64 a,.int .i64 b])=some (.agg [.int .i64 a,.int .i64 b]):=fun a b=>asF _ (d:=8) (by omega) (by simp[avG,avY])
 have ha:afG (rdV H) [.agg [sv,vv,mv,.int .i64 m.states,.int .i64 m.cmds,.int .i64 m.bgn,ov],.agg [.int .i64 st,.int .i64 ag],.agg [.int .i64 bits,.int .i64 com]]=some [.agg m.cells,.agg [.int .i64 st,.int .i64 ag],.agg [.int .i64 bits,.int .i64 com]]:=by simp only[arT,asP,T.arg,h1,aqO]
 have hp:[AV.agg m.cells,.agg [.int .i64 st,.int .i64 ag],.agg [.int .i64 bits,.int .i64 com]].all (ahO 8)=true:=by simp[avG,avY,ap4]
 exact⟨av9 (awP rfl) ha hp (aTN m st ag bits com hs (fun x hx w hw=>(aFV hv x hx w hw).1)) rfl rfl,by obtain⟨fs,h,_⟩:=aBW (O:=om') (f:=30) (awP rfl) ha hp;exact⟨fs,h⟩⟩
def scB:AV→List Nat
 | .slr _ b _ _=>[b]
 |_=>[]
theorem aHH{x:Option (List AV)}{vs:List AV}{h:aaP}{Q:Out→aaP→Prop}(hx:x=some vs)(k:Q (.ret (asW vs)) h):RtS x h Q:=by subst hx;exact k
theorem awO(s x:Option AV):ftP s x=some (ftB s++ftB x):=Eq.trans rfl rfl
theorem aJP{H:aaP}{p:Nat}{m:ad5}{st ag:Int}{l:List ac6}{w:Bool}{sv vv mv ov sc:AV}{Rm Rs:List Nat}{rows:List (List AV)}(T:TAt H p m st ag l w sv vv mv ov sc Rm Rs rows)(hq:ajX H=true)(y:ac6){st' ag':Int}{base L G:aaP}{r:List AV}{R1:List Nat}
 (hG:G=base++(L++[.live 2 false false (rows++[r])])) (hbl:base.length=H.length) (hbp:base[p]?=some (.live 11 false true [[sv,vv,mv,.int .i64 m.states,.int .i64 m.cmds,.int .i64 m.bgn,ov,.int .i64 st',.int .i64 ag',.slr 2 (H.length+L.length) 0 (l.length+1),.bool true]]))
 (hbo:∀b,b<H.length→b∉p::scB sc→base[b]?=H[b]?) (hbd:∀b∈scB sc,base[b]?=some .dead) (hr:rdL (rd 6 (hf G)) r=some (y.cells,R1)) (hR:∀b∈R1,H.length≤b∧b<H.length+L.length) (hL:ajX L=true):
 ∃sc' Rs' rows',TAt G p m st' ag' (l++[y]) true sv vv mv ov sc' Rm Rs' rows'∧
  ajX G=true∧aqH (p::scB sc) H G∧(∀b∈scB sc,G[b]?=some .dead)∧(∀a b r n,sc'=.slr a b r n→H.length≤b)∧∀b∈Rs',b∈Rs∨H.length≤b:=by
 have hpl:=alB T.cell
 have hm:∀b∈Rm,b<H.length:=aDW (by omega) T.mach
 have hs:∀b∈Rs,b<H.length:=aAH (by omega) T.scs
 have lo:∀b,b<H.length→G[b]?=base[b]?:=fun b hb=>by rw[hG,ahB (by omega)]
 have sb:∀b∈scB sc,b<H.length∧b≠p∧b∉Rm++Rs:=fun b hb=>by
  rcases T.own with⟨_,e⟩|⟨b',w',e,hg⟩
  ·rw[e]at hb;simp[scB]at hb
  ·have hd:=T.ds _ _ _ _ e
   rw[e]at hb;simp[scB]at hb;subst hb
   exact⟨alB hg,hd⟩
 have agr:∀R:List Nat,(∀b∈R,b<H.length∧b∈Rm++Rs)→Agr R (hf H) (hf G):=fun R hR b hb z hz=>by
  obtain⟨h1,h2⟩:=hR b hb
  show(G[b]?).bind agI=_
  rw[lo b h1,hbo b h1 (fun hx=>by
   rcases at0.1 hx with rfl|hx
   ·exact T.dp h2
   ·exact(sb b hx).2.2 h2)]
  exact hz
 have hnew:G[H.length+L.length]?=some (.live 2 false false (rows++[r])):=by
  rw[hG,aq0 (by omega),hbl,ayL,aq0 (atX _),axA];rfl
 have hrl:=T.rl
 refine⟨.slr 2 (H.length+L.length) 0 (l.length+1),Rs++R1,rows++[r],⟨?_,aq7 T.mach (agr _ fun b hb=>⟨hm b hb,aC9 _ hb⟩),?_,?_,fun e=>by simp at e,?_,?_⟩,?_,?_,?_,?_,?_⟩
 ·rw[lo p hpl];exact hbp
 ·exact .inr ⟨H.length+L.length,false,by simp[hrl],hnew⟩
 ·rw[auJ]
  exact auD (aqE T.scs (agr _ fun b hb=>⟨hs b hb,aD8 _ hb⟩)) hr
 ·intro hx
  rw[←am7]at hx
  rcases aoD.1 hx with hx|hx
  ·exact T.dp hx
  ·have:=hR p hx;omega
 ·intro a b c n e
  cases e
  refine⟨by omega,fun hx=>?_⟩
  rw[←am7]at hx
  rcases aoD.1 hx with hx|hx
  ·rcases aoD.1 hx with hx|hx
   ·have:=hm _ hx;omega
   ·have:=hs _ hx;omega
  ·have:=hR _ hx;omega
 ·rw[hG]
  refine aqG (atK fun c hc=>?_) (aqG hL rfl)
  obtain⟨b,hb⟩:=List.getElem?_of_mem hc
  have hbl2:b<H.length:=by rw[←hbl];exact alB hb
  by_cases hx:b∈p::scB sc
  ·rcases at0.1 hx with rfl|hx
   ·rw[hbp]at hb;cases hb;rfl
   ·rw[hbd b hx]at hb;cases hb;rfl
  ·rw[hbo b hbl2 hx]at hb;exact asG hq hb
 ·exact⟨by rw[hG];simp;omega,fun b hb hn=>by rw[lo b hb,hbo b hb hn]⟩
 ·exact fun b hb=>by rw[lo b (sb b hb).1];exact hbd b hb
 ·intro a b c n e;cases e;omega
 ·exact fun b hb=>(aoD.1 hb).imp id fun h=>(hR b h).1
theorem avX{α:Type}{f:α→List AV}{p:List AV→Prop}{q:α→Prop}(hf:∀r,p r→∃x,r=f x∧q x):∀{rows:List (List AV)},(∀r∈rows,p r)→∃l:List α,rows=l.map f∧∀x∈l,q x
 | [],_=>⟨[],rfl,fun x hx=>by simp at hx⟩
 |r::rows,h=>by
  obtain⟨x,rfl,hx⟩:=hf r (h r (auT ..))
  obtain⟨l,rfl,hl⟩:=avX hf (fun r hr=>h r (azS _ hr))
  exact⟨x::l,rfl,fun y hy=>by
   rcases at0.1 hy with rfl|hy
   ·exact hx
   ·exact hl y hy⟩
def i64(n:Int):Prop:= -9223372036854775808≤n∧n≤9223372036854775807
theorem ar2{n:Nat}{r:List AV}(h:Ty Tryz.prog (n+1) 3 r):∃x,r=[.int .i64 x]∧i64 x:=by
 simp only[Ty,Tryz.underlying3]at h
 obtain⟨x,rfl,h1,h2⟩:=h
 exact⟨x,rfl,h1,h2⟩
theorem aG4{n:Nat}{r:List AV}(h:Ty Tryz.prog (n+1) 4 r):∃x,r=[.bool x]:=by
 simp only[Ty,Tryz.underlying4]at h
 exact h
theorem aGD{n:Nat}{r:List AV}(h:Ty Tryz.prog (n+2) 25 r):∃(nn:Bool) (l:List Int),r=[slv 1 true nn (l.map iv)]∧l.length≤maxLen∧∀x∈l,i64 x:=by
 unfold Ty at h
 simp only[Tryz.underlying25]at h
 obtain⟨nn,rows,rfl,hl,hrows⟩:=h
 obtain⟨l,rfl,hi⟩:=avX (f:=iv) (q:=i64) (fun r hr=>by obtain⟨x,rfl,hx⟩:=ar2 hr;exact⟨x,rfl,hx⟩) hrows
 have e1:Tryz.prog.cellsOf 3=1:=by kernel_rfl
 have e2:flT Tryz.prog (n+1) 3=true:=by
  simp only[flT,Tryz.underlying3]
 rw[e1,e2]
 exact⟨nn,l,rfl,by simpa using hl,hi⟩
theorem aZ4{n:Nat}{r:List AV}(h:Ty Tryz.prog (n+2) 54 r):∃x:ak7,r=x.cells∧True:=by
 unfold Ty at h
 simp only[Tryz.underlying54,aGW]at h
 obtain⟨a0,b0,rfl,h0,a1,b1,rfl,h1,a2,b2,rfl,h2,rfl⟩:=h
 obtain⟨x0,rfl,_⟩:=ar2 h0
 obtain⟨x1,rfl,_⟩:=ar2 h1
 obtain⟨x2,rfl⟩:=aG4 h2
 exact⟨⟨x0,x1,x2⟩,rfl,trivial⟩
theorem aWE{n:Nat}{r:List AV}(h:Ty Tryz.prog (n+2) 56 r):∃x:agP,r=x.cells∧True:=by
 unfold Ty at h
 simp only[Tryz.underlying56,aGW]at h
 obtain⟨a0,b0,rfl,h0,a1,b1,rfl,h1,rfl⟩:=h
 obtain⟨x0,rfl,_⟩:=ar2 h0
 obtain⟨x1,rfl⟩:=aG4 h1
 exact⟨⟨x0,x1⟩,rfl,trivial⟩
theorem aYS{n:Nat}{r:List AV}(h:Ty Tryz.prog (n+3) 49 r):∃x:acT,r=x.cells∧x.sens.length≤maxLen:=by
 unfold Ty at h
 simp only[Tryz.underlying49,aGW]at h
 obtain⟨a0,b0,rfl,h0,a1,b1,rfl,h1,a2,b2,rfl,h2,a3,b3,rfl,h3,rfl⟩:=h
 obtain⟨nn,l,rfl,hl,_⟩:=aGD h0
 obtain⟨x1,rfl,_⟩:=ar2 h1
 obtain⟨x2,rfl,_⟩:=ar2 h2
 obtain⟨x3,rfl⟩:=aG4 h3
 exact⟨⟨nn,l,x1,x2,x3⟩,rfl,hl⟩
theorem aVS{n:Nat}{r:List AV}(h:Ty Tryz.prog (n+4) 52 r):∃x:acS,r=x.cells∧x.wants.length≤maxLen:=by
 unfold Ty at h
 simp only[Tryz.underlying52,aGW]at h
 obtain⟨a0,b0,rfl,h0,a1,b1,rfl,h1,a2,b2,rfl,h2,a3,b3,rfl,h3,a4,b4,rfl,h4,rfl⟩:=h
 obtain⟨x0,rfl,_⟩:=ar2 h0
 obtain⟨x1,rfl,_⟩:=ar2 h1
 obtain⟨x3,rfl,_⟩:=ar2 h3
 obtain⟨x4,rfl,_⟩:=ar2 h4
 unfold Ty at h2
 simp only[Tryz.underlying50]at h2
 obtain⟨nn,rows,rfl,hl,hrows⟩:=h2
 obtain⟨l,rfl,_⟩:=avX (fun r hr=>aWE hr) hrows
 have e1:Tryz.prog.cellsOf 56=2:=by kernel_rfl
 have e2:flT Tryz.prog (n+2) 56=true:=by
  simp only[flT,Tryz.underlying56,Tryz.underlying3,Tryz.underlying4];rfl
 rw[e1,e2]
 exact⟨⟨x0,x1,nn,l,x3,x4⟩,rfl,by simpa using hl⟩
theorem aW5{n:Nat}{r:List AV}(h:Ty Tryz.prog (n+6) 27 r):∃m:ad5,r=m.cells∧m.small:=by
 unfold Ty at h
 simp only[Tryz.underlying27,aGW]at h
 obtain⟨a0,b0,rfl,h0,a1,b1,rfl,h1,a2,b2,rfl,h2,a3,b3,rfl,h3,a4,b4,rfl,h4,a5,b5,rfl,h5,a6,b6,rfl,h6,rfl⟩:=h
 obtain⟨x3,rfl,_⟩:=ar2 h3
 obtain⟨x4,rfl,_⟩:=ar2 h4
 obtain⟨x5,rfl,_⟩:=ar2 h5
 obtain⟨n6,l6,rfl,hl6,_⟩:=aGD h6
 unfold Ty at h0 h1 h2
 simp only[Tryz.underlying22]at h0
 simp only[Tryz.underlying23]at h1
 simp only[Tryz.underlying24]at h2
 obtain⟨n0,rows0,rfl,hl0,hrows0⟩:=h0
 obtain⟨n1,rows1,rfl,hl1,hrows1⟩:=h1
 obtain⟨n2,rows2,rfl,hl2,hrows2⟩:=h2
 obtain⟨l0,rfl,_⟩:=avX (fun r hr=>aZ4 hr) hrows0
 obtain⟨l1,rfl,hv⟩:=avX (fun r hr=>aYS hr) hrows1
 obtain⟨l2,rfl,hm⟩:=avX (fun r hr=>aVS hr) hrows2
 have e0:Tryz.prog.cellsOf 54=3:=by kernel_rfl
 have e1:Tryz.prog.cellsOf 49=4:=by kernel_rfl
 have e2:Tryz.prog.cellsOf 52=5:=by kernel_rfl
 have f0:flT Tryz.prog (n+4) 54=true:=by
  simp only[flT,Tryz.underlying54,Tryz.underlying3,Tryz.underlying4];rfl
 have f1:flT Tryz.prog (n+4) 49=false:=by
  simp only[flT,Tryz.underlying49,Tryz.underlying25];simp
 have f2:flT Tryz.prog (n+4) 52=false:=by
  simp only[flT,Tryz.underlying52,Tryz.underlying50];simp
 rw[e0,e1,e2,f0,f1,f2]
 exact⟨⟨n0,l0,n1,l1,n2,l2,x3,x4,x5,n6,l6⟩,rfl,⟨by simpa using hl0,by simpa using hl1,by simpa using hl2,hl6,hv,hm⟩⟩
theorem aXC{n:Nat}{r:List AV}(h:Ty Tryz.prog (n+3) 36 r):∃x:ac6,r=x.cells∧x.reads.length≤maxLen:=by
 unfold Ty at h
 simp only[Tryz.underlying36,aGW]at h
 obtain⟨a0,b0,rfl,h0,a1,b1,rfl,h1,rfl⟩:=h
 obtain⟨nn,l,rfl,hl,_⟩:=aGD h0
 obtain⟨x1,rfl,_⟩:=ar2 h1
 exact⟨⟨nn,l,x1⟩,rfl,hl⟩
theorem aXX{av:AV}(h:TyV Tryz.prog 7 27 av):∃m:ad5,av=.agg m.cells∧m.small:=by
 unfold TyV at h
 simp only[Tryz.underlying27]at h
 obtain⟨cs,rfl,h⟩:=h
 obtain⟨s,rfl,hs⟩:=aW5 h
 exact⟨s,rfl,hs⟩
theorem aRN{av:AV}(h:TyV Tryz.prog 7 28 av):∃(nn:Bool) (l:List ac6),av=slv 2 false nn (l.map ac6.cells)∧l.length≤maxLen∧∀x∈l,x.reads.length≤maxLen:=by
 unfold TyV at h
 simp only[Tryz.underlying28]at h
 unfold Ty at h
 simp only[Tryz.underlying28]at h
 obtain⟨nn,rows,hx,hl,hrows⟩:=h
 obtain⟨l,rfl,hm⟩:=avX (fun r hr=>aXC (n:=3) hr) hrows
 have e1:Tryz.prog.cellsOf 36=2:=by kernel_rfl
 have e2:flT Tryz.prog 6 36=false:=by
  simp only[flT,Tryz.underlying36,Tryz.underlying25];simp
 rw[e1,e2]at hx
 simp only[List.cons.injEq,and_true]at hx
 exact⟨nn,l,hx,by simpa using hl,hm⟩
theorem aF8{m:ad5}(h:an4 m=true):1≤m.states∧m.states≤8:=by
 simp only[an4,asN,alV,decide_eq_true_eq,inB]at h
 omega
theorem aC2(a:Int):(a==a)=true:=by simp
theorem aGA:∀(f u:Nat) (l:List UInt8),(aBP f u l).length≤f+l.length
 |0,_,l=>by simp[aBP]
 |f+1,u,l=>by
  unfold aBP
  split
  ·simp;omega
  ·have:=aGA f (u / 10) (UInt8.ofNat (48+u % 10)::l)
   simp only[auW]at this;omega
theorem atO(n:Int):(aq3 n).length≤21:=by
 unfold aq3
 split
 ·have:=aGA 20 n.natAbs [];simp at this ⊢;omega
 ·have:=aGA 20 n.toNat [];simp at this ⊢;omega
theorem a19{n:Int}(h:aA0 n=true):om'.call (.fn 62) [.int .i64 n] []=some (.ret (.str (aq3 n)),[]):=
 aMY (pr:=pr) (p:=aEZ) rfl (by simp[aEZ,h])
theorem aq8{ty:TypeId}(x y:List UInt8)(h:x.length+y.length<1000000000):ao1 Tryz.prog .add ty (.str x) (.str y)=some (.str (x++y)):=by
 simp only[ao1,ayS]
 rw[if_pos (by have:(2:Nat) ^ 62=4611686018427387904:=rfl;omega)]
def wrS(l:List Int):List UInt8:=l.flatMap fun n=>32::aq3 n
theorem aQI{w:List UInt8}{l:List Int}{nn:Bool}(hw0:w.length≤100)(hl:l.length≤1000)(hn:∀n∈l,aA0 n=true):om'.call (.fn 36) [.str w,slv 1 true nn (l.map iv)] []=some (.ret (.str (w++(wrS l++[10]))),[]):=by
 (refine ce Tryz.func36 ?_;simp only[Tryz.f36];(have hb:=trivial;with_reducible repeat' (first|simp only[hb,Va.down,seval,aWT.down,acQ]|refine fsp ?_ ?_<;>intro hb|refine fd ?_|fail)))
 refine anJ (lst 21 l (fun i (zz:List UInt8) t h=>t 7=slv 1 true nn (l.map iv)∧t 8=.int .i64 l.length∧t 9=.int .i64 i∧t 0=.str zz∧(zz.length≤100+30*i)) (fun rest zz=>zz++wrS rest) (fun r e t h=>e=.exit 0∧t 0=.str r) ?_ ?_ (w) _ _ ?_) (fun e t h hk=>?_)
 ·rintro acc t h Q' kQ ⟨h7,h8,h9,h0,hA⟩
  (have hb:=trivial;with_reducible repeat' (first|simp only[hb,Va.down,seval,aWT.down,h7,h8,h9,h0,atY,decide_false,acQ]|refine fsp ?_ ?_<;>intro hb|refine fd ?_|fail))
  exact kQ _ _ _ ⟨rfl,by simp[up,h0,wrS]⟩
 ·rintro x rest i acc t h J Q' kJ kQ hx hi ⟨h7,h8,h9,h0,hA⟩
  have hd:decide ((i:Int)<(l.length:Int))=true:=decide_eq_true (by omega)
  have hw:=agA hi (by unfold maxLen;omega)
  have hI:=a19 (hn x (aoF hx))
  have hil:=atO x
  have hA1:=aq8 (ty:=9) [32] (aq3 x) (by simp;omega)
  have hA2:=aq8 (ty:=9) acc ([32]++aq3 x) (by simp;omega)
  simp only[arI,aeG]at hA1 hA2
  (have hb:=trivial;with_reducible repeat' (first|simp only[hb,Va.down,seval,aWT.down,h0,h7,h8,h9,hd,hx,hw,hI,hA1,hA2,iv,acQ]|refine fsp ?_ ?_<;>intro hb|refine fd ?_|fail))
  (refine ai7 (kJ _ _ (acc++32::aq3 x) ⟨?_,?_,?_,?_,?_⟩ ?_);(simp[up,h7]);(simp[up,h8]);(simp[up]);(simp[up,h0]);(simp;omega);(simp[wrS]))
 ·exact⟨by simp[up,ent],by simp[up,ent],by simp[up],by simp[up,ent],by simpa using hw0⟩
 obtain⟨rfl,h0⟩:=hk
 have hll:(w++wrS l).length≤100+30*l.length:=by
  have:∀l:List Int,(wrS l).length≤30*l.length:=fun l=>by
   induction l with
   |nil=>simp[wrS]
   |cons n l ih=>have:=atO n;simp[wrS]at ih ⊢;omega
  have:=this l
  simp;omega
 have hA3:=aq8 (ty:=9) (w++wrS l) [10] (by simp only[auW,azT];omega)
 rw[am7]at hA3
 (have hb:=trivial;with_reducible repeat' (first|simp only[hb,Va.down,seval,aWT.down,h0,hA3]|refine fsp ?_ ?_<;>intro hb|refine fd ?_|fail))
def dl:Nat→Nat→List UInt8→List UInt8
 |0,_,s=>s
 |f+1,u,s=>if u<10 then s else dl f (u / 10) (UInt8.ofNat (48+u / 10 % 10)::s)
theorem aRD:∀(f u:Nat) (l:List UInt8),u<10 ^ (f+1)→dl f u (UInt8.ofNat (48+u % 10)::l)=aBP (f+1) u l
 |0,u,l,h=>by
  have:u<10:=by simpa using h
  rw[dl,aBP,if_pos this,aD9 this]
 |f+1,u,l,h=>by
  rw[dl,aBP]
  split
  ·rename_i h1;rw[aD9 h1]
  ·exact aRD f (u / 10) _ (by rw[Nat.pow_succ]at h;omega)
theorem aM1{h:aaP}{b:Nat}{w:Bool}{d:Int}(hb:h[b]?=some (.live 1 true w [[.int .u8 d]])):rD (cvB Tryz.prog (hf h) 5 (.slr 1 b 0 1))=some (.ret (.str [UInt8.ofNat d.toNat]),[]):=by
 have hu:Tryz.prog.underlying 5=some (.int .u8):=by kernel_rfl
 have hr:aoE (hf h) b 0 1=some (1,true,[[.int .u8 d]]):=by
  unfold aoE
  rw[show hf h b=some _ from hb];rfl
 unfold cvB
 rw[hu]
 simp only[al3,hr]
 rfl
theorem a22{h:aaP}{d:Int}:rD (cvB Tryz.prog (hf (h++[.live 1 true false [[.int .u8 d]]])) 5 (.slr 1 h.length 0 1))=some (.ret (.str [UInt8.ofNat d.toNat]),[]):=
 aM1 (w:=false) (by rw[aq0 (atX _),axA];rfl)
theorem a0H{d:Int}:rD (cvB Tryz.prog (hf [.live 1 true false [[.int .u8 d]]]) 5 (.slr 1 0 0 1))=some (.ret (.str [UInt8.ofNat d.toNat]),[]):=aM1 (w:=false) rfl
theorem aHK{n:Nat}(h:n<1000000000):IntKind.i64.wrap (n:Int)=n:=arY (by omega) (by omega)
theorem aML{n:Nat}(h:n<256):IntKind.u8.wrap (n:Int)=n:=by
 simp only[IntKind.wrap,IntKind.bits,IntKind.signed]
 simp
 omega
theorem aTD(u:Nat)(hu:u<1000000000):om'.call (.fn 63) [.int .i64 (u:Int)] []=some (.ret (.str (aq3 u)),[]):=by
 have h0:decide ((u:Int)<0)=false:=decide_eq_false (by omega)
 have h1:(u:Int).tmod 10=((u % 10:Nat):Int):=by rw[aFB (by omega)];rfl
 have h2:IntKind.i64.wrap (48+((u % 10:Nat):Int))=((48+u % 10:Nat):Int):=by rw[show(48:Int)+((u % 10:Nat):Int)=((48+u % 10:Nat):Int) by omega];exact aHK (by omega)
 have h3:=aML (n:=48+u % 10) (by omega)
 (refine ce Tryz.func63 ?_;simp only[Tryz.f63];(have hb:=trivial;with_reducible repeat' (first|simp only[hb,Va.down,seval,aQD.down,h0,h1,h2,h3,a0H,azU]|refine fsp ?_ ?_<;>intro hb|refine fd ?_|fail)))
 refine anJ (cnt 29 (fun i (zz:Nat × List UInt8) t h=>t 0=.int .i64 (zz.1:Int)∧t 3=.str zz.2∧(zz.1<10 ^ (i+1)∧zz.1<1000000000∧zz.2.length+i≤20)) (fun rest zz=>dl rest zz.1 zz.2) (fun r e t h=>e=.exit 0∧t 3=.str r) ?_ ?_ (19) (u,[UInt8.ofNat (48+u % 10)]) _ _ ?_) (fun e t h hk=>?_)
 ·rintro⟨k,acc⟩ t h Q' kQ ⟨h0,h3,⟨hA,hB,hE⟩⟩
  try dsimp only at *
  have g0:decide ((10:Int)≤(k:Int))=false:=decide_eq_false (by omega)
  (have hb:=trivial;with_reducible repeat' (first|simp only[hb,Va.down,seval,aQD.down,h0,h3,g0]|refine fsp ?_ ?_<;>intro hb|refine fd ?_|fail))
  exact kQ _ _ _ ⟨rfl,by simp[up,h3,dl]⟩
 ·rintro i ⟨k,acc⟩ t h J Q' kJ kQ ⟨h0,h3,⟨hA,hB,hE⟩⟩
  try dsimp only at *
  by_cases hlt:k<10
  ·have g0:decide ((10:Int)≤(k:Int))=false:=decide_eq_false (by omega)
   (have hb:=trivial;with_reducible repeat' (first|simp only[hb,Va.down,seval,aQD.down,h0,h3,g0]|refine fsp ?_ ?_<;>intro hb|refine fd ?_|fail))
   exact kQ _ _ _ ⟨rfl,by simp[up,h3,dl,hlt]⟩
  ·have g0:decide ((10:Int)≤(k:Int))=true:=decide_eq_true (by omega)
   have g1:(k:Int).tdiv 10=((k / 10:Nat):Int):=by rw[Int.tdiv_eq_ediv_of_nonneg (by omega)];rfl
   have g2:=aHK (n:=k / 10) (by omega)
   have g3:((k / 10:Nat):Int).tmod 10=((k / 10 % 10:Nat):Int):=by rw[aFB (by omega)];rfl
   have g4:IntKind.i64.wrap (48+((k / 10 % 10:Nat):Int))=((48+k / 10 % 10:Nat):Int):=by rw[show(48:Int)+((k / 10 % 10:Nat):Int)=((48+k / 10 % 10:Nat):Int) by omega];exact aHK (by omega)
   have g5:=aML (n:=48+k / 10 % 10) (by omega)
   have g6:=aq8 (ty:=9) [UInt8.ofNat (48+k / 10 % 10)] acc (by simp;omega)
   simp only[arI,aeG]at g6
   have g7:k / 10<10 ^ (i+1):=by rw[Nat.pow_succ]at hA;omega
   have g8:k / 10<1000000000:=by omega
   have g9:dl (i+1) k acc=dl i (k / 10) (UInt8.ofNat (48+k / 10 % 10)::acc):=by rw[dl,if_neg hlt]
   generalize k / 10=kd at *
   (have hb:=trivial;with_reducible repeat' (first|simp only[hb,Va.down,seval,aQD.down,h0,h3,g0,g1,g2,g3,g4,g5,g6,a22,azU]|refine fsp ?_ ?_<;>intro hb|refine fd ?_|fail))
   (refine ai7 (kJ _ _ (kd,UInt8.ofNat (48+kd % 10)::acc) ⟨?_,?_,?_⟩ ?_);(simp[up,h0]);(simp[up,h3]);(exact⟨g7,g8,by simp;omega⟩);(simp[g9]))
 ·exact⟨by simp[up,ent],by simp[up,ent],⟨by omega,hu,by simp⟩⟩
 obtain⟨rfl,h3⟩:=hk
 rw[aRD 19 u [] (by omega)]at h3
 have hi:aq3 (u:Int)=aBP 20 u []:=by unfold aq3;rw[if_neg (by omega),azU]
 (have hb:=trivial;with_reducible repeat' (first|simp only[hb,Va.down,seval,aQD.down,h3]|refine fsp ?_ ?_<;>intro hb|refine fd ?_|fail))
 rw[hi]
theorem aS0{n:Int}(h:n<0):aq3 n=45::aq3 (-n):=by
 unfold aq3
 rw[if_pos h,if_neg (by omega),show n.natAbs=(-n).toNat by omega]
theorem aY6{n:Int}(h1: -1000000000<n)(h2:n<1000000000):om'.call (.fn 63) [.int .i64 n] []=some (.ret (.str (aq3 n)),[]):=by
 by_cases hn:n<0
 ·have k:=aTD (-n).toNat (by omega)
  rw[show(((-n).toNat:Nat):Int)= -n by omega]at k
  have h0:decide (n<0)=true:=decide_eq_true hn
  have hw:IntKind.i64.wrap (0-n)= -n:=by rw[Int.zero_sub];exact arY (by omega) (by omega)
  have hl:=atO (-n)
  have ha:=aq8 (ty:=9) [45] (aq3 (-n)) (by simp;omega)
  simp only[arI,aeG]at ha
  rw[aS0 hn]
  obtain⟨q,hq⟩:∃q,Fn.func 63=q:=⟨_,rfl⟩
  (refine ce Tryz.func63 ?_;simp only[Tryz.f63];(have hb:=trivial;with_reducible repeat' (first|simp only[hb,Va.down,seval,aQD.down,h0,hw,k,ha]|refine fsp ?_ ?_<;>intro hb|refine fd ?_|fail)))
 ·have k:=aTD n.toNat (by omega)
  rwa[show((n.toNat:Nat):Int)=n by omega]at k
def atH(y:ac6):List UInt8:=[115,99,97,110]++(wrS y.reads++(32::aq3 y.cmd))
def axM(l:List ac6):List UInt8:=l.flatMap fun y=>atH y++[10]
def low(y:ac6):Prop:=(∀n∈y.reads,-1000000000<n∧n<1000000000)∧ -1000000000<y.cmd∧y.cmd<1000000000∧y.reads.length≤100
theorem aL1:∀l:List Int,(wrS l).length≤30*l.length:=fun l=>by
 induction l with
 |nil=>simp[wrS]
 |cons n l ih=>have:=atO n;simp[wrS]at ih ⊢;omega
theorem a1T(y:ac6)(hy:low y):om'.call (.fn 38) [.agg [slv 1 true y.nn (y.reads.map iv),.int .i64 y.cmd]] []=some (.ret (.str (atH y)),[]):=by
 obtain⟨y1,y2,y3,y4⟩:=hy
 (refine ce Tryz.func38 ?_;simp only[Tryz.f38];(have hb:=trivial;with_reducible repeat' (first|simp only[hb,Va.down,seval,aVY.down,acQ]|refine fsp ?_ ?_<;>intro hb|refine fd ?_|fail)))
 refine anJ (lst 27 y.reads (fun i (zz:List UInt8) t h=>t 1=.ptr 0 0 0∧t 4=.int .i64 i∧t 3=.str zz∧(h=[.live 2 false false [[slv 1 true y.nn (y.reads.map iv),.int .i64 y.cmd]]]∧zz.length≤100+30*i)) (fun rest zz=>zz++wrS rest) (fun r e t h=>e=.exit 0∧t 1=.ptr 0 0 0∧t 3=.str r∧h=[.live 2 false false [[slv 1 true y.nn (y.reads.map iv),.int .i64 y.cmd]]]) ?_ ?_ ([115,99,97,110]) _ _ ?_) (fun e t h hk=>?_)
 ·rintro acc t h Q' kQ ⟨h1,h4,h3,⟨rfl,hA⟩⟩
  (have hb:=trivial;with_reducible repeat' (first|simp only[hb,Va.down,seval,aVY.down,h1,h4,h3,atY,decide_false,acQ]|refine fsp ?_ ?_<;>intro hb|refine fd ?_|fail))
  exact kQ _ _ _ ⟨rfl,by simp[up,h1],by simp[up,h3,wrS],rfl⟩
 ·rintro x rest i acc t h J Q' kJ kQ hx hi ⟨h1,h4,h3,⟨rfl,hA⟩⟩
  have hd:decide ((i:Int)<(y.reads.length:Int))=true:=decide_eq_true (by omega)
  have hw:=agA hi (by unfold maxLen;omega)
  have hI:=aY6 (y1 x (aoF hx)).1 (y1 x (aoF hx)).2
  have hil:=atO x
  have hA1:=aq8 (ty:=9) acc [32] (by simp;omega)
  have hA2:=aq8 (ty:=9) (acc++[32]) (aq3 x) (by simp;omega)
  simp only[am7,arI,aeG]at hA1 hA2
  (have hb:=trivial;with_reducible repeat' (first|simp only[hb,Va.down,seval,aVY.down,h1,h3,h4,hd,hx,hw,hI,hA1,hA2,iv,acQ]|refine fsp ?_ ?_<;>intro hb|refine fd ?_|fail))
  (refine ai7 (kJ _ _ (acc++32::aq3 x) ⟨?_,?_,?_,?_⟩ ?_);(simp[up,h1]);(simp[up]);(simp[up,h3]);(exact⟨rfl,by simp;omega⟩);(simp[wrS]))
 ·exact⟨by simp[up,ent],by simp[up],by simp[up,ent],⟨rfl,by simp⟩⟩
 obtain⟨rfl,h1,h3,rfl⟩:=hk
 have hwl:=aL1 y.reads
 have hil:=atO y.cmd
 have hI:=aY6 y2 y3
 have hA1:=aq8 (ty:=9) ([115,99,97,110]++wrS y.reads) [32] (by simp;omega)
 have hA2:=aq8 (ty:=9) ([115,99,97,110]++wrS y.reads++[32]) (aq3 y.cmd) (by simp;omega)
 simp only[am7,arI,aeG]at hA1 hA2
 (have hb:=trivial;with_reducible repeat' (first|simp only[hb,Va.down,seval,aVY.down,h1,h3,hI,hA1,hA2]|refine fsp ?_ ?_<;>intro hb|refine fd ?_|fail))
 simp[atH]
theorem aIY(y:ac6)(hy:low y):(atH y).length≤4000:=by
 have:=aL1 y.reads
 have:=atO y.cmd
 have:=hy.2.2.2
 simp[atH];omega
theorem a5V{l:List ac6}{nn:Bool}(hl:l.length≤1000)(hy:∀y∈l,low y):om'.call (.fn 14) [slv 2 false nn (l.map ac6.cells)] []=some (.ret (.str (axM l)),[]):=by
 (refine ce Tryz.func14 ?_;simp only[Tryz.f14];(have hb:=trivial;with_reducible repeat' (first|simp only[hb,Va.down,seval,aYK.down,acQ]|refine fsp ?_ ?_<;>intro hb|refine fd ?_|fail)))
 refine anJ (lst 20 l (fun i (zz:List UInt8) t h=>t 0=slv 2 false nn (l.map ac6.cells)∧t 4=.int .i64 i∧t 3=.str zz∧(zz.length≤5000*i)) (fun rest zz=>zz++axM rest) (fun r e t h=>e=.exit 0∧t 3=.str r) ?_ ?_ ([]) _ _ ?_) (fun e t h hk=>?_)
 ·rintro acc t h Q' kQ ⟨h0,h4,h3,hA⟩
  (have hb:=trivial;with_reducible repeat' (first|simp only[hb,Va.down,seval,aYK.down,h0,h4,h3,atY,decide_false,acQ]|refine fsp ?_ ?_<;>intro hb|refine fd ?_|fail))
  exact kQ _ _ _ ⟨rfl,by simp[up,h3,axM]⟩
 ·rintro x rest i acc t h J Q' kJ kQ hx hi ⟨h0,h4,h3,hA⟩
  have hd:decide ((i:Int)<(l.length:Int))=true:=decide_eq_true (by omega)
  have hw:=agA hi (by unfold maxLen;omega)
  have hI:=a1T x (hy x (aoF hx))
  have hil:=aIY x (hy x (aoF hx))
  have hA1:=aq8 (ty:=9) acc (atH x) (by omega)
  have hA2:=aq8 (ty:=9) (acc++atH x) [10] (by simp;omega)
  simp only[am7,arI,aeG]at hA1 hA2
  (have hb:=trivial;with_reducible repeat' (first|simp only[hb,Va.down,seval,aYK.down,h0,h3,h4,hd,hx,hw,hI,hA1,hA2,ac6.cells,acQ]|refine fsp ?_ ?_<;>intro hb|refine fd ?_|fail))
  (refine ai7 (kJ _ _ (acc++(atH x++[10])) ⟨?_,?_,?_,?_⟩ ?_);(simp[up,h0]);(simp[up]);(simp[up,h3]);(simp;omega);(simp[axM]))
 ·exact⟨by simp[up,ent],by simp[up],by simp[up,ent],by simp⟩
 obtain⟨rfl,h3⟩:=hk
 simp only[aeG]at h3
 (have hb:=trivial;with_reducible repeat' (first|simp only[hb,Va.down,seval,aYK.down,h3]|refine fsp ?_ ?_<;>intro hb|refine fd ?_|fail))
theorem aU6{H:aaP}{v:AV}{nn:Bool}{l:List Int}{R:List Nat}(h:rd 6 (hf H) v=some (slv 1 true nn (l.map iv),R))(hl:l.length≤1000):
 (∃fs,ftC om' H (some (.func (.func 37) [] [])) (some [v])=some fs∧∀x∈fs,∃b,b<H.length∧x=.blk b)∧
 ((l=[]∧cl om' H (some (.func (.func 37) [] [])) (some [v])=some (.ret .nils,[]))∨cl om' H (some (.func (.func 37) [] [])) (some [v])=some (.ret (.slr 1 H.length 0 l.length),[.new H.length (.live 1 true false (l.map iv))])):=by
 have ha:afG (rdV H) [v]=some [slv 1 true nn (l.map iv)]:=by
  have:rdV H v=some (slv 1 true nn (l.map iv)):=auF (by omega) h
  simp only[arT,asP,this,aqO]
 have hp:[slv 1 true nn (l.map iv)].all (ahO 8)=true:=by simp[ap4]
 have hk:pkd om' 37 [v]:=fun _=>by
  cases v<;>first|rfl|(simp[rd]at h;done)
 refine⟨?_,?_⟩
 ·obtain⟨fs,h1,h2⟩:=aBW (O:=om') (f:=37) hk ha hp
  refine⟨fs,h1,fun x hx=>?_⟩
  obtain⟨b,hb,rfl⟩:=h2 x hx
  simp only[av7,av8,aoG]at hb
  obtain⟨z,hz⟩:=aK6 (by omega) h b (ayO h b hb)
  exact⟨b,as5 hz,rfl⟩
 ·rcases awL 1 true nn (l.map iv)with⟨_,e1,e⟩|e
  ·left
   rw[e]at ha hp
   exact⟨aBV.1 e1,av9 hk ha hp aK1 rfl rfl⟩
  ·right
   rw[e]at ha hp
   rw[aDJ hk,aE6 ha hp,aHE hl]
   simp[crR,Out.v,alC,ao8,amM,Out.map,hasImm,acP.hasImm,CB.hasImm]
theorem a5W{H:aaP}{p:Nat}{m:ad5}{st ag:Int}{l:List ac6}{w:Bool}{sv vv mv ov sc:AV}{Rm Rs:List Nat}{rows:List (List AV)}(T:TAt H p m st ag l w sv vv mv ov sc Rm Rs rows)(hq:ajX H=true)(hl:l.length≤1000)(hy:∀y∈l,low y):
 ShQ om' 13 [.ptr p 0 0] H fun o G=>o=.ret (.tup [.str (axM l),.int .i64 0])∧∃L,G=H++L∧ajX L=true:=by
 have hc:=T.cell
 obtain⟨q,hqq⟩:∃q,Fn.func 28=q:=⟨_,rfl⟩
 have hn:=aHL hc hq
 rw[hqq]at hn
 obtain⟨q2,hq2⟩:∃q,Fn.func 37=q:=⟨_,rfl⟩
 have hln:ln Tryz.prog 28 (some sc)=some (.ret (.int .i64 rows.length),[]):=T.own.ln Tryz.underlying28
 have hrl:=T.rl
 rw[hrl]at hln
 refine a1N rfl Tryz.func13 rfl rfl ?_
 simp only[Tryz.f13]
 refine hid (fun KK iN hK=>?_)
 (have hb:=trivial;with_reducible repeat' (first|simp only[hb,Va.down,seval,aIG.down,hc,hqq,hn,hln,aGE]|refine fsp ?_ ?_<;>intro hb|refine fd ?_|fail))
 refine anJ (lst 30 l (fun i (acc:List UInt8) t h=>t 4=.str acc∧t 12=sc∧t 13=.int .i64 (l.length:Nat)∧t 14=.int .i64 i∧acc.length≤5000*i∧∃L,h=H++L∧ajX L=true) (fun rest acc=>acc++axM rest)
  (fun r e t h=>e=.exit 0∧t 4=.str r∧∃L,h=H++L∧ajX L=true) ?_ ?_ [] _ _ ?_) (fun e t h hk=>?_)
 ·rintro acc t h Q' kQ ⟨h4,h12,h13,h14,_,hH⟩
  (have hb:=trivial;with_reducible repeat' (first|simp only[hb,Va.down,seval,aIG.down,h13,h14,atY,decide_false]|refine fsp ?_ ?_<;>intro hb|refine fd ?_|fail))
  exact kQ _ _ _ ⟨rfl,by simp[up,h4,axM],hH⟩
 ·rintro x rest i acc t h J Q' kJ kQ hx hi ⟨h4,h12,h13,h14,hA,L,rfl,hL⟩
  have hdd:decide ((i:Int)<(l.length:Int))=true:=decide_eq_true (by omega)
  have hdi:((i:Int)<(l.length:Int))=True:=eq_true (by omega)
  have hww:=agA hi (by unfold maxLen;omega)
  rcases T.own with⟨hr0,_⟩|⟨b,w',hsc,hb⟩
  ·rw[hr0]at hrl;simp at hrl;omega
  obtain⟨r,R,hr1,hr2⟩:=aD7 T.scs (show(l.map ac6.cells)[i]?=some x.cells by rw[aBX,hx];rfl)
  obtain⟨rv,r',R1,R2,rfl,hrv,hr2,_⟩:=ai3 hr2
  obtain⟨c,r'',R3,R4,rfl,hcc,hr2,_⟩:=ai3 hr2
  obtain⟨rfl,_⟩:=aHG hr2
  obtain⟨rfl,_⟩:=avR hcc
  obtain⟨c1,c2⟩:=auR hrv
  have hrow:asX ((H++L)[b]?) i=some [rv,.int .i64 x.cmd]:=by rw[ahZ hb];exact hr1
  have hrv1:=aqL hrv (g':=hf (H++L++[.live 2 false true [[rv,.int .i64 x.cmd]]])) fun b hb z hz=>by
   show((H++L++[_])[b]?).bind agI=_
   have:=as5 hz
   rw[ahB (by simp;omega),ahB this];exact hz
  have hlow:=hy x (aoF hx)
  obtain⟨⟨fs,hft,hfs⟩,hcl⟩:=aU6 hrv1 (by have:=hlow.2.2.2;omega)
  have hsc2:sc=.slr 2 b 0 l.length:=by rw[hsc,hrl];rfl
  have hln2:=aIY x hlow
  have hwr:=aQI (w:=[115,99,97,110]) (l:=x.reads++[x.cmd]) (nn:=true) (by simp) (by have:=hlow.2.2.2;simp;omega) (by
   intro n hn
   have: -1000000000<n∧n<1000000000:=by
    rcases aoD.1 hn with hn|hn
    ·exact hlow.1 n hn
    ·simp at hn;subst hn;exact⟨hlow.2.1,hlow.2.2.1⟩
   simp[aA0];omega)
  have hwl:[115,99,97,110]++(wrS (x.reads++[x.cmd])++[10])=atH x++[10]:=by simp[wrS,atH]
  rw[hwl]at hwr
  have hA1:=aq8 (ty:=9) acc (atH x++[10]) (by simp;omega)
  rw[hq2]at hcl hft
  generalize hG0:H++L=G0 at *
  rcases hcl with⟨hnil,hcl⟩|hcl
  ·rw[hnil]at hwr
   simp only[ay4,aeG,avD,List.map_nil,iv]at hwr
   (have hb:=trivial;with_reducible repeat' (first|simp only[hb,Va.down,seval,aIG.down,h4,h12,h13,h14,hdd,hdi,hww,hsc2,hrow,c1,c2,hq2,hcl,hft,hwr,hA1,aoU,apD,apM,ap1]|refine fsp ?_ ?_<;>intro hb|refine fdx ?_|fail))
   refine asZ (fun b=>if b≤G0.length then 0 else b-G0.length) [([],[]),([],[]),([],[.cells 0 0 1]),([],[.blk 0]),([],[]),([],[.cells 0 1 1]),([.blk 1],[]),([.all],[.all]),([],[.all]),([],[]),([],[])] (by kernel_rfl) ?_ (fun _=>?_)
   ·simp[au9,mfF,acP.foot]
    intro x hx
    obtain⟨b,hb1,rfl⟩:=hfs x hx
    simp at hb1
    simp[mfF];omega
   (have hb:=trivial;with_reducible repeat' (first|simp only[hb,Va.down,seval,aIG.down,h4,h12,h13,h14,hdd,hdi,hww]|refine fsp ?_ ?_<;>intro hb|refine fdx ?_|fail))
   refine ai7 (kJ _ _ (acc++(atH x++[10])) ⟨by simp[up],by simp[up,h12,hsc2],by simp[up,h13],by simp[up],by simp;omega,?_⟩ (by simp[axM]))
   rw[←hG0]
   exact⟨L++_,am7 ..,aqG hL rfl⟩
  ·simp only[ay4,auJ,avD,List.map_nil]at hwr
   rw[show([iv x.cmd]:List (List AV))=[[.int .i64 x.cmd]]from rfl]at hwr
   have hll:=hlow.2.2.2
   have htk:List.take (x.reads.length+1) (List.map iv x.reads++[[.int .i64 x.cmd]])=List.map iv x.reads++[[.int .i64 x.cmd]]:=az1 (by simp)
   have h39:((x.reads.length+1:Nat)≤549755813888)=True:=eq_true (by omega)
   (have hb:=trivial;with_reducible repeat' (first|simp only[hb,Va.down,seval,aIG.down,h4,h12,h13,h14,hdd,hdi,hww,hsc2,hrow,c1,c2,hq2,hcl,hft,hwr,hA1,h39,htk,acQ,aAQ,aoU,apD,apM,ap1]|refine fsp ?_ ?_<;>intro hb|refine fdx ?_|fail))
   refine asZ (fun b=>if b≤G0.length then 0 else b-G0.length) [([],[]),([],[]),([],[.cells 0 0 1]),([.blk 1],[.blk 0]),([],[]),([],[.cells 0 1 1]),([.blk 2],[]),([.all],[.all]),([],[.all]),([],[]),([],[])] (by kernel_rfl) ?_ (fun _=>?_)
   ·simp[au9,mfF,acP.foot]
    intro x hx
    obtain⟨b,hb1,rfl⟩:=hfs x hx
    simp at hb1
    simp[mfF];omega
   (have hb:=trivial;with_reducible repeat' (first|simp only[hb,Va.down,seval,aIG.down,h4,h12,h13,h14,hdd,hdi,hww]|refine fsp ?_ ?_<;>intro hb|refine fdx ?_|fail))
   refine ai7 (kJ _ _ (acc++(atH x++[10])) ⟨by simp[up],by simp[up,h12,hsc2],by simp[up,h13],by simp[up],by simp;omega,?_⟩ (by simp[axM]))
   rw[←hG0]
   exact⟨L++_,am7 ..,aqG hL rfl⟩
 ·exact⟨by simp[up],by simp[up],by simp[up],by simp[up],by simp,[],by simp,rfl⟩
 obtain⟨rfl,h4,L,rfl,hL⟩:=hk
 simp only[aeG]at h4
 (have hb:=trivial;with_reducible repeat' (first|simp only[hb,Va.down,seval,aIG.down,h4]|refine fsp ?_ ?_<;>intro hb|refine fd ?_|fail))
 refine hK _ ?_
 rw[aGV]
 exact aHH (vs:=[.str (axM l),.int .i64 0]) (by simp only[Va.down,seval,aIG.down]) ⟨rfl,L,rfl,hL⟩
structure PlI(j:Nat)(m:ad5)(h:aaP)(st ag:Int)(l done:List ac6)(dv:AV):Prop where
 b0:∃w,h[0]?=some (.live 7 false w [[slv 3 true m.nS (m.sens.map ak7.cells),slv 4 false m.nV (m.votes.map acT.cells),slv 5 false m.nM (m.moves.map acS.cells),.int .i64 m.states,.int .i64 m.cmds,.int .i64 m.bgn,slv 1 true m.nO (m.opn.map iv)]])
 trip:∃w sv vv mv ov sc Rm Rs rows,TAt h j m st ag l w sv vv mv ov sc Rm Rs rows∧(∀b∈scB sc,0<b)∧∀b∈scB dv,b∉Rm++Rs∧b∉scB sc
 own:aEQ 0 2 false (done.map ac6.cells) dv h
 nil:done=[]→dv=.nils
 dv:∀b∈scB dv,0<b∧b≠j
 q:ajX h=true
 j0:0<j
theorem PlI.add{j:Nat}{m:ad5}{h:aaP}{st ag:Int}{l done:List ac6}{dv:AV}(I:PlI j m h st ag l done dv)(y:ac6)(c:CB)(hc:c.quiet c.clean=true):
 PlI j m (kl 0 dv h++[c,.live 2 false false (done.map ac6.cells++[y.cells])]) st ag l (done++[y]) (.slr 2 (h.length+1) 0 (done.length+1)):=by
 obtain⟨w0,b0⟩:=I.b0
 obtain⟨w1,sv,vv,mv,ov,sc,Rm,Rs,rows,T,h1,h2⟩:=I.trip
 have same:∀(L:aaP) b,b<h.length→b∉scB dv→(kl 0 dv h++L)[b]?=h[b]?:=fun L b hb hn=>aDV L hb fun a c r n e k=>hn (by rw[e];simp[scB,k])
 have hm:∀b∈Rm,b<h.length:=aDW (by omega) T.mach
 have hs:∀b∈Rs,b<h.length:=aAH (by omega) T.scs
 have hnd:∀b∈Rm++Rs,b∉scB dv:=fun b hb hx=>(h2 b hx).1 hb
 have agr:∀(L:aaP) (R:List Nat),(∀b∈R,b<h.length∧b∈Rm++Rs)→Agr R (hf h) (hf (kl 0 dv h++L)):=fun L R hR b hb z hz=>by
  show((kl 0 dv h++L)[b]?).bind agI=_
  rw[same L b (hR b hb).1 (hnd b (hR b hb).2)];exact hz
 have hjl:=alB T.cell
 refine⟨⟨w0,?_⟩,⟨w1,sv,vv,mv,ov,sc,Rm,Rs,rows,⟨?_,aq7 T.mach (agr _ _ fun b hb=>⟨hm b hb,aC9 _ hb⟩),?_,aqE T.scs (agr _ _ fun b hb=>⟨hs b hb,aD8 _ hb⟩),T.nil,T.dp,T.ds⟩,h1,?_⟩,?_,fun e=>by simp at e,?_,?_,I.j0⟩
 ·rw[same _ 0 (alB b0) (fun hx=>by have:=(I.dv 0 hx).1;omega)];exact b0
 ·rw[same _ j hjl (fun hx=>(I.dv j hx).2 rfl)];exact T.cell
 ·rcases T.own with k|⟨b',w',e,hg⟩
  ·exact .inl k
  ·refine .inr ⟨b',w',e,?_⟩
   rw[same _ b' (alB hg) (fun hx=>(h2 b' hx).2 (by rw[e];simp[scB]))];exact hg
 ·intro b hb
  simp[scB]at hb;subst hb
  refine⟨fun hx=>?_,fun hx=>?_⟩
  ·rcases aoD.1 hx with hx|hx
   ·have:=hm _ hx;omega
   ·have:=hs _ hx;omega
  ·rcases T.own with⟨_,e⟩|⟨b',w',e,hg⟩
   ·rw[e]at hx;simp[scB]at hx
   ·have:=alB hg
    rw[e]at hx;simp[scB]at hx;omega
 ·refine .inr ⟨h.length+1,false,by simp,?_⟩
  rw[aq0 (by rw[arR];omega),arR,ayL,auJ];rfl
 ·intro b hb
  simp[scB]at hb;subst hb
  omega
 ·refine aqG (aOQ I.q) (atK fun x hx=>?_)
  simp at hx
  rcases hx with rfl|rfl
  ·exact hc
  ·rfl
theorem aKU{m:ad5}(h:ayA m=true):m.tiny:=by
 simp only[ayA,alV,aAZ,decide_eq_true_eq]at h
 obtain⟨⟨⟨⟨⟨h1,h2⟩,h3⟩,h4⟩,h5⟩,h6⟩:=h
 exact⟨by omega,by omega,by omega,by omega,fun v hv=>by have:=h1 v hv;omega,fun x hx=>by have:=h2 x hx;omega⟩
theorem aIV{m:ad5}(h:an4 m=true):(m.opn.length:Int)=m.states:=by
 simp only[an4,asN,alV,beq_iff_eq]at h
 exact h.1.1.1.1.2
theorem aID{m:ad5}(h:an4 m=true):0≤m.bgn∧m.bgn<m.states∧0≤m.cmds∧m.cmds≤4:=by
 have hs:=aF8 h
 simp only[an4,asN,inB,alV,decide_eq_true_eq]at h
 have h1:=h.1.1.1.1.1.2
 have h2:=h.1.1.1.1.1.1.2
 rw[arY (by omega) (by omega)]at h1
 omega
theorem aI8{m:ad5}{y:ac6}(hv:an4 m=true)(h:ar7 m y=true):low y:=by
 have hb:=aID hv
 simp only[ar7,aw3,inB,azR,alV,decide_eq_true_eq,aAZ,beq_iff_eq]at h
 obtain⟨⟨h1,h2⟩,h3,h4⟩:=h
 rw[arY (by omega) (by omega)]at h4
 have hh:=hv
 simp only[an4,asN,alV,decide_eq_true_eq]at hh
 have h6:=hh.1.1.1.1.1.1.1.1.1.1
 exact⟨fun n hn=>by have:=h2 n hn;omega,by omega,by omega,by omega⟩
theorem aKF{N:Int}{bits com:Int}:∀{l:List acS} {st ag:Int},(∀x∈l,0≤x.to∧x.to<N)→0≤st→st<N→0≤ag→ag≤10→(0≤(apP st ag bits com l).1∧(apP st ag bits com l).1<N)∧0≤(apP st ag bits com l).2∧(apP st ag bits com l).2≤10
 | [],st,ag,_,h0,h1,h2,h3=>by
   simp only[apP,aK7]
   rw[arY (by omega) (by omega)]
   refine⟨⟨h0,h1⟩,?_⟩
   split<;>omega
 |x::l,st,ag,h,h0,h1,h2,h3=>by
  unfold apP
  split
  ·have:=h x (auT ..);exact⟨this,by simp,by simp⟩
  ·exact aKF (fun y hy=>h y (azS _ hy)) h0 h1 h2 h3
theorem aXN{m:ad5}{st ag:Int}{y:ac6}(hv:an4 m=true)(h0:0≤st)(h1:st<m.states)(h2:0≤ag)(h3:ag≤10):(0≤(aqM m st ag y).1∧(aqM m st ag y).1<m.states)∧0≤(aqM m st ag y).2∧(aqM m st ag y).2≤10:=by
 have hst:=aF8 hv
 simp only[an4,alV,aAZ]at hv
 refine aKF (fun x hx=>?_) h0 h1 h2 h3
 have:=hv.1.2 x hx
 simp only[asR,inB,alV,decide_eq_true_eq]at this
 have h4:=this.1.1.1.2
 rw[arY (by omega) (by omega)]at h4
 omega
theorem aWL{g:HF}{d:Nat}{v:AV}{R:List Nat}(h:rd (d+1) g v=some (.nils,R)):v=.nils:=by
 cases v with
 |slr st b r len=>
  simp only[rd,aFG]at h
  obtain⟨z,_,h⟩:=h
  split at h
  ·cases hfl:z.2.1<;>rw[hfl]at h<;>simp at h
  ·cases h
 |func fn a b=>cases a<;>cases b<;>simp[rd]at h
 |agg cs=>simp[rd]at h
 |iface t x=>simp[rd]at h
 |_=>first|rfl|(simp[rd]at h)
theorem aX5{g:HF}{d:Nat}{v:AV}{b:Bool}{R:List Nat}(h:rd (d+1) g v=some (.bool b,R)):v=.bool b:=by
 cases v with
 |slr st b r len=>
  simp only[rd,aFG]at h
  obtain⟨z,_,h⟩:=h
  split at h
  ·cases hfl:z.2.1<;>rw[hfl]at h<;>simp at h
  ·cases h
 |func fn a b=>cases a<;>cases b<;>simp[rd]at h
 |agg cs=>simp[rd]at h
 |iface t x=>simp[rd]at h
 |bool b'=>simp[rd]at h;simp[h]
 |_=>simp[rd]at h
def acT.nil(v:acT):acT:={ v with nn:=false }
def acS.nil(x:acS):acS:={ x with nn:=false }
def ad5.cpy(m:ad5):ad5:={ m with nS:=false,nV:=false,votes:=m.votes.map acT.nil,nM:=false,moves:=m.moves.map acS.nil,nO:=false }
theorem aI9(m:ad5):an4 m.cpy=an4 m:=by
 have h1:∀n:Int,aw1 n ∘ acT.nil=aw1 n:=fun n=>rfl
 have h2:asR m.cpy ∘ acS.nil=asR m:=by
  funext x
  simp only[Function.comp,asR,ad5.cpy,acQ]
  rfl
 have h3:asN m.cpy=asN m:=by
  simp only[asN,ad5.cpy,acQ]
  rfl
 simp only[an4,h3]
 rw[show m.cpy.votes=m.votes.map acT.nil from rfl,show m.cpy.moves=m.moves.map acS.nil from rfl,List.all_map,List.all_map,h2]
 rfl
theorem aKA(m:ad5)(y:ac6):ar7 m.cpy y=ar7 m y:=rfl
theorem aFW{m:ad5}(hs:m.small):m.cpy.small:=by
 refine⟨hs.sens,by simpa [ad5.cpy]using hs.votes,by simpa [ad5.cpy]using hs.moves,hs.opn,fun v hv=>?_,fun x hx=>?_⟩
 ·simp only[ad5.cpy,avI]at hv
  obtain⟨v0,h0,rfl⟩:=hv
  exact hs.vs v0 h0
 ·simp only[ad5.cpy,avI]at hx
  obtain⟨v0,h0,rfl⟩:=hx
  exact hs.ws v0 h0
theorem aJK(m:ad5)(r:List Int):∀(l:List acT) (i:Nat) (b:Int),ar1 m.cpy r (l.map acT.nil) i b=ar1 m r l i b
 | [],i,b=>rfl
 |v::l,i,b=>by
  have hy:awJ m.cpy r v.nil=awJ m r v:=by
   unfold awJ
   have:∀(l:List Int) (c:Int),aBU m.cpy v.nil r l c=aBU m v r l c:=fun l=>by
    induction l with
    |nil=>intro c;rfl
    |cons n l ih=>intro c;simp only[aBU,ih];rfl
   rw[show v.nil.sens=v.sens from rfl,this];rfl
  simp only[avD,ar1,hy,aJK m r l]
theorem aFE(st ag bits com:Int):∀l:List acS,apP st ag bits com (l.map acS.nil)=apP st ag bits com l
 | []=>rfl
 |x::l=>by
  simp only[avD,apP,aFE st ag bits com l]
  rfl
theorem aKG(m:ad5)(st ag:Int)(y:ac6):aqM m.cpy st ag y=aqM m st ag y:=by
 unfold aqM
 rw[show m.cpy.votes=m.votes.map acT.nil from rfl,aJK,show m.cpy.moves=m.moves.map acS.nil from rfl,aFE]
theorem aTM{m:ad5}(h:m.tiny):m.cpy.tiny:=by
 refine⟨h.sens,by simpa [ad5.cpy]using h.votes,by simpa [ad5.cpy]using h.moves,h.opn,fun v hv=>?_,fun x hx=>?_⟩
 ·simp only[ad5.cpy,avI]at hv
  obtain⟨v0,h0,rfl⟩:=hv
  exact h.vs v0 h0
 ·simp only[ad5.cpy,avI]at hx
  obtain⟨v0,h0,rfl⟩:=hx
  exact h.ws v0 h0
theorem aX1(m:ad5){l:List ac6}{nn:Bool}(hl:l.length≤maxLen)(hy:∀y∈l,y.reads.length≤maxLen):om'.call (.fn 15) [.agg [slv 3 true m.nS (m.sens.map ak7.cells),slv 4 false m.nV (m.votes.map acT.cells),slv 5 false m.nM (m.moves.map acS.cells),.int .i64 m.states,.int .i64 m.cmds,.int .i64 m.bgn,slv 1 true m.nO (m.opn.map iv)],slv 2 false nn (l.map ac6.cells)] []=some (.ret (.bool (l.all (ar7 m))),[]):=by
 (refine ce Tryz.func15 ?_;simp only[Tryz.f15];(have hb:=trivial;with_reducible repeat' (first|simp only[hb,Va.down,seval,aO7.down,acQ]|refine fsp ?_ ?_<;>intro hb|refine fd ?_|fail)))
 refine anJ (lst 19 l (fun i (zz:Unit) t h=>t 1=slv 2 false nn (l.map ac6.cells)∧t 2=.ptr 0 0 0∧t 5=.int .i64 i∧(h=[.live 7 false false [[slv 3 true m.nS (m.sens.map ak7.cells),slv 4 false m.nV (m.votes.map acT.cells),slv 5 false m.nM (m.moves.map acS.cells),.int .i64 m.states,.int .i64 m.cmds,.int .i64 m.bgn,slv 1 true m.nO (m.opn.map iv)]]])) (fun rest zz=>rest.all (ar7 m)) (fun r e t h=>(e=.exit 0∧r=true)∨(e=.ret∧t 4=.bool false∧r=false)) ?_ ?_ () _ _ ?_) (fun e t h hk=>?_)
 ·rintro _ t h Q' kQ ⟨h1,h2,h5,rfl⟩
  (have hb:=trivial;with_reducible repeat' (first|simp only[hb,Va.down,seval,aO7.down,h1,h2,h5,atY,decide_false,acQ]|refine fsp ?_ ?_<;>intro hb|refine fd ?_|fail))
  exact kQ _ _ _ (.inl ⟨rfl,rfl⟩)
 ·rintro x rest i _ t h J Q' kJ kQ hx hi ⟨h1,h2,h5,rfl⟩
  have hd:decide ((i:Int)<(l.length:Int))=true:=decide_eq_true (by omega)
  have hw:=agA hi hl
  have hS:=aZ7 m x (hy x (aoF hx))
  cases hq:ar7 m x with
  |false=>
   rw[hq]at hS
   (have hb:=trivial;with_reducible repeat' (first|simp only[hb,Va.down,seval,aO7.down,h1,h2,h5,hd,hx,hw,hS,ac6.cells,acQ]|refine fsp ?_ ?_<;>intro hb|refine fd ?_|fail))
   exact kQ _ _ _ (.inr ⟨rfl,by simp[up],by simp[hq]⟩)
  |true=>
   rw[hq]at hS
   (have hb:=trivial;with_reducible repeat' (first|simp only[hb,Va.down,seval,aO7.down,h1,h2,h5,hd,hx,hw,hS,ac6.cells,acQ]|refine fsp ?_ ?_<;>intro hb|refine fd ?_|fail))
   (refine ai7 (kJ _ _ () ⟨?_,?_,?_,rfl⟩ ?_);(simp[up,h1]);(simp[up,h2]);(simp[up]);(simp[hq]))
 ·exact⟨by simp[up,ent],by simp[up,ent],by simp[up],rfl⟩
 rcases hk with⟨rfl,hr⟩|⟨rfl,h4,hr⟩
 ·rw[hr]
  (have hb:=trivial;with_reducible repeat' (first|simp only[hb,Va.down,seval,aO7.down]|refine fsp ?_ ?_<;>intro hb|refine fd ?_|fail))
 ·rw[hr]
  (have hb:=trivial;with_reducible repeat' (first|simp only[hb,Va.down,seval,aO7.down,h4]|refine fsp ?_ ?_<;>intro hb|refine fd ?_|fail))
structure SJ{α:Type}(st:Nat)(f f2:α→List AV)(l:List α)(h0:aaP)(b i:Nat)(h:aaP):Prop where
 keep:aqH [b] h0 h
 at_:∃w rows R,h[b]?=some (.live st false w rows)∧rows.length=l.length∧alA (rd 4 (hf h)) (rows.take i)=some ((l.take i).map f2,R)∧rows.drop i=(l.drop i).map f∧(∀x∈R,h0.length≤x∧x<h.length)∧R.length≤i
theorem SJ.next{α:Type}{st:Nat}{f f2:α→List AV}{l:List α}{h0:aaP}{b i:Nat}{h:aaP}{w:Bool}{rows:List (List AV)}{R:List Nat}(k:aqH [b] h0 h)(hb:b<h0.length)(hw:h[b]?=some (.live st false w rows))(hl:rows.length=l.length)
 (hr:alA (rd 4 (hf h)) (rows.take i)=some ((l.take i).map f2,R)) (hd:rows.drop i=(l.drop i).map f) (hR:∀x∈R,h0.length≤x∧x<h.length) (hn:R.length≤i) {x:α} (hx:l[i]?=some x) (a:aaP) (c:List AV) (R1:List Nat) (w':Bool)
 (hc:rdL (rd 4 (hf (h++a))) c=some (f2 x,R1)) (h1:∀y∈R1,h.length≤y∧y<(h++a).length) (h2:R1.length≤1):SJ st f f2 l h0 b (i+1) ((h++a).set b (.live st false w' (rows.set i c))):=by
 have hbl:b<h.length:=Nat.lt_of_lt_of_le hb k.len
 have e:=axE hl hd hx
 have agr:∀(S:List Nat) (g:aaP),(∀y∈S,y≠b)→Agr S (hf g) (hf (g.set b (.live st false w' (rows.set i c)))):=fun S g hS y hy z hz=>by
  show((g.set b _)[y]?).bind agI=_
  rw[atT (fun e=>hS y hy e.symm)];exact hz
 refine⟨((k.trans (aqH.app h a)).trans (aqH.set _ b _)).mono (fun y hy=>by simp at hy;simp[hy]),w',rows.set i c,R++R1,atV (by simp;omega),by simpa using hl,?_,(e.2 c).1,fun y hy=>?_,by simp;omega⟩
 ·rw[(e.2 c).2,az7 hx,auJ]
  refine auD (p:=((l.take i).map f2,R)) (q:=(f2 x,R1)) ?_ ?_
  ·exact aqE hr (fun y hy z hz=>agr R (h++a) (fun y hy=>by have:=hR y hy;omega) y hy z (by
    show((h++a)[y]?).bind agI=_
    rw[ahB (hR y hy).2];exact hz))
  ·exact aq7 hc (agr R1 _ fun y hy=>by have:=h1 y hy;omega)
 ·have hlen:=k.len
  rcases aoD.1 hy with hy|hy
  ·have:=hR y hy;simp;omega
  ·have:=h1 y hy;simp at this ⊢;omega
theorem SJ.zero{α:Type}{st:Nat}{f f2:α→List AV}{l:List α}{h0:aaP}{b:Nat}{w:Bool}(hw:h0[b]?=some (.live st false w (l.map f))):SJ st f f2 l h0 b 0 h0:=
 ⟨(aqH.refl h0).mono (fun y hy=>by simp at hy),w,l.map f,[],hw,by simp,rfl,by simp,fun y hy=>by simp at hy,atX _⟩
theorem SJ.done{α:Type}{st:Nat}{f f2:α→List AV}{l:List α}{h0:aaP}{b:Nat}{h:aaP}{nn:Bool}(S:SJ st f f2 l h0 b l.length h)(hs:slv st false nn (l.map f2)=.imm st false (l.map f2)):∃R,rd 5 (hf h) (.slr st b 0 l.length)=some (slv st false nn (l.map f2),b::R)∧(∀x∈R,h0.length≤x∧x<h.length)∧R.length≤l.length:=by
 obtain⟨w,rows,R,hw,hl,hr,hd,hR,hn⟩:=S.at_
 rw[az1 (by omega),az1 (atX _)]at hr
 refine⟨R,?_,hR,hn⟩
 rw[hs]
 have e:((hf h) b).bind agI=some (st,false,rows):=by show(h[b]?).bind agI=_;rw[hw];rfl
 exact aSC e hl.symm hr
theorem a3D{H:aaP}{v:AV}{nn:Bool}{l:List Int}{R:List Nat}(c:Int)(h:rd 6 (hf H) v=some (slv 1 true nn (l.map iv),R))(hl:l.length≤1000):
 (∃fs,ftC om' H (some (.func (.func 32) [] [])) (some [.agg [v,.int .i64 c]])=some fs∧∀x∈fs,∃b,b<H.length∧x=.blk b)∧
 ((slv 1 true nn (l.map iv)=.nils∧cl om' H (some (.func (.func 32) [] [])) (some [.agg [v,.int .i64 c]])=some (.ret (.agg [.nils,.int .i64 c]),[]))∨(slv 1 true nn (l.map iv)=.imm 1 true (l.map iv)∧cl om' H (some (.func (.func 32) [] [])) (some [.agg [v,.int .i64 c]])=some (.ret (.agg [.slr 1 H.length 0 l.length,.int .i64 c]),[.new H.length (.live 1 true false (l.map iv))]))):=by
 have hg:rd 7 (hf H) (.agg [v,.int .i64 c])=some (.agg [slv 1 true nn (l.map iv),.int .i64 c],R++([]++[])):=aI5 (agK h (agK (aoL ..) as0))
 have ha:afG (rdV H) [.agg [v,.int .i64 c]]=some [.agg [slv 1 true nn (l.map iv),.int .i64 c]]:=by
  have:rdV H (.agg [v,.int .i64 c])=some (.agg [slv 1 true nn (l.map iv),.int .i64 c]):=auF (by omega) hg
  simp only[arT,asP,this,aqO]
 have hp:[AV.agg [slv 1 true nn (l.map iv),.int .i64 c]].all (ahO 8)=true:=by simp[avG,avY,ap4]
 have hk:pkd om' 32 [.agg [v,.int .i64 c]]:=awP rfl
 refine⟨?_,?_⟩
 ·obtain⟨fs,h1,h2⟩:=aBW (O:=om') (f:=32) hk ha hp
  refine⟨fs,h1,fun x hx=>?_⟩
  obtain⟨b,hb,rfl⟩:=h2 x hx
  simp only[av7,av8,aoG]at hb
  obtain⟨z,hz⟩:=aK6 (by omega) hg b (ayO hg b hb)
  exact⟨b,as5 hz,rfl⟩
 ·rcases awL 1 true nn (l.map iv)with⟨_,e1,e⟩|e
  ·left
   rw[e]at ha hp
   exact⟨e,av9 hk ha hp (aZR c) rfl rfl⟩
  ·right
   rw[e]at ha hp
   refine⟨e,?_⟩
   rw[aDJ hk,aE6 ha hp,a0X c hl]
   simp[crR,Out.v,alC,afG,ao8,amM,Out.map,hasImm,acP.hasImm,CB.hasImm]
theorem TAt.scR{H:aaP}{p:Nat}{m:ad5}{st ag:Int}{l:List ac6}{w:Bool}{sv vv mv ov sc:AV}{Rm Rs:List Nat}{rows:List (List AV)}(T:TAt H p m st ag l w sv vv mv ov sc Rm Rs rows)(y:ac6)(hl:y.reads.length≤maxLen){rv:AV}{R:List Nat}(hr:rd 6 (hf H) rv=some (slv 1 true y.nn (y.reads.map iv),R)):
 cl om' H (some (.func (.func 29) [] [])) (some [.agg [sv,vv,mv,.int .i64 m.states,.int .i64 m.cmds,.int .i64 m.bgn,ov],.agg [rv,.int .i64 y.cmd]])=some (.ret (.bool (ar7 m y)),[]):=by
 have hs:rdV H (.agg [rv,.int .i64 y.cmd])=some (.agg y.cells):=auF (d:=7) (by omega) (aI5 (agK hr (agK (aoL ..) as0)))
 exact av9 (vs:=[.agg m.cells,.agg y.cells]) (awP rfl) (by simp only[arT,asP,T.arg,hs,aqO]) (by simp[avG,avY,ap4,ac6.cells]) (aOC m y hl) rfl rfl
theorem TAt.voR{H:aaP}{p:Nat}{m:ad5}{st ag:Int}{l:List ac6}{w:Bool}{sv vv mv ov sc:AV}{Rm Rs:List Nat}{rows:List (List AV)}(T:TAt H p m st ag l w sv vv mv ov sc Rm Rs rows){r:List Int}{nn:Bool}(hl:r.length=m.sens.length)(hs:m.small)(hv:an4 m=true){rv:AV}{R:List Nat}(hr:rd 6 (hf H) rv=some (slv 1 true nn (r.map iv),R)):
 cl om' H (some (.func (.func 31) [] [])) (some [.agg [sv,vv,mv,.int .i64 m.states,.int .i64 m.cmds,.int .i64 m.bgn,ov],rv])=some (.ret (.int .i64 (ar1 m r m.votes 0 0)),[])∧
 ∃fs,ftC om' H (some (.func (.func 31) [] [])) (some [.agg [sv,vv,mv,.int .i64 m.states,.int .i64 m.cmds,.int .i64 m.bgn,ov],rv])=some fs:=by
 have hs1:rdV H rv=some (slv 1 true nn (r.map iv)):=auF (by omega) hr
 have ha:afG (rdV H) [.agg [sv,vv,mv,.int .i64 m.states,.int .i64 m.cmds,.int .i64 m.bgn,ov],rv]=some [.agg m.cells,slv 1 true nn (r.map iv)]:=by simp only[arT,asP,T.arg,hs1,aqO]
 have hp:[AV.agg m.cells,slv 1 true nn (r.map iv)].all (ahO 8)=true:=by simp[avG,avY,ap4]
 exact⟨av9 (awP rfl) ha hp (aM0 m hl hs (aJO hv)) rfl rfl,by obtain⟨fs,h,_⟩:=aBW (O:=om') (f:=31) (awP rfl) ha hp;exact⟨fs,h⟩⟩
theorem aW0{H:aaP}{p:Nat}{m:ad5}{st ag:Int}{l:List ac6}{w:Bool}{sv vv mv ov sc:AV}{Rm Rs:List Nat}{rows:List (List AV)}(T:TAt H p m st ag l w sv vv mv ov sc Rm Rs rows)(hq:ajX H=true)(y:ac6)(hs:m.small)(hv:an4 m=true)(hl:y.reads.length≤1000)(hb1:ar7 m y=true)(h2:l.length<200){rv:AV}{Rr:List Nat}(hrv:rd 6 (hf H) rv=some (slv 1 true y.nn (y.reads.map iv),Rr)):
 ShQ om' 9 [.ptr p 0 0,.agg [rv,.int .i64 y.cmd]] H fun o G=>∃sc' Rs' rows',o=.ret (.tup [.int .i64 (aqM m st ag y).1,.int .i64 0])∧TAt G p m (aqM m st ag y).1 (aqM m st ag y).2 (l++[y]) true sv vv mv ov sc' Rm Rs' rows'∧
  ajX G=true∧aqH (p::scB sc) H G∧(∀b∈scB sc,G[b]?=some .dead)∧(∀a b r n,sc'=.slr a b r n→H.length≤b)∧∀b∈Rs',b∈Rs∨H.length≤b:=by
 have hr:y.reads.length=m.sens.length:=by
  simp only[ar7,alV]at hb1
  exact aI2 hb1.1
 have T1:=T.app [.live 2 false false [[rv,.int .i64 y.cmd]]]
 have hc:=T1.cell
 obtain⟨q,hqq⟩:∃q,Fn.func 28=q:=⟨_,rfl⟩
 have hn:=aHL hc (aqG hq rfl)
 rw[hqq]at hn
 obtain⟨q2,hq2⟩:∃q,Fn.func 29=q:=⟨_,rfl⟩
 have hrv1:rd 6 (hf (H++[.live 2 false false [[rv,.int .i64 y.cmd]]])) rv=some (slv 1 true y.nn (y.reads.map iv),Rr):=aqL hrv fun b hb z hz=>by
  show((H++_)[b]?).bind agI=_
  rw[ahB (as5 hz)];exact hz
 have hRp:∀b∈Rr,b≠p∧b<H.length:=fun b hb=>by
  obtain⟨z,hz⟩:=aK6 (by omega) hrv b hb
  refine⟨fun e=>?_,as5 hz⟩
  subst e
  rcases awK hrv with⟨e,_⟩|⟨b',rows',e,hz',_⟩
  ·rw[e]at hrv;simp[rd]at hrv;rw[hrv.2]at hb;cases hb
  ·have hbb:b=b':=by
    rw[e]at hrv
    simp only[rd,hz',Option.bind_some,cond_true]at hrv
    split at hrv
    ·simp at hrv;rw[←hrv.2]at hb;simpa using hb
    ·cases hrv
   subst hbb
   have hz2:(H[b]?).bind agI=_:=hz'
   rw[T.cell]at hz2;cases hz2
 obtain⟨p6,p6'⟩:=auR hrv
 have hs1:=T1.scR y (by unfold maxLen;omega) hrv1
 rw[hq2,hb1]at hs1
 obtain⟨q3,hq3⟩:∃q,Fn.func 31=q:=⟨_,rfl⟩
 obtain⟨hv1,fv,hv2⟩:=T1.voR (nn:=y.nn) hr hs hv hrv1
 rw[hq3]at hv1 hv2
 obtain⟨q4,hq4⟩:∃q,Fn.func 30=q:=⟨_,rfl⟩
 obtain⟨hp1,fp,hp2⟩:=aWJ T1 (ar1 m y.reads m.votes 0 0) y.cmd hs hv
 rw[hq4]at hp1 hp2
 obtain⟨⟨p1,p1'⟩,⟨p2,p2'⟩,⟨p3,p3'⟩,⟨p4,p4'⟩⟩:=T.cs
 obtain⟨p5,p5'⟩:=T.sc
 have hln:ln Tryz.prog 28 (some sc)=some (.ret (.int .i64 rows.length),[]):=T.own.ln Tryz.underlying28
 rw[T.rl]at hln
 have hge:decide ((200:Int)≤(l.length:Int))=false:=decide_eq_false (by omega)
 have hpl:=alB T.cell
 have hse:=aGG (h:=H) hpl
 generalize hst:(apP st ag (ar1 m y.reads m.votes 0 0) y.cmd m.moves).1=st' at *
 generalize hag:(apP st ag (ar1 m y.reads m.votes 0 0) y.cmd m.moves).2=ag' at *
 have hst':(aqM m st ag y).1=st':=hst
 have hag':(aqM m st ag y).2=ag':=hag
 rw[hst',hag']
 generalize hCC:(.live 11 false true [[sv,vv,mv,.int .i64 m.states,.int .i64 m.cmds,.int .i64 m.bgn,ov,.int .i64 st',.int .i64 ag',sc,.bool true]]:CB)=c0
 have hg0:∀l,(H.set p c0++l)[p]?=some (.live 11 false true [[sv,vv,mv,.int .i64 m.states,.int .i64 m.cmds,.int .i64 m.bgn,ov,.int .i64 st',.int .i64 ag',sc,.bool true]]):=fun l=>by rw[hCC,ahB (by simpa using hpl),atV hpl]
 have own':aEQ 0 2 false rows sc (H.set p c0):=by
  rcases T.own with h|⟨b,w',h1,h3⟩
  ·exact .inl h
  ·exact .inr ⟨b,w',h1,by rw[atT (fun e=>(T.ds _ _ _ _ h1).1 (by omega))];exact h3⟩
 have hap:=fun(q:aaP) (r:List AV)=>aYG own' (pre:=[]) rfl q r [] (by have:=T.rl;simp;omega)
 have hhp:=fun(q:aaP) (r:List (List AV)) (ba:Nat)=>aTW own' (pre:=[]) rfl q 2 false r ba
 simp only[aeG,auW,aAQ,azT,an9,Nat.reduceAdd,T.rl]at hap hhp
 have hkl:∀l,(kl 0 sc (H.set p c0)++l)[p]?=some (.live 11 false true [[sv,vv,mv,.int .i64 m.states,.int .i64 m.cmds,.int .i64 m.bgn,ov,.int .i64 st',.int .i64 ag',sc,.bool true]]):=fun l=>by
  rw[hCC,aDV l (by simpa using hpl) (fun a c r n e=>(T.ds a c r n e).1),atV hpl]
 have hks:∀l c,(kl 0 sc (H.set p c0)++l).set p c=(kl 0 sc (H.set p c0)).set p c++l:=fun l c=>aGG (by rw[arR];simpa using hpl) l c
 have hkp:∀l c,((kl 0 sc (H.set p c0)).set p c++l)[p]?=some c:=fun l c=>by
  rw[ahB (by rw[an9,arR];simpa using hpl),atV (by rw[arR];simpa using hpl)]
 refine a1N rfl Tryz.func9 rfl rfl ?_
 simp only[Tryz.f9]
 refine hid (fun KK iN hK=>?_)
 (have hb:=trivial;with_reducible repeat' (first|simp only[hb,Va.down,seval,TY9.down,hc,hqq,hn,hq2,hs1,hq3,hv1,hv2,hq4,hp1,hp2,hln,hge,hse,aGE,p1,p2,p3,p4,p5,p6,p1',p2',p3',p4',p5',p6',aoU,apD,apM,ap1]|refine fsp ?_ ?_<;>intro hb|refine fdq ?_|fail))
 refine asZ id [([],[]),([],[]),([],[]),([],[]),([],[.all]),([],[]),([],[]),([],[]),([],[.all]),([],[]),([],[]),([],[]),([],[.all]),([],[]),([],[.all]),([],[.all]),([],[]),([],[.all]),([],[]),([],[.all]),([],[]),([],[]),([.all],[.all])] (by kernel_rfl) (by simp[au9]) (fun _=>?_)
 rw[hCC]
 have bl:∀c,((kl 0 sc (H.set p c0)).set p c).length=H.length:=fun c=>by rw[an9,arR,an9]
 have bp:∀c,((kl 0 sc (H.set p c0)).set p c)[p]?=some c:=fun c=>atV (by rw[arR];simpa using hpl)
 have bo:∀c b,b<H.length→b∉p::scB sc→((kl 0 sc (H.set p c0)).set p c)[b]?=H[b]?:=fun c b hb hn=>by
  have h1:p≠b:=fun e=>hn (by rw[e];exact auT ..)
  rw[atT h1]
  have:=aDV (v:=sc) (H:=H.set p c0) (b:=b) [] (by simpa using hb) (fun a d r n e h=>hn (by rw[e,←h];exact azS _ (auT ..)))
  rw[aoG]at this
  rw[this,atT h1]
 have bd:∀c,∀b∈scB sc,((kl 0 sc (H.set p c0)).set p c)[b]?=some .dead:=fun c b hb=>by
  rcases T.own with⟨_,e⟩|⟨b',w',e,hg⟩
  ·rw[e]at hb;simp[scB]at hb
  ·have hd:=T.ds _ _ _ _ e
   have hlt:=alB hg
   have hbb:b=b'+0:=by rw[e]at hb;simpa [scB]using hb
   rw[atT (fun e=>hd.1 (by omega))]
   rw[e]
   show((H.set p c0).set (b'+0-0) .dead)[b]?=_
   rw[hbb,show b'+0-0=b'+0 by omega,atV (by simpa using hlt)]
 have hrv2:rd 6 (hf (H.set p c0++[.live 2 false false [[rv,.int .i64 y.cmd]]])) rv=some (slv 1 true y.nn (y.reads.map iv),Rr):=aqL hrv fun b hb z hz=>by
  show((H.set p c0++_)[b]?).bind agI=_
  have h3:=hRp b hb
  rw[ahB (by rw[an9];exact h3.2),atT (fun e=>h3.1 e.symm)];exact hz
 obtain⟨q5,hq5⟩:∃q,Fn.func 32=q:=⟨_,rfl⟩
 obtain⟨⟨fs,hft,hfs⟩,hcl⟩:=a3D y.cmd hrv2 hl
 rw[hq5]at hft hcl
 simp only[aAQ,an9,auW,azT,Nat.zero_add]at hcl hfs
 rcases hcl with⟨e3,hcl⟩|⟨e3,hcl⟩
 ·(have hb:=trivial;with_reducible repeat' (first|simp only[hb,Va.down,seval,TY9.down,hg0,aDY,azH,hap,hhp,hkl,hks,hkp,hq5,hft,hcl,awO,an9,aGE,p6,p6',aoU,apD,apM,ap1]|refine fsp ?_ ?_<;>intro hb|refine fdq ?_|fail))
  refine asZ (fun b=>if b≤H.length then 0 else 1) [([],[]),([],[]),([],[]),([],[]),([],[.cells 0 9 1]),([],[.cells 0 0 2]),([],[.blk 0]),([.blk 1],[]),([.all],[.all]),([],[]),([],[]),([.all],[.all])] (by kernel_rfl) ?_ (fun _=>?_)
  ·have:p≤H.length:=by omega
   simp[au9,mfF,acP.foot,this]
   intro x hx
   obtain⟨b,hb1,rfl⟩:=hfs x hx
   simp[mfF];omega
  refine hK _ ?_
  rw[aGV]
  refine aHH (vs:=[.int .i64 st',.int .i64 0]) (by simp only[Va.down,seval,TY9.down]) ?_
  obtain⟨sc',Rs',rows',k1,k2⟩:=aJP T hq y (st':=st') (ag':=ag') (L:=[.live 2 false false [[rv,.int .i64 y.cmd]],.live 2 false false [[.nils,.int .i64 y.cmd]]]) (r:=[.nils,.int .i64 y.cmd]) (R1:=[]) (rfl) (bl _) (bp _) (bo _) (bd _) (by rw[show y.cells=[slv 1 true y.nn (y.reads.map iv),.int .i64 y.cmd]from rfl,e3];exact agK aUM (agK (aoL ..) as0)) (by simp) rfl
  exact⟨sc',Rs',rows',rfl,k1,k2⟩
 ·(have hb:=trivial;with_reducible repeat' (first|simp only[hb,Va.down,seval,TY9.down,hg0,aDY,azH,hap,hhp,hkl,hks,hkp,hq5,hft,hcl,awO,an9,aGE,p6,p6',aoU,apD,apM,ap1]|refine fsp ?_ ?_<;>intro hb|refine fdq ?_|fail))
  refine asZ (fun b=>if b≤H.length then 0 else 1) [([],[]),([],[]),([],[]),([],[]),([],[.cells 0 9 1]),([],[.cells 0 0 2]),([.blk 1],[.blk 0]),([.blk 1],[]),([.all],[.all]),([],[]),([],[]),([.all],[.all])] (by kernel_rfl) ?_ (fun _=>?_)
  ·have:p≤H.length:=by omega
   simp[au9,mfF,acP.foot,this]
   intro x hx
   obtain⟨b,hb1,rfl⟩:=hfs x hx
   simp[mfF];omega
  refine hK _ ?_
  rw[aGV]
  refine aHH (vs:=[.int .i64 st',.int .i64 0]) (by simp only[Va.down,seval,TY9.down]) ?_
  obtain⟨sc',Rs',rows',k1,k2⟩:=aJP T hq y (st':=st') (ag':=ag') (L:=[.live 2 false false [[rv,.int .i64 y.cmd]],.live 1 true false (y.reads.map iv),.live 2 false false [[.slr 1 (H.length+1) 0 y.reads.length,.int .i64 y.cmd]]]) (r:=[.slr 1 (H.length+1) 0 y.reads.length,.int .i64 y.cmd]) (R1:=[H.length+1]) (rfl) (bl _) (bp _) (bo _) (bd _) (by
   rw[show y.cells=[slv 1 true y.nn (y.reads.map iv),.int .i64 y.cmd]from rfl,e3]
   refine agK (apI ?_ (by simp)) (agK (aoL ..) as0)
   show((_++_)[H.length+1]?).bind agI=_
   rw[aq0 (by rw[bl];omega),bl,ayL];rfl) (by simp) rfl
  exact⟨sc',Rs',rows',rfl,k1,k2⟩
end Go.Proofs.YtfkokgjfpojeoaaGreatDoor
