/- The functions of the layer, walked. -/
import Derived.Test.YtfkokgjfpojeoaaGreatDoorPartAD
open List renaming getElem?_set_ne→acQ,length_map→aeG,mem_map→alV,replicate→am7,length_replicate→an9,mem_of_getElem?→aoD,mem_append_left→aoG,mem_append_right→aoU,mem_append→apD,mem_cons→apM,getElem?_append_right→aq0,mem_or_eq_of_mem_set→arI,getElem?_eq_getElem→atV,mem_cons_self→atY,map_eq_nil_iff→at0
open Int renaming lt_irrefl→ahB
open Option renaming bind_eq_some_iff→aoF,getD_some→atT
open Nat renaming le_refl→ap1,sub_self→atX
set_option linter.unusedSimpArgs false
set_option linter.unusedVariables false
namespace Go.Proofs.YtfkokgjfpojeoaaGreatDoor
open Go.Ev Go
set_option maxRecDepth 100000
set_option maxHeartbeats 16000000
def aED(st:Nat)(r:List AV):Prop:=r.length=st∧(st=2→∃a b,r=[a,.bool b])
def Shp(H:aaP)(n st:Nat)(v:AV)(k:Nat):Prop:=
 k≤1000∧((v=.nils∧k=0)∨∃b w rows,v=.slr st b 0 k∧2≤b∧b<n∧H[b]?=some (.live st true w rows)∧rows.length=k∧∀r∈rows,aED st r)
def awN(H:aaP)(n st st' pos:Nat)(v:AV)(k:Nat):Prop:=
 k≤1000∧((v=.nils∧k=0)∨∃b w rows,v=.slr st b 0 k∧2≤b∧b<n∧H[b]?=some (.live st false w rows)∧rows.length=k∧∀r∈rows,r.length=st∧∃v0 kk,r[pos]?=some v0∧Shp H n st' v0 kk)
theorem aJ1{H:aaP}{b:Nat}{c c0:CB}(h:H[b]?=some c0):(H.set b c)[b]?=some c:=List.getElem?_set_self (alB h)
theorem Shp.set{H:aaP}{n st k b st0:Nat}{v:AV}{w:Bool}{rows rows':List (List AV)}(S:Shp H n st v k)(hb:H[b]?=some (.live st0 true w rows))(hl:rows'.length=rows.length)(hr:∀r∈rows',aED st0 r):Shp (H.set b (.live st0 true true rows')) n st v k:=by
 obtain⟨h0,h|⟨b',w',rows1,h1,h2,h3,h4,h5,h6⟩⟩:=S
 ·exact⟨h0,.inl h⟩
 ·by_cases e:b=b'
  ·subst e
   rw[hb]at h4;cases h4
   exact⟨h0,.inr ⟨b,true,rows',h1,h2,h3,aJ1 hb,by omega,hr⟩⟩
  ·exact⟨h0,.inr ⟨b',w',rows1,h1,h2,h3,by rw[acQ e];exact h4,h5,h6⟩⟩
theorem awN.set{H:aaP}{n st st' pos k b st0:Nat}{v:AV}{w:Bool}{rows rows':List (List AV)}(S:awN H n st st' pos v k)(hb:H[b]?=some (.live st0 true w rows))(hl:rows'.length=rows.length)(hr:∀r∈rows',aED st0 r):awN (H.set b (.live st0 true true rows')) n st st' pos v k:=by
 obtain⟨h0,h|⟨b',w',rows1,h1,h2,h3,h4,h5,h6⟩⟩:=S
 ·exact⟨h0,.inl h⟩
 ·have e:b≠b':=fun e=>by subst e;rw[hb]at h4;cases h4
  refine⟨h0,.inr ⟨b',w',rows1,h1,h2,h3,by rw[acQ e];exact h4,h5,fun r hr1=>?_⟩⟩
  obtain⟨k1,v0,kk,k2,k3⟩:=h6 r hr1
  exact⟨k1,v0,kk,k2,k3.set hb hl hr⟩
theorem Shp.setN{H:aaP}{n st k b st0:Nat}{v:AV}{w:Bool}{rows:List (List AV)}{c:CB}(S:Shp H n st v k)(hb:H[b]?=some (.live st0 false w rows)):Shp (H.set b c) n st v k:=by
 obtain⟨h0,h|⟨b',w',rows1,h1,h2,h3,h4,h5,h6⟩⟩:=S
 ·exact⟨h0,.inl h⟩
 ·have e:b≠b':=fun e=>by subst e;rw[hb]at h4;cases h4
  exact⟨h0,.inr ⟨b',w',rows1,h1,h2,h3,by rw[acQ e];exact h4,h5,h6⟩⟩
theorem awN.setN{H:aaP}{n st st' pos k b st0:Nat}{v:AV}{w w2:Bool}{rows rows':List (List AV)}(S:awN H n st st' pos v k)(hb:H[b]?=some (.live st0 false w rows))(hl:rows'.length=rows.length)
 (hr:st=st0→∀r'∈rows',∃r∈rows,r'.length=r.length∧r'[pos]?=r[pos]?):awN (H.set b (.live st0 false w2 rows')) n st st' pos v k:=by
 obtain⟨h0,h|⟨b',w',rows1,h1,h2,h3,h4,h5,h6⟩⟩:=S
 ·exact⟨h0,.inl h⟩
 ·by_cases e:b=b'
  ·subst e
   rw[hb]at h4;cases h4
   refine⟨h0,.inr ⟨b,w2,rows',h1,h2,h3,aJ1 hb,by omega,fun r' hr'=>?_⟩⟩
   obtain⟨r,q1,q2,q3⟩:=hr rfl r' hr'
   obtain⟨k1,v0,kk,k2,k3⟩:=h6 r q1
   exact⟨by omega,v0,kk,by rw[q3];exact k2,k3.setN hb⟩
  ·refine⟨h0,.inr ⟨b',w',rows1,h1,h2,h3,by rw[acQ e];exact h4,h5,fun r hr1=>?_⟩⟩
   obtain⟨k1,v0,kk,k2,k3⟩:=h6 r hr1
   exact⟨k1,v0,kk,k2,k3.setN hb⟩
theorem Shp.app{H:aaP}{n st k:Nat}{v:AV}(S:Shp H n st v k)(L:aaP):Shp (H++L) n st v k:=by
 obtain⟨h0,h|⟨b',w',rows1,h1,h2,h3,h4,h5,h6⟩⟩:=S
 ·exact⟨h0,.inl h⟩
 ·exact⟨h0,.inr ⟨b',w',rows1,h1,h2,h3,ahZ h4 L,h5,h6⟩⟩
theorem awN.app{H:aaP}{n st st' pos k:Nat}{v:AV}(S:awN H n st st' pos v k)(L:aaP):awN (H++L) n st st' pos v k:=by
 obtain⟨h0,h|⟨b',w',rows1,h1,h2,h3,h4,h5,h6⟩⟩:=S
 ·exact⟨h0,.inl h⟩
 ·refine⟨h0,.inr ⟨b',w',rows1,h1,h2,h3,ahZ h4 L,h5,fun r hr=>?_⟩⟩
  obtain⟨k1,v0,kk,k2,k3⟩:=h6 r hr
  exact⟨k1,v0,kk,k2,k3.app L⟩
theorem Shp.ln{H:aaP}{n st k:Nat}{v:AV}(S:Shp H n st v k){ty e:TypeId}(hu:Tryz.prog.underlying ty=some (.slice e)):ln Tryz.prog ty (some v)=some (.ret (.int .i64 (k:Nat)),[]):=by
 obtain⟨h0,⟨rfl,rfl⟩|⟨b',w',rows1,rfl,h2,h3,h4,h5,h6⟩⟩:=S
 ·simp[Ev.ln,az0,hu,r1]
 ·simp[Ev.ln,az0,hu,r1]
theorem awN.ln{H:aaP}{n st st' pos k:Nat}{v:AV}(S:awN H n st st' pos v k){ty e:TypeId}(hu:Tryz.prog.underlying ty=some (.slice e)):ln Tryz.prog ty (some v)=some (.ret (.int .i64 (k:Nat)),[]):=by
 obtain⟨h0,⟨rfl,rfl⟩|⟨b',w',rows1,rfl,h2,h3,h4,h5,h6⟩⟩:=S
 ·simp[Ev.ln,az0,hu,r1]
 ·simp[Ev.ln,az0,hu,r1]
def THi(H:aaP)(n j:Nat)(m:ad5)(st ag:Int)(l:List ac6):Prop:=∃w sv vv mv ov sc Rm Rs rows,TAt H j m st ag l w sv vv mv ov sc Rm Rs rows∧n≤j∧(∀b∈Rm++Rs,n≤b)∧∀b∈scB sc,n≤b
theorem THi.keep{H H':aaP}{n j:Nat}{m:ad5}{st ag:Int}{l:List ac6}(T:THi H n j m st ag l)(h:∀b c,n≤b→H[b]?=some c→H'[b]?=some c):THi H' n j m st ag l:=by
 obtain⟨w,sv,vv,mv,ov,sc,Rm,Rs,rows,T,h1,h2,h3⟩:=T
 have agr:∀R:List Nat,(∀b∈R,b∈Rm++Rs)→Agr R (hf H) (hf H'):=fun R hR b hb z hz=>by
  obtain⟨c,k1,k2⟩:=aoF.1 hz
  show(H'[b]?).bind agI=_
  rw[h b c (h2 b (hR b hb)) k1];exact k2
 refine⟨w,sv,vv,mv,ov,sc,Rm,Rs,rows,⟨h j _ h1 T.cell,aq7 T.mach (agr _ fun b hb=>aoG _ hb),?_,aqE T.scs (agr _ fun b hb=>aoU _ hb),T.nil,T.dp,T.ds⟩,h1,h2,h3⟩
 rcases T.own with k|⟨b',w',e,hg⟩
 ·exact .inl k
 ·exact .inr ⟨b',w',e,h b' _ (h3 b' (by rw[e];simp[scB])) hg⟩
structure avQ(H:aaP)(n j:Nat)(m m':ad5)(sv vv mv ov:AV)(nS nV nM nO:Nat)(st ag:Int)(l:List ac6):Prop where
 b0:∃w,H[0]?=some (.live 7 false w [[slv 3 true m.nS (m.sens.map ak7.cells),slv 4 false m.nV (m.votes.map acT.cells),slv 5 false m.nM (m.moves.map acS.cells),.int .i64 m.states,.int .i64 m.cmds,.int .i64 m.bgn,slv 1 true m.nO (m.opn.map iv)]])
 b1:∃w,H[1]?=some (.live 7 false w [[sv,vv,mv,.int .i64 m.states,.int .i64 m.cmds,.int .i64 m.bgn,ov]])
 s:Shp H n 3 sv nS
 v:awN H n 4 1 0 vv nV
 x:awN H n 5 2 2 mv nM
 o:Shp H n 1 ov nO
 t:THi H n j m' st ag l
 q:ajX H=true
theorem avQ.set{H:aaP}{n j:Nat}{m m':ad5}{sv vv mv ov:AV}{nS nV nM nO:Nat}{st ag:Int}{l:List ac6}(G:avQ H n j m m' sv vv mv ov nS nV nM nO st ag l){b st0:Nat}{w:Bool}{rows rows':List (List AV)}(h2:2≤b)(hn:b<n)(hb:H[b]?=some (.live st0 true w rows))(hl:rows'.length=rows.length)(hr:∀r∈rows',aED st0 r):
 avQ (H.set b (.live st0 true true rows')) n j m m' sv vv mv ov nS nV nM nO st ag l:=by
 obtain⟨⟨w0,b0⟩,⟨w1,b1⟩,s,v,x,o,t,q⟩:=G
 exact⟨⟨w0,by rw[acQ (by omega)];exact b0⟩,⟨w1,by rw[acQ (by omega)];exact b1⟩,s.set hb hl hr,v.set hb hl hr,x.set hb hl hr,o.set hb hl hr,t.keep fun b' c h3 h4=>by rw[acQ (by omega)];exact h4,ayE q b rfl⟩
theorem avQ.setN{H:aaP}{n j:Nat}{m m':ad5}{sv vv mv ov:AV}{nS nV nM nO:Nat}{st ag:Int}{l:List ac6}(G:avQ H n j m m' sv vv mv ov nS nV nM nO st ag l){b st0:Nat}{w:Bool}{rows rows':List (List AV)}(h2:2≤b)(hn:b<n)(hb:H[b]?=some (.live st0 false w rows))(hl:rows'.length=rows.length)
 (h4:st0=4→∀r'∈rows',∃r∈rows,r'.length=r.length∧r'[0]?=r[0]?) (h5:st0=5→∀r'∈rows',∃r∈rows,r'.length=r.length∧r'[2]?=r[2]?):
 avQ (H.set b (.live st0 false true rows')) n j m m' sv vv mv ov nS nV nM nO st ag l:=by
 obtain⟨⟨w0,b0⟩,⟨w1,b1⟩,s,v,x,o,t,q⟩:=G
 exact⟨⟨w0,by rw[acQ (by omega)];exact b0⟩,⟨w1,by rw[acQ (by omega)];exact b1⟩,s.setN hb,v.setN hb hl (fun e=>h4 e.symm),x.setN hb hl (fun e=>h5 e.symm),o.setN hb,t.keep fun b' c h3 h4=>by rw[acQ (by omega)];exact h4,ayE q b rfl⟩
theorem aZK(h:aaP)(nn:Bool){rows:List (List AV)}(hl:rows.length≤1000):apO Tryz.prog 22 h (some .nils) (some (slv 3 true nn rows))=if rows=[]then some (.ret .nils,[])else some (.ret (.slr 3 h.length 0 rows.length),[.new h.length (.live 3 true false rows)]):=by
 cases rows with
 |nil=>
  rw[if_pos rfl]
  cases nn
  ·show apO _ _ h (some .nils) (some .nils)=_
   simp only[TY4.down,Va.down,seval]
  ·show apO _ _ h (some .nils) (some (.imm 3 true []))=_
   simp only[TY4.down,Va.down,seval]
 |cons r l=>
  have h39:(l.length+1≤549755813888)=True:=eq_true (by simp at hl;omega)
  rw[if_neg (by simp),show slv 3 true nn (r::l)=.imm 3 true (r::l)from rfl]
  simp only[TY4.down,Va.down,seval,h39]
theorem aYO(h:aaP)(nn:Bool){rows:List (List AV)}(hl:rows.length≤1000):apO Tryz.prog 23 h (some .nils) (some (slv 4 false nn rows))=if rows=[]then some (.ret .nils,[])else some (.ret (.slr 4 h.length 0 rows.length),[.new h.length (.live 4 false false rows)]):=by
 cases rows with
 |nil=>
  rw[if_pos rfl]
  cases nn
  ·show apO _ _ h (some .nils) (some .nils)=_
   simp only[TY4.down,Va.down,seval]
  ·show apO _ _ h (some .nils) (some (.imm 4 false []))=_
   simp only[TY4.down,Va.down,seval]
 |cons r l=>
  have h39:(l.length+1≤549755813888)=True:=eq_true (by simp at hl;omega)
  rw[if_neg (by simp),show slv 4 false nn (r::l)=.imm 4 false (r::l)from rfl]
  simp only[TY4.down,Va.down,seval,h39]
theorem aYC(h:aaP)(nn:Bool){rows:List (List AV)}(hl:rows.length≤1000):apO Tryz.prog 24 h (some .nils) (some (slv 5 false nn rows))=if rows=[]then some (.ret .nils,[])else some (.ret (.slr 5 h.length 0 rows.length),[.new h.length (.live 5 false false rows)]):=by
 cases rows with
 |nil=>
  rw[if_pos rfl]
  cases nn
  ·show apO _ _ h (some .nils) (some .nils)=_
   simp only[TY4.down,Va.down,seval]
  ·show apO _ _ h (some .nils) (some (.imm 5 false []))=_
   simp only[TY4.down,Va.down,seval]
 |cons r l=>
  have h39:(l.length+1≤549755813888)=True:=eq_true (by simp at hl;omega)
  rw[if_neg (by simp),show slv 5 false nn (r::l)=.imm 5 false (r::l)from rfl]
  simp only[TY4.down,Va.down,seval,h39]
theorem aLG(h:aaP)(nn:Bool){rows:List (List AV)}(hl:rows.length≤1000):apO Tryz.prog 25 h (some .nils) (some (slv 1 true nn rows))=if rows=[]then some (.ret .nils,[])else some (.ret (.slr 1 h.length 0 rows.length),[.new h.length (.live 1 true false rows)]):=by
 cases rows with
 |nil=>
  rw[if_pos rfl]
  cases nn
  ·show apO _ _ h (some .nils) (some .nils)=_
   simp only[TY4.down,Va.down,seval]
  ·show apO _ _ h (some .nils) (some (.imm 1 true []))=_
   simp only[TY4.down,Va.down,seval]
 |cons r l=>
  have h39:(l.length+1≤549755813888)=True:=eq_true (by simp at hl;omega)
  rw[if_neg (by simp),show slv 1 true nn (r::l)=.imm 1 true (r::l)from rfl]
  simp only[TY4.down,Va.down,seval,h39]
theorem aW7(h:aaP)(nn:Bool){rows:List (List AV)}(hl:rows.length≤1000):apO Tryz.prog 50 h (some .nils) (some (slv 2 true nn rows))=if rows=[]then some (.ret .nils,[])else some (.ret (.slr 2 h.length 0 rows.length),[.new h.length (.live 2 true false rows)]):=by
 cases rows with
 |nil=>
  rw[if_pos rfl]
  cases nn
  ·show apO _ _ h (some .nils) (some .nils)=_
   simp only[TY4.down,Va.down,seval]
  ·show apO _ _ h (some .nils) (some (.imm 2 true []))=_
   simp only[TY4.down,Va.down,seval]
 |cons r l=>
  have h39:(l.length+1≤549755813888)=True:=eq_true (by simp at hl;omega)
  rw[if_neg (by simp),show slv 2 true nn (r::l)=.imm 2 true (r::l)from rfl]
  simp only[TY4.down,Va.down,seval,h39]
def cAt:Code→List Bool→Code
 |c,[]=>c
 | .seq a _,false::p=>cAt a p
 | .seq _ b,true::p=>cAt b p
 |c,_::_=>c
def alJ(h:aaP):Prop:=∀c∈h,∃st fl w rows,c=.live st fl w rows
theorem alJ.app{h l:aaP}(a:alJ h)(b:alJ l):alJ (h++l):=fun c hc=>(apD.1 hc).elim (a c) (b c)
theorem alJ.set{h:aaP}(a:alJ h)(b st:Nat)(fl w:Bool)(rows:List (List AV)):alJ (h.set b (.live st fl w rows)):=fun c hc=>(arI hc).elim (a c) fun e=>⟨_,_,_,_,e⟩
theorem alJ.nil:alJ []:=fun c hc=>by cases hc
theorem alJ.one(st:Nat)(fl w:Bool)(rows:List (List AV)):alJ [.live st fl w rows]:=fun c hc=>by simp at hc;exact⟨_,_,_,_,hc⟩
def SlE{α:Type}(st:Nat)(f f2:α→List AV)(l:List α)(v:AV)(h0:aaP)(b i:Nat)(h:aaP):Prop:=
 (l=[]∧v=.nils∧aqH [] h0 h)∨(l≠[]∧v=.slr st b 0 l.length∧b<h0.length∧SJ st f f2 l h0 b i h)
def SlS{α:Type}(st:Nat)(f:α→List AV)(l:List α)(v:AV)(b:Nat)(h:aaP):Prop:=
 (l=[]∧v=.nils)∨(l≠[]∧v=.slr st b 0 l.length∧∃w,h[b]?=some (.live st false w (l.map f)))
theorem SlS.zero{α:Type}{st:Nat}{f f2:α→List AV}{l:List α}{v:AV}{b:Nat}{h:aaP}(S:SlS st f l v b h):SlE st f f2 l v h b 0 h:=by
 rcases S with⟨h1,h2⟩|⟨h1,h2,w,h3⟩
 ·exact .inl ⟨h1,h2,aqH.refl h⟩
 ·exact .inr ⟨h1,h2,alB h3,SJ.zero h3⟩
theorem SlE.keep{α:Type}{st:Nat}{f f2:α→List AV}{l:List α}{v:AV}{h0 h:aaP}{b i:Nat}(D:SlE st f f2 l v h0 b i h):aqH [b] h0 h:=by
 rcases D with⟨_,_,k⟩|⟨_,_,_,k⟩
 ·exact k.mono (fun y hy=>by simp at hy)
 ·exact k.keep
theorem ap2{α:Type}{f:α→List AV}{l:List α}{st:Nat}{fl nn:Bool}(h:l≠[]):slv st fl nn (l.map f)=.imm st fl (l.map f):=by
 cases l with
 |nil=>exact(h rfl).elim
 |cons a l=>rfl
theorem SlE.read{α:Type}{st:Nat}{f f2:α→List AV}{l:List α}{v:AV}{h0 h:aaP}{b:Nat}(D:SlE st f f2 l v h0 b l.length h):∃R,rd 5 (hf h) v=some (slv st false false (l.map f2),R)∧(∀x∈R,(x=b∧b<h0.length)∨(h0.length≤x∧x<h.length))∧R.length≤l.length+1:=by
 rcases D with⟨rfl,rfl,_⟩|⟨h1,h2,h3,S⟩
 ·exact⟨[],rfl,fun x hx=>by simp at hx,by simp⟩
 ·obtain⟨R,r1,r2,r3⟩:=S.done (nn:=false) (ap2 h1)
  exact⟨b::R,by rw[h2];exact r1,fun x hx=>by
   rcases apM.1 hx with rfl|hx
   ·exact .inl ⟨rfl,h3⟩
   ·exact .inr (r2 x hx),by simpa using r3⟩
theorem SlE.agr{α:Type}{st:Nat}{f f2:α→List AV}{l:List α}{v:AV}{h0 h:aaP}{b i:Nat}(D:SlE st f f2 l v h0 b i h){R:List Nat}(hR:∀x∈R,x<h0.length∧(b<h0.length→v≠.nils→x≠b)):Agr R (hf h0) (hf h):=by
 rcases D with⟨_,_,k⟩|⟨_,hv,hl,S⟩
 ·exact k.agr (fun x hx=>⟨(hR x hx).1,by simp⟩)
 ·exact S.keep.agr (fun x hx=>⟨(hR x hx).1,by simpa using (hR x hx).2 hl (by rw[hv];simp)⟩)
theorem SlS.mono{α:Type}{st b:Nat}{f:α→List AV}{l:List α}{v:AV}{h g:aaP}{X:List Nat}(o:SlS st f l v b h)(k:aqH X h g)(hb:b∉X):SlS st f l v b g:=by
 rcases o with h1|⟨h1,h2,w,h4⟩
 ·exact .inl h1
 ·exact .inr ⟨h1,h2,w,by rw[k.same b (alB h4) hb];exact h4⟩
theorem SlE.len{α:Type}{st:Nat}{f f2:α→List AV}{l:List α}{v:AV}{h0 h:aaP}{b i:Nat}(D:SlE st f f2 l v h0 b i h):v=.nils∧l.length=0∨v=.slr st b 0 l.length:=by
 rcases D with⟨h2,h3,_⟩|⟨_,h2,_,_⟩
 ·exact .inl ⟨h3,by rw[h2];rfl⟩
 ·exact .inr h2
theorem axH(st:Nat)(fl nn:Bool)(rows:List (List AV)):ftB (some (slv st fl nn rows))=[]:=by cases rows<;>cases nn<;>rfl
theorem au7:ftB (some .nils)=[]:=Eq.trans rfl rfl
theorem aRR(m:ad5)(hM:m.tiny){nn:Bool}{l:List ac6}(t:Tm)(h:aaP)(sv vv mv ov:AV)(vb mb:Nat)(Rs Ro:List Nat)(w1:Bool)
 (h1:t 1=slv 2 false nn (l.map ac6.cells)) (h2:t 2=.ptr 0 0 0) (h5:t 5=.ptr 1 0 0) (h0:h[0]?=some (.live 7 false false [[slv 3 true m.nS (m.sens.map ak7.cells),slv 4 false m.nV (m.votes.map acT.cells),slv 5 false m.nM (m.moves.map acS.cells),.int .i64 m.states,.int .i64 m.cmds,.int .i64 m.bgn,slv 1 true m.nO (m.opn.map iv)]])) (h00:h[1]?=some (.live 7 false w1 [[sv,vv,mv,.int .i64 m.states,.int .i64 m.cmds,.int .i64 m.bgn,ov]]))
 (hsv:rd 5 (hf h) sv=some (slv 3 true false (m.sens.map ak7.cells),Rs)) (hov:rd 5 (hf h) ov=some (slv 1 true false (m.opn.map iv),Ro)) (hR:∀b∈Rs++Ro,b<h.length∧b≠vb∧b≠mb)
 (hv:SlS 4 acT.cells m.votes vv vb h) (hm:SlS 5 acS.cells m.moves mv mb h) (hvb:2≤vb) (hmb:2≤mb) (hvm:vb≠mb) (hL:alJ h) {KK:R→Prop} [iN:NoN KK]
 (hK:∀t f w R,t 1=slv 2 false nn (l.map ac6.cells)→t 2=.ptr 0 0 0→t 5=.ptr 1 0 0→f[0]?=some (.live 7 false false [[slv 3 true m.nS (m.sens.map ak7.cells),slv 4 false m.nV (m.votes.map acT.cells),slv 5 false m.nM (m.moves.map acS.cells),.int .i64 m.states,.int .i64 m.cmds,.int .i64 m.bgn,slv 1 true m.nO (m.opn.map iv)]])→f[1]?=some (.live 7 false w [[sv,vv,mv,.int .i64 m.states,.int .i64 m.cmds,.int .i64 m.bgn,ov]])→
   rdL (rd 6 (hf f)) [sv,vv,mv,.int .i64 m.states,.int .i64 m.cmds,.int .i64 m.bgn,ov]=some (m.cpy.cells,R)→alJ f→KK (evM om' Tryz.prog 4973 (cAt (Tryz.f4.body.getD .skip) [true,true,true,true,true,true,true,true,true]) [] ⟨mk 313 t,f⟩)):
 KK (evM om' Tryz.prog 4983 (cAt (Tryz.f4.body.getD .skip) [true,true,true,true,true,true,true]) [] ⟨mk 313 t,h⟩):=by
 simp only[Tryz.f4,cAt,atT]at hK ⊢
 generalize hC:Code.seq (Code.region 16 _ _) _=C16 at *
 have hvs:=hM.votes
 have hms:=hM.moves
 have hlv:ln Tryz.prog 23 (some vv)=some (.ret (.int .i64 (m.votes.length:Nat)),[]):=by
  rcases(hv.zero (f2:=acT.cells)).len with⟨rfl,e⟩|rfl
  ·simp only[Va.down,seval,av1.down,e]
  ·simp only[Va.down,seval,av1.down]
 have hlm:ln Tryz.prog 24 (some mv)=some (.ret (.int .i64 (m.moves.length:Nat)),[]):=by
  rcases(hm.zero (f2:=acS.cells)).len with⟨rfl,e⟩|rfl
  ·simp only[Va.down,seval,av1.down,e]
  ·simp only[Va.down,seval,av1.down]
 have lt0:0<h.length:=alB h0
 have lt1:1<h.length:=alB h00
 (have hb:=trivial;with_reducible repeat' (first|simp only[hb,Va.down,seval,TY4.down,h2,h5,h0,h00]|refine fsp ?_ ?_<;>intro hb|refine fd ?_|fail))
 refine anJ (lst 313 m.votes (fun i (_:Unit) t g=>t 1=slv 2 false nn (l.map ac6.cells)∧t 2=.ptr 0 0 0∧t 5=.ptr 1 0 0∧t 6=.int .i64 i∧alJ g∧SlE 4 acT.cells (fun v=>v.nil.cells) m.votes vv h vb i g) (fun _ _=>())
  (fun _ e t g=>e=.exit 0∧t 1=slv 2 false nn (l.map ac6.cells)∧t 2=.ptr 0 0 0∧t 5=.ptr 1 0 0∧alJ g∧SlE 4 acT.cells (fun v=>v.nil.cells) m.votes vv h vb m.votes.length g) ?_ ?_ () _ _ ?_) (fun e t g hk=>?_)
 ·rintro _ t g Q' kQ ⟨g1,g2,g5,g6,gL,D⟩
  have g00:g[1]?=_:=(D.keep.same 1 lt1 (by simp;omega)).trans h00
  (have hb:=trivial;with_reducible repeat' (first|simp only[hb,Va.down,seval,TY4.down,g1,g2,g5,g6,g00,hlv,ahB,decide_false]|refine fsp ?_ ?_<;>intro hb|refine fd ?_|fail))
  exact kQ _ _ _ ⟨rfl,by simp[up,g1],by simp[up,g2],by simp[up,g5],gL,D⟩
 ·rintro x rest i _ t g J Q' kJ kQ hx hi ⟨g1,g2,g5,g6,gL,D⟩
  have hdd:decide ((i:Int)<(m.votes.length:Int))=true:=decide_eq_true (by omega)
  have hdi:((i:Int)<(m.votes.length:Int))=True:=eq_true (by omega)
  have hww:=agA hi (by unfold maxLen;omega)
  have g0:g[0]?=_:=(D.keep.same 0 lt0 (by simp;omega)).trans h0
  have g00:g[1]?=_:=(D.keep.same 1 lt1 (by simp;omega)).trans h00
  rcases D with⟨h2e,_⟩|⟨hs,hve,hbl,S⟩
  ·rw[h2e]at hx;simp at hx
  obtain⟨w',rows,R,hw',hl',hr',hd',hR',hn'⟩:=S.at_
  have hrow:=(axE hl' hd' hx).1
  simp only[acT.cells]at hrow
  have hsx:=hM.vs x (aoD hx)
  have hap:=aLG g x.nn (rows:=x.sens.map iv) (by simpa using hsx)
  have gA0:=ahZ g0
  have gA1:=ahZ g00
  have gAv:=ahZ hw'
  have hgl:=S.keep.len
  by_cases hne:x.sens=[]
  ·rw[if_pos (by simp[hne])]at hap
   (have hb:=trivial;with_reducible repeat' (first|simp only[hb,Va.down,seval,TY4.down,g1,g2,g5,g6,hdd,hdi,hww,g0,g00,hve,hw',hrow,hx,hlv,hap,gA0,gA1,gAv,awO,axH,au7,acT.cells,aeG]|refine fsp ?_ ?_<;>intro hb|refine fdq ?_|fail))
   refine asZ (fun b=>if b<g.length then 0 else 1) [([],[]),([],[.cells 0 1 1]),([],[]),([],[]),([],[.cells 0 1 1]),([],[]),([],[]),([],[]),([],[]),([],[]),([],[]),([],[]),([.all],[.all])] (by kernel_rfl) ?_ (fun _=>?_)
   ·have q0:0<g.length:=by omega
    have q1:1<g.length:=by omega
    simp[au9,mfF,acP.foot,q0,q1]
   (have hb:=trivial;with_reducible repeat' (first|simp only[hb,Va.down,seval,TY4.down,g6,hww]|refine fsp ?_ ?_<;>intro hb|refine fdq ?_|fail))
   refine ai7 (kJ _ _ () ⟨by simp[up,g1],by simp[up,g2],by simp[up,g5],by simp[up],alJ.set gL _ _ _ _ _,.inr ⟨hs,hve,hbl,?_⟩⟩ rfl)
   have hq:rd 4 (hf (g++[])) .nils=some (slv 1 true false (x.sens.map iv),[]):=by rw[hne];rfl
   have N:=SJ.next (f2:=fun v=>v.nil.cells) S.keep hbl hw' hl' hr' hd' hR' hn' hx [] [.nils,.int .i64 x.need,.int .i64 x.level,.bool x.above] [] true (agK hq (agK (aoL ..) (agK (aoL ..) (agK (aCS ..) as0)))) (fun y hy=>by simp at hy) (by simp)
   simpa using N
  ·rw[if_neg (by simpa using hne)]at hap
   simp only[aeG]at hap
   (have hb:=trivial;with_reducible repeat' (first|simp only[hb,Va.down,seval,TY4.down,g1,g2,g5,g6,hdd,hdi,hww,g0,g00,hve,hw',hrow,hx,hlv,hap,gA0,gA1,gAv,awO,axH,au7,acT.cells,aeG]|refine fsp ?_ ?_<;>intro hb|refine fdq ?_|fail))
   refine asZ (fun b=>if b<g.length then 0 else 1) [([],[]),([],[.cells 0 1 1]),([],[]),([],[]),([],[.cells 0 1 1]),([],[]),([],[]),([],[]),([],[]),([.blk 1],[]),([],[]),([],[]),([.all],[.all])] (by kernel_rfl) ?_ (fun _=>?_)
   ·have q0:0<g.length:=by omega
    have q1:1<g.length:=by omega
    simp[au9,mfF,acP.foot,q0,q1]
   (have hb:=trivial;with_reducible repeat' (first|simp only[hb,Va.down,seval,TY4.down,g6,hww]|refine fsp ?_ ?_<;>intro hb|refine fdq ?_|fail))
   refine ai7 (kJ _ _ () ⟨by simp[up,g1],by simp[up,g2],by simp[up,g5],by simp[up],alJ.set (alJ.app gL (alJ.one _ _ _ _)) _ _ _ _ _,.inr ⟨hs,hve,hbl,?_⟩⟩ rfl)
   have hq:rd 4 (hf (g++[.live 1 true false (x.sens.map iv)])) (.slr 1 g.length 0 x.sens.length)=some (slv 1 true false (x.sens.map iv),[g.length]):=by rw[ap2 hne];exact apI (by show((g++[_])[g.length]?).bind agI=_;simp[agI]) (by simp)
   exact SJ.next (f2:=fun v=>v.nil.cells) S.keep hbl hw' hl' hr' hd' hR' hn' hx [.live 1 true false (x.sens.map iv)] [.slr 1 g.length 0 x.sens.length,.int .i64 x.need,.int .i64 x.level,.bool x.above] [g.length] true
    (agK hq (agK (aoL ..) (agK (aoL ..) (agK (aCS ..) as0)))) (fun y hy=>by simp at hy;simp[hy]) (by simp)
 ·exact⟨by simp[up,h1],by simp[up,h2],by simp[up,h5],by simp[up],hL,hv.zero⟩
 obtain⟨rfl,g1,g2,g5,gL,D⟩:=hk
 have gl:=D.keep.len
 have k0:g[0]?=_:=(D.keep.same 0 lt0 (by simp;omega)).trans h0
 have k00:g[1]?=_:=(D.keep.same 1 lt1 (by simp;omega)).trans h00
 have M0:=hm.mono D.keep (by simpa using fun e=>hvm e.symm)
 (have hb:=trivial;with_reducible repeat' (first|simp only[hb,Va.down,seval,TY4.down,g1,g2,g5,k0,k00]|refine fsp ?_ ?_<;>intro hb|refine fd ?_|fail))
 refine anJ (lst 313 m.moves (fun i (_:Unit) t f=>t 1=slv 2 false nn (l.map ac6.cells)∧t 2=.ptr 0 0 0∧t 5=.ptr 1 0 0∧t 7=.int .i64 i∧alJ f∧SlE 5 acS.cells (fun x=>x.nil.cells) m.moves mv g mb i f) (fun _ _=>())
  (fun _ e t f=>e=.exit 2∧t 1=slv 2 false nn (l.map ac6.cells)∧t 2=.ptr 0 0 0∧t 5=.ptr 1 0 0∧alJ f∧SlE 5 acS.cells (fun x=>x.nil.cells) m.moves mv g mb m.moves.length f) ?_ ?_ () _ _ ?_) (fun e t f hk=>?_)
 ·rintro _ t f Q' kQ ⟨f1,f2,f5,f7,fL,D⟩
  have f00:f[1]?=_:=(D.keep.same 1 (by omega) (by simp;omega)).trans k00
  (have hb:=trivial;with_reducible repeat' (first|simp only[hb,Va.down,seval,TY4.down,f1,f2,f5,f7,f00,hlm,ahB,decide_false]|refine fsp ?_ ?_<;>intro hb|refine fd ?_|fail))
  exact kQ _ _ _ ⟨rfl,by simp[up,f1],by simp[up,f2],by simp[up,f5],fL,D⟩
 ·rintro x rest i _ t f J Q' kJ kQ hx hi ⟨f1,f2,f5,f7,fL,D⟩
  have hdd:decide ((i:Int)<(m.moves.length:Int))=true:=decide_eq_true (by omega)
  have hdi:((i:Int)<(m.moves.length:Int))=True:=eq_true (by omega)
  have hww:=agA hi (by unfold maxLen;omega)
  have f0:f[0]?=_:=(D.keep.same 0 (by omega) (by simp;omega)).trans k0
  have f00:f[1]?=_:=(D.keep.same 1 (by omega) (by simp;omega)).trans k00
  rcases D with⟨h2e,_⟩|⟨hs,hve,hbl,S⟩
  ·rw[h2e]at hx;simp at hx
  obtain⟨w',rows,R,hw',hl',hr',hd',hR',hn'⟩:=S.at_
  have hrow:=(axE hl' hd' hx).1
  simp only[acS.cells]at hrow
  have hsx:=hM.ws x (aoD hx)
  have hap:=aW7 f x.nn (rows:=x.wants.map agP.cells) (by simpa using hsx)
  have fA0:=ahZ f0
  have fA1:=ahZ f00
  have fAv:=ahZ hw'
  have hfl:=S.keep.len
  by_cases hne:x.wants=[]
  ·rw[if_pos (by simp[hne])]at hap
   (have hb:=trivial;with_reducible repeat' (first|simp only[hb,Va.down,seval,TY4.down,f1,f2,f5,f7,hdd,hdi,hww,f0,f00,hve,hw',hrow,hx,hlm,hap,fA0,fA1,fAv,awO,axH,au7,acS.cells,aeG]|refine fsp ?_ ?_<;>intro hb|refine fdq ?_|fail))
   refine asZ (fun b=>if b<f.length then 0 else 1) [([],[]),([],[.cells 0 2 1]),([],[]),([],[]),([],[.cells 0 2 1]),([],[]),([],[]),([],[]),([],[]),([],[]),([],[]),([],[]),([.all],[.all])] (by kernel_rfl) ?_ (fun _=>?_)
   ·have q0:0<f.length:=by omega
    have q1:1<f.length:=by omega
    simp[au9,mfF,acP.foot,q0,q1]
   (have hb:=trivial;with_reducible repeat' (first|simp only[hb,Va.down,seval,TY4.down,f7,hww]|refine fsp ?_ ?_<;>intro hb|refine fdq ?_|fail))
   refine ai7 (kJ _ _ () ⟨by simp[up,f1],by simp[up,f2],by simp[up,f5],by simp[up],alJ.set fL _ _ _ _ _,.inr ⟨hs,hve,hbl,?_⟩⟩ rfl)
   have hq:rd 4 (hf (f++[])) .nils=some (slv 2 true false (x.wants.map agP.cells),[]):=by rw[hne];rfl
   have N:=SJ.next (f2:=fun x=>x.nil.cells) S.keep hbl hw' hl' hr' hd' hR' hn' hx [] [.int .i64 x.frm,.int .i64 x.to,.nils,.int .i64 x.cmd,.int .i64 x.after] [] true (agK (aoL ..) (agK (aoL ..) (agK hq (agK (aoL ..) (agK (aoL ..) as0))))) (fun y hy=>by simp at hy) (by simp)
   simpa using N
  ·rw[if_neg (by simpa using hne)]at hap
   simp only[aeG]at hap
   (have hb:=trivial;with_reducible repeat' (first|simp only[hb,Va.down,seval,TY4.down,f1,f2,f5,f7,hdd,hdi,hww,f0,f00,hve,hw',hrow,hx,hlm,hap,fA0,fA1,fAv,awO,axH,au7,acS.cells,aeG]|refine fsp ?_ ?_<;>intro hb|refine fdq ?_|fail))
   refine asZ (fun b=>if b<f.length then 0 else 1) [([],[]),([],[.cells 0 2 1]),([],[]),([],[]),([],[.cells 0 2 1]),([],[]),([],[]),([],[]),([],[]),([.blk 1],[]),([],[]),([],[]),([.all],[.all])] (by kernel_rfl) ?_ (fun _=>?_)
   ·have q0:0<f.length:=by omega
    have q1:1<f.length:=by omega
    simp[au9,mfF,acP.foot,q0,q1]
   (have hb:=trivial;with_reducible repeat' (first|simp only[hb,Va.down,seval,TY4.down,f7,hww]|refine fsp ?_ ?_<;>intro hb|refine fdq ?_|fail))
   refine ai7 (kJ _ _ () ⟨by simp[up,f1],by simp[up,f2],by simp[up,f5],by simp[up],alJ.set (alJ.app fL (alJ.one _ _ _ _)) _ _ _ _ _,.inr ⟨hs,hve,hbl,?_⟩⟩ rfl)
   have hq:rd 4 (hf (f++[.live 2 true false (x.wants.map agP.cells)])) (.slr 2 f.length 0 x.wants.length)=some (slv 2 true false (x.wants.map agP.cells),[f.length]):=by rw[ap2 hne];exact apI (by show((f++[_])[f.length]?).bind agI=_;simp[agI]) (by simp)
   exact SJ.next (f2:=fun x=>x.nil.cells) S.keep hbl hw' hl' hr' hd' hR' hn' hx [.live 2 true false (x.wants.map agP.cells)] [.int .i64 x.frm,.int .i64 x.to,.slr 2 f.length 0 x.wants.length,.int .i64 x.cmd,.int .i64 x.after] [f.length] true
    (agK (aoL ..) (agK (aoL ..) (agK hq (agK (aoL ..) (agK (aoL ..) as0))))) (fun y hy=>by simp at hy;simp[hy]) (by simp)
 ·exact⟨by simp[up,g1],by simp[up,g2],by simp[up,g5],by simp[up],gL,M0.zero⟩
 obtain⟨rfl,f1,f2,f5,fL,E⟩:=hk
 have fl:=E.keep.len
 have f0:f[0]?=_:=(E.keep.same 0 (by omega) (by simp;omega)).trans k0
 have f00:f[1]?=_:=(E.keep.same 1 (by omega) (by simp;omega)).trans k00
 obtain⟨Rv,r1,r2,r3⟩:=D.read
 obtain⟨Rm,s1,s2,s3⟩:=E.read
 have hmb1:mv≠.nils→mb<h.length:=fun hne=>by
  rcases hm with⟨_,h3⟩|⟨_,_,w,h3⟩
  ·exact(hne h3).elim
  ·exact alB h3
 have A:∀(R:List Nat) (x v:AV),(∀b∈R,b<h.length∧b≠vb∧b≠mb)→rd 5 (hf h) v=some (x,R)→rd 5 (hf f) v=some (x,R):=fun R x v hR hv=>by
  have a1:=aqL hv (D.agr (R:=R) fun b hb'=>⟨(hR b hb').1,fun _ _=>(hR b hb').2.1⟩)
  exact aqL a1 (E.agr (R:=R) fun b hb'=>⟨Nat.lt_of_lt_of_le (hR b hb').1 gl,fun _ _=>(hR b hb').2.2⟩)
 have B:rd 5 (hf f) vv=some (slv 4 false false (m.votes.map fun v=>v.nil.cells),Rv):=by
  exact aqL r1 (E.agr (R:=Rv) fun b hb'=>by
   have hne:mv≠.nils→b≠mb:=fun hne=>by
    have:=hmb1 hne
    rcases r2 b hb' with⟨rfl,_⟩|h1
    ·exact hvm
    ·omega
   refine⟨?_,fun _=>hne⟩
   rcases r2 b hb' with⟨_,h1⟩|h1<;>omega)
 have ev:(m.votes.map fun v=>v.nil.cells)=m.cpy.votes.map acT.cells:=by simp[ad5.cpy]
 have em:(m.moves.map fun x=>x.nil.cells)=m.cpy.moves.map acS.cells:=by simp[ad5.cpy]
 rw[ev]at B
 rw[em]at s1
 (have hb:=trivial;with_reducible repeat' (first|simp only[hb,Va.down,seval,TY4.down]|refine fsp ?_ ?_<;>intro hb|refine fd ?_|fail))
 refine hK _ f w1 _ f1 f2 f5 f0 f00 (aIH (show 5≤6 by omega) (agK (A Rs _ _ (fun b h=>hR b (aoG _ h)) hsv) (agK B (agK s1 (agK (aoL ..) (agK (aoL ..) (agK (aoL ..) (agK (A Ro _ _ (fun b h=>hR b (aoU _ h)) hov) as0)))))))) fL
theorem alJ.live{f:aaP}(a:alJ f){b st:Nat}{fl:Bool}{rows:List (List AV)}(h:(hf f b).bind agI=some (st,fl,rows)):∃w,f[b]?=some (.live st fl w rows):=by
 obtain⟨c,hc,hz⟩:=aoF.1 h
 obtain⟨st',fl',w,rows',rfl⟩:=a c (aoD hc)
 simp[agI]at hz
 obtain⟨rfl,rfl,rfl⟩:=hz
 exact⟨w,hc⟩
theorem alJ.quiet{f:aaP}(a:alJ f):ajX f=true:=atK fun c hc=>by
 obtain⟨st,fl,w,rows,rfl⟩:=a c hc
 rfl
theorem aZ1{f:aaP}{w0 w1:Bool}{r0 r1:List (List AV)}(f0:f[0]?=some (.live 7 false w0 r0))(f1:f[1]?=some (.live 7 false w1 r1)){b st:Nat}{fl w:Bool}{rows:List (List AV)}(h:f[b]?=some (.live st fl w rows))(hs:st≠7):2≤b:=by
 rcases b with _|_|b
 ·rw[f0]at h;cases h;exact(hs rfl).elim
 ·rw[f1]at h;cases h;exact(hs rfl).elim
 ·omega
theorem aG7{f:aaP}(a:alJ f){w0 w1:Bool}{r0 r1:List (List AV)}(f0:f[0]?=some (.live 7 false w0 r0))(f1:f[1]?=some (.live 7 false w1 r1)){d st:Nat}{nn:Bool}{v:AV}{rows:List (List AV)}{R:List Nat}(h:rd (d+1) (hf f) v=some (slv st true nn rows,R))(hs:st≠7)(hl:rows.length≤1000)(hr:∀r∈rows,aED st r):Shp f f.length st v rows.length:=by
 rcases awK h with⟨rfl,rfl⟩|⟨b,rows',rfl,hb,hl',hr',_⟩
 ·exact⟨by simp,.inl ⟨rfl,rfl⟩⟩
 ·rw[hr' rfl]at hb
  obtain⟨w,hw⟩:=a.live hb
  exact⟨hl,.inr ⟨b,w,rows,rfl,aZ1 f0 f1 hw hs,alB hw,hw,rfl,hr⟩⟩
theorem ayJ{g:aaP}{d:Nat}:∀{l:List (List AV)} {p:List (List AV) × List Nat} {r:List AV},alA (rd d (hf g)) l=some p→r∈l→∃X R,rdL (rd d (hf g)) r=some (X,R)∧X∈p.1
 | [],p,r,_,hr=>by cases hr
 |a::l,p,r,h,hr=>by
  simp only[alA,aoF,Option.map_eq_some_iff]at h
  obtain⟨q,hq,s,hs,rfl⟩:=h
  rcases apM.1 hr with rfl|hr
  ·exact⟨q.1,q.2,hq,atY ..⟩
  ·obtain⟨X,R,k1,k2⟩:=ayJ hs hr
   exact⟨X,R,k1,List.mem_cons_of_mem _ k2⟩
theorem aXW{f:aaP}(a:alJ f){w0 w1:Bool}{r0 r1:List (List AV)}(f0:f[0]?=some (.live 7 false w0 r0))(f1:f[1]?=some (.live 7 false w1 r1)){d:Nat}{nn:Bool}{v:AV}{l:List acT}{R:List Nat}(h:rd (d+2) (hf f) v=some (slv 4 false nn (l.map acT.cells),R))(hl:l.length≤1000)(hx:∀x∈l,x.sens.length≤1000):awN f f.length 4 1 0 v l.length:=by
 rcases awK h with⟨rfl,e⟩|⟨b,rows',rfl,hb,hl',_,hr'⟩
 ·rw[at0.1 e];exact⟨by simp,.inl ⟨rfl,rfl⟩⟩
 ·obtain⟨w,hw⟩:=a.live hb
  obtain⟨R',hr⟩:=hr' rfl
  simp only[aeG]at hl' ⊢
  refine⟨hl,.inr ⟨b,w,rows',rfl,aZ1 f0 f1 hw (by omega),alB hw,hw,hl',fun r hm=>?_⟩⟩
  obtain⟨X,R2,k1,k2⟩:=ayJ hr hm
  obtain⟨x,hx1,rfl⟩:=alV.1 k2
  refine⟨aB2 k1,?_⟩
  obtain⟨v0,l',_,_,rfl,k3,_,_⟩:=ai3 k1
  exact⟨v0,_,rfl,aG7 a f0 f1 (d:=d) k3 (by omega) (by simpa using hx x hx1) (fun r hr=>by obtain⟨n,_,rfl⟩:=alV.1 hr;exact⟨rfl,fun e=>by omega⟩)⟩
theorem aVL{f:aaP}(a:alJ f){w0 w1:Bool}{r0 r1:List (List AV)}(f0:f[0]?=some (.live 7 false w0 r0))(f1:f[1]?=some (.live 7 false w1 r1)){d:Nat}{nn:Bool}{v:AV}{l:List acS}{R:List Nat}(h:rd (d+2) (hf f) v=some (slv 5 false nn (l.map acS.cells),R))(hl:l.length≤1000)(hx:∀x∈l,x.wants.length≤1000):awN f f.length 5 2 2 v l.length:=by
 rcases awK h with⟨rfl,e⟩|⟨b,rows',rfl,hb,hl',_,hr'⟩
 ·rw[at0.1 e];exact⟨by simp,.inl ⟨rfl,rfl⟩⟩
 ·obtain⟨w,hw⟩:=a.live hb
  obtain⟨R',hr⟩:=hr' rfl
  simp only[aeG]at hl' ⊢
  refine⟨hl,.inr ⟨b,w,rows',rfl,aZ1 f0 f1 hw (by omega),alB hw,hw,hl',fun r hm=>?_⟩⟩
  obtain⟨X,R2,k1,k2⟩:=ayJ hr hm
  obtain⟨x,hx1,rfl⟩:=alV.1 k2
  refine⟨aB2 k1,?_⟩
  obtain⟨_,l1,_,_,rfl,_,k4,_⟩:=ai3 k1
  obtain⟨_,l2,_,_,rfl,_,k5,_⟩:=ai3 k4
  obtain⟨v0,l3,_,_,rfl,k3,_,_⟩:=ai3 k5
  exact⟨v0,_,rfl,aG7 a f0 f1 (d:=d) k3 (by omega) (by simpa using hx x hx1) (fun r hr=>by obtain⟨n,_,rfl⟩:=alV.1 hr;exact⟨rfl,fun _=>⟨_,_,rfl⟩⟩)⟩
theorem aZT{H:aaP}{n j:Nat}{m:ad5}{st ag:Int}(h:∃w row R,H[j]?=some (.live 11 false w [row])∧rdL (rd 6 (hf H)) row=some (aR4 m st ag false [],R)∧j∉R∧∀b∈R,n≤b)(hj:n≤j):THi H n j m st ag []:=by
 obtain⟨w,row,R,h1,h2,h3,h4⟩:=h
 obtain⟨sv,l1,R1,S1,rfl,a1,k1,rfl⟩:=ai3 h2
 obtain⟨vv,l2,R2,S2,rfl,a2,k2,rfl⟩:=ai3 k1
 obtain⟨mv,l3,R3,S3,rfl,a3,k3,rfl⟩:=ai3 k2
 obtain⟨i1,l4,R4,S4,rfl,a4,k4,rfl⟩:=ai3 k3
 obtain⟨i2,l5,R5,S5,rfl,a5,k5,rfl⟩:=ai3 k4
 obtain⟨i3,l6,R6,S6,rfl,a6,k6,rfl⟩:=ai3 k5
 obtain⟨ov,l7,R7,S7,rfl,a7,k7,rfl⟩:=ai3 k6
 obtain⟨i4,l8,R8,S8,rfl,a8,k8,rfl⟩:=ai3 k7
 obtain⟨i5,l9,R9,S9,rfl,a9,k9,rfl⟩:=ai3 k8
 obtain⟨sc,la,Ra,Sa,rfl,aa,ka,rfl⟩:=ai3 k9
 obtain⟨i6,lb,Rb,Sb,rfl,ab,kb,rfl⟩:=ai3 ka
 obtain⟨rfl,hS⟩:=aHG kb
 subst hS
 obtain⟨rfl,_⟩:=avR a4
 obtain⟨rfl,_⟩:=avR a5
 obtain⟨rfl,_⟩:=avR a6
 obtain⟨rfl,_⟩:=avR a8
 obtain⟨rfl,_⟩:=avR a9
 have ea:=aWL (d:=5) aa
 subst ea
 have eb:=aX5 (d:=5) ab
 subst eb
 have sub:∀b,b∈R1++(R2++(R3++(R4++(R5++(R6++(R7++[]))))))++[]→b∈R1++(R2++(R3++(R4++(R5++(R6++(R7++(R8++(R9++(Ra++(Rb++[])))))))))):=fun b hx=>by
  simp only[apD,List.append_nil]at hx ⊢
  rcases hx with h|h|h|h|h|h|h<;>simp[h]
 exact⟨w,sv,vv,mv,ov,.nils,_,[],[],⟨h1,agK a1 (agK a2 (agK a3 (agK a4 (agK a5 (agK a6 (agK a7 as0)))))),.inl ⟨rfl,rfl⟩,rfl,fun _=>rfl,fun hx=>h3 (sub _ hx),fun _ _ _ _ e=>by cases e⟩,hj,fun b hb=>h4 b (sub b hb),fun b hb=>by simp[scB]at hb⟩
theorem a7M{r:List AV}(h:r.length=4){v0:AV}(h0:r[0]?=some v0):∃a b c,r=[v0,a,b,c]:=by
 match r,h with
 | [x,a,b,c],_=>simp at h0;exact⟨a,b,c,by rw[h0]⟩
theorem a7H{r:List AV}(h:r.length=5){v0:AV}(h0:r[2]?=some v0):∃a b c d,r=[a,b,v0,c,d]:=by
 match r,h with
 | [a,b,x,c,d],_=>simp at h0;exact⟨a,b,c,d,by rw[h0]⟩
theorem a72{r:List AV}(h:r.length=3):∃a b c,r=[a,b,c]:=by
 match r,h with
 | [a,b,c],_=>exact⟨a,b,c,rfl⟩
theorem a0N{r:List AV}(h:r.length=1):∃a,r=[a]:=by
 match r,h with
 | [a],_=>exact⟨a,rfl⟩
theorem Shp.at_{H:aaP}{n st k:Nat}{v:AV}(S:Shp H n st v k){i:Nat}(hi:i<k):∃b w rows r,v=.slr st b 0 k∧2≤b∧b<n∧H[b]?=some (.live st true w rows)∧rows.length=k∧(∀r∈rows,aED st r)∧rows[i]?=some r∧aED st r:=by
 obtain⟨h0,⟨_,rfl⟩|⟨b,w,rows,h1,h2,h3,h4,h5,h6⟩⟩:=S
 ·omega
 ·have hr:rows[i]?=some (rows[i]'(by omega)):=atV (by omega)
  exact⟨b,w,rows,_,h1,h2,h3,h4,h5,h6,hr,h6 _ (aoD hr)⟩
theorem awN.at_{H:aaP}{n st st' pos k:Nat}{v:AV}(S:awN H n st st' pos v k){i:Nat}(hi:i<k):∃b w rows r v0 kk,v=.slr st b 0 k∧2≤b∧b<n∧H[b]?=some (.live st false w rows)∧rows.length=k∧rows[i]?=some r∧r.length=st∧r[pos]?=some v0∧Shp H n st' v0 kk:=by
 obtain⟨h0,⟨_,rfl⟩|⟨b,w,rows,h1,h2,h3,h4,h5,h6⟩⟩:=S
 ·omega
 ·have hr:rows[i]?=some (rows[i]'(by omega)):=atV (by omega)
  obtain⟨k1,v0,kk,k2,k3⟩:=h6 _ (aoD hr)
  exact⟨b,w,rows,_,v0,kk,h1,h2,h3,h4,h5,hr,k1,k2,k3⟩
theorem atJ{st i:Nat}{rows:List (List AV)}{r:List AV}(h:∀r∈rows,aED st r)(hr:aED st r):∀r'∈rows.set i r,aED st r':=fun r' hm=>(arI hm).elim (h r') fun e=>e▸hr
theorem aJJ{i pos:Nat}{rows:List (List AV)}{r r2:List AV}(h:rows[i]?=some r)(hl:r2.length=r.length)(hp:r2[pos]?=r[pos]?):∀r'∈rows.set i r2,∃r∈rows,r'.length=r.length∧r'[pos]?=r[pos]?:=fun r' hm=>by
 rcases arI hm with hm|rfl
 ·exact⟨r',hm,rfl,rfl⟩
 ·exact⟨r,aoD h,hl,hp⟩
theorem a0G(m:ad5)(hs:m.small)(hM:m.tiny)(hne:m.opn≠[])(hv:an4 m=true){nn:Bool}{l:List ac6}(t:Tm)(f:aaP)(w:Bool)(sv vv mv ov:AV)(Rr:List Nat)
 (h1:t 1=slv 2 false nn (l.map ac6.cells)) (h2:t 2=.ptr 0 0 0) (h5:t 5=.ptr 1 0 0) (f0:f[0]?=some (.live 7 false false [[slv 3 true m.nS (m.sens.map ak7.cells),slv 4 false m.nV (m.votes.map acT.cells),slv 5 false m.nM (m.moves.map acS.cells),.int .i64 m.states,.int .i64 m.cmds,.int .i64 m.bgn,slv 1 true m.nO (m.opn.map iv)]])) (f1:f[1]?=some (.live 7 false w [[sv,vv,mv,.int .i64 m.states,.int .i64 m.cmds,.int .i64 m.bgn,ov]]))
 (hr:rdL (rd 6 (hf f)) [sv,vv,mv,.int .i64 m.states,.int .i64 m.cmds,.int .i64 m.bgn,ov]=some (m.cpy.cells,Rr)) (hL:alJ f) {KK:R→Prop} [iN:NoN KK]
 (hK:∀t g n j,t 1=slv 2 false nn (l.map ac6.cells)→t 2=.ptr 0 0 0→t 8=.ptr j 0 0→(∃w,g[0]?=some (.live 7 false w [[slv 3 true m.nS (m.sens.map ak7.cells),slv 4 false m.nV (m.votes.map acT.cells),slv 5 false m.nM (m.moves.map acS.cells),.int .i64 m.states,.int .i64 m.cmds,.int .i64 m.bgn,slv 1 true m.nO (m.opn.map iv)]]))→THi g n j m.cpy m.bgn 0 []→2≤n→ajX g=true→
   KK (evM om' Tryz.prog 4946 (cAt (Tryz.f4.body.getD .skip) [true,true,true,true,true,true,true,true,true,true,true,true,true,true,true]) [] ⟨mk 313 t,g⟩)):
 KK (evM om' Tryz.prog 4973 (cAt (Tryz.f4.body.getD .skip) [true,true,true,true,true,true,true,true,true]) [] ⟨mk 313 t,f⟩):=by
 simp only[Tryz.f4,cAt,atT]at hK ⊢
 generalize hC:Code.seq (Code.region 43 _ _) _=C43 at *
 have cs:=aHB hr
 obtain⟨_,_,_,_,hcs,⟨p1,p1'⟩,⟨p2,p2'⟩,⟨p3,p3'⟩,⟨p4,p4'⟩⟩:=cs
 cases hcs
 obtain⟨_,_,_,_,e1,a1,k1,_⟩:=ai3 hr
 cases e1
 obtain⟨_,_,_,_,e1,a2,k2,_⟩:=ai3 k1
 cases e1
 obtain⟨_,_,_,_,e1,a3,k3,_⟩:=ai3 k2
 cases e1
 obtain⟨_,_,_,_,e1,_,k4,_⟩:=ai3 k3
 cases e1
 obtain⟨_,_,_,_,e1,_,k5,_⟩:=ai3 k4
 cases e1
 obtain⟨_,_,_,_,e1,_,k6,_⟩:=ai3 k5
 cases e1
 obtain⟨_,_,_,_,e1,a7,k7,_⟩:=ai3 k6
 cases e1
 have ht:=aTM hM
 have S:=aG7 hL f0 f1 a1 (by omega) (by simpa using ht.sens) (fun r hr=>by obtain⟨n,_,rfl⟩:=alV.1 hr;exact⟨rfl,fun e=>by omega⟩)
 have V:=aXW (d:=4) hL f0 f1 a2 ht.votes ht.vs
 have X:=aVL (d:=4) hL f0 f1 a3 ht.moves ht.ws
 have O:=aG7 hL f0 f1 a7 (by omega) (by simpa using ht.opn) (fun r hr=>by obtain⟨n,_,rfl⟩:=alV.1 hr;exact⟨rfl,fun e=>by omega⟩)
 obtain⟨o,h',hc,i0,rfl,P,N1,N2⟩:=a4G m.cpy (aFW hs) ht hne (by rw[aI9];exact hv)
 obtain⟨j,es,L,e1,e2,hj,hLw,hP⟩:=aXZ (args:=[.agg [sv,vv,mv,.int .i64 m.states,.int .i64 m.cmds,.int .i64 m.bgn,ov]]) f (awP rfl) (by
  have:rdV f (.agg [sv,vv,mv,.int .i64 m.states,.int .i64 m.cmds,.int .i64 m.bgn,ov])=some (.agg m.cpy.cells):=auF (d:=7) (by omega) (aI5 hr)
  simp only[arT,asP,this,aqO]) (aCX m.cpy) hc N1 N2 P
 have G0:avQ (f++L) f.length j m m.cpy sv vv mv ov _ _ _ _ m.bgn 0 []:=⟨⟨_,ahZ f0 L⟩,⟨_,ahZ f1 L⟩,S.app L,V.app L,X.app L,O.app L,aZT hP hj,aqG hL.quiet (atK fun c hc=>(hLw c hc).quiet)⟩
 obtain⟨q,hqq⟩:∃q,Fn.func 7=q:=⟨_,rfl⟩
 rw[hqq]at e1
 have hfl:2≤f.length:=by have:=alB f1;omega
 generalize f.length=n at *
 generalize hg:f++L=g at *
 obtain⟨w1,b1⟩:=G0.b1
 have lnS:=S.ln Tryz.underlying22
 have lnV:=V.ln Tryz.underlying23
 have lnX:=X.ln Tryz.underlying24
 have lnO:=O.ln Tryz.underlying25
 have hkS:=S.1
 have hkV:=V.1
 have hkX:=X.1
 have hkO:=O.1
 generalize(m.cpy.sens.map ak7.cells).length=nS at *
 generalize m.cpy.votes.length=nV at *
 generalize m.cpy.moves.length=nM at *
 generalize(m.cpy.opn.map iv).length=nO at *
 have aGE:∀b r o:Nat,ao1 Tryz.prog .eql 31 (.ptr b r o) .nilp=some (.bool false):=aGE
 (have hb:=trivial;with_reducible repeat' (first|simp only[hb,Va.down,seval,TY4.down,h2,h5,f1,hqq,e1,e2,aGE,p1,p2,p3,p4,p1',p2',p3',p4',Bool.and_true,Bool.and_false,List.all_cons,List.all_nil]|refine fsp ?_ ?_<;>intro hb|refine fd ?_|fail))
 refine anJ (lst 313 (am7 nS ()) (fun i (_:Unit) t h=>t 1=slv 2 false nn (l.map ac6.cells)∧t 2=.ptr 0 0 0∧t 5=.ptr 1 0 0∧t 8=.ptr j 0 0∧t 10=.int .i64 i∧avQ h n j m m.cpy sv vv mv ov nS nV nM nO m.bgn 0 []) (fun _ _=>())
  (fun _ e t h=>e=.exit 4∧t 1=slv 2 false nn (l.map ac6.cells)∧t 2=.ptr 0 0 0∧t 5=.ptr 1 0 0∧t 8=.ptr j 0 0∧avQ h n j m m.cpy sv vv mv ov nS nV nM nO m.bgn 0 []) ?_ ?_ () _ _ ?_) (fun e t h hk=>?_)
 ·rintro _ t h Q' kQ ⟨h1,h2,h5,h8,hi0,G⟩
  obtain⟨w1,b1⟩:=G.b1
  rw[an9]at hi0
  (have hb:=trivial;with_reducible repeat' (first|simp only[hb,Va.down,seval,TY4.down,h1,h2,h5,h8,hi0,b1,lnS,ahB,decide_false]|refine fsp ?_ ?_<;>intro hb|refine fd ?_|fail))
  exact kQ _ _ _ ⟨rfl,by simp[up,h1],by simp[up,h2],by simp[up,h5],by simp[up,h8],G⟩
 ·rintro x rest i _ t h J Q' kJ kQ hx hi ⟨h1,h2,h5,h8,hi0,G⟩
  have hi':i<nS:=by simpa using hi
  obtain⟨w1,b1⟩:=G.b1
  obtain⟨b,wb,rows,r,hvv,hb2,hbn,hb,hrl,hrows,hri,hpr⟩:=G.s.at_ hi'
  obtain⟨x1,x2,x3,rfl⟩:=a72 hpr.1
  have hdd:decide ((i:Int)<(nS:Int))=true:=decide_eq_true (by omega)
  have hdi:((i:Int)<(nS:Int))=True:=eq_true (by omega)
  have hww:=agA hi' (by unfold maxLen;omega)
  (with_reducible repeat' (first|simp only[hb,Va.down,seval,TY4.down,h1,h2,h5,h8,hi0,hdd,hdi,hww,b1,hvv,hb,hri]|refine fsp ?_ ?_<;>intro hb|refine fd ?_|fail))
  exact ai7 (kJ _ _ () ⟨by simp[up,h1],by simp[up,h2],by simp[up,h5],by simp[up,h8],by simp[up],G.set hb2 hbn hb (by simp) (atJ hrows ⟨rfl,fun e=>by omega⟩)⟩ rfl)
 ·exact⟨by simp[up,h1],by simp[up,h2],by simp[up,h5],by simp[up],by simp[up],G0⟩
 obtain⟨rfl,h1,h2,h5,h8,G0⟩:=hk
 obtain⟨w1,b1⟩:=G0.b1
 (have hb:=trivial;with_reducible repeat' (first|simp only[hb,Va.down,seval,TY4.down,h1,h2,h5,h8,b1]|refine fsp ?_ ?_<;>intro hb|refine fd ?_|fail))
 refine anJ (lst 313 (am7 nV ()) (fun i (_:Unit) t h=>t 1=slv 2 false nn (l.map ac6.cells)∧t 2=.ptr 0 0 0∧t 5=.ptr 1 0 0∧t 8=.ptr j 0 0∧t 11=.int .i64 i∧avQ h n j m m.cpy sv vv mv ov nS nV nM nO m.bgn 0 []) (fun _ _=>())
  (fun _ e t h=>e=.exit 6∧t 1=slv 2 false nn (l.map ac6.cells)∧t 2=.ptr 0 0 0∧t 5=.ptr 1 0 0∧t 8=.ptr j 0 0∧avQ h n j m m.cpy sv vv mv ov nS nV nM nO m.bgn 0 []) ?_ ?_ () _ _ ?_) (fun e t h hk=>?_)
 ·rintro _ t h Q' kQ ⟨h1,h2,h5,h8,hi0,G⟩
  obtain⟨w1,b1⟩:=G.b1
  rw[an9]at hi0
  (have hb:=trivial;with_reducible repeat' (first|simp only[hb,Va.down,seval,TY4.down,h1,h2,h5,h8,hi0,b1,lnV,ahB,decide_false]|refine fsp ?_ ?_<;>intro hb|refine fd ?_|fail))
  exact kQ _ _ _ ⟨rfl,by simp[up,h1],by simp[up,h2],by simp[up,h5],by simp[up,h8],G⟩
 ·rintro x rest i _ t h J Q' kJ kQ hx hi ⟨h1,h2,h5,h8,hi0,G⟩
  have hi':i<nV:=by simpa using hi
  obtain⟨w1,b1⟩:=G.b1
  obtain⟨b,wb,rows,r,v0,kk,hvv,hb2,hbn,hb,hrl,hri,hr1,hr2,hS0⟩:=G.v.at_ hi'
  obtain⟨x1,x2,x3,rfl⟩:=a7M hr1 hr2
  have hdd:decide ((i:Int)<(nV:Int))=true:=decide_eq_true (by omega)
  have hdi:((i:Int)<(nV:Int))=True:=eq_true (by omega)
  have hww:=agA hi' (by unfold maxLen;omega)
  (with_reducible repeat' (first|simp only[hb,Va.down,seval,TY4.down,h1,h2,h5,h8,hi0,hdd,hdi,b1,hvv,hb,hri]|refine fsp ?_ ?_<;>intro hb|refine fd ?_|fail))
  refine anJ (lst 313 (am7 kk ()) (fun k (_:Unit) t h=>t 1=slv 2 false nn (l.map ac6.cells)∧t 2=.ptr 0 0 0∧t 5=.ptr 1 0 0∧t 8=.ptr j 0 0∧t 11=.int .i64 (i:Int)∧t 12=.int .i64 k∧avQ h n j m m.cpy sv vv mv ov nS nV nM nO m.bgn 0 []∧(∃w,h[b]?=some (.live 4 false w rows))∧Shp h n 1 v0 kk) (fun _ _=>())
   (fun _ e t h=>e=.exit 8∧t 1=slv 2 false nn (l.map ac6.cells)∧t 2=.ptr 0 0 0∧t 5=.ptr 1 0 0∧t 8=.ptr j 0 0∧t 11=.int .i64 (i:Int)∧avQ h n j m m.cpy sv vv mv ov nS nV nM nO m.bgn 0 []∧∃w,h[b]?=some (.live 4 false w rows)) ?_ ?_ () _ _ ?_) (fun e t h hk=>?_)
  ·rintro _ t h Q'' kQ ⟨h1,h2,h5,h8,hi0,hk0,G,⟨w2,hb⟩,hS0⟩
   obtain⟨w1,b1⟩:=G.b1
   have ln0:=hS0.ln Tryz.underlying25
   rw[an9]at hk0
   (with_reducible repeat' (first|simp only[hb,Va.down,seval,TY4.down,h1,h2,h5,h8,hi0,hk0,hdd,hdi,b1,hvv,hb,hri,ln0,ahB,decide_false]|refine fsp ?_ ?_<;>intro hb|refine fd ?_|fail))
   exact kQ _ _ _ ⟨rfl,by simp[up,h1],by simp[up,h2],by simp[up,h5],by simp[up,h8],by simp[up,hi0],G,w2,hb⟩
  ·rintro x rest k _ t h J' Q'' kJ kQ hx hi ⟨h1,h2,h5,h8,hi0,hk0,G,⟨w2,hb⟩,hS0⟩
   have hk':k<kk:=by simpa using hi
   obtain⟨w1,b1⟩:=G.b1
   have hk1:=hS0.1
   obtain⟨c,wc,rows0,r0,hv0,hc2,hcn,hc,hcl,hcr,hck,hpr⟩:=hS0.at_ hk'
   obtain⟨y0,rfl⟩:=a0N hpr.1
   have hdk:decide ((k:Int)<(kk:Int))=true:=decide_eq_true (by omega)
   have hdj:((k:Int)<(kk:Int))=True:=eq_true (by omega)
   have hwk:=agA hk' (by unfold maxLen;omega)
   have hcb:c≠b:=fun e=>by subst e;rw[hb]at hc;cases hc
   (with_reducible repeat' (first|simp only[hb,Va.down,seval,TY4.down,h1,h2,h5,h8,hi0,hk0,hdd,hdi,hdk,hdj,hwk,b1,hvv,hb,hri,hv0,hc,hck]|refine fsp ?_ ?_<;>intro hb|refine fd ?_|fail))
   exact ai7 (kJ _ _ () ⟨by simp[up,h1],by simp[up,h2],by simp[up,h5],by simp[up,h8],by simp[up,hi0],by simp[up],G.set hc2 hcn hc (by simp) (atJ hcr ⟨rfl,fun e=>by omega⟩),⟨w2,by rw[acQ hcb];exact hb⟩,hS0.set hc (by simp) (atJ hcr ⟨rfl,fun e=>by omega⟩)⟩ rfl)
  ·exact⟨by simp[up,h1],by simp[up,h2],by simp[up,h5],by simp[up,h8],by simp[up,hi0],by simp[up],G,⟨wb,hb⟩,hS0⟩
  obtain⟨rfl,h1,h2,h5,h8,hi0,G,w2,hb⟩:=hk
  obtain⟨w1,b1⟩:=G.b1
  (with_reducible repeat' (first|simp only[hb,Va.down,seval,TY4.down,h1,h2,h5,h8,hi0,hdd,hdi,hww,b1,hvv,hb,hri]|refine fsp ?_ ?_<;>intro hb|refine fd ?_|fail))
  exact ai7 (kJ _ _ () ⟨by simp[up,h1],by simp[up,h2],by simp[up,h5],by simp[up,h8],by simp[up],G.setN hb2 hbn hb (by simp) (fun _=>aJJ hri rfl rfl) (fun e=>by omega)⟩ rfl)
 ·exact⟨by simp[up,h1],by simp[up,h2],by simp[up,h5],by simp[up,h8],by simp[up],G0⟩
 obtain⟨rfl,h1,h2,h5,h8,G0⟩:=hk
 obtain⟨w1,b1⟩:=G0.b1
 (have hb:=trivial;with_reducible repeat' (first|simp only[hb,Va.down,seval,TY4.down,h1,h2,h5,h8,b1]|refine fsp ?_ ?_<;>intro hb|refine fd ?_|fail))
 refine anJ (lst 313 (am7 nM ()) (fun i (_:Unit) t h=>t 1=slv 2 false nn (l.map ac6.cells)∧t 2=.ptr 0 0 0∧t 5=.ptr 1 0 0∧t 8=.ptr j 0 0∧t 13=.int .i64 i∧avQ h n j m m.cpy sv vv mv ov nS nV nM nO m.bgn 0 []) (fun _ _=>())
  (fun _ e t h=>e=.exit 10∧t 1=slv 2 false nn (l.map ac6.cells)∧t 2=.ptr 0 0 0∧t 5=.ptr 1 0 0∧t 8=.ptr j 0 0∧avQ h n j m m.cpy sv vv mv ov nS nV nM nO m.bgn 0 []) ?_ ?_ () _ _ ?_) (fun e t h hk=>?_)
 ·rintro _ t h Q' kQ ⟨h1,h2,h5,h8,hi0,G⟩
  obtain⟨w1,b1⟩:=G.b1
  rw[an9]at hi0
  (have hb:=trivial;with_reducible repeat' (first|simp only[hb,Va.down,seval,TY4.down,h1,h2,h5,h8,hi0,b1,lnX,ahB,decide_false]|refine fsp ?_ ?_<;>intro hb|refine fd ?_|fail))
  exact kQ _ _ _ ⟨rfl,by simp[up,h1],by simp[up,h2],by simp[up,h5],by simp[up,h8],G⟩
 ·rintro x rest i _ t h J Q' kJ kQ hx hi ⟨h1,h2,h5,h8,hi0,G⟩
  have hi':i<nM:=by simpa using hi
  obtain⟨w1,b1⟩:=G.b1
  obtain⟨b,wb,rows,r,v0,kk,hvv,hb2,hbn,hb,hrl,hri,hr1,hr2,hS0⟩:=G.x.at_ hi'
  obtain⟨x1,x2,x3,x4,rfl⟩:=a7H hr1 hr2
  have hdd:decide ((i:Int)<(nM:Int))=true:=decide_eq_true (by omega)
  have hdi:((i:Int)<(nM:Int))=True:=eq_true (by omega)
  have hww:=agA hi' (by unfold maxLen;omega)
  (with_reducible repeat' (first|simp only[hb,Va.down,seval,TY4.down,h1,h2,h5,h8,hi0,hdd,hdi,b1,hvv,hb,hri]|refine fsp ?_ ?_<;>intro hb|refine fd ?_|fail))
  refine anJ (lst 313 (am7 kk ()) (fun k (_:Unit) t h=>t 1=slv 2 false nn (l.map ac6.cells)∧t 2=.ptr 0 0 0∧t 5=.ptr 1 0 0∧t 8=.ptr j 0 0∧t 13=.int .i64 (i:Int)∧t 14=.int .i64 k∧avQ h n j m m.cpy sv vv mv ov nS nV nM nO m.bgn 0 []∧(∃w,h[b]?=some (.live 5 false w rows))∧Shp h n 2 v0 kk) (fun _ _=>())
   (fun _ e t h=>e=.exit 12∧t 1=slv 2 false nn (l.map ac6.cells)∧t 2=.ptr 0 0 0∧t 5=.ptr 1 0 0∧t 8=.ptr j 0 0∧t 13=.int .i64 (i:Int)∧avQ h n j m m.cpy sv vv mv ov nS nV nM nO m.bgn 0 []∧∃w,h[b]?=some (.live 5 false w rows)) ?_ ?_ () _ _ ?_) (fun e t h hk=>?_)
  ·rintro _ t h Q'' kQ ⟨h1,h2,h5,h8,hi0,hk0,G,⟨w2,hb⟩,hS0⟩
   obtain⟨w1,b1⟩:=G.b1
   have ln0:=hS0.ln Tryz.underlying50
   rw[an9]at hk0
   (with_reducible repeat' (first|simp only[hb,Va.down,seval,TY4.down,h1,h2,h5,h8,hi0,hk0,hdd,hdi,b1,hvv,hb,hri,ln0,ahB,decide_false]|refine fsp ?_ ?_<;>intro hb|refine fd ?_|fail))
   exact kQ _ _ _ ⟨rfl,by simp[up,h1],by simp[up,h2],by simp[up,h5],by simp[up,h8],by simp[up,hi0],G,w2,hb⟩
  ·rintro x rest k _ t h J' Q'' kJ kQ hx hi ⟨h1,h2,h5,h8,hi0,hk0,G,⟨w2,hb⟩,hS0⟩
   have hk':k<kk:=by simpa using hi
   obtain⟨w1,b1⟩:=G.b1
   have hk1:=hS0.1
   obtain⟨c,wc,rows0,r0,hv0,hc2,hcn,hc,hcl,hcr,hck,hpr⟩:=hS0.at_ hk'
   obtain⟨y0,y1,rfl⟩:=hpr.2 rfl
   have hdk:decide ((k:Int)<(kk:Int))=true:=decide_eq_true (by omega)
   have hdj:((k:Int)<(kk:Int))=True:=eq_true (by omega)
   have hwk:=agA hk' (by unfold maxLen;omega)
   have hcb:c≠b:=fun e=>by subst e;rw[hb]at hc;cases hc
   (with_reducible repeat' (first|simp only[hb,Va.down,seval,TY4.down,h1,h2,h5,h8,hi0,hk0,hdd,hdi,hdk,hdj,hwk,b1,hvv,hb,hri,hv0,hc,hck]|refine fsp ?_ ?_<;>intro hb|refine fd ?_|fail))
   exact ai7 (kJ _ _ () ⟨by simp[up,h1],by simp[up,h2],by simp[up,h5],by simp[up,h8],by simp[up,hi0],by simp[up],G.set hc2 hcn hc (by simp) (atJ hcr ⟨rfl,fun _=>⟨_,_,rfl⟩⟩),⟨w2,by rw[acQ hcb];exact hb⟩,hS0.set hc (by simp) (atJ hcr ⟨rfl,fun _=>⟨_,_,rfl⟩⟩)⟩ rfl)
  ·exact⟨by simp[up,h1],by simp[up,h2],by simp[up,h5],by simp[up,h8],by simp[up,hi0],by simp[up],G,⟨wb,hb⟩,hS0⟩
  obtain⟨rfl,h1,h2,h5,h8,hi0,G,w2,hb⟩:=hk
  obtain⟨w1,b1⟩:=G.b1
  (with_reducible repeat' (first|simp only[hb,Va.down,seval,TY4.down,h1,h2,h5,h8,hi0,hdd,hdi,hww,b1,hvv,hb,hri]|refine fsp ?_ ?_<;>intro hb|refine fd ?_|fail))
  exact ai7 (kJ _ _ () ⟨by simp[up,h1],by simp[up,h2],by simp[up,h5],by simp[up,h8],by simp[up],G.setN hb2 hbn hb (by simp) (fun e=>by omega) (fun _=>aJJ hri rfl rfl)⟩ rfl)
 ·exact⟨by simp[up,h1],by simp[up,h2],by simp[up,h5],by simp[up,h8],by simp[up],G0⟩
 obtain⟨rfl,h1,h2,h5,h8,G0⟩:=hk
 obtain⟨w1,b1⟩:=G0.b1
 (have hb:=trivial;with_reducible repeat' (first|simp only[hb,Va.down,seval,TY4.down,h1,h2,h5,h8,b1]|refine fsp ?_ ?_<;>intro hb|refine fd ?_|fail))
 refine anJ (lst 313 (am7 nO ()) (fun i (_:Unit) t h=>t 1=slv 2 false nn (l.map ac6.cells)∧t 2=.ptr 0 0 0∧t 5=.ptr 1 0 0∧t 8=.ptr j 0 0∧t 15=.int .i64 i∧avQ h n j m m.cpy sv vv mv ov nS nV nM nO m.bgn 0 []) (fun _ _=>())
  (fun _ e t h=>e=.exit 14∧t 1=slv 2 false nn (l.map ac6.cells)∧t 2=.ptr 0 0 0∧t 5=.ptr 1 0 0∧t 8=.ptr j 0 0∧avQ h n j m m.cpy sv vv mv ov nS nV nM nO m.bgn 0 []) ?_ ?_ () _ _ ?_) (fun e t h hk=>?_)
 ·rintro _ t h Q' kQ ⟨h1,h2,h5,h8,hi0,G⟩
  obtain⟨w1,b1⟩:=G.b1
  rw[an9]at hi0
  (have hb:=trivial;with_reducible repeat' (first|simp only[hb,Va.down,seval,TY4.down,h1,h2,h5,h8,hi0,b1,lnO,ahB,decide_false]|refine fsp ?_ ?_<;>intro hb|refine fd ?_|fail))
  exact kQ _ _ _ ⟨rfl,by simp[up,h1],by simp[up,h2],by simp[up,h5],by simp[up,h8],G⟩
 ·rintro x rest i _ t h J Q' kJ kQ hx hi ⟨h1,h2,h5,h8,hi0,G⟩
  have hi':i<nO:=by simpa using hi
  obtain⟨w1,b1⟩:=G.b1
  obtain⟨b,wb,rows,r,hvv,hb2,hbn,hb,hrl,hrows,hri,hpr⟩:=G.o.at_ hi'
  obtain⟨x1,rfl⟩:=a0N hpr.1
  have hdd:decide ((i:Int)<(nO:Int))=true:=decide_eq_true (by omega)
  have hdi:((i:Int)<(nO:Int))=True:=eq_true (by omega)
  have hww:=agA hi' (by unfold maxLen;omega)
  (with_reducible repeat' (first|simp only[hb,Va.down,seval,TY4.down,h1,h2,h5,h8,hi0,hdd,hdi,hww,b1,hvv,hb,hri]|refine fsp ?_ ?_<;>intro hb|refine fd ?_|fail))
  exact ai7 (kJ _ _ () ⟨by simp[up,h1],by simp[up,h2],by simp[up,h5],by simp[up,h8],by simp[up],G.set hb2 hbn hb (by simp) (atJ hrows ⟨rfl,fun e=>by omega⟩)⟩ rfl)
 ·exact⟨by simp[up,h1],by simp[up,h2],by simp[up,h5],by simp[up,h8],by simp[up],G0⟩
 obtain⟨rfl,h1,h2,h5,h8,G0⟩:=hk
 (have hb:=trivial;with_reducible repeat' (first|simp only[hb,Va.down,seval,TY4.down,h1,h2,h5,h8]|refine fsp ?_ ?_<;>intro hb|refine fd ?_|fail))
 exact hK t h n j h1 h2 h8 G0.b0 G0.t hfl G0.q
def THp(H:aaP)(P:Nat→Prop)(j:Nat)(m:ad5)(st ag:Int)(l:List ac6):Prop:=∃w sv vv mv ov sc Rm Rs rows,TAt H j m st ag l w sv vv mv ov sc Rm Rs rows∧P j∧(∀b∈Rm++Rs,P b)∧∀b∈scB sc,P b
theorem THp.mono{H:aaP}{P Q:Nat→Prop}{j:Nat}{m:ad5}{st ag:Int}{l:List ac6}(T:THp H P j m st ag l)(h:∀b,P b→Q b):THp H Q j m st ag l:=by
 obtain⟨w,sv,vv,mv,ov,sc,Rm,Rs,rows,T,h1,h2,h3⟩:=T
 exact⟨w,sv,vv,mv,ov,sc,Rm,Rs,rows,T,h j h1,fun b hb=>h b (h2 b hb),fun b hb=>h b (h3 b hb)⟩
theorem THp.keep{H H':aaP}{P:Nat→Prop}{j:Nat}{m:ad5}{st ag:Int}{l:List ac6}(T:THp H P j m st ag l)(h:∀b c,P b→H[b]?=some c→H'[b]?=some c):THp H' P j m st ag l:=by
 obtain⟨w,sv,vv,mv,ov,sc,Rm,Rs,rows,T,h1,h2,h3⟩:=T
 have agr:∀R:List Nat,(∀b∈R,b∈Rm++Rs)→Agr R (hf H) (hf H'):=fun R hR b hb z hz=>by
  obtain⟨c,k1,k2⟩:=aoF.1 hz
  show(H'[b]?).bind agI=_
  rw[h b c (h2 b (hR b hb)) k1];exact k2
 refine⟨w,sv,vv,mv,ov,sc,Rm,Rs,rows,⟨h j _ h1 T.cell,aq7 T.mach (agr _ fun b hb=>aoG _ hb),?_,aqE T.scs (agr _ fun b hb=>aoU _ hb),T.nil,T.dp,T.ds⟩,h1,h2,h3⟩
 rcases T.own with k|⟨b',w',e,hg⟩
 ·exact .inl k
 ·exact .inr ⟨b',w',e,h b' _ (h3 b' (by rw[e];simp[scB])) hg⟩
theorem THi.p{H:aaP}{n j:Nat}{m:ad5}{st ag:Int}{l:List ac6}(T:THi H n j m st ag l):THp H (fun b=>n≤b) j m st ag l:=T
theorem THp.lt{H:aaP}{P:Nat→Prop}{j:Nat}{m:ad5}{st ag:Int}{l:List ac6}(T:THp H P j m st ag l):THp H (fun b=>P b∧b<H.length) j m st ag l:=by
 obtain⟨w,sv,vv,mv,ov,sc,Rm,Rs,rows,T,h1,h2,h3⟩:=T
 have hm:∀b∈Rm,b<H.length:=aDW (by omega) T.mach
 have hs:∀b∈Rs,b<H.length:=aAH (by omega) T.scs
 refine⟨w,sv,vv,mv,ov,sc,Rm,Rs,rows,T,⟨h1,alB T.cell⟩,fun b hb=>⟨h2 b hb,(apD.1 hb).elim (hm b) (hs b)⟩,fun b hb=>⟨h3 b hb,?_⟩⟩
 rcases T.own with⟨_,e⟩|⟨b',w',e,hg⟩
 ·rw[e]at hb;simp[scB]at hb
 ·have hbb:b=b':=by rw[e]at hb;simpa [scB]using hb
  subst hbb;exact alB hg
theorem THp.feed{h:aaP}{P:Nat→Prop}{j:Nat}{m:ad5}{st ag:Int}{l:List ac6}(T:THp h P j m st ag l)(hq:ajX h=true)(y:ac6)(hs:m.small)(hv:an4 m=true)(hl:y.reads.length≤1000)(hb1:ar7 m y=true)(h200:l.length<200){rv:AV}{Rr:List Nat}(hrv:rd 6 (hf h) rv=some (slv 1 true y.nn (y.reads.map iv),Rr)):
 ∃es M,cl om' h (some (.func (.func 9) [] [])) (some [.ptr j 0 0,.agg [rv,.int .i64 y.cmd]])=some (.ret (.tup [.int .i64 (aqM m st ag y).1,.int .i64 0]),es)∧alZ h es=M∧h.length≤M.length∧THp M (fun b=>P b∨h.length≤b) j m (aqM m st ag y).1 (aqM m st ag y).2 (l++[y])∧ajX M=true∧∀b c,¬P b→h[b]?=some c→M[b]?=some c:=by
 obtain⟨w1,sv,vv,mv,ov,sc,Rm,Rs,rows,T,pj,pR,ps⟩:=T
 have hX:∀G:aaP,(∃row,G[j]?=some (.live 11 false true row))→(∀b∈scB sc,G[b]?=some .dead)→∀b∈j::scB sc,b<h.length∧∀c0 c,h[b]?=some c0→G[b]?=some c→c0.isLive=true∧c0.quiet c=false:=fun G g1 g2 b hb=>by
  rcases apM.1 hb with rfl|hb
  ·obtain⟨row,g1⟩:=g1
   refine⟨alB T.cell,fun c0 c k1 k2=>?_⟩
   rw[T.cell]at k1;rw[g1]at k2;cases k1;cases k2;exact⟨rfl,rfl⟩
  ·rcases T.own with⟨_,e⟩|⟨b',w',e,hg⟩
   ·rw[e]at hb;simp[scB]at hb
   ·have hbb:b=b':=by rw[e]at hb;simpa [scB]using hb
    subst hbb
    refine⟨alB hg,fun c0 c k1 k2=>?_⟩
    rw[hg]at k1;rw[g2 b hb]at k2;cases k1;cases k2;exact⟨rfl,rfl⟩
 have hrc:rd 6 (hf (clH h)) rv=some (slv 1 true y.nn (y.reads.map iv),Rr):=aqL hrv fun b _ z hz=>by
  show((clH h)[b]?).bind agI=_
  have hz':(h[b]?).bind agI=some z:=hz
  cases h3:h[b]? with
  |none=>rw[h3]at hz';cases hz'
  |some c=>rw[avL h3];rw[h3]at hz';exact(ayD c).trans hz'
 obtain⟨o,G,es,e1,e2,sc',Rs',rows',rfl,T',q',K,kd,ks,kr⟩:=aVN rfl rfl (aW0 T.cln (aAI hq) y hs hv hl hb1 h200 hrc) (fun o G hQ=>by
  obtain⟨sc',Rs',rows',_,T',q',K,kd,_⟩:=hQ
  exact(azI hq K (hX G ⟨_,T'.cell⟩ kd)).1)
 rw[axG]at ks kr
 have X:=hX G ⟨_,T'.cell⟩ kd
 obtain⟨_,m1,m2,m3,m4⟩:=azI hq K X
 have mr:=aN5 hq K X
 have hle:h.length≤G.length:=by have:=K.len;rwa[axG]at this
 have agr:∀R,Agr R (hf G) (hf (mrg h G)):=fun R b _ z hz=>by rw[mr b];exact hz
 refine⟨es,_,e1,e2,by rw[m1];exact hle,⟨true,sv,vv,mv,ov,sc',Rm,Rs',rows',⟨?_,aq7 T'.mach (agr _),?_,aqE T'.scs (agr _),T'.nil,T'.dp,T'.ds⟩,.inl pj,?_,?_⟩,aOF hq K X q',fun b c hn hc=>?_⟩
 ·exact m4 j (atY ..) _ T'.cell
 ·rcases T'.own with k|⟨b',w',e,hg⟩
  ·exact .inl k
  ·have hb2:=ks _ _ _ _ e
   exact .inr ⟨b',w',e,by rw[m2 b' (by omega)];exact hg⟩
 ·intro b hb
  rcases apD.1 hb with hb|hb
  ·exact .inl (pR b (aoG _ hb))
  ·rcases kr b hb with hb|hb
   ·exact .inl (pR b (aoU _ hb))
   ·exact .inr hb
 ·intro b hb
  cases sc'<;>first|(simp[scB]at hb;done)|skip
  simp[scB]at hb;subst hb
  exact .inr (ks _ _ _ _ rfl)
 ·rw[m3 b (alB hc) (fun hx=>by
   rcases apM.1 hx with rfl|hx
   ·exact hn pj
   ·exact hn (ps b hx))]
  exact hc
theorem THp.state{h:aaP}{P:Nat→Prop}{j:Nat}{m:ad5}{st ag:Int}{l:List ac6}(T:THp h P j m st ag l)(hq:ajX h=true)(h0:0≤st){o:Int}(ho:m.opn[st.toNat]?=some o):
 cl om' h (some (.func (.func 12) [] [])) (some [.ptr j 0 0])=some (.ret (.tup [.int .i64 st,.int .i64 ag,.int .i64 o,.int .i64 0]),[]):=by
 obtain⟨w1,sv,vv,mv,ov,sc,Rm,Rs,rows,T,h1,h2⟩:=T
 exact aMV rfl rfl (aVQ T.cln (aAI hq) h0 ho) hq
theorem THp.log{h:aaP}{P:Nat→Prop}{j:Nat}{m:ad5}{st ag:Int}{l:List ac6}(T:THp h P j m st ag l)(hq:ajX h=true)(hl:l.length≤1000)(hy:∀y∈l,low y):
 ∃es L,cl om' h (some (.func (.func 13) [] [])) (some [.ptr j 0 0])=some (.ret (.tup [.str (axM l),.int .i64 0]),es)∧alZ h es=h++L∧ajX L=true:=by
 obtain⟨w1,sv,vv,mv,ov,sc,Rm,Rs,rows,T,h1,h2⟩:=T
 obtain⟨o,G,hc,rfl,L,rfl,hL⟩:=a5W T.cln (aAI hq) hl hy
 exact⟨_,L,aM8 rfl rfl hc hq,az4 ..,hL⟩
def ac6.nil(y:ac6):ac6:={ y with nn:=false }
theorem aM5:∀l:List ac6,axM (l.map ac6.nil)=axM l
 | []=>rfl
 |y::l=>by simp only[List.map_cons,axM,List.flatMap_cons]at *;rw[show(l.map ac6.nil).flatMap (fun y=>atH y++[10])=l.flatMap (fun y=>atH y++[10])from aM5 l];rfl
theorem a1V(hk:om'.call (.fn 6) [] []=some (.ret (.bool true),[]))(m:ad5)(hs:m.small)(hv:an4 m=true){nn:Bool}{l:List ac6}(h10:l.length≤10)(hsc:∀y∈l,ar7 m y=true)(t:Tm)(g:aaP)(n j:Nat)
 (h1:t 1=slv 2 false nn (l.map ac6.cells)) (h2:t 2=.ptr 0 0 0) (h8:t 8=.ptr j 0 0) (hb0:∃w,g[0]?=some (.live 7 false w [[slv 3 true m.nS (m.sens.map ak7.cells),slv 4 false m.nV (m.votes.map acT.cells),slv 5 false m.nM (m.moves.map acS.cells),.int .i64 m.states,.int .i64 m.cmds,.int .i64 m.bgn,slv 1 true m.nO (m.opn.map iv)]])) (T0:THi g n j m.cpy m.bgn 0 []) (hn:2≤n) (hq:ajX g=true):
 FnE Tryz.prog 0 Tryz.f4.results.toList (fun o h=>(o,h)=(.ret (.bool true),[])) (evM om' Tryz.prog 4946 (cAt (Tryz.f4.body.getD .skip) [true,true,true,true,true,true,true,true,true,true,true,true,true,true,true]) [] ⟨mk 313 t,g⟩):=by
 simp only[Tryz.f4,cAt,atT]
 have hbg:=aID hv
 have ho:=aIV hv
 have cs1:=aFW hs
 have cv1:an4 m.cpy=true:=by rw[aI9];exact hv
 have opn:∀st:Int,0≤st∧st<m.states→∃o,m.opn[st.toNat]?=some o:=fun st h=>⟨_,atV (by omega)⟩
 obtain⟨w0,b0⟩:=hb0
 obtain⟨q2,hq2⟩:∃q,Fn.func 9=q:=⟨_,rfl⟩
 obtain⟨q3,hq3⟩:∃q,Fn.func 12=q:=⟨_,rfl⟩
 obtain⟨q4,hq4⟩:∃q,Fn.func 13=q:=⟨_,rfl⟩
 (have hb:=trivial;with_reducible repeat' (first|simp only[hb,Va.down,seval,TY4.down,h1,h2,h8,b0]|refine fsp ?_ ?_<;>intro hb|refine fd ?_|fail))
 refine anJ (lst 313 l (fun i (_:Unit) t h=>t 1=slv 2 false nn (l.map ac6.cells)∧t 2=.ptr 0 0 0∧t 8=.ptr j 0 0∧t 18=.int .i64 i∧∃st ag,t 16=.int .i64 st∧t 17=.int .i64 ag∧(∃w,h[0]?=some (.live 7 false w [[slv 3 true m.nS (m.sens.map ak7.cells),slv 4 false m.nV (m.votes.map acT.cells),slv 5 false m.nM (m.moves.map acS.cells),.int .i64 m.states,.int .i64 m.cmds,.int .i64 m.bgn,slv 1 true m.nO (m.opn.map iv)]]))∧THp h (fun b=>2≤b) j m.cpy st ag ((l.take i).map ac6.nil)∧ajX h=true∧(0≤st∧st<m.states)∧(0≤ag∧ag≤10)) (fun _ _=>())
  (fun _ e t h=>e=.exit 16∧t 1=slv 2 false nn (l.map ac6.cells)∧t 2=.ptr 0 0 0∧t 8=.ptr j 0 0∧∃st ag,t 16=.int .i64 st∧t 17=.int .i64 ag∧(∃w,h[0]?=some (.live 7 false w [[slv 3 true m.nS (m.sens.map ak7.cells),slv 4 false m.nV (m.votes.map acT.cells),slv 5 false m.nM (m.moves.map acS.cells),.int .i64 m.states,.int .i64 m.cmds,.int .i64 m.bgn,slv 1 true m.nO (m.opn.map iv)]]))∧THp h (fun b=>2≤b) j m.cpy st ag (l.map ac6.nil)∧ajX h=true∧(0≤st∧st<m.states)∧(0≤ag∧ag≤10)) ?_ ?_ () _ _ ?_) (fun e t h hk2=>?_)
 ·rintro _ t h Q' kQ ⟨h1,h2,h8,h18,st,ag,h16,h17,hbz,T,hq,hst,hag⟩
  (have hb:=trivial;with_reducible repeat' (first|simp only[hb,Va.down,seval,TY4.down,h1,h18,ahB,decide_false,aeG]|refine fsp ?_ ?_<;>intro hb|refine fd ?_|fail))
  rw[List.take_of_length_le (ap1 _)]at T
  exact kQ _ _ _ ⟨rfl,by simp[up,h1],by simp[up,h2],by simp[up,h8],st,ag,by simp[up,h16],by simp[up,h17],hbz,T,hq,hst,hag⟩
 ·rintro x rest i _ t h J Q' kJ kQ hx hi ⟨h1,h2,h8,h18,st,ag,h16,h17,⟨w0,b0⟩,T,hq,hst,hag⟩
  have hdd:decide ((i:Int)<(l.length:Int))=true:=decide_eq_true (by omega)
  have hww:=agA hi (by unfold maxLen;omega)
  have hxs:=hsc x (aoD hx)
  have hlow:=aI8 hv hxs
  have hxl:=hlow.2.2.2
  have hrd:aw3 m x.reads=true:=by simp only[ar7,Bool.and_eq_true]at hxs;exact hxs.1
  have hstp:=aZ5 m st ag x hs hv hrd
  obtain⟨hst2,hag2⟩:=aXN (y:=x) hv hst.1 hst.2 hag.1 hag.2
  have htk:(l.take (i+1)).map ac6.nil=(l.take i).map ac6.nil++[x.nil]:=by rw[az7 hx,List.map_append];rfl
  have h200:((l.take i).map ac6.nil).length<200:=by simp;omega
  have hap:=aLG h x.nn (rows:=x.reads.map iv) (by simp;omega)
  have T1:=T.lt
  have hj2:2<h.length:=by
   obtain⟨_,_,_,_,_,_,_,_,_,T3,⟨p1,p2⟩,_⟩:=T1
   omega
  generalize hst':(aqM m st ag x).1=st' at *
  generalize hag':(aqM m st ag x).2=ag' at *
  by_cases hne:x.reads=[]
  ·rw[if_pos (by simp[hne])]at hap
   have T2:=T1.keep (H':=h++[.live 2 false true [[.nils,.int .i64 x.cmd]]]) (fun b c _ hc=>ahZ hc _)
   have hrv:rd 6 (hf (h++[.live 2 false true [[.nils,.int .i64 x.cmd]]])) (.nils)=some (slv 1 true false (x.reads.map iv),[]):=by rw[hne];rfl
   obtain⟨es,M,f1,f2,f3,f4,f5,f6⟩:=T2.feed (aqG hq rfl) x.nil cs1 cv1 (by show x.reads.length≤1000;omega) (by rw[aKA];exact hxs) h200 hrv
   have bs:=f6 h.length _ (by omega) (by rw[aq0 (ap1 _),atX];rfl)
   have b0':=f6 0 _ (by omega) (ahZ b0 _)
   rw[aKG]at f1 f4
   rw[show aqM m st ag x.nil=aqM m st ag x from rfl,hst']at f1 f4
   rw[hag']at f4
   rw[hq2]at f1
   rw[show x.nil.cmd=x.cmd from rfl]at f1
   rw[←htk]at f4
   have T4:=f4
   have S0:Shp M M.length 1 (.nils) x.reads.length:=⟨by omega,.inl ⟨rfl,by rw[hne];rfl⟩⟩
   (have hb:=trivial;with_reducible repeat' (first|simp only[hb,Va.down,seval,TY4.down,h1,h2,h8,h18,hdd,hww,hx,hq2,f1,f2,hap,awO,axH,au7,ac6.cells,aeG]|refine fsp ?_ ?_<;>intro hb|refine fdx ?_|fail))
   refine asZ (fun b=>if b<h.length then 0 else b-h.length+1) [([],[]),([],[]),([],[]),([],[]),([],[]),([],[]),([],[]),([],[]),([],[]),([],[]),([],[]),([],[]),([.blk 1],[]),([.all],[.all])] (by kernel_rfl) ?_ (fun _=>?_)
   ·simp[au9,mfF,acP.foot]
   obtain⟨P1,hP1⟩:∃P1:Nat→Prop,P1=fun b=>2≤b∧b<h.length∨(h++([.live 2 false true [[.nils,.int .i64 x.cmd]]]:aaP)).length≤b:=⟨_,rfl⟩
   rw[←hP1]at T4
   have nP:¬P1 h.length:=by rw[hP1];simp
   refine anJ (lst 313 (am7 x.reads.length ()) (fun k (_:Unit) t h'=>t 1=slv 2 false nn (l.map ac6.cells)∧t 2=.ptr 0 0 0∧t 8=.ptr j 0 0∧t 16=.int .i64 st∧t 17=.int .i64 ag∧t 18=.int .i64 (i:Int)∧t 19=.ptr h.length 0 0∧t 20=.int .i64 st'∧t 21=.int .i64 0∧t 22=.int .i64 k∧(∃w,h'[0]?=some (.live 7 false w [[slv 3 true m.nS (m.sens.map ak7.cells),slv 4 false m.nV (m.votes.map acT.cells),slv 5 false m.nM (m.moves.map acS.cells),.int .i64 m.states,.int .i64 m.cmds,.int .i64 m.bgn,slv 1 true m.nO (m.opn.map iv)]]))∧(∃w,h'[h.length]?=some (.live 2 false w [[.nils,.int .i64 x.cmd]]))∧Shp h' M.length 1 (.nils) x.reads.length∧THp h' P1 j m.cpy st' ag' ((l.take (i+1)).map ac6.nil)∧ajX h'=true) (fun _ _=>())
    (fun _ e t h'=>e=.exit 18∧t 1=slv 2 false nn (l.map ac6.cells)∧t 2=.ptr 0 0 0∧t 8=.ptr j 0 0∧t 16=.int .i64 st∧t 17=.int .i64 ag∧t 18=.int .i64 (i:Int)∧t 19=.ptr h.length 0 0∧t 20=.int .i64 st'∧t 21=.int .i64 0∧(∃w,h'[0]?=some (.live 7 false w [[slv 3 true m.nS (m.sens.map ak7.cells),slv 4 false m.nV (m.votes.map acT.cells),slv 5 false m.nM (m.moves.map acS.cells),.int .i64 m.states,.int .i64 m.cmds,.int .i64 m.bgn,slv 1 true m.nO (m.opn.map iv)]]))∧(∃w,h'[h.length]?=some (.live 2 false w [[.nils,.int .i64 x.cmd]]))∧Shp h' M.length 1 (.nils) x.reads.length∧THp h' P1 j m.cpy st' ag' ((l.take (i+1)).map ac6.nil)∧ajX h'=true) ?_ ?_ () _ _ ?_) (fun e t h' hk3=>?_)
   ·rintro _ t h' Q'' kQ ⟨g1,g2,g8,g16,g17,g18,g19,g20,g21,g22,G0,⟨w2,gs⟩,S,T,Gq⟩
    rw[an9]at g22
    have g23:t 22=.int .i64 0:=by rw[g22,hne];rfl
    have ln0:=S.ln Tryz.underlying25
    (have hb:=trivial;with_reducible repeat' (first|simp only[hb,Va.down,seval,TY4.down,g1,g2,g8,g16,g17,g18,g19,g20,g21,g23,gs,ahB,decide_false]|refine fsp ?_ ?_<;>intro hb|refine fd ?_|fail))
    exact kQ _ _ _ ⟨rfl,by simp[up,g1],by simp[up,g2],by simp[up,g8],by simp[up,g16],by simp[up,g17],by simp[up,g18],by simp[up,g19],by simp[up,g20],by simp[up,g21],G0,⟨w2,gs⟩,S,T,Gq⟩
   ·rintro z rest k _ t h' J' Q'' kJ kQ hz hkl ⟨g1,g2,g8,g16,g17,g18,g19,g20,g21,g22,G0,⟨w2,gs⟩,S,T,Gq⟩
    have hk':k<x.reads.length:=by simpa using hkl
    rw[hne]at hk';simp at hk'
   ·exact⟨by simp[up,h1],by simp[up,h2],by simp[up,h8],by simp[up,h16],by simp[up,h17],by simp[up,h18],by simp[up],by simp[up],by simp[up],by simp[up],⟨_,b0'⟩,⟨_,bs⟩,S0,T4,f5⟩
   obtain⟨rfl,g1,g2,g8,g16,g17,g18,g19,g20,g21,⟨w3,G0⟩,⟨w2,gs⟩,S,T,Gq⟩:=hk3
   (have hb:=trivial;with_reducible repeat' (first|simp only[hb,Va.down,seval,TY4.down,g1,g2,g8,g16,g17,g18,g19,g20,g21,G0,hx,hww,hstp,aC2,ac6.cells,aeG]|refine fsp ?_ ?_<;>intro hb|refine fd ?_|fail))
   exact ai7 (kJ _ _ () ⟨by simp[up,g1],by simp[up,g2],by simp[up,g8],by simp[up],st',ag',by simp[up],by simp[up],⟨w3,G0⟩,T.mono (fun b hb1=>by rw[hP1]at hb1;simp at hb1;omega),Gq,hst2,hag2⟩ rfl)
  ·rw[if_neg (by simpa using hne)]at hap
   simp only[aeG]at hap
   have T2:=T1.keep (H':=h++[.live 1 true false (x.reads.map iv),.live 2 false true [[.slr 1 h.length 0 x.reads.length,.int .i64 x.cmd]]]) (fun b c _ hc=>ahZ hc _)
   have hrv:rd 6 (hf (h++[.live 1 true false (x.reads.map iv),.live 2 false true [[.slr 1 h.length 0 x.reads.length,.int .i64 x.cmd]]])) (.slr 1 h.length 0 x.reads.length)=some (slv 1 true false (x.reads.map iv),[h.length]):=by rw[ap2 hne];exact apI (by show((h++_)[h.length]?).bind agI=_;rw[aq0 (ap1 _),atX];rfl) (by simp)
   obtain⟨es,M,f1,f2,f3,f4,f5,f6⟩:=T2.feed (aqG hq rfl) x.nil cs1 cv1 (by show x.reads.length≤1000;omega) (by rw[aKA];exact hxs) h200 hrv
   have bs:=f6 (h.length+1) _ (by omega) (by rw[aq0 (by omega),Nat.add_sub_cancel_left];rfl)
   have br:=f6 h.length _ (by omega) (by rw[aq0 (ap1 _),atX];rfl)
   have b0':=f6 0 _ (by omega) (ahZ b0 _)
   rw[aKG]at f1 f4
   rw[show aqM m st ag x.nil=aqM m st ag x from rfl,hst']at f1 f4
   rw[hag']at f4
   rw[hq2]at f1
   rw[show x.nil.cmd=x.cmd from rfl]at f1
   rw[←htk]at f4
   have T4:=f4
   have S0:Shp M M.length 1 (.slr 1 h.length 0 x.reads.length) x.reads.length:=⟨by omega,.inr ⟨h.length,_,_,rfl,by omega,alB br,br,by simp,fun r hr=>by obtain⟨z,_,rfl⟩:=alV.1 hr;exact⟨rfl,fun e=>by omega⟩⟩⟩
   (have hb:=trivial;with_reducible repeat' (first|simp only[hb,Va.down,seval,TY4.down,h1,h2,h8,h18,hdd,hww,hx,hq2,f1,f2,hap,awO,axH,au7,ac6.cells,aeG]|refine fsp ?_ ?_<;>intro hb|refine fdx ?_|fail))
   refine asZ (fun b=>if b<h.length then 0 else b-h.length+1) [([],[]),([],[]),([],[]),([],[]),([],[]),([.blk 1],[]),([],[]),([],[]),([],[]),([],[]),([],[]),([],[]),([.blk 2],[]),([.all],[.all])] (by kernel_rfl) ?_ (fun _=>?_)
   ·simp[au9,mfF,acP.foot]
   obtain⟨P1,hP1⟩:∃P1:Nat→Prop,P1=fun b=>2≤b∧b<h.length∨(h++([.live 1 true false (x.reads.map iv),.live 2 false true [[.slr 1 h.length 0 x.reads.length,.int .i64 x.cmd]]]:aaP)).length≤b:=⟨_,rfl⟩
   rw[←hP1]at T4
   have nP:¬P1 h.length:=by rw[hP1];simp
   refine anJ (lst 313 (am7 x.reads.length ()) (fun k (_:Unit) t h'=>t 1=slv 2 false nn (l.map ac6.cells)∧t 2=.ptr 0 0 0∧t 8=.ptr j 0 0∧t 16=.int .i64 st∧t 17=.int .i64 ag∧t 18=.int .i64 (i:Int)∧t 19=.ptr (h.length+1) 0 0∧t 20=.int .i64 st'∧t 21=.int .i64 0∧t 22=.int .i64 k∧(∃w,h'[0]?=some (.live 7 false w [[slv 3 true m.nS (m.sens.map ak7.cells),slv 4 false m.nV (m.votes.map acT.cells),slv 5 false m.nM (m.moves.map acS.cells),.int .i64 m.states,.int .i64 m.cmds,.int .i64 m.bgn,slv 1 true m.nO (m.opn.map iv)]]))∧(∃w,h'[(h.length+1)]?=some (.live 2 false w [[.slr 1 h.length 0 x.reads.length,.int .i64 x.cmd]]))∧Shp h' M.length 1 (.slr 1 h.length 0 x.reads.length) x.reads.length∧THp h' P1 j m.cpy st' ag' ((l.take (i+1)).map ac6.nil)∧ajX h'=true) (fun _ _=>())
    (fun _ e t h'=>e=.exit 18∧t 1=slv 2 false nn (l.map ac6.cells)∧t 2=.ptr 0 0 0∧t 8=.ptr j 0 0∧t 16=.int .i64 st∧t 17=.int .i64 ag∧t 18=.int .i64 (i:Int)∧t 19=.ptr (h.length+1) 0 0∧t 20=.int .i64 st'∧t 21=.int .i64 0∧(∃w,h'[0]?=some (.live 7 false w [[slv 3 true m.nS (m.sens.map ak7.cells),slv 4 false m.nV (m.votes.map acT.cells),slv 5 false m.nM (m.moves.map acS.cells),.int .i64 m.states,.int .i64 m.cmds,.int .i64 m.bgn,slv 1 true m.nO (m.opn.map iv)]]))∧(∃w,h'[(h.length+1)]?=some (.live 2 false w [[.slr 1 h.length 0 x.reads.length,.int .i64 x.cmd]]))∧Shp h' M.length 1 (.slr 1 h.length 0 x.reads.length) x.reads.length∧THp h' P1 j m.cpy st' ag' ((l.take (i+1)).map ac6.nil)∧ajX h'=true) ?_ ?_ () _ _ ?_) (fun e t h' hk3=>?_)
   ·rintro _ t h' Q'' kQ ⟨g1,g2,g8,g16,g17,g18,g19,g20,g21,g22,G0,⟨w2,gs⟩,S,T,Gq⟩
    rw[an9]at g22
    have ln0:=S.ln Tryz.underlying25
    (have hb:=trivial;with_reducible repeat' (first|simp only[hb,Va.down,seval,TY4.down,g1,g2,g8,g16,g17,g18,g19,g20,g21,g22,gs,ln0,ahB,decide_false]|refine fsp ?_ ?_<;>intro hb|refine fd ?_|fail))
    exact kQ _ _ _ ⟨rfl,by simp[up,g1],by simp[up,g2],by simp[up,g8],by simp[up,g16],by simp[up,g17],by simp[up,g18],by simp[up,g19],by simp[up,g20],by simp[up,g21],G0,⟨w2,gs⟩,S,T,Gq⟩
   ·rintro z rest k _ t h' J' Q'' kJ kQ hz hkl ⟨g1,g2,g8,g16,g17,g18,g19,g20,g21,g22,G0,⟨w2,gs⟩,S,T,Gq⟩
    have hk':k<x.reads.length:=by simpa using hkl
    obtain⟨c,wc,rows0,r0,hv0,hc2,hcn,hc,hcl,hcr,hck,hpr⟩:=S.at_ hk'
    obtain⟨y0,rfl⟩:=a0N hpr.1
    cases hv0
    have ln0:=S.ln Tryz.underlying25
    have hdk:decide ((k:Int)<(x.reads.length:Int))=true:=decide_eq_true (by omega)
    have hdj:((k:Int)<(x.reads.length:Int))=True:=eq_true (by omega)
    have hwk:=agA hk' (by unfold maxLen;omega)
    (have hb:=trivial;with_reducible repeat' (first|simp only[hb,Va.down,seval,TY4.down,g1,g2,g8,g16,g17,g18,g19,g20,g21,g22,gs,hdk,hdj,hwk,hc,hck]|refine fsp ?_ ?_<;>intro hb|refine fd ?_|fail))
    obtain⟨w3,G0⟩:=G0
    exact ai7 (kJ _ _ () ⟨by simp[up,g1],by simp[up,g2],by simp[up,g8],by simp[up,g16],by simp[up,g17],by simp[up,g18],by simp[up,g19],by simp[up,g20],by simp[up,g21],by simp[up],⟨w3,by rw[acQ (by omega)];exact G0⟩,⟨w2,by rw[acQ (by omega)];exact gs⟩,S.set hc (by simp) (atJ hcr ⟨rfl,fun e=>by omega⟩),T.keep (fun b c hb1 hb2=>by rw[acQ (fun e=>nP (by rw[e];exact hb1))];exact hb2),ayE Gq _ rfl⟩ rfl)
   ·exact⟨by simp[up,h1],by simp[up,h2],by simp[up,h8],by simp[up,h16],by simp[up,h17],by simp[up,h18],by simp[up],by simp[up],by simp[up],by simp[up],⟨_,b0'⟩,⟨_,bs⟩,S0,T4,f5⟩
   obtain⟨rfl,g1,g2,g8,g16,g17,g18,g19,g20,g21,⟨w3,G0⟩,⟨w2,gs⟩,S,T,Gq⟩:=hk3
   (have hb:=trivial;with_reducible repeat' (first|simp only[hb,Va.down,seval,TY4.down,g1,g2,g8,g16,g17,g18,g19,g20,g21,G0,hx,hww,hstp,aC2,ac6.cells,aeG]|refine fsp ?_ ?_<;>intro hb|refine fd ?_|fail))
   exact ai7 (kJ _ _ () ⟨by simp[up,g1],by simp[up,g2],by simp[up,g8],by simp[up],st',ag',by simp[up],by simp[up],⟨w3,G0⟩,T.mono (fun b hb1=>by rw[hP1]at hb1;simp at hb1;omega),Gq,hst2,hag2⟩ rfl)
 ·exact⟨by simp[up,h1],by simp[up,h2],by simp[up,h8],by simp[up],m.bgn,0,by simp[up],by simp[up],⟨w0,b0⟩,T0.p.mono (fun b hb=>Nat.le_trans hn hb),hq,⟨by omega,by omega⟩,⟨by omega,by omega⟩⟩
 obtain⟨rfl,h1,h2,h8,st,ag,h16,h17,⟨w0,b0⟩,T,hq,hst,hag⟩:=hk2
 obtain⟨o,hop⟩:=opn st hst
 have g1:=T.state hq hst.1 hop
 have hlw:∀y∈l,low y:=fun y hy=>aI8 hv (hsc y hy)
 obtain⟨es2,L2,g2,g3,g4⟩:=T.log hq (by simp;omega) (fun y hy=>by obtain⟨z,hz,rfl⟩:=alV.1 hy;exact hlw z hz)
 rw[aM5]at g2
 rw[hq3]at g1
 rw[hq4]at g2
 have b0':=ahZ b0 L2
 have g5:=a5V (nn:=nn) (l:=l) (by omega) hlw
 have h00:(0≤st)=True:=eq_true hst.1
 have seq:(axM l==axM l)=true:=beq_self_eq_true _
 (have hb:=trivial;with_reducible repeat' (first|simp only[hb,Va.down,seval,TY4.down,hk,h1,h2,h8,h16,h17,hq3,hq4,g1,g2,g3,b0',g5,h00,hop,seq,aC2,iv,aeG]|refine fsp ?_ ?_<;>intro hb|refine fd ?_|fail))
end Go.Proofs.YtfkokgjfpojeoaaGreatDoor
