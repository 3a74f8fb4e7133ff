/- The functions of the layer, walked. -/
import Derived.Test.YtfkokgjfpojeoaaPartAC
import Derived.Test.YtfkokgjfpojeoaaLibE
import Derived.Test.YtfkokgjfpojeoaaLibD
open List renaming map_nil→aaA,getElem?_set_self→aaK,mem_cons→aa0,getElem?_set_ne→aa3,getElem?_append_left→aa9,mem_append→abO,length_nil→acI,map_cons→acM,length_map→acY,length_set→adV,length_cons→ae2,all_cons→afR,all_nil→af4,append_nil→af5,getElem?_append_right→af7,mem_cons_self→af8,mem_append_left→agB,mem_append_right→aiO,length_append→ai2,cons→aj8,getElem?_eq_some_iff→alV,drop_drop→alX,take_add_one→alY,map_append→alZ,take_of_length_le→al0,map_eq_nil_iff→al1,mem_of_getElem?→al2,nil_append→am9,append_assoc→an6,mem_cons_of_mem→apM
open Bool renaming and_true→ae4,and_false→ae7,and_eq_true→ajM
open Nat renaming le_refl→af6,lt_of_lt_of_le→af9,add_sub_cancel_left→anV
open Int renaming lt_irrefl→agA
open Option renaming bind_eq_some_iff→apR
set_option linter.unusedSimpArgs false
set_option linter.unusedVariables false
namespace Go.Proofs.Ytfkokgjfpojeoaa
open Go.Ev Go
set_option maxRecDepth 100000
set_option maxHeartbeats 16000000
theorem zH{α:Type}{f:α→List AV}(h:∀x m,Bl.refL (Bl 8) m (f x)=some (f x,m)):∀(l:List α) (m:List Nat),Fg m (l.map f)=some (l.map f,m)
 | [],_=>rfl
 |x::l,m=>by
  rw[acM,Fg,h x m]
  show Option.map _ (Fg m (l.map f))=_
  rw[zH h l m];rfl
theorem rU{α:Type}{f:α→List AV}(h:∀x (g:Nat→Nat),Au (Br 8 g) (f x)=some (f x)):∀(l:List α) (g:Nat→Nat),Au (Au (Br 8 g)) (l.map f)=some (l.map f)
 | [],_=>rfl
 |x::l,g=>by
  rw[acM,Au,h x g]
  show Option.map _ (Au (Au (Br 8 g)) (l.map f))=_
  rw[rU h l g];rfl
theorem ahD(x:Ag)(g:Nat→Nat):Au (Br 8 g) x.cells=some x.cells:=by
 obtain⟨nn,l,a,b,c⟩:=x
 cases l<;>cases nn<;>rfl
theorem aiB(x:Ai)(g:Nat→Nat):Au (Br 8 g) x.cells=some x.cells:=by
 obtain⟨a,b,nn,l,c,d⟩:=x
 cases l<;>cases nn<;>rfl
theorem ak1(x:Ag)(m:List Nat):Bl.refL (Bl 8) m x.cells=some (x.cells,m):=by
 obtain⟨nn,l,a,b,c⟩:=x
 cases l<;>cases nn<;>rfl
theorem alC(x:Ai)(m:List Nat):Bl.refL (Bl 8) m x.cells=some (x.cells,m):=by
 obtain⟨a,b,nn,l,c,d⟩:=x
 cases l<;>cases nn<;>rfl
theorem alB:Bh.call (.fn 65) [.nils] []=some (.ret .nils,[]):=by
 (refine ce Try.func65 ?_;simp only[Try.f65];(have hb:=trivial;with_reducible repeat' (first|simp only[hb,Va.down,seval,aj9.down]|refine An ?_ ?_<;>intro hb|refine fd ?_|fail)))
theorem zP{l:List Int}(hl:l.length≤1000):Bh.call (.fn 65) [.imm 1 true (l.map iv)] []=some (.ret (.slr 1 0 0 l.length),[.live 1 true false (l.map iv)]):=by
 cases l with
 |nil=>
  (refine ce Try.func65 ?_;simp only[Try.f65];(have hb:=trivial;with_reducible repeat' (first|simp only[hb,Va.down,seval,aj9.down,aaA]|refine An ?_ ?_<;>intro hb|refine fd ?_|fail)))
 |cons x l=>
  have h39:(l.length+1≤549755813888)=True:=eq_true (by simp at hl;omega)
  (refine ce Try.func65 ?_;simp only[Try.f65];(have hb:=trivial;with_reducible repeat' (first|simp only[hb,Va.down,seval,aj9.down,acY,h39,iv]|refine An ?_ ?_<;>intro hb|refine fd ?_|fail)))
theorem as4:Bh.call (.fn 84) [.nils] []=some (.ret .nils,[]):=by
 (refine ce Try.func84 ?_;simp only[Try.f84];(have hb:=trivial;with_reducible repeat' (first|simp only[hb,Va.down,seval,as7.down]|refine An ?_ ?_<;>intro hb|refine fd ?_|fail)))
theorem avI{l:List Ba}(hl:l.length≤1000):Bh.call (.fn 84) [.imm 3 true (l.map Ba.cells)] []=some (.ret (.slr 3 0 0 l.length),[.live 3 true false (l.map Ba.cells)]):=by
 cases l with
 |nil=>
  (refine ce Try.func84 ?_;simp only[Try.f84];(have hb:=trivial;with_reducible repeat' (first|simp only[hb,Va.down,seval,as7.down,aaA]|refine An ?_ ?_<;>intro hb|refine fd ?_|fail)))
 |cons x l=>
  have h39:(l.length+1≤549755813888)=True:=eq_true (by simp at hl;omega)
  (refine ce Try.func84 ?_;simp only[Try.f84];(have hb:=trivial;with_reducible repeat' (first|simp only[hb,Va.down,seval,as7.down,acY,h39,Ba.cells]|refine An ?_ ?_<;>intro hb|refine fd ?_|fail)))
theorem aoV:Bh.call (.fn 85) [.nils] []=some (.ret .nils,[]):=by
 (refine ce Try.func85 ?_;simp only[Try.f85];(have hb:=trivial;with_reducible repeat' (first|simp only[hb,Va.down,seval,auT.down]|refine An ?_ ?_<;>intro hb|refine fd ?_|fail)))
theorem amK{l:List Ag}(hl:l.length≤1000):Bh.call (.fn 85) [.imm 4 false (l.map Ag.cells)] []=some (.ret (.slr 4 0 0 l.length),[.live 4 false false (l.map Ag.cells)]):=by
 cases l with
 |nil=>
  (refine ce Try.func85 ?_;simp only[Try.f85];(have hb:=trivial;with_reducible repeat' (first|simp only[hb,Va.down,seval,auT.down,aaA]|refine An ?_ ?_<;>intro hb|refine fd ?_|fail)))
 |cons x l=>
  have h39:(l.length+1≤549755813888)=True:=eq_true (by simp at hl;omega)
  have hrr:=zH ak1 l
  (refine ce Try.func85 ?_;simp only[Try.f85];(have hb:=trivial;with_reducible repeat' (first|simp only[hb,Va.down,seval,auT.down,acY,h39,hrr,Ag.cells]|refine An ?_ ?_<;>intro hb|refine fd ?_|fail)))
theorem aoM:Bh.call (.fn 86) [.nils] []=some (.ret .nils,[]):=by
 (refine ce Try.func86 ?_;simp only[Try.f86];(have hb:=trivial;with_reducible repeat' (first|simp only[hb,Va.down,seval,atS.down]|refine An ?_ ?_<;>intro hb|refine fd ?_|fail)))
theorem ao3{l:List Ai}(hl:l.length≤1000):Bh.call (.fn 86) [.imm 5 false (l.map Ai.cells)] []=some (.ret (.slr 5 0 0 l.length),[.live 5 false false (l.map Ai.cells)]):=by
 cases l with
 |nil=>
  (refine ce Try.func86 ?_;simp only[Try.f86];(have hb:=trivial;with_reducible repeat' (first|simp only[hb,Va.down,seval,atS.down,aaA]|refine An ?_ ?_<;>intro hb|refine fd ?_|fail)))
 |cons x l=>
  have h39:(l.length+1≤549755813888)=True:=eq_true (by simp at hl;omega)
  have hrr:=zH alC l
  (refine ce Try.func86 ?_;simp only[Try.f86];(have hb:=trivial;with_reducible repeat' (first|simp only[hb,Va.down,seval,atS.down,acY,h39,hrr,Ai.cells]|refine An ?_ ?_<;>intro hb|refine fd ?_|fail)))
theorem aqC:Bh.call (.fn 87) [.nils] []=some (.ret .nils,[]):=by
 (refine ce Try.func87 ?_;simp only[Try.f87];(have hb:=trivial;with_reducible repeat' (first|simp only[hb,Va.down,seval,auH.down]|refine An ?_ ?_<;>intro hb|refine fd ?_|fail)))
theorem anM{l:List Aj}(hl:l.length≤1000):Bh.call (.fn 87) [.imm 2 true (l.map Aj.cells)] []=some (.ret (.slr 2 0 0 l.length),[.live 2 true false (l.map Aj.cells)]):=by
 cases l with
 |nil=>
  (refine ce Try.func87 ?_;simp only[Try.f87];(have hb:=trivial;with_reducible repeat' (first|simp only[hb,Va.down,seval,auH.down,aaA]|refine An ?_ ?_<;>intro hb|refine fd ?_|fail)))
 |cons x l=>
  have h39:(l.length+1≤549755813888)=True:=eq_true (by simp at hl;omega)
  (refine ce Try.func87 ?_;simp only[Try.f87];(have hb:=trivial;with_reducible repeat' (first|simp only[hb,Va.down,seval,auH.down,acY,h39,Aj.cells]|refine An ?_ ?_<;>intro hb|refine fd ?_|fail)))
theorem Zw(st:Nat)(fl nn:Bool)(rows:List (List AV)):(nn=false∧rows=[]∧Ad st fl nn rows=.nils)∨Ad st fl nn rows=.imm st fl rows:=by
 cases rows with
 |nil=>cases nn with
  |false=>exact .inl ⟨rfl,rfl,rfl⟩
  |true=>exact .inr rfl
 |cons r l=>exact .inr rfl
theorem Ff{h:Aa}{b:Nat}{c:CB}(e:h[b]?=some c):b<h.length:=(alV.1 e).1
theorem xZ{g:HF}{d:Nat}(b:Bool):rd (d+1) g (.bool b)=some (.bool b,[]):=rfl
theorem atE{g:HF}{d st b n:Nat}{rows:List (List AV)}{q:List (List AV) × List Nat}(h:(g b).bind Bc=some (st,false,rows))(hn:n=rows.length)(hq:Cf (rd d g) rows=some q):rd (d+1) g (.slr st b 0 n)=some (.imm st false q.1,b::q.2):=by
 subst hn;simp[rd,h,hq]
theorem _root_.Go.Ev.Io.set(h:Aa)(b:Nat)(c:CB):Io [b] h (h.set b c):=⟨by simp,fun b' _ hn=>aa3 (fun e=>hn (by simp[e]))⟩
structure SI{α:Type}(st:Nat)(f:α→List AV)(l:List α)(h0:Aa)(b i:Nat)(h:Aa):Prop where
 keep:Io [b] h0 h
 at_:∃w rows R,h[b]?=some (.live st false w rows)∧rows.length=l.length∧Cf (rd 4 (hf h)) (rows.take i)=some ((l.take i).map f,R)∧rows.drop i=(l.drop i).map f∧(∀x∈R,h0.length≤x∧x<h.length)∧R.length≤i
theorem rR{α:Type}{f:α→List AV}{rows:List (List AV)}{l:List α}{i:Nat}{x:α}(hl:rows.length=l.length)(hd:rows.drop i=(l.drop i).map f)(hx:l[i]?=some x):rows[i]?=some (f x)∧∀c,(rows.set i c).drop (i+1)=(l.drop (i+1)).map f∧(rows.set i c).take (i+1)=rows.take i++[c]:=by
 have hi:i<l.length:=(alV.1 hx).1
 have h1:rows[i]?=some (f x):=by
  have:=congrArg (·[0]?) hd
  simp only[List.getElem?_drop,List.getElem?_map,Nat.add_zero,hx,Option.map_some]at this
  exact this
 refine⟨h1,fun c=>⟨?_,?_⟩⟩
 ·have:(rows.drop i).drop 1=((l.drop i).map f).drop 1:=by rw[hd]
  rw[alX,←List.map_drop,alX]at this
  rw[List.drop_set_of_lt (by omega)]
  simpa [Nat.add_comm]using this
 ·rw[alY,List.take_set_of_le (by omega),aaK (by omega)]
  rfl
theorem aeX{α:Type}{l:List α}{i:Nat}{x:α}(hx:l[i]?=some x):l.take (i+1)=l.take i++[x]:=by
 rw[alY,hx];rfl
theorem SI.next{α:Type}{st:Nat}{f:α→List AV}{l:List α}{h0:Aa}{b i:Nat}{h:Aa}{w:Bool}{rows:List (List AV)}{R:List Nat}(k:Io [b] h0 h)(hb:b<h0.length)(hw:h[b]?=some (.live st false w rows))(hl:rows.length=l.length)
 (hr:Cf (rd 4 (hf h)) (rows.take i)=some ((l.take i).map f,R)) (hd:rows.drop i=(l.drop i).map f) (hR:∀x∈R,h0.length≤x∧x<h.length) (hn:R.length≤i) {x:α} (hx:l[i]?=some x) (a:Aa) (c:List AV) (R1:List Nat) (w':Bool)
 (hc:Kt (rd 4 (hf (h++a))) c=some (f x,R1)) (h1:∀y∈R1,h.length≤y∧y<(h++a).length) (h2:R1.length≤1):SI st f l h0 b (i+1) ((h++a).set b (.live st false w' (rows.set i c))):=by
 have hbl:b<h.length:=af9 hb k.len
 have e:=rR hl hd hx
 have agr:∀(S:List Nat) (g:Aa),(∀y∈S,y≠b)→Agr S (hf g) (hf (g.set b (.live st false w' (rows.set i c)))):=fun S g hS y hy z hz=>by
  show((g.set b _)[y]?).bind Bc=_
  rw[aa3 (fun e=>hS y hy e.symm)];exact hz
 refine⟨((k.trans (Io.app h a)).trans (Io.set _ b _)).mono (fun y hy=>by simp at hy;simp[hy]),w',rows.set i c,R++R1,aaK (by simp;omega),by simpa using hl,?_,(e.2 c).1,fun y hy=>?_,by simp;omega⟩
 ·rw[(e.2 c).2,aeX hx,alZ]
  refine Rk (p:=((l.take i).map f,R)) (q:=(f x,R1)) ?_ ?_
  ·exact Hu hr (fun y hy z hz=>agr R (h++a) (fun y hy=>by have:=hR y hy;omega) y hy z (by
    show((h++a)[y]?).bind Bc=_
    rw[aa9 (hR y hy).2];exact hz))
  ·exact Qv hc (agr R1 _ fun y hy=>by have:=h1 y hy;omega)
 ·have hlen:=k.len
  rcases abO.1 hy with hy|hy
  ·have:=hR y hy;simp;omega
  ·have:=h1 y hy;simp at this ⊢;omega
theorem SI.zero{α:Type}{st:Nat}{f:α→List AV}{l:List α}{h0:Aa}{b:Nat}{w:Bool}(hw:h0[b]?=some (.live st false w (l.map f))):SI st f l h0 b 0 h0:=
 ⟨(Io.refl h0).mono (fun y hy=>by simp at hy),w,l.map f,[],hw,by simp,rfl,by simp,fun y hy=>by simp at hy,af6 _⟩
theorem SI.done{α:Type}{st:Nat}{f:α→List AV}{l:List α}{h0:Aa}{b:Nat}{h:Aa}{nn:Bool}(S:SI st f l h0 b l.length h)(hs:Ad st false nn (l.map f)=.imm st false (l.map f)):∃R,rd 5 (hf h) (.slr st b 0 l.length)=some (Ad st false nn (l.map f),b::R)∧(∀x∈R,h0.length≤x∧x<h.length)∧R.length≤l.length:=by
 obtain⟨w,rows,R,hw,hl,hr,hd,hR,hn⟩:=S.at_
 rw[al0 (by omega),al0 (af6 _)]at hr
 refine⟨R,?_,hR,hn⟩
 rw[hs]
 have e:((hf h) b).bind Bc=some (st,false,rows):=by show(h[b]?).bind Bc=_;rw[hw];rfl
 exact atE e hl.symm hr
structure Ac.tiny(m:Ac):Prop where
 sens:m.sens.length≤1000
 votes:m.votes.length≤1000
 moves:m.moves.length≤1000
 opn:m.opn.length≤1000
 vs:∀v∈m.votes,v.sens.length≤1000
 ws:∀x∈m.moves,x.wants.length≤1000
def SlO(st b:Nat)(rows:List (List AV))(nn:Bool)(v:AV)(h:Aa):Prop:=
 (Ad st false nn rows=.nils∧rows=[]∧v=.nils)∨(Ad st false nn rows=.imm st false rows∧v=.slr st b 0 rows.length∧b<h.length∧∃w,h[b]?=some (.live st false w rows))
def SlD{α:Type}(st:Nat)(f:α→List AV)(l:List α)(nn:Bool)(v:AV)(h0:Aa)(b i:Nat)(h:Aa):Prop:=
 (Ad st false nn (l.map f)=.nils∧l=[]∧v=.nils∧Io [] h0 h)∨(Ad st false nn (l.map f)=.imm st false (l.map f)∧v=.slr st b 0 l.length∧b<h0.length∧SI st f l h0 b i h)
theorem SlO.zero{α:Type}{st:Nat}{f:α→List AV}{l:List α}{nn:Bool}{v:AV}{h0:Aa}{b:Nat}(h:SlO st b (l.map f) nn v h0):SlD st f l nn v h0 b 0 h0:=by
 rcases h with⟨h1,h2,h3⟩|⟨h1,h2,h3,w,h4⟩
 ·exact .inl ⟨h1,al1.1 h2,h3,Io.refl h0⟩
 ·exact .inr ⟨h1,by simpa using h2,h3,SI.zero h4⟩
theorem SlD.keep{α:Type}{st:Nat}{f:α→List AV}{l:List α}{nn:Bool}{v:AV}{h0 h:Aa}{b i:Nat}(D:SlD st f l nn v h0 b i h):Io [b] h0 h:=by
 rcases D with⟨_,_,_,k⟩|⟨_,_,_,k⟩
 ·exact k.mono (fun y hy=>by simp at hy)
 ·exact k.keep
theorem SlD.read{α:Type}{st:Nat}{f:α→List AV}{l:List α}{nn:Bool}{v:AV}{h0 h:Aa}{b:Nat}(D:SlD st f l nn v h0 b l.length h):∃R,rd 5 (hf h) v=some (Ad st false nn (l.map f),R)∧(∀x∈R,(x=b∧b<h0.length)∨(h0.length≤x∧x<h.length))∧R.length≤l.length+1:=by
 rcases D with⟨h1,h2,h3,_⟩|⟨h1,h2,h3,S⟩
 ·exact⟨[],by rw[h1,h3];rfl,fun x hx=>by simp at hx,by simp⟩
 ·obtain⟨R,r1,r2,r3⟩:=S.done h1
  exact⟨b::R,by rw[h2];exact r1,fun x hx=>by
   rcases aa0.1 hx with rfl|hx
   ·exact .inl ⟨rfl,h3⟩
   ·exact .inr (r2 x hx),by simpa using r3⟩
theorem SlD.agr{α:Type}{st:Nat}{f:α→List AV}{l:List α}{nn:Bool}{v:AV}{h0 h:Aa}{b i:Nat}(D:SlD st f l nn v h0 b i h){R:List Nat}(hR:∀x∈R,x<h0.length∧(b<h0.length→v≠.nils→x≠b)):Agr R (hf h0) (hf h):=by
 rcases D with⟨_,_,_,k⟩|⟨_,hv,hl,S⟩
 ·exact k.agr (fun x hx=>⟨(hR x hx).1,by simp⟩)
 ·exact S.keep.agr (fun x hx=>⟨(hR x hx).1,by simpa using (hR x hx).2 hl (by rw[hv];simp)⟩)
theorem SlO.mono{st b:Nat}{rows:List (List AV)}{nn:Bool}{v:AV}{h g:Aa}{X:List Nat}(o:SlO st b rows nn v h)(k:Io X h g)(hb:b∉X):SlO st b rows nn v g:=by
 rcases o with h1|⟨h1,h2,h3,w,h4⟩
 ·exact .inl h1
 ·exact .inr ⟨h1,h2,af9 h3 k.len,w,by rw[k.same b h3 hb];exact h4⟩
theorem SlD.len{α:Type}{st:Nat}{f:α→List AV}{l:List α}{nn:Bool}{v:AV}{h0 h:Aa}{b i:Nat}(D:SlD st f l nn v h0 b i h):v=.nils∧l.length=0∨v=.slr st b 0 l.length:=by
 rcases D with⟨_,h2,h3,_⟩|⟨_,h2,_,_⟩
 ·exact .inl ⟨h3,by rw[h2];rfl⟩
 ·exact .inr h2
theorem asD(m:Ac)(hM:m.tiny)(ho:m.opn≠[]):RdV Bh 66 [.agg [Ad 3 true m.nS (m.sens.map Ba.cells),Ad 4 false m.nV (m.votes.map Ag.cells),Ad 5 false m.nM (m.moves.map Ai.cells),.int .i64 m.states,.int .i64 m.cmds,.int .i64 m.bgn,Ad 1 true m.nO (m.opn.map iv)]] (.agg m.cells) (4+m.votes.length+m.moves.length):=by
 refine RdV.of ?_
 refine sO rfl Try.func66 rfl rfl ?_
 simp only[Try.f66]
 generalize hC2:Code.seq (Code.seq (Code.region 2 _ _) _) _=C2
 have key:∀(t:Tm) (h:Aa) (sv vv mv ov:AV) (vb mb:Nat) (Rs Ro:List Nat) (w w1:Bool),t 1=.ptr 0 0 0→t 2=.ptr 1 0 0→h[0]?=some (.live 7 false w [[sv,vv,mv,.int .i64 m.states,.int .i64 m.cmds,.int .i64 m.bgn,ov]])→h[1]?=some (.live 7 false w1 [[.nils,.nils,.nils,.int .i64 0,.int .i64 0,.int .i64 0,.nils]])→
  rd 5 (hf h) sv=some (Ad 3 true m.nS (m.sens.map Ba.cells),Rs)→rd 5 (hf h) ov=some (Ad 1 true m.nO (m.opn.map iv),Ro)→Rs.length≤1→Ro.length≤1→(∀b∈Rs++Ro,b<h.length∧2≤b∧b≠vb∧b≠mb)→
  SlO 4 vb (m.votes.map Ag.cells) m.nV vv h→SlO 5 mb (m.moves.map Ai.cells) m.nM mv h→2≤vb→2≤mb→vb≠mb→
  FnE Try.prog 0 [.cell 2 27] (fun o h'=>∃v R,o=.ret v∧rd 6 (hf h') v=some (.agg m.cells,R)∧R.length≤4+(m.votes.length+m.moves.length)∧∀c∈h',xG c) (Ce Bh Try.prog 4996 C2 [] ⟨mk 60 t,h⟩):=by
  intro t h sv vv mv ov vb mb Rs Ro w w1 h1 h2 h0 h00 hsv hov hRs hRo hR hv hm hvb hmb hvm
  rw[←hC2]
  have V0:=hv.zero
  have hlv:ln Try.prog 23 (some vv)=some (.ret (.int .i64 (m.votes.length:Nat)),[]):=by
   rcases V0.len with⟨rfl,e⟩|rfl
   ·simp only[Va.down,seval,Zl.down,e]
   ·simp only[Va.down,seval,Zl.down]
  have hlm:ln Try.prog 24 (some mv)=some (.ret (.int .i64 (m.moves.length:Nat)),[]):=by
   rcases hm.zero.len with⟨rfl,e⟩|rfl
   ·simp only[Va.down,seval,Zl.down,e]
   ·simp only[Va.down,seval,Zl.down]
  refine En (fun KK iN hK=>?_)
  (have hb:=trivial;with_reducible repeat' (first|simp only[hb,Va.down,seval,Zl.down,h1,h2,h0,h00,hlv,hlm]|refine An ?_ ?_<;>intro hb|refine fd ?_|fail))
  have lt0:0<h.length:=Ff h0
  have lt1:1<h.length:=Ff h00
  refine Ci (Lp 60 m.votes (fun i (_:Unit) t g=>t 1=.ptr 0 0 0∧t 2=.ptr 1 0 0∧t 23=.int .i64 (m.votes.length:Nat)∧t 24=.int .i64 i∧SlD 4 Ag.cells m.votes m.nV vv h vb i g) (fun _ _=>())
   (fun _ e t g=>e=.exit 0∧t 1=.ptr 0 0 0∧t 2=.ptr 1 0 0∧SlD 4 Ag.cells m.votes m.nV vv h vb m.votes.length g) ?_ ?_ () _ _ ?_) (fun e t g hk=>?_)
  ·rintro _ t g Q' kQ ⟨g1,g2,g23,g24,D⟩
   (have hb:=trivial;with_reducible repeat' (first|simp only[hb,Va.down,seval,Zl.down,g23,g24,agA,decide_false]|refine An ?_ ?_<;>intro hb|refine fd ?_|fail))
   exact kQ _ _ _ ⟨rfl,by simp[up,g1],by simp[up,g2],D⟩
  ·rintro x rest i _ t g J Q' kJ kQ hx hi ⟨g1,g2,g23,g24,D⟩
   have hdd:decide ((i:Int)<(m.votes.length:Int))=true:=decide_eq_true (by omega)
   have hdi:((i:Int)<(m.votes.length:Int))=True:=eq_true (by omega)
   have hww:=Aq hi (by have:=hM.votes;unfold maxLen;omega)
   rcases D with⟨_,h2e,_⟩|⟨hs,hve,hbl,S⟩
   ·rw[h2e]at hx;simp at hx
   subst hve
   obtain⟨w',rows,R,hw',hl',hr',hd',hR',hn'⟩:=S.at_
   have hrow:=(rR hl' hd' hx).1
   simp only[Ag.cells]at hrow
   have g0:g[0]?=_:=(S.keep.same 0 lt0 (by simp;omega)).trans h0
   have hsx:=hM.vs x (al2 hx)
   have hgl:=S.keep.len
   have hsb:jU (g.length-1) 2 vb=1000:=by unfold jU;rw[if_neg (by omega)];omega
   have hs0:jU (g.length-1) 2 g.length=1001:=by unfold jU;rw[if_neg (by omega)];omega
   have gA0:=Ab g0
   have gAv:=Ab hw'
   have hci:=zP hsx
   rcases Zw 1 true x.nn (x.sens.map iv)with⟨e1,e2,e3⟩|e3
   ·rw[e3]at hrow
    (have hb:=trivial;with_reducible repeat' (first|simp only[hb,Va.down,seval,Zl.down,g1,g2,g23,g24,hdd,hdi,hww,g0,hw',hrow,alB]|refine An ?_ ?_<;>intro hb|((refine pY (g.length-1) 2 ?_ ?_);(simp (discharger:=decide) only[Uu,Pn,acM,aaA,Jk,Qn,Us,Ry,Vg,La,Pl,ae2,acI,hsb,hs0];kernel_rfl);intro _)|refine fdq ?_|fail))
    refine Av (kJ _ _ () ⟨by simp[up,g1],by simp[up,g2],by simp[up,g23],by simp[up],.inr ⟨hs,rfl,hbl,?_⟩⟩ rfl)
    have hq:rd 4 (hf (g++[])) .nils=some (Ad 1 true x.nn (x.sens.map iv),[]):=by rw[e3];rfl
    have N:=SI.next S.keep hbl hw' hl' hr' hd' hR' hn' hx [] [.nils,.int .i64 x.need,.int .i64 x.level,.bool x.above] [] true (Cb hq (Cb (Jz ..) (Cb (Jz ..) (Cb (xZ ..) Za)))) (fun y hy=>by simp at hy) (by simp)
    simpa using N
   ·rw[e3]at hrow
    (have hb:=trivial;with_reducible repeat' (first|simp only[hb,Va.down,seval,Zl.down,g1,g2,g23,g24,hdd,hdi,hww,g0,hw',hrow,hci,gA0,gAv]|refine An ?_ ?_<;>intro hb|((refine pY (g.length-1) 2 ?_ ?_);(simp (discharger:=decide) only[Uu,Pn,acM,aaA,Jk,Qn,Us,Ry,Vg,La,Pl,ae2,acI,hsb,hs0];kernel_rfl);intro _)|refine fdq ?_|fail))
    refine Av (kJ _ _ () ⟨by simp[up,g1],by simp[up,g2],by simp[up,g23],by simp[up],.inr ⟨hs,rfl,hbl,?_⟩⟩ rfl)
    have hq:rd 4 (hf (g++[.live 1 true false (x.sens.map iv)])) (.slr 1 g.length 0 x.sens.length)=some (Ad 1 true x.nn (x.sens.map iv),[g.length]):=by rw[e3];exact Oq (by show((g++[_])[g.length]?).bind Bc=_;simp[Bc]) (by simp)
    exact SI.next S.keep hbl hw' hl' hr' hd' hR' hn' hx [.live 1 true false (x.sens.map iv)] [.slr 1 g.length 0 x.sens.length,.int .i64 x.need,.int .i64 x.level,.bool x.above] [g.length] true
     (Cb hq (Cb (Jz ..) (Cb (Jz ..) (Cb (xZ ..) Za)))) (fun y hy=>by simp at hy;simp[hy]) (by simp)
  ·exact⟨by simp[up,h1],by simp[up,h2],by simp[up],by simp[up],V0⟩
  obtain⟨rfl,g1,g2,D⟩:=hk
  have gl:=D.keep.len
  have g0:g[0]?=_:=(D.keep.same 0 lt0 (by simp;omega)).trans h0
  have g00:g[1]?=_:=(D.keep.same 1 lt1 (by simp;omega)).trans h00
  have M0:=(hm.mono D.keep (by simpa using fun e=>hvm e.symm)).zero
  (have hb:=trivial;with_reducible repeat' (first|simp only[hb,Va.down,seval,Zl.down,g1,g2,g0,g00,hlm]|refine An ?_ ?_<;>intro hb|refine fd ?_|fail))
  refine Ci (Lp 60 m.moves (fun i (_:Unit) t f=>t 1=.ptr 0 0 0∧t 2=.ptr 1 0 0∧t 42=.int .i64 (m.moves.length:Nat)∧t 43=.int .i64 i∧SlD 5 Ai.cells m.moves m.nM mv g mb i f) (fun _ _=>())
   (fun _ e t f=>e=.exit 2∧t 1=.ptr 0 0 0∧t 2=.ptr 1 0 0∧SlD 5 Ai.cells m.moves m.nM mv g mb m.moves.length f) ?_ ?_ () _ _ ?_) (fun e t f hk=>?_)
  ·rintro _ t f Q' kQ ⟨f1,f2,f42,f43,E⟩
   (have hb:=trivial;with_reducible repeat' (first|simp only[hb,Va.down,seval,Zl.down,f42,f43,agA,decide_false]|refine An ?_ ?_<;>intro hb|refine fd ?_|fail))
   exact kQ _ _ _ ⟨rfl,by simp[up,f1],by simp[up,f2],E⟩
  ·rintro x rest i _ t f J Q' kJ kQ hx hi ⟨f1,f2,f42,f43,E⟩
   have hdd:decide ((i:Int)<(m.moves.length:Int))=true:=decide_eq_true (by omega)
   have hdi:((i:Int)<(m.moves.length:Int))=True:=eq_true (by omega)
   have hww:=Aq hi (by have:=hM.moves;unfold maxLen;omega)
   rcases E with⟨_,h2e,_⟩|⟨hs,hve,hbl,S⟩
   ·rw[h2e]at hx;simp at hx
   subst hve
   obtain⟨w',rows,R,hw',hl',hr',hd',hR',hn'⟩:=S.at_
   have hrow:=(rR hl' hd' hx).1
   simp only[Ai.cells]at hrow
   have f0:f[0]?=_:=(S.keep.same 0 (by omega) (by simp;omega)).trans g0
   have hsx:=hM.ws x (al2 hx)
   have hgl:=S.keep.len
   have hsb:jU (f.length-1) 2 mb=1000:=by unfold jU;rw[if_neg (by omega)];omega
   have hs0:jU (f.length-1) 2 f.length=1001:=by unfold jU;rw[if_neg (by omega)];omega
   have gA0:=Ab f0
   have gAv:=Ab hw'
   have hci:=anM hsx
   rcases Zw 2 true x.nn (x.wants.map Aj.cells)with⟨e1,e2,e3⟩|e3
   ·rw[e3]at hrow
    (have hb:=trivial;with_reducible repeat' (first|simp only[hb,Va.down,seval,Zl.down,f1,f2,f42,f43,hdd,hdi,hww,f0,hw',hrow,aqC]|refine An ?_ ?_<;>intro hb|((refine pY (f.length-1) 2 ?_ ?_);(simp (discharger:=decide) only[Uu,Pn,acM,aaA,Jk,Qn,Us,Ry,Vg,La,Pl,ae2,acI,hsb,hs0];kernel_rfl);intro _)|refine fdq ?_|fail))
    refine Av (kJ _ _ () ⟨by simp[up,f1],by simp[up,f2],by simp[up,f42],by simp[up],.inr ⟨hs,rfl,hbl,?_⟩⟩ rfl)
    have hq:rd 4 (hf (f++[])) .nils=some (Ad 2 true x.nn (x.wants.map Aj.cells),[]):=by rw[e3];rfl
    have N:=SI.next S.keep hbl hw' hl' hr' hd' hR' hn' hx [] [.int .i64 x.frm,.int .i64 x.to,.nils,.int .i64 x.cmd,.int .i64 x.after] [] true (Cb (Jz ..) (Cb (Jz ..) (Cb hq (Cb (Jz ..) (Cb (Jz ..) Za))))) (fun y hy=>by simp at hy) (by simp)
    simpa using N
   ·rw[e3]at hrow
    (have hb:=trivial;with_reducible repeat' (first|simp only[hb,Va.down,seval,Zl.down,f1,f2,f42,f43,hdd,hdi,hww,f0,hw',hrow,hci,gA0,gAv]|refine An ?_ ?_<;>intro hb|((refine pY (f.length-1) 2 ?_ ?_);(simp (discharger:=decide) only[Uu,Pn,acM,aaA,Jk,Qn,Us,Ry,Vg,La,Pl,ae2,acI,hsb,hs0];kernel_rfl);intro _)|refine fdq ?_|fail))
    refine Av (kJ _ _ () ⟨by simp[up,f1],by simp[up,f2],by simp[up,f42],by simp[up],.inr ⟨hs,rfl,hbl,?_⟩⟩ rfl)
    have hq:rd 4 (hf (f++[.live 2 true false (x.wants.map Aj.cells)])) (.slr 2 f.length 0 x.wants.length)=some (Ad 2 true x.nn (x.wants.map Aj.cells),[f.length]):=by rw[e3];exact Oq (by show((f++[_])[f.length]?).bind Bc=_;simp[Bc]) (by simp)
    exact SI.next S.keep hbl hw' hl' hr' hd' hR' hn' hx [.live 2 true false (x.wants.map Aj.cells)] [.int .i64 x.frm,.int .i64 x.to,.slr 2 f.length 0 x.wants.length,.int .i64 x.cmd,.int .i64 x.after] [f.length] true
     (Cb (Jz ..) (Cb (Jz ..) (Cb hq (Cb (Jz ..) (Cb (Jz ..) Za))))) (fun y hy=>by simp at hy;simp[hy]) (by simp)
  ·exact⟨by simp[up,g1],by simp[up,g2],by simp[up],by simp[up],M0⟩
  obtain⟨rfl,f1,f2,E⟩:=hk
  have fl:=E.keep.len
  have f0:f[0]?=_:=(E.keep.same 0 (by omega) (by simp;omega)).trans g0
  have f00:f[1]?=_:=(E.keep.same 1 (by omega) (by simp;omega)).trans g00
  obtain⟨Rv,r1,r2,r3⟩:=D.read
  obtain⟨Rm,s1,s2,s3⟩:=E.read
  have cs:sv.isCell=true∧sv.flat=false:=Ww hsv
  have co:ov.isCell=true∧ov.flat=false:=Ww hov
  have cv:vv.isCell=true∧vv.flat=false:=Ww r1
  have cm:mv.isCell=true∧mv.flat=false:=Ww s1
  obtain⟨cs1,cs2⟩:=cs
  obtain⟨co1,co2⟩:=co
  obtain⟨cv1,cv2⟩:=cv
  obtain⟨cm1,cm2⟩:=cm
  have fs1:∀c,(f.set 1 c)[1]?=some c:=fun c=>aaK (by omega)
  (have hb:=trivial;with_reducible repeat' (first|simp only[hb,Va.down,seval,Zl.down,f1,f2,f0,f00,cs1,cs2,co1,co2,cv1,cv2,cm1,cm2,ae4,ae7,afR,af4]|refine An ?_ ?_<;>intro hb|refine fd ?_|fail))
  have ag1:∀(R:List Nat),(∀x∈R,2≤x)→∀c,Agr R (hf f) (hf (f.set 1 c)):=fun R hR c x hx z hz=>by
   show((f.set 1 c)[x]?).bind Bc=_
   rw[aa3 (by have:=hR x hx;omega)];exact hz
  have hmb1:mv≠.nils→mb<h.length:=fun hne=>by
   rcases hm with⟨_,_,h3⟩|⟨_,_,h3,_⟩
   ·exact(hne h3).elim
   ·exact h3
  have A:∀(R:List Nat) (x v:AV) c,(∀b∈R,b<h.length∧2≤b∧b≠vb∧b≠mb)→rd 5 (hf h) v=some (x,R)→rd 5 (hf (f.set 1 c)) v=some (x,R):=fun R x v c hR hv=>by
   have a1:=Qf hv (D.agr (R:=R) fun b hb'=>⟨(hR b hb').1,fun _ _=>(hR b hb').2.2.1⟩)
   have a2:=Qf a1 (E.agr (R:=R) fun b hb'=>⟨af9 (hR b hb').1 gl,fun _ _=>(hR b hb').2.2.2⟩)
   exact Qf a2 (ag1 R (fun b hb'=>(hR b hb').2.1) c)
  have B:∀c,rd 5 (hf (f.set 1 c)) vv=some (Ad 4 false m.nV (m.votes.map Ag.cells),Rv):=fun c=>by
   have a2:=Qf r1 (E.agr (R:=Rv) fun b hb'=>by
    have hne:mv≠.nils→b≠mb:=fun hne=>by
     have:=hmb1 hne
     rcases r2 b hb' with⟨rfl,_⟩|h1
     ·exact hvm
     ·omega
    refine⟨?_,fun _=>hne⟩
    rcases r2 b hb' with⟨_,h1⟩|h1<;>omega)
   exact Qf a2 (ag1 Rv (fun b hb'=>by rcases r2 b hb' with⟨rfl,_⟩|h1<;>omega) c)
  have Cm:∀c,rd 5 (hf (f.set 1 c)) mv=some (Ad 5 false m.nM (m.moves.map Ai.cells),Rm):=fun c=>
   Qf s1 (ag1 Rm (fun b hb'=>by rcases s2 b hb' with⟨rfl,_⟩|h1<;>omega) c)
  refine hK _ ?_
  rw[jF]
  refine qP (vs:=[.agg [sv,vv,mv,.int .i64 m.states,.int .i64 m.cmds,.int .i64 m.bgn,ov]]) ?_ (lG (aqY (Cb (A Rs _ _ _ (fun b h=>hR b (agB _ h)) hsv) (Cb (B _) (Cb (Cm _) (Cb (Jz ..) (Cb (Jz ..) (Cb (Jz ..) (Cb (A Ro _ _ _ (fun b h=>hR b (aiO _ h)) hov) Za)))))))) ?_ fun v' h' R' k1 k2 k3=>⟨v',R',rfl,k1,?_,k3⟩)
  ·simp only[Va.down,seval,Zl.down,f2,fs1]
  ·have v1:=hM.votes
   have v2:=hM.moves
   simp only[ai2,acI];omega
  ·rw[k2];simp only[ai2,acI];omega
 have k1:=avI hM.sens
 have k2:=amK hM.votes
 have k3:=ao3 hM.moves
 have k5:=rU ahD m.votes
 have k6:=rU aiB m.moves
 have k4:=zP hM.opn
 rcases Zw 1 true m.nO (m.opn.map iv)with⟨_,e,_⟩|e4
 ·exact(ho (al1.1 e)).elim
 rcases Zw 3 true m.nS (m.sens.map Ba.cells)with⟨f1,e1',e1⟩|e1<;>rcases Zw 4 false m.nV (m.votes.map Ag.cells)with⟨f2,e2',e2⟩|e2<;>rcases Zw 5 false m.nM (m.moves.map Ai.cells)with⟨f3,e3',e3⟩|e3
 all_goals rw[e1,e2,e3,e4]
 all_goals (have hb:=trivial;with_reducible repeat' (first|simp only[hb,Va.down,seval,Zl.down,as4,aoV,aoM,k1,k2,k3,k4,k5,k6]|refine An ?_ ?_<;>intro hb|refine fd ?_|fail))
 ·exact key _ _ .nils .nils .nils (.slr 1 2 0 m.opn.length) 100 101 [] [2] true false (by simp[up]) (by simp[up]) rfl rfl (by rw[e1];rfl) (by rw[e4];exact Oq rfl (by simp)) (by simp) (by simp) (by simp) (.inl ⟨e2,e2',rfl⟩) (.inl ⟨e3,e3',rfl⟩) (by omega) (by omega) (by omega)
 ·exact key _ _ .nils .nils (.slr 5 2 0 m.moves.length) (.slr 1 3 0 m.opn.length) 100 2 [] [3] true false (by simp[up]) (by simp[up]) rfl rfl (by rw[e1];rfl) (by rw[e4];exact Oq rfl (by simp)) (by simp) (by simp) (by simp) (.inl ⟨e2,e2',rfl⟩) (.inr ⟨e3,by simp,by simp,_,rfl⟩) (by omega) (by omega) (by omega)
 ·exact key _ _ .nils (.slr 4 2 0 m.votes.length) .nils (.slr 1 3 0 m.opn.length) 2 101 [] [3] true false (by simp[up]) (by simp[up]) rfl rfl (by rw[e1];rfl) (by rw[e4];exact Oq rfl (by simp)) (by simp) (by simp) (by simp) (.inr ⟨e2,by simp,by simp,_,rfl⟩) (.inl ⟨e3,e3',rfl⟩) (by omega) (by omega) (by omega)
 ·exact key _ _ .nils (.slr 4 2 0 m.votes.length) (.slr 5 3 0 m.moves.length) (.slr 1 4 0 m.opn.length) 2 3 [] [4] true false (by simp[up]) (by simp[up]) rfl rfl (by rw[e1];rfl) (by rw[e4];exact Oq rfl (by simp)) (by simp) (by simp) (by simp) (.inr ⟨e2,by simp,by simp,_,rfl⟩) (.inr ⟨e3,by simp,by simp,_,rfl⟩) (by omega) (by omega) (by omega)
 ·exact key _ _ (.slr 3 2 0 m.sens.length) .nils .nils (.slr 1 3 0 m.opn.length) 100 101 [2] [3] true false (by simp[up]) (by simp[up]) rfl rfl (by rw[e1];exact Oq rfl (by simp)) (by rw[e4];exact Oq rfl (by simp)) (by simp) (by simp) (by simp) (.inl ⟨e2,e2',rfl⟩) (.inl ⟨e3,e3',rfl⟩) (by omega) (by omega) (by omega)
 ·exact key _ _ (.slr 3 2 0 m.sens.length) .nils (.slr 5 3 0 m.moves.length) (.slr 1 4 0 m.opn.length) 100 3 [2] [4] true false (by simp[up]) (by simp[up]) rfl rfl (by rw[e1];exact Oq rfl (by simp)) (by rw[e4];exact Oq rfl (by simp)) (by simp) (by simp) (by simp) (.inl ⟨e2,e2',rfl⟩) (.inr ⟨e3,by simp,by simp,_,rfl⟩) (by omega) (by omega) (by omega)
 ·exact key _ _ (.slr 3 2 0 m.sens.length) (.slr 4 3 0 m.votes.length) .nils (.slr 1 4 0 m.opn.length) 3 101 [2] [4] true false (by simp[up]) (by simp[up]) rfl rfl (by rw[e1];exact Oq rfl (by simp)) (by rw[e4];exact Oq rfl (by simp)) (by simp) (by simp) (by simp) (.inr ⟨e2,by simp,by simp,_,rfl⟩) (.inl ⟨e3,e3',rfl⟩) (by omega) (by omega) (by omega)
 ·exact key _ _ (.slr 3 2 0 m.sens.length) (.slr 4 3 0 m.votes.length) (.slr 5 4 0 m.moves.length) (.slr 1 5 0 m.opn.length) 3 4 [2] [5] true false (by simp[up]) (by simp[up]) rfl rfl (by rw[e1];exact Oq rfl (by simp)) (by rw[e4];exact Oq rfl (by simp)) (by simp) (by simp) (by simp) (.inr ⟨e2,by simp,by simp,_,rfl⟩) (.inr ⟨e3,by simp,by simp,_,rfl⟩) (by omega) (by omega) (by omega)
def alM(m:Ac)(st ag:Int)(nn:Bool)(l:List Bw):List AV:=m.cells++[.int .i64 st,.int .i64 ag,Ad 2 false nn (l.map Bw.cells),.bool true]
theorem aaC{g:HF}{d:Nat}{cs:List AV}{m:Ac}{R:List Nat}(h:Kt (rd (d+1) g) cs=some (m.cells,R)):∃sv vv mv ov,cs=[sv,vv,mv,.int .i64 m.states,.int .i64 m.cmds,.int .i64 m.bgn,ov]∧(sv.isCell=true∧sv.flat=false)∧(vv.isCell=true∧vv.flat=false)∧(mv.isCell=true∧mv.flat=false)∧(ov.isCell=true∧ov.flat=false):=by
 obtain⟨sv,l1,R1,S1,rfl,a1,h,_⟩:=Es h
 obtain⟨vv,l2,R2,S2,rfl,a2,h,_⟩:=Es h
 obtain⟨mv,l3,R3,S3,rfl,a3,h,_⟩:=Es h
 obtain⟨i1,l4,R4,S4,rfl,a4,h,_⟩:=Es h
 obtain⟨i2,l5,R5,S5,rfl,a5,h,_⟩:=Es h
 obtain⟨i3,l6,R6,S6,rfl,a6,h,_⟩:=Es h
 obtain⟨ov,l7,R7,S7,rfl,a7,h,_⟩:=Es h
 obtain⟨rfl,_⟩:=zV h
 obtain⟨rfl,_⟩:=Xu a4
 obtain⟨rfl,_⟩:=Xu a5
 obtain⟨rfl,_⟩:=Xu a6
 exact⟨sv,vv,mv,ov,rfl,Ww a1,Ww a2,Ww a3,Ww a7⟩
theorem iQ(m:Ac):[AV.agg m.cells].all (Az 8)=true:=by simp[Qj,Ol,Gv]
theorem aeA(g:HF)(m:Ac):[AV.agg m.cells].flatMap (Bd 12 g)=[]:=by
 rw[List.flatMap_cons,List.flatMap_nil,Jt (d:=8) (v:=.agg m.cells) _ (by omega) (by simp[Qj,Ol,Gv])];rfl
theorem ai1(H:Aa)(m:Ac):Au (bQ H) [.agg m.cells]=some [.agg m.cells]:=by
 have hs:bQ H (.agg m.cells)=some (.agg m.cells):=Hg _ (d:=8) (by omega) (by simp[Qj,Ol,Gv])
 simp only[Qb,Ua,hs,Mc]
theorem awI(m:Ac)(hs:m.small)(hM:m.tiny)(ho:m.opn≠[])(hv:Be m=true):
 ClQ Bh 38 [.agg [Ad 3 true m.nS (m.sens.map Ba.cells),Ad 4 false m.nV (m.votes.map Ag.cells),Ad 5 false m.nM (m.moves.map Ai.cells),.int .i64 m.states,.int .i64 m.cmds,.int .i64 m.bgn,Ad 1 true m.nO (m.opn.map iv)]] [] fun o h'=>∃i,o=.ret (.tup [.ptr i 0 0,.int .i64 0])∧PB (hf h') i 11 (alM m m.bgn 0 false []) 3000∧(∀c∈h',xG c)∧∀c∈h',Rws c∧c.hasImm=false:=by
 have h1:=bL m hs
 rw[hv]at h1
 obtain⟨v,h',R,hc,hr,hk,hn⟩:=asD m hM ho
 obtain⟨v1,es,cs1,e1,e2,e3,e4,e5⟩:=ahG (H:=[.live 7 false false [m.cells]]) (args:=[.agg m.cells]) (Xj rfl) (ai1 _ m) (iQ m) hc (fun f=>gC f (by omega) hr) hn (aeA _ m)
 obtain⟨R',r1,r2,r3⟩:=lH (aaV e3) (Qa (ah3 _) e4) hr
 obtain⟨cs,rfl,r4⟩:=atA r1
 obtain⟨sv,vv,mv,ov,rfl,⟨p1,p1'⟩,⟨p2,p2'⟩,⟨p3,p3'⟩,⟨p4,p4'⟩⟩:=aaC r4
 obtain⟨q,hq⟩:∃q,Fn.func 66=q:=⟨_,rfl⟩
 have hft:ftC Bh [.live 7 false false [m.cells]] (some (.func (Fn.func 66) [] [])) (some [.agg m.cells])=some []:=by
  rw[qT]
  simp only[am9,af5]
  rw[if_pos (by rfl),gJ,if_neg (by rw[show(Td [AV.agg m.cells]||Bh.md 66)=false from rfl];simp),if_pos (iQ m)]
 rw[hq]at e1 hft
 have b0:([.live 7 false false [m.cells]]++cs1)[0]?=some (.live 7 false false [m.cells]):=rfl
 refine sO rfl Try.func38 rfl rfl ?_
 simp only[Try.f38]
 refine En (fun KK iN hK=>?_)
 generalize hG:([.live 7 false false [m.cells]]++cs1:Aa)=G at *
 (have hb:=trivial;with_reducible repeat' (first|simp only[hb,Va.down,seval,awD.down,h1,hq,e1,e2,hft,b0,p1,p2,p3,p4,p1',p2',p3',p4',ae4,ae7,afR,af4]|refine An ?_ ?_<;>intro hb|refine fdq ?_|fail))
 have hgl:G.length=1+cs1.length:=by rw[←hG];simp;omega
 refine rL (fun b=>if b<1 then 0 else 1) [([],[.cells 0 0 7]),([.blk 1],[]),([],[]),([],[.cells 0 5 1]),([],[]),([],[]),([.blk 1],[]),([],[]),([],[])] (by kernel_rfl) ?_ (fun _=>?_)
 ·simp only[aeD,aiQ,List.not_mem_nil,false_imp_iff,implies_true,and_true,true_and,aa0,or_false,forall_eq,Jk,Ry,Qn]
  refine⟨by simp,fun e he=>?_,by simp,by rw[if_neg (by omega)];simp⟩
  obtain⟨b,hb1,hb2⟩:=e5 e he
  right
  have hb3:1≤b:=hb2
  rw[hb1,Qn,if_neg (by omega)]
 have r5:=ahT (show 5≤6 by omega) (Qv r4 (g':=hf (G++[.live 11 false false [[sv,vv,mv,.int .i64 m.states,.int .i64 m.cmds,.int .i64 m.bgn,ov,.int .i64 m.bgn,.int .i64 0,.nils,.bool true]]])) fun b hb1 z hz=>by
  show((G++_)[b]?).bind Bc=_
  rw[aa9 (xK (by omega) r4 b hb1)];exact hz)
 refine hK _ ?_
 rw[jF]
 refine qP (vs:=[.ptr G.length 0 0,.int .i64 0]) ?_ (as2 (st:=11) (k:=3000) (X:=alM m m.bgn 0 false []) (PB.of (w:=false) (row:=[sv,vv,mv,.int .i64 m.states,.int .i64 m.cmds,.int .i64 m.bgn,ov,.int .i64 m.bgn,.int .i64 0,.nils,.bool true]) (R:=R'++[]) ?_ ?_ ?_ ?_) (by omega) fun i h' k1 k2 k3=>⟨i,rfl,k1,k2,k3⟩)
 ·simp only[Va.down,seval,awD.down]
 ·show(G++_)[G.length]?=_
  rw[af7 (af6 _),Nat.sub_self];rfl
 ·exact aa4 r5 (Cb (Jz ..) (Cb (Jz ..) (Cb alK (Cb (xZ ..) Za))))
 ·intro hm
  rw[af5]at hm
  exact absurd (xK (by omega) r4 _ hm) (by omega)
 ·have v1:=hM.votes
  have v2:=hM.moves
  rw[af5,r2];simp only;omega
theorem aj1(b r o:Nat):Fz Try.prog .eql 77 (.ptr b r o) .nilp=some (.bool false):=by kernel_rfl
structure kW(H:Aa)(p:Nat)(m:Ac)(st ag:Int)(l:List Bw)(w:Bool)(sv vv mv ov sc:AV)(Rm Rs:List Nat)(rows:List (List AV)):Prop where
 cell:H[p]?=some (.live 11 false w [[sv,vv,mv,.int .i64 m.states,.int .i64 m.cmds,.int .i64 m.bgn,ov,.int .i64 st,.int .i64 ag,sc,.bool true]])
 mach:Kt (rd 6 (hf H)) [sv,vv,mv,.int .i64 m.states,.int .i64 m.cmds,.int .i64 m.bgn,ov]=some (m.cells,Rm)
 own:Sj 0 2 false rows sc H
 scs:Cf (rd 6 (hf H)) rows=some (l.map Bw.cells,Rs)
 nil:rows=[]→sc=.nils
 dp:p∉Rm++Rs
 ds:∀a b r n,sc=.slr a b r n→b≠p∧b∉Rm++Rs
theorem kW.cln{H:Aa}{p:Nat}{m:Ac}{st ag:Int}{l:List Bw}{w:Bool}{sv vv mv ov sc:AV}{Rm Rs:List Nat}{rows:List (List AV)}(T:kW H p m st ag l w sv vv mv ov sc Rm Rs rows):kW (Df H) p m st ag l false sv vv mv ov sc Rm Rs rows:=by
 have agr:∀R,Agr R (hf H) (hf (Df H)):=fun R b _ z hz=>by
  show((Df H)[b]?).bind Bc=_
  cases h3:H[b]? with
  |none=>have:(H[b]?).bind Bc=some z:=hz;rw[h3]at this;cases this
  |some c=>rw[Fh h3];have:(H[b]?).bind Bc=some z:=hz;rw[h3]at this;exact(Ni c).trans this
 refine⟨Fh T.cell,Qv T.mach (agr _),?_,Hu T.scs (agr _),T.nil,T.dp,T.ds⟩
 rcases T.own with h|⟨b,w',h1,h2⟩
 ·exact .inl h
 ·exact .inr ⟨b,false,h1,Fh h2⟩
theorem kW.app{H:Aa}{p:Nat}{m:Ac}{st ag:Int}{l:List Bw}{w:Bool}{sv vv mv ov sc:AV}{Rm Rs:List Nat}{rows:List (List AV)}(T:kW H p m st ag l w sv vv mv ov sc Rm Rs rows)(L:Aa):kW (H++L) p m st ag l w sv vv mv ov sc Rm Rs rows:=
 ⟨Ab T.cell L,Qv T.mach fun b hb z hz=>by
   show((H++L)[b]?).bind Bc=_
   rw[aa9 (gI hz)];exact hz,T.own.app L,Hu T.scs fun b hb z hz=>by
   show((H++L)[b]?).bind Bc=_
   rw[aa9 (gI hz)];exact hz,T.nil,T.dp,T.ds⟩
theorem as6{H:Aa}{p:Nat}{w:Bool}{a b c d e f g h i j:AV}(hc:H[p]?=some (.live 11 false w [[a,b,c,d,e,f,g,h,i,j,.bool true]])):Bh.call (.sh 67) [.ptr p 0 0] H=some (.ret (.bool false),H):=by
 (refine csh Try.func67 ?_;simp only[Try.f67];(have hb:=trivial;with_reducible repeat' (first|simp only[hb,Va.down,seval,azD.down,hc,aj1]|refine An ?_ ?_<;>intro hb|refine fd ?_|fail)))
theorem aoI{H:Aa}{p:Nat}{w:Bool}{a b c d e f g h i j:AV}(hc:H[p]?=some (.live 11 false w [[a,b,c,d,e,f,g,h,i,j,.bool true]]))(hq:Am H=true):cl Bh H (some (.func (.func 67) [] [])) (some [.ptr p 0 0])=some (.ret (.bool false),[]):=
 al6 rfl rfl (as6 (Fh hc)) hq
theorem asK(c:Int):Bh.call (.fn 68) [.agg [.nils,.int .i64 c]] []=some (.ret (.agg [.nils,.int .i64 c]),[]):=by
 (refine ce Try.func68 ?_;simp only[Try.f68];(have hb:=trivial;with_reducible repeat' (first|simp only[hb,Va.down,seval,ayN.down,alB]|refine An ?_ ?_<;>intro hb|refine fd ?_|fail)))
theorem aq1{l:List Int}(c:Int)(hl:l.length≤1000):Bh.call (.fn 68) [.agg [.imm 1 true (l.map iv),.int .i64 c]] []=some (.ret (.agg [.slr 1 0 0 l.length,.int .i64 c]),[.live 1 true false (l.map iv)]):=by
 have h:=zP hl
 (refine ce Try.func68 ?_;simp only[Try.f68];(have hb:=trivial;with_reducible repeat' (first|simp only[hb,Va.down,seval,ayN.down,h]|refine An ?_ ?_<;>intro hb|refine fd ?_|fail)))
theorem ak7(y:Bw):Az 8 (.agg y.cells)=true:=by simp[Bw.cells,Qj,Ol,Gv]
theorem kW.arg{H:Aa}{p:Nat}{m:Ac}{st ag:Int}{l:List Bw}{w:Bool}{sv vv mv ov sc:AV}{Rm Rs:List Nat}{rows:List (List AV)}(T:kW H p m st ag l w sv vv mv ov sc Rm Rs rows):bQ H (.agg [sv,vv,mv,.int .i64 m.states,.int .i64 m.cmds,.int .i64 m.bgn,ov])=some (.agg m.cells):=
 rG (d:=7) (by omega) (aqY T.mach)
theorem xU{H:Aa}{p:Nat}{m:Ac}{st ag:Int}{l:List Bw}{w:Bool}{sv vv mv ov sc:AV}{Rm Rs:List Nat}{rows:List (List AV)}(T:kW H p m st ag l w sv vv mv ov sc Rm Rs rows)(y:Bw)(hl:y.reads.length≤maxLen):
 cl Bh H (some (.func (.func 44) [] [])) (some [.agg [sv,vv,mv,.int .i64 m.states,.int .i64 m.cmds,.int .i64 m.bgn,ov],.agg [Ad 1 true y.nn (y.reads.map iv),.int .i64 y.cmd]])=some (.ret (.bool (Lt m y)),[]):=by
 have hs:bQ H (.agg y.cells)=some (.agg y.cells):=Hg _ (d:=8) (by omega) (ak7 y)
 exact jZ (vs:=[.agg m.cells,.agg y.cells]) (Xj rfl) (by simp only[Qb,Ua,T.arg,Mc];rw[show AV.agg [Ad 1 true y.nn (y.reads.map iv),.int .i64 y.cmd]=.agg y.cells from rfl,hs];rfl) (by simp[Qj,Ol,Gv,Bw.cells]) (afA m y hl) rfl rfl
theorem kW.cs{H:Aa}{p:Nat}{m:Ac}{st ag:Int}{l:List Bw}{w:Bool}{sv vv mv ov sc:AV}{Rm Rs:List Nat}{rows:List (List AV)}(T:kW H p m st ag l w sv vv mv ov sc Rm Rs rows):(sv.isCell=true∧sv.flat=false)∧(vv.isCell=true∧vv.flat=false)∧(mv.isCell=true∧mv.flat=false)∧(ov.isCell=true∧ov.flat=false):=by
 obtain⟨a,b,c,d,e,h1,h2,h3,h4⟩:=aaC T.mach
 cases e
 exact⟨h1,h2,h3,h4⟩
theorem kW.sc{H:Aa}{p:Nat}{m:Ac}{st ag:Int}{l:List Bw}{w:Bool}{sv vv mv ov sc:AV}{Rm Rs:List Nat}{rows:List (List AV)}(T:kW H p m st ag l w sv vv mv ov sc Rm Rs rows):sc.isCell=true∧sc.flat=false:=by
 rcases T.own with⟨_,rfl⟩|⟨b,w,rfl,_⟩<;>exact⟨rfl,rfl⟩
theorem kW.rl{H:Aa}{p:Nat}{m:Ac}{st ag:Int}{l:List Bw}{w:Bool}{sv vv mv ov sc:AV}{Rm Rs:List Nat}{rows:List (List AV)}(T:kW H p m st ag l w sv vv mv ov sc Rm Rs rows):rows.length=l.length:=by
 rw[Zr T.scs];simp
theorem aiK{H:Aa}{p:Nat}{m:Ac}{st ag:Int}{l:List Bw}{w:Bool}{sv vv mv ov sc:AV}{Rm Rs:List Nat}{rows:List (List AV)}(T:kW H p m st ag l w sv vv mv ov sc Rm Rs rows){r:List Int}{nn:Bool}(hl:r.length=m.sens.length)(hs:m.small)(hv:Be m=true):
 cl Bh H (some (.func (.func 46) [] [])) (some [.agg [sv,vv,mv,.int .i64 m.states,.int .i64 m.cmds,.int .i64 m.bgn,ov],Ad 1 true nn (r.map iv)])=some (.ret (.int .i64 (Ir m r m.votes 0 0)),[])∧
 ∃fs,ftC Bh H (some (.func (.func 46) [] [])) (some [.agg [sv,vv,mv,.int .i64 m.states,.int .i64 m.cmds,.int .i64 m.bgn,ov],Ad 1 true nn (r.map iv)])=some fs:=by
 have hs1:bQ H (Ad 1 true nn (r.map iv))=some (Ad 1 true nn (r.map iv)):=Hg _ (d:=8) (by omega) (by simp[Gv])
 have ha:Au (bQ H) [.agg [sv,vv,mv,.int .i64 m.states,.int .i64 m.cmds,.int .i64 m.bgn,ov],Ad 1 true nn (r.map iv)]=some [.agg m.cells,Ad 1 true nn (r.map iv)]:=by simp only[Qb,Ua,T.arg,hs1,Mc]
 have hp:[AV.agg m.cells,Ad 1 true nn (r.map iv)].all (Az 8)=true:=by simp[Qj,Ol,Gv]
 exact⟨jZ (Xj rfl) ha hp (Xx m hl hs (Wa hv)) rfl rfl,by obtain⟨fs,h,_⟩:=aaP (O:=Bh) (f:=46) (Xj rfl) ha hp;exact⟨fs,h⟩⟩
theorem ao4{H:Aa}{p:Nat}{m:Ac}{st ag:Int}{l:List Bw}{w:Bool}{sv vv mv ov sc:AV}{Rm Rs:List Nat}{rows:List (List AV)}(T:kW H p m st ag l w sv vv mv ov sc Rm Rs rows)(bits com:Int)(hs:m.small)(hv:Be m=true):
 cl Bh H (some (.func (.func 45) [] [])) (some [.agg [sv,vv,mv,.int .i64 m.states,.int .i64 m.cmds,.int .i64 m.bgn,ov],.agg [.int .i64 st,.int .i64 ag],.agg [.int .i64 bits,.int .i64 com]])=some (.ret (.agg [.int .i64 (Ij st ag bits com m.moves).1,.int .i64 (Ij st ag bits com m.moves).2]),[])∧
 ∃fs,ftC Bh H (some (.func (.func 45) [] [])) (some [.agg [sv,vv,mv,.int .i64 m.states,.int .i64 m.cmds,.int .i64 m.bgn,ov],.agg [.int .i64 st,.int .i64 ag],.agg [.int .i64 bits,.int .i64 com]])=some fs:=by
 have h1:∀a b:Int,bQ H (.agg [.int .i64 a,.int .i64 b])=some (.agg [.int .i64 a,.int .i64 b]):=fun a b=>Hg _ (d:=8) (by omega) (by simp[Qj,Ol])
 have ha:Au (bQ H) [.agg [sv,vv,mv,.int .i64 m.states,.int .i64 m.cmds,.int .i64 m.bgn,ov],.agg [.int .i64 st,.int .i64 ag],.agg [.int .i64 bits,.int .i64 com]]=some [.agg m.cells,.agg [.int .i64 st,.int .i64 ag],.agg [.int .i64 bits,.int .i64 com]]:=by simp only[Qb,Ua,T.arg,h1,Mc]
 have hp:[AV.agg m.cells,.agg [.int .i64 st,.int .i64 ag],.agg [.int .i64 bits,.int .i64 com]].all (Az 8)=true:=by simp[Qj,Ol,Gv]
 exact⟨jZ (Xj rfl) ha hp (jB m st ag bits com hs (fun x hx w hw=>(cI hv x hx w hw).1)) rfl rfl,by obtain⟨fs,h,_⟩:=aaP (O:=Bh) (f:=45) (Xj rfl) ha hp;exact⟨fs,h⟩⟩
def Yr:AV→List Nat
 | .slr _ b _ _=>[b]
 |_=>[]
theorem aaU{x:Option (List AV)}{vs:List AV}{h:Aa}{Q:Dk→Aa→Prop}(hx:x=some vs)(k:Q (.ret (Om vs)) h):RtS x h Q:=by subst hx;exact k
theorem agD(s x:Option AV):ftP s x=some (ftB s++ftB x):=Eq.trans rfl rfl
theorem uY{H:Aa}{p:Nat}{m:Ac}{st ag:Int}{l:List Bw}{w:Bool}{sv vv mv ov sc:AV}{Rm Rs:List Nat}{rows:List (List AV)}(T:kW H p m st ag l w sv vv mv ov sc Rm Rs rows)(hq:Am H=true)(y:Bw){st' ag':Int}{base L G:Aa}{r:List AV}{R1:List Nat}
 (hG:G=base++(L++[.live 2 false false (rows++[r])])) (hbl:base.length=H.length) (hbp:base[p]?=some (.live 11 false true [[sv,vv,mv,.int .i64 m.states,.int .i64 m.cmds,.int .i64 m.bgn,ov,.int .i64 st',.int .i64 ag',.slr 2 (H.length+L.length) 0 (l.length+1),.bool true]]))
 (hbo:∀b,b<H.length→b∉p::Yr sc→base[b]?=H[b]?) (hbd:∀b∈Yr sc,base[b]?=some .dead) (hr:Kt (rd 6 (hf G)) r=some (y.cells,R1)) (hR:∀b∈R1,H.length≤b∧b<H.length+L.length) (hL:Am L=true):
 ∃sc' Rs' rows',kW G p m st' ag' (l++[y]) true sv vv mv ov sc' Rm Rs' rows'∧
  Am G=true∧Io (p::Yr sc) H G∧(∀b∈Yr sc,G[b]?=some .dead)∧(∀a b r n,sc'=.slr a b r n→H.length≤b)∧∀b∈Rs',b∈Rs∨H.length≤b:=by
 have hpl:=Ff T.cell
 have hm:∀b∈Rm,b<H.length:=xK (by omega) T.mach
 have hs:∀b∈Rs,b<H.length:=cR (by omega) T.scs
 have lo:∀b,b<H.length→G[b]?=base[b]?:=fun b hb=>by rw[hG,aa9 (by omega)]
 have sb:∀b∈Yr sc,b<H.length∧b≠p∧b∉Rm++Rs:=fun b hb=>by
  rcases T.own with⟨_,e⟩|⟨b',w',e,hg⟩
  ·rw[e]at hb;simp[Yr]at hb
  ·have hd:=T.ds _ _ _ _ e
   rw[e]at hb;simp[Yr]at hb;subst hb
   exact⟨Ff hg,hd⟩
 have agr:∀R:List Nat,(∀b∈R,b<H.length∧b∈Rm++Rs)→Agr R (hf H) (hf G):=fun R hR b hb z hz=>by
  obtain⟨h1,h2⟩:=hR b hb
  show(G[b]?).bind Bc=_
  rw[lo b h1,hbo b h1 (fun hx=>by
   rcases aa0.1 hx with rfl|hx
   ·exact T.dp h2
   ·exact(sb b hx).2.2 h2)]
  exact hz
 have hnew:G[H.length+L.length]?=some (.live 2 false false (rows++[r])):=by
  rw[hG,af7 (by omega),hbl,anV,af7 (af6 _),Nat.sub_self];rfl
 have hrl:=T.rl
 refine⟨.slr 2 (H.length+L.length) 0 (l.length+1),Rs++R1,rows++[r],⟨?_,Qv T.mach (agr _ fun b hb=>⟨hm b hb,agB _ hb⟩),?_,?_,fun e=>by simp at e,?_,?_⟩,?_,?_,?_,?_,?_⟩
 ·rw[lo p hpl];exact hbp
 ·exact .inr ⟨H.length+L.length,false,by simp[hrl],hnew⟩
 ·rw[alZ]
  exact Rk (Hu T.scs (agr _ fun b hb=>⟨hs b hb,aiO _ hb⟩)) hr
 ·intro hx
  rw[←an6]at hx
  rcases abO.1 hx with hx|hx
  ·exact T.dp hx
  ·have:=hR p hx;omega
 ·intro a b c n e
  cases e
  refine⟨by omega,fun hx=>?_⟩
  rw[←an6]at hx
  rcases abO.1 hx with hx|hx
  ·rcases abO.1 hx with hx|hx
   ·have:=hm _ hx;omega
   ·have:=hs _ hx;omega
  ·have:=hR _ hx;omega
 ·rw[hG]
  refine Ax (Uj fun c hc=>?_) (Ax hL rfl)
  obtain⟨b,hb⟩:=List.getElem?_of_mem hc
  have hbl2:b<H.length:=by rw[←hbl];exact Ff hb
  by_cases hx:b∈p::Yr sc
  ·rcases aa0.1 hx with rfl|hx
   ·rw[hbp]at hb;cases hb;rfl
   ·rw[hbd b hx]at hb;cases hb;rfl
  ·rw[hbo b hbl2 hx]at hb;exact Iq hq hb
 ·exact⟨by rw[hG];simp;omega,fun b hb hn=>by rw[lo b hb,hbo b hb hn]⟩
 ·exact fun b hb=>by rw[lo b (sb b hb).1];exact hbd b hb
 ·intro a b c n e;cases e;omega
 ·exact fun b hb=>(abO.1 hb).imp id fun h=>(hR b h).1
theorem akV(h:Aa)(v:AV)(c:Int)(hv:Az 7 v=true):uQ Bh h 68 [.agg [v,.int .i64 c]]=some []:=by
 rw[gJ,if_neg (by rw[show(Td [AV.agg [v,.int .i64 c]]||Bh.md 68)=false from rfl];simp),if_pos (by simp[Qj,Ol,hv])]
theorem amD{H:Aa}{p:Nat}{m:Ac}{st ag:Int}{l:List Bw}{w:Bool}{sv vv mv ov sc:AV}{Rm Rs:List Nat}{rows:List (List AV)}(T:kW H p m st ag l w sv vv mv ov sc Rm Rs rows)(hq:Am H=true)(y:Bw)(hs:m.small)(hv:Be m=true)(hl:y.reads.length≤1000)(hb1:Lt m y=true)(h2:l.length<200):
 kZ Bh 39 [.ptr p 0 0,.agg [Ad 1 true y.nn (y.reads.map iv),.int .i64 y.cmd]] H fun o G=>∃sc' Rs' rows',o=.ret (.tup [.int .i64 (Zb m st ag y).1,.int .i64 0])∧kW G p m (Zb m st ag y).1 (Zb m st ag y).2 (l++[y]) true sv vv mv ov sc' Rm Rs' rows'∧
  Am G=true∧Io (p::Yr sc) H G∧(∀b∈Yr sc,G[b]?=some .dead)∧(∀a b r n,sc'=.slr a b r n→H.length≤b)∧∀b∈Rs',b∈Rs∨H.length≤b:=by
 have hr:y.reads.length=m.sens.length:=by
  simp only[Lt,ajM]at hb1
  exact iO hb1.1
 have T1:=T.app [.live 2 false false [[Ad 1 true y.nn (y.reads.map iv),.int .i64 y.cmd]]]
 have hc:=T1.cell
 obtain⟨q,hqq⟩:∃q,Fn.func 67=q:=⟨_,rfl⟩
 have hn:=aoI hc (Ax hq rfl)
 rw[hqq]at hn
 obtain⟨q2,hq2⟩:∃q,Fn.func 44=q:=⟨_,rfl⟩
 have hs1:=xU T1 y (by unfold maxLen;omega)
 rw[hq2,hb1]at hs1
 obtain⟨q3,hq3⟩:∃q,Fn.func 46=q:=⟨_,rfl⟩
 obtain⟨hv1,fv,hv2⟩:=aiK T1 (nn:=y.nn) hr hs hv
 rw[hq3]at hv1 hv2
 obtain⟨q4,hq4⟩:∃q,Fn.func 45=q:=⟨_,rfl⟩
 obtain⟨hp1,fp,hp2⟩:=ao4 T1 (Ir m y.reads m.votes 0 0) y.cmd hs hv
 rw[hq4]at hp1 hp2
 obtain⟨⟨p1,p1'⟩,⟨p2,p2'⟩,⟨p3,p3'⟩,⟨p4,p4'⟩⟩:=T.cs
 obtain⟨p5,p5'⟩:=T.sc
 have hln:ln Try.prog 66 (some sc)=some (.ret (.int .i64 rows.length),[]):=T.own.ln Try.underlying66
 rw[T.rl]at hln
 have hge:decide ((200:Int)≤(l.length:Int))=false:=decide_eq_false (by omega)
 have hpl:=Ff T.cell
 have hse:=Gj (h:=H) hpl
 generalize hst:(Ij st ag (Ir m y.reads m.votes 0 0) y.cmd m.moves).1=st' at *
 generalize hag:(Ij st ag (Ir m y.reads m.votes 0 0) y.cmd m.moves).2=ag' at *
 have hst':(Zb m st ag y).1=st':=hst
 have hag':(Zb m st ag y).2=ag':=hag
 rw[hst',hag']
 generalize hCC:(.live 11 false true [[sv,vv,mv,.int .i64 m.states,.int .i64 m.cmds,.int .i64 m.bgn,ov,.int .i64 st',.int .i64 ag',sc,.bool true]]:CB)=c0
 have hg0:∀l,(H.set p c0++l)[p]?=some (.live 11 false true [[sv,vv,mv,.int .i64 m.states,.int .i64 m.cmds,.int .i64 m.bgn,ov,.int .i64 st',.int .i64 ag',sc,.bool true]]):=fun l=>by rw[hCC,aa9 (by simpa using hpl),aaK hpl]
 have own':Sj 0 2 false rows sc (H.set p c0):=by
  rcases T.own with h|⟨b,w',h1,h3⟩
  ·exact .inl h
  ·exact .inr ⟨b,w',h1,by rw[aa3 (fun e=>(T.ds _ _ _ _ h1).1 (by omega))];exact h3⟩
 have hap:=fun(q:Aa) (r:List AV)=>zU own' (pre:=[]) rfl q r [] (by have:=T.rl;simp;omega)
 have hhp:=fun(q:Aa) (r:List (List AV)) (ba:Nat)=>vY own' (pre:=[]) rfl q 2 false r ba
 simp only[am9,ae2,ai2,acI,adV,Nat.reduceAdd,T.rl]at hap hhp
 have hkl:∀l,(kl 0 sc (H.set p c0)++l)[p]?=some (.live 11 false true [[sv,vv,mv,.int .i64 m.states,.int .i64 m.cmds,.int .i64 m.bgn,ov,.int .i64 st',.int .i64 ag',sc,.bool true]]):=fun l=>by
  rw[hCC,wZ l (by simpa using hpl) (fun a c r n e=>(T.ds a c r n e).1),aaK hpl]
 have hks:∀l c,(kl 0 sc (H.set p c0)++l).set p c=(kl 0 sc (H.set p c0)).set p c++l:=fun l c=>Gj (by rw[Qc];simpa using hpl) l c
 have hkp:∀l c,((kl 0 sc (H.set p c0)).set p c++l)[p]?=some c:=fun l c=>by
  rw[aa9 (by rw[adV,Qc];simpa using hpl),aaK (by rw[Qc];simpa using hpl)]
 refine We rfl Try.func39 rfl rfl ?_
 simp only[Try.f39]
 refine En (fun KK iN hK=>?_)
 (have hb:=trivial;with_reducible repeat' (first|simp only[hb,Va.down,seval,aj6.down,hc,hqq,hn,hq2,hs1,hq3,hv1,hv2,hq4,hp1,hp2,hln,hge,hse,aj1,p1,p2,p3,p4,p5,p1',p2',p3',p4',p5',ae4,ae7,afR,af4]|refine An ?_ ?_<;>intro hb|refine fdq ?_|fail))
 refine rL id [([],[]),([],[]),([],[]),([],[]),([],[.all]),([],[]),([],[]),([],[]),([],[.all]),([],[]),([],[]),([],[]),([],[.all]),([],[]),([],[.all]),([],[.all]),([],[]),([],[.all]),([],[]),([],[.all]),([],[]),([],[]),([.all],[.all])] (by kernel_rfl) (by simp[fK]) (fun _=>?_)
 rw[hCC]
 have bl:∀c,((kl 0 sc (H.set p c0)).set p c).length=H.length:=fun c=>by rw[adV,Qc,adV]
 have bp:∀c,((kl 0 sc (H.set p c0)).set p c)[p]?=some c:=fun c=>aaK (by rw[Qc];simpa using hpl)
 have bo:∀c b,b<H.length→b∉p::Yr sc→((kl 0 sc (H.set p c0)).set p c)[b]?=H[b]?:=fun c b hb hn=>by
  have h1:p≠b:=fun e=>hn (by rw[e];exact af8 ..)
  rw[aa3 h1]
  have:=wZ (v:=sc) (H:=H.set p c0) (b:=b) [] (by simpa using hb) (fun a d r n e h=>hn (by rw[e,←h];exact apM _ (af8 ..)))
  rw[af5]at this
  rw[this,aa3 h1]
 have bd:∀c,∀b∈Yr sc,((kl 0 sc (H.set p c0)).set p c)[b]?=some .dead:=fun c b hb=>by
  rcases T.own with⟨_,e⟩|⟨b',w',e,hg⟩
  ·rw[e]at hb;simp[Yr]at hb
  ·have hd:=T.ds _ _ _ _ e
   have hlt:=Ff hg
   have hbb:b=b'+0:=by rw[e]at hb;simpa [Yr]using hb
   rw[aa3 (fun e=>hd.1 (by omega))]
   rw[e]
   show((H.set p c0).set (b'+0-0) .dead)[b]?=_
   rw[hbb,show b'+0-0=b'+0 by omega,aaK (by simpa using hlt)]
 rcases Zw 1 true y.nn (y.reads.map iv)with⟨e1,e2,e3⟩|e3
 ·rw[e3]
  (have hb:=trivial;with_reducible repeat' (first|simp only[hb,Va.down,seval,aj6.down,hg0,Gp,Ei,hap,hhp,hkl,hks,hkp,asK,agD,akV _ .nils _ rfl,adV,aj1,ae4,ae7,afR,af4]|refine An ?_ ?_<;>intro hb|refine fdq ?_|fail))
  refine rL (fun b=>if b≤H.length then 0 else 1) [([],[]),([],[]),([],[]),([],[]),([],[.cells 0 9 1]),([],[.cells 0 0 2]),([],[]),([.blk 1],[]),([.all],[.all]),([],[]),([],[]),([.all],[.all])] (by kernel_rfl) ?_ (fun _=>?_)
  ·have:p≤H.length:=by omega
   simp[fK,Vq,Af.foot,this]
  refine hK _ ?_
  rw[qY]
  refine aaU (vs:=[.int .i64 st',.int .i64 0]) (by simp only[Va.down,seval,aj6.down]) ?_
  obtain⟨sc',Rs',rows',k1,k2⟩:=uY T hq y (st':=st') (ag':=ag') (L:=[.live 2 false false [[Ad 1 true y.nn (y.reads.map iv),.int .i64 y.cmd]],.live 2 false false [[.nils,.int .i64 y.cmd]]]) (r:=[.nils,.int .i64 y.cmd]) (R1:=[]) (rfl) (bl _) (bp _) (bo _) (bd _) (by rw[show y.cells=[Ad 1 true y.nn (y.reads.map iv),.int .i64 y.cmd]from rfl,e3];exact Cb alK (Cb (Jz ..) Za)) (by simp) rfl
  rw[e3]at k1 k2
  exact⟨sc',Rs',rows',rfl,k1,k2⟩
 ·rw[e3]
  have hcp:=aq1 y.cmd hl
  have hfc:=fun h=>akV h (.imm 1 true (y.reads.map iv)) y.cmd (by simp[Az])
  (have hb:=trivial;with_reducible repeat' (first|simp only[hb,Va.down,seval,aj6.down,hg0,Gp,Ei,hap,hhp,hkl,hks,hkp,hcp,agD,hfc,adV,aj1,ae4,ae7,afR,af4]|refine An ?_ ?_<;>intro hb|refine fdq ?_|fail))
  refine rL (fun b=>if b≤H.length then 0 else 1) [([],[]),([],[]),([],[]),([],[]),([],[.cells 0 9 1]),([],[.cells 0 0 2]),([.blk 1],[]),([.blk 1],[]),([.all],[.all]),([],[]),([],[]),([.all],[.all])] (by kernel_rfl) ?_ (fun _=>?_)
  ·have:p≤H.length:=by omega
   simp[fK,Vq,Af.foot,this]
  refine hK _ ?_
  rw[qY]
  refine aaU (vs:=[.int .i64 st',.int .i64 0]) (by simp only[Va.down,seval,aj6.down]) ?_
  obtain⟨sc',Rs',rows',k1,k2⟩:=uY T hq y (st':=st') (ag':=ag') (L:=[.live 2 false false [[Ad 1 true y.nn (y.reads.map iv),.int .i64 y.cmd]],.live 1 true false (y.reads.map iv),.live 2 false false [[.slr 1 (H.length+1) 0 y.reads.length,.int .i64 y.cmd]]]) (r:=[.slr 1 (H.length+1) 0 y.reads.length,.int .i64 y.cmd]) (R1:=[H.length+1]) (rfl) (bl _) (bp _) (bo _) (bd _) (by
   rw[show y.cells=[Ad 1 true y.nn (y.reads.map iv),.int .i64 y.cmd]from rfl,e3]
   refine Cb (Oq ?_ (by simp)) (Cb (Jz ..) Za)
   show((_++_)[H.length+1]?).bind Bc=_
   rw[af7 (by rw[bl];omega),bl,anV];rfl) (by simp) rfl
  rw[e3]at k1 k2
  exact⟨sc',Rs',rows',rfl,k1,k2⟩
theorem Uh{α:Type}{f:α→List AV}{p:List AV→Prop}{q:α→Prop}(hf:∀r,p r→∃x,r=f x∧q x):∀{rows:List (List AV)},(∀r∈rows,p r)→∃l:List α,rows=l.map f∧∀x∈l,q x
 | [],_=>⟨[],rfl,fun x hx=>by simp at hx⟩
 |r::rows,h=>by
  obtain⟨x,rfl,hx⟩:=hf r (h r (af8 ..))
  obtain⟨l,rfl,hl⟩:=Uh hf (fun r hr=>h r (apM _ hr))
  exact⟨x::l,rfl,fun y hy=>by
   rcases aa0.1 hy with rfl|hy
   ·exact hx
   ·exact hl y hy⟩
def i64(n:Int):Prop:= -9223372036854775808≤n∧n≤9223372036854775807
theorem Jq{n:Nat}{r:List AV}(h:Ty Try.prog (n+1) 3 r):∃x,r=[.int .i64 x]∧i64 x:=by
 simp only[Ty,Try.underlying3]at h
 obtain⟨x,rfl,h1,h2⟩:=h
 exact⟨x,rfl,h1,h2⟩
theorem rF{n:Nat}{r:List AV}(h:Ty Try.prog (n+1) 4 r):∃x,r=[.bool x]:=by
 simp only[Ty,Try.underlying4]at h
 exact h
theorem gB{n:Nat}{r:List AV}(h:Ty Try.prog (n+2) 25 r):∃(nn:Bool) (l:List Int),r=[Ad 1 true nn (l.map iv)]∧l.length≤maxLen∧∀x∈l,i64 x:=by
 unfold Ty at h
 simp only[Try.underlying25]at h
 obtain⟨nn,rows,rfl,hl,hrows⟩:=h
 obtain⟨l,rfl,hi⟩:=Uh (f:=iv) (q:=i64) (fun r hr=>by obtain⟨x,rfl,hx⟩:=Jq hr;exact⟨x,rfl,hx⟩) hrows
 have e1:Try.prog.cellsOf 3=1:=by kernel_rfl
 have e2:eG Try.prog (n+1) 3=true:=by
  simp only[eG,Try.underlying3]
 rw[e1,e2]
 exact⟨nn,l,rfl,by simpa using hl,hi⟩
theorem arB{n:Nat}{r:List AV}(h:Ty Try.prog (n+2) 50 r):∃x:Ba,r=x.cells∧True:=by
 unfold Ty at h
 simp only[Try.underlying50,qD]at h
 obtain⟨a0,b0,rfl,h0,a1,b1,rfl,h1,a2,b2,rfl,h2,rfl⟩:=h
 obtain⟨x0,rfl,_⟩:=Jq h0
 obtain⟨x1,rfl,_⟩:=Jq h1
 obtain⟨x2,rfl⟩:=rF h2
 exact⟨⟨x0,x1,x2⟩,rfl,trivial⟩
theorem amS{n:Nat}{r:List AV}(h:Ty Try.prog (n+2) 56 r):∃x:Aj,r=x.cells∧True:=by
 unfold Ty at h
 simp only[Try.underlying56,qD]at h
 obtain⟨a0,b0,rfl,h0,a1,b1,rfl,h1,rfl⟩:=h
 obtain⟨x0,rfl,_⟩:=Jq h0
 obtain⟨x1,rfl⟩:=rF h1
 exact⟨⟨x0,x1⟩,rfl,trivial⟩
theorem an8{n:Nat}{r:List AV}(h:Ty Try.prog (n+3) 48 r):∃x:Ag,r=x.cells∧x.sens.length≤maxLen:=by
 unfold Ty at h
 simp only[Try.underlying48,qD]at h
 obtain⟨a0,b0,rfl,h0,a1,b1,rfl,h1,a2,b2,rfl,h2,a3,b3,rfl,h3,rfl⟩:=h
 obtain⟨nn,l,rfl,hl,_⟩:=gB h0
 obtain⟨x1,rfl,_⟩:=Jq h1
 obtain⟨x2,rfl,_⟩:=Jq h2
 obtain⟨x3,rfl⟩:=rF h3
 exact⟨⟨nn,l,x1,x2,x3⟩,rfl,hl⟩
theorem an5{n:Nat}{r:List AV}(h:Ty Try.prog (n+4) 59 r):∃x:Ai,r=x.cells∧x.wants.length≤maxLen:=by
 unfold Ty at h
 simp only[Try.underlying59,qD]at h
 obtain⟨a0,b0,rfl,h0,a1,b1,rfl,h1,a2,b2,rfl,h2,a3,b3,rfl,h3,a4,b4,rfl,h4,rfl⟩:=h
 obtain⟨x0,rfl,_⟩:=Jq h0
 obtain⟨x1,rfl,_⟩:=Jq h1
 obtain⟨x3,rfl,_⟩:=Jq h3
 obtain⟨x4,rfl,_⟩:=Jq h4
 unfold Ty at h2
 simp only[Try.underlying57]at h2
 obtain⟨nn,rows,rfl,hl,hrows⟩:=h2
 obtain⟨l,rfl,_⟩:=Uh (fun r hr=>amS hr) hrows
 have e1:Try.prog.cellsOf 56=2:=by kernel_rfl
 have e2:eG Try.prog (n+2) 56=true:=by
  simp only[eG,Try.underlying56,Try.underlying3,Try.underlying4];rfl
 rw[e1,e2]
 exact⟨⟨x0,x1,nn,l,x3,x4⟩,rfl,by simpa using hl⟩
theorem amZ{n:Nat}{r:List AV}(h:Ty Try.prog (n+6) 27 r):∃m:Ac,r=m.cells∧m.small:=by
 unfold Ty at h
 simp only[Try.underlying27,qD]at h
 obtain⟨a0,b0,rfl,h0,a1,b1,rfl,h1,a2,b2,rfl,h2,a3,b3,rfl,h3,a4,b4,rfl,h4,a5,b5,rfl,h5,a6,b6,rfl,h6,rfl⟩:=h
 obtain⟨x3,rfl,_⟩:=Jq h3
 obtain⟨x4,rfl,_⟩:=Jq h4
 obtain⟨x5,rfl,_⟩:=Jq h5
 obtain⟨n6,l6,rfl,hl6,_⟩:=gB h6
 unfold Ty at h0 h1 h2
 simp only[Try.underlying22]at h0
 simp only[Try.underlying23]at h1
 simp only[Try.underlying24]at h2
 obtain⟨n0,rows0,rfl,hl0,hrows0⟩:=h0
 obtain⟨n1,rows1,rfl,hl1,hrows1⟩:=h1
 obtain⟨n2,rows2,rfl,hl2,hrows2⟩:=h2
 obtain⟨l0,rfl,_⟩:=Uh (fun r hr=>arB hr) hrows0
 obtain⟨l1,rfl,hv⟩:=Uh (fun r hr=>an8 hr) hrows1
 obtain⟨l2,rfl,hm⟩:=Uh (fun r hr=>an5 hr) hrows2
 have e0:Try.prog.cellsOf 50=3:=by kernel_rfl
 have e1:Try.prog.cellsOf 48=4:=by kernel_rfl
 have e2:Try.prog.cellsOf 59=5:=by kernel_rfl
 have f0:eG Try.prog (n+4) 50=true:=by
  simp only[eG,Try.underlying50,Try.underlying3,Try.underlying4];rfl
 have f1:eG Try.prog (n+4) 48=false:=by
  simp only[eG,Try.underlying48,Try.underlying25];simp
 have f2:eG Try.prog (n+4) 59=false:=by
  simp only[eG,Try.underlying59,Try.underlying57];simp
 rw[e0,e1,e2,f0,f1,f2]
 exact⟨⟨n0,l0,n1,l1,n2,l2,x3,x4,x5,n6,l6⟩,rfl,⟨by simpa using hl0,by simpa using hl1,by simpa using hl2,hl6,hv,hm⟩⟩
theorem aoZ{n:Nat}{r:List AV}(h:Ty Try.prog (n+3) 29 r):∃x:Bw,r=x.cells∧x.reads.length≤maxLen:=by
 unfold Ty at h
 simp only[Try.underlying29,qD]at h
 obtain⟨a0,b0,rfl,h0,a1,b1,rfl,h1,rfl⟩:=h
 obtain⟨nn,l,rfl,hl,_⟩:=gB h0
 obtain⟨x1,rfl,_⟩:=Jq h1
 exact⟨⟨nn,l,x1⟩,rfl,hl⟩
theorem al3{av:AV}(h:rW Try.prog 7 27 av):∃m:Ac,av=.agg m.cells∧m.small:=by
 unfold rW at h
 simp only[Try.underlying27]at h
 obtain⟨cs,rfl,h⟩:=h
 obtain⟨s,rfl,hs⟩:=amZ h
 exact⟨s,rfl,hs⟩
theorem ajY{av:AV}(h:rW Try.prog 7 3 av):∃x,av=.int .i64 x∧i64 x:=by
 unfold rW at h
 simp only[Try.underlying3]at h
 obtain⟨x,hx,hi⟩:=Jq h
 simp only[aj8.injEq,and_true]at hx
 exact⟨x,hx,hi⟩
theorem apI{av:AV}(h:rW Try.prog 7 25 av):∃(nn:Bool) (l:List Int),av=Ad 1 true nn (l.map iv)∧l.length≤maxLen∧∀x∈l,i64 x:=by
 unfold rW at h
 simp only[Try.underlying25]at h
 obtain⟨nn,l,hx,hl⟩:=gB h
 simp only[aj8.injEq,and_true]at hx
 exact⟨nn,l,hx,hl⟩
theorem aiV{av:AV}(h:rW Try.prog 7 66 av):∃(nn:Bool) (l:List Bw),av=Ad 2 false nn (l.map Bw.cells)∧l.length≤maxLen∧∀x∈l,x.reads.length≤maxLen:=by
 unfold rW at h
 simp only[Try.underlying66]at h
 unfold Ty at h
 simp only[Try.underlying66]at h
 obtain⟨nn,rows,hx,hl,hrows⟩:=h
 obtain⟨l,rfl,hm⟩:=Uh (fun r hr=>aoZ (n:=3) hr) hrows
 have e1:Try.prog.cellsOf 29=2:=by kernel_rfl
 have e2:eG Try.prog 6 29=false:=by
  simp only[eG,Try.underlying29,Try.underlying25];simp
 rw[e1,e2]at hx
 simp only[aj8.injEq,and_true]at hx
 exact⟨nn,l,hx,by simpa using hl,hm⟩
theorem yW{m:Ac}(h:Vh m=true):m.tiny:=by
 simp only[Vh,ajM,List.all_eq_true,decide_eq_true_eq]at h
 obtain⟨⟨⟨⟨⟨h1,h2⟩,h3⟩,h4⟩,h5⟩,h6⟩:=h
 exact⟨by omega,by omega,by omega,by omega,fun v hv=>by have:=h1 v hv;omega,fun x hx=>by have:=h2 x hx;omega⟩
theorem ahW{m:Ac}(h:Be m=true):(m.opn.length:Int)=m.states:=by
 simp only[Be,Lj,ajM,beq_iff_eq]at h
 exact h.1.1.1.1.2
theorem anP{g:HF}{d:Nat}{v:AV}{R:List Nat}(h:rd (d+1) g v=some (.nils,R)):v=.nils:=by
 cases v with
 |slr st b r len=>
  simp only[rd,apR]at h
  obtain⟨z,_,h⟩:=h
  split at h
  ·cases hfl:z.2.1<;>rw[hfl]at h<;>simp at h
  ·cases h
 |func fn a b=>cases a<;>cases b<;>simp[rd]at h
 |agg cs=>simp[rd]at h
 |iface t x=>simp[rd]at h
 |_=>first|rfl|(simp[rd]at h)
theorem apQ{g:HF}{d:Nat}{v:AV}{b:Bool}{R:List Nat}(h:rd (d+1) g v=some (.bool b,R)):v=.bool b:=by
 cases v with
 |slr st b r len=>
  simp only[rd,apR]at h
  obtain⟨z,_,h⟩:=h
  split at h
  ·cases hfl:z.2.1<;>rw[hfl]at h<;>simp at h
  ·cases h
 |func fn a b=>cases a<;>cases b<;>simp[rd]at h
 |agg cs=>simp[rd]at h
 |iface t x=>simp[rd]at h
 |bool b'=>simp[rd]at h;simp[h]
 |_=>simp[rd]at h
theorem aoT{H:Aa}{p:Nat}{m:Ac}{st ag:Int}{k:Nat}(h:PB (hf H) p 11 (alM m st ag false []) k):∃w sv vv mv ov Rm,kW H p m st ag [] w sv vv mv ov .nils Rm [] []:=by
 obtain⟨w,row,R,h1,h2,h3,_⟩:=h.get
 obtain⟨sv,l1,R1,S1,rfl,a1,k0,rfl⟩:=Es h2
 obtain⟨vv,l2,R2,S2,rfl,a2,k1,rfl⟩:=Es k0
 obtain⟨mv,l3,R3,S3,rfl,a3,k2,rfl⟩:=Es k1
 obtain⟨i1,l4,R4,S4,rfl,a4,k3,rfl⟩:=Es k2
 obtain⟨i2,l5,R5,S5,rfl,a5,k4,rfl⟩:=Es k3
 obtain⟨i3,l6,R6,S6,rfl,a6,k5,rfl⟩:=Es k4
 obtain⟨ov,l7,R7,S7,rfl,a7,k6,rfl⟩:=Es k5
 obtain⟨i4,l8,R8,S8,rfl,a8,k7,rfl⟩:=Es k6
 obtain⟨i5,l9,R9,S9,rfl,a9,k8,rfl⟩:=Es k7
 obtain⟨sc,la,Ra,Sa,rfl,aa,k9,rfl⟩:=Es k8
 obtain⟨i6,lb,Rb,Sb,rfl,ab,k10,rfl⟩:=Es k9
 obtain⟨rfl,hS⟩:=zV k10
 subst hS
 obtain⟨rfl,_⟩:=Xu a4
 obtain⟨rfl,_⟩:=Xu a5
 obtain⟨rfl,_⟩:=Xu a6
 obtain⟨rfl,_⟩:=Xu a8
 obtain⟨rfl,_⟩:=Xu a9
 have ea:=anP (d:=5) aa
 subst ea
 have eb:=apQ (d:=5) ab
 subst eb
 refine⟨w,sv,vv,mv,ov,_,h1,Cb a1 (Cb a2 (Cb a3 (Cb a4 (Cb a5 (Cb a6 (Cb a7 Za)))))),.inl ⟨rfl,rfl⟩,rfl,fun _=>rfl,?_,fun _ _ _ _ e=>by cases e⟩
 intro hx
 apply h3
 simp only[abO,af5]at hx ⊢
 rcases hx with h|h|h|h|h|h|h<;>simp[h]
structure PlI(j:Nat)(m:Ac)(h:Aa)(st ag:Int)(l done:List Bw)(dv:AV):Prop where
 b0:∃w,h[0]?=some (.live 7 false w [[Ad 3 true m.nS (m.sens.map Ba.cells),Ad 4 false m.nV (m.votes.map Ag.cells),Ad 5 false m.nM (m.moves.map Ai.cells),.int .i64 m.states,.int .i64 m.cmds,.int .i64 m.bgn,Ad 1 true m.nO (m.opn.map iv)]])
 trip:∃w sv vv mv ov sc Rm Rs rows,kW h j m st ag l w sv vv mv ov sc Rm Rs rows∧(∀b∈Yr sc,0<b)∧∀b∈Yr dv,b∉Rm++Rs∧b∉Yr sc
 own:Sj 0 2 false (done.map Bw.cells) dv h
 nil:done=[]→dv=.nils
 dv:∀b∈Yr dv,0<b∧b≠j
 q:Am h=true
 j0:0<j
theorem PlI.app{j:Nat}{m:Ac}{h:Aa}{st ag:Int}{l done:List Bw}{dv:AV}(I:PlI j m h st ag l done dv){L:Aa}(hL:Am L=true):PlI j m (h++L) st ag l done dv:=by
 obtain⟨w,b0⟩:=I.b0
 obtain⟨w1,sv,vv,mv,ov,sc,Rm,Rs,rows,T,h1,h2⟩:=I.trip
 exact⟨⟨w,Ab b0 L⟩,⟨w1,sv,vv,mv,ov,sc,Rm,Rs,rows,T.app L,h1,h2⟩,I.own.app L,I.nil,I.dv,Ax I.q hL,I.j0⟩
theorem PlI.feed1{j:Nat}{m:Ac}{h:Aa}{st ag:Int}{l done:List Bw}{dv:AV}(I:PlI j m h st ag l done dv)(y:Bw)(hs:m.small)(hv:Be m=true)(hl:y.reads.length≤1000)(hb1:Lt m y=true)(h200:l.length<200):
 ∃es M,cl Bh h (some (.func (.func 39) [] [])) (some [.ptr j 0 0,.agg [Ad 1 true y.nn (y.reads.map iv),.int .i64 y.cmd]])=some (.ret (.tup [.int .i64 (Zb m st ag y).1,.int .i64 0]),es)∧Bo h es=M∧h.length≤M.length∧PlI j m M (Zb m st ag y).1 (Zb m st ag y).2 (l++[y]) done dv:=by
 obtain⟨w0,b0⟩:=I.b0
 obtain⟨w1,sv,vv,mv,ov,sc,Rm,Rs,rows,T,h1,h2⟩:=I.trip
 have hX:∀G:Aa,(∃row,G[j]?=some (.live 11 false true row))→(∀b∈Yr sc,G[b]?=some .dead)→∀b∈j::Yr sc,b<h.length∧∀c0 c,h[b]?=some c0→G[b]?=some c→c0.isLive=true∧c0.quiet c=false:=fun G g1 g2 b hb=>by
  rcases aa0.1 hb with rfl|hb
  ·obtain⟨row,g1⟩:=g1
   refine⟨Ff T.cell,fun c0 c k1 k2=>?_⟩
   rw[T.cell]at k1;rw[g1]at k2;cases k1;cases k2;exact⟨rfl,rfl⟩
  ·rcases T.own with⟨_,e⟩|⟨b',w',e,hg⟩
   ·rw[e]at hb;simp[Yr]at hb
   ·have hbb:b=b':=by rw[e]at hb;simpa [Yr]using hb
    subst hbb
    refine⟨Ff hg,fun c0 c k1 k2=>?_⟩
    rw[hg]at k1;rw[g2 b hb]at k2;cases k1;cases k2;exact⟨rfl,rfl⟩
 obtain⟨o,G,es,e1,e2,sc',Rs',rows',rfl,T',q',K,kd,ks,kr⟩:=aaY rfl rfl (amD T.cln (abU I.q) y hs hv hl hb1 h200) (fun o G hQ=>by
  obtain⟨sc',Rs',rows',_,T',q',K,kd,_⟩:=hQ
  exact(Wp I.q K (hX G ⟨_,T'.cell⟩ kd)).1)
 rw[Bg]at ks kr
 have X:=hX G ⟨_,T'.cell⟩ kd
 obtain⟨_,m1,m2,m3,m4⟩:=Wp I.q K X
 have mr:=adC I.q K X
 have hjl:=Ff T.cell
 have hle:h.length≤G.length:=by have:=K.len;rwa[Bg]at this
 have agr:∀R,Agr R (hf G) (hf (Ze h G)):=fun R b _ z hz=>by rw[mr b];exact hz
 refine⟨es,_,e1,e2,by rw[m1];exact hle,⟨w0,?_⟩,⟨true,sv,vv,mv,ov,sc',Rm,Rs',rows',⟨?_,Qv T'.mach (agr _),?_,Hu T'.scs (agr _),T'.nil,T'.dp,T'.ds⟩,?_,?_⟩,?_,I.nil,I.dv,adR I.q K X q',I.j0⟩
 ·rw[m3 0 (Ff b0) (fun hx=>by
   rcases aa0.1 hx with e|hx
   ·have:=I.j0;omega
   ·have:=h1 0 hx;omega)]
  exact b0
 ·exact m4 j (af8 ..) _ T'.cell
 ·rcases T'.own with k|⟨b',w',e,hg⟩
  ·exact .inl k
  ·have hb2:=ks _ _ _ _ e
   exact .inr ⟨b',w',e,by rw[m2 b' (by omega)];exact hg⟩
 ·intro b hb
  have h0:=Ff b0
  cases sc'<;>first|(simp[Yr]at hb;done)|skip
  simp[Yr]at hb;subst hb
  have:=ks _ _ _ _ rfl
  omega
 ·intro b hb
  have hbl:b<h.length:=by
   rcases I.own with⟨_,e⟩|⟨b',w',e,hg⟩
   ·rw[e]at hb;simp[Yr]at hb
   ·have hbb:b=b':=by rw[e]at hb;simpa [Yr]using hb
    subst hbb;exact Ff hg
  obtain⟨k1,k2⟩:=h2 b hb
  refine⟨fun hx=>?_,fun hx=>?_⟩
  ·rcases abO.1 hx with hx|hx
   ·exact k1 (agB _ hx)
   ·rcases kr b hx with hx|hx
    ·exact k1 (aiO _ hx)
    ·omega
  ·cases sc'<;>first|(simp[Yr]at hx;done)|skip
   simp[Yr]at hx;subst hx
   have:=ks _ _ _ _ rfl
   omega
 ·rcases I.own with k|⟨b',w',e,hg⟩
  ·exact .inl k
  ·have hb:b'∈Yr dv:=by rw[e];simp[Yr]
   refine .inr ⟨b',w',e,?_⟩
   rw[m3 b' (Ff hg) (fun hx=>by
    rcases aa0.1 hx with e|hx
    ·exact(I.dv b' hb).2 e
    ·exact(h2 b' hb).2 hx)]
   exact hg
theorem amW{l:List Int}{nn:Bool}(k:Int)(hl:l.length≤maxLen):Bh.call (.fn 80) [Ad 1 true nn (l.map iv),.int .i64 k] []=some (.ret (.int .i64 (Rx (fun x=>k==x) l 0)),[]):=by
 (refine ce Try.func80 ?_;simp only[Try.f80];(have hb:=trivial;with_reducible repeat' (first|simp only[hb,Vc.down,seval,ahL.down,acY]|refine An ?_ ?_<;>intro hb|refine fd ?_|fail)))
 refine Ci (Lp 19 l (fun i (s:Int) t h=>s=i∧h=[]∧t 0=Ad 1 true nn (l.map iv)∧t 1=.int .i64 k∧t 7=.int .i64 l.length∧t 8=.int .i64 i)
  (fun rest s=>Rx (fun x=>k==x) rest s) (fun r e t h=>h=[]∧((e=.exit 0∧r= -1)∨(e=.ret∧t 4=.int .i64 r))) ?_ ?_ 0 _ _ ?_) (fun e t h hk=>?_)
 ·rintro s t h Q' kQ ⟨rfl,rfl,h0,h1,h7,h8⟩
  (have hb:=trivial;with_reducible repeat' (first|simp only[hb,Vc.down,seval,ahL.down,h0,h1,h7,h8,agA,decide_false]|refine An ?_ ?_<;>intro hb|refine fd ?_|fail))
  exact kQ _ _ _ ⟨rfl,.inl ⟨rfl,rfl⟩⟩
 ·rintro x rest i s t h J Q' kJ kQ hx hi ⟨rfl,rfl,h0,h1,h7,h8⟩
  have hd:decide ((i:Int)<(l.length:Int))=true:=by simpa using hi
  (have hb:=trivial;with_reducible repeat' (first|simp only[hb,Vc.down,seval,ahL.down,h0,h1,h7,h8,hd,hx,iv,Aq hi hl]|refine An ?_ ?_<;>intro hb|refine fd ?_|fail))
  ·exact kQ _ _ _ ⟨rfl,.inr ⟨rfl,by simp only[Rx,up];rw[if_pos hb];rfl⟩⟩
  ·exact Av (kJ _ _ (i+1) ⟨by simp,rfl,by simp[up,h0],by simp[up,h1],by simp[up,h7],by simp[up]⟩ (by simp only[Rx];rw[if_neg (by rw[hb];simp)]))
 ·exact⟨rfl,rfl,by simp[up,Cj],by simp[up,Cj],by simp[up],by simp[up]⟩
 ·obtain⟨rfl,⟨rfl,hi⟩|⟨rfl,hi⟩⟩:=hk
  ·(have hb:=trivial;with_reducible repeat' (first|simp only[hb,Vc.down,seval,ahL.down]|refine An ?_ ?_<;>intro hb|refine fd ?_|fail))
   rw[hi]
  ·(have hb:=trivial;with_reducible repeat' (first|simp only[hb,Vc.down,seval,ahL.down,hi]|refine An ?_ ?_<;>intro hb|refine fd ?_|fail))
theorem lO{l:List Int}{nn:Bool}(k:Int)(hl:l.length≤maxLen):Bh.call (.fn 57) [Ad 1 true nn (l.map iv),.int .i64 k] []=some (.ret (.bool (l.any fun x=>k==x)),[]):=by
 have h1:=amW (l:=l) (nn:=nn) k hl
 have h2:=Jl (fun x=>k==x) l 0 (Int.le_refl 0)
 (refine ce Try.func57 ?_;simp only[Try.f57];(have hb:=trivial;with_reducible repeat' (first|simp only[hb,Vc.down,seval,h1,h2]|refine An ?_ ?_<;>intro hb|refine fd ?_|fail)))
def bH(k:Int)(s:Ba)(r:Int)(vs:List Ag):List Bool:=vs.map fun v=>(v.sens.any fun x=>k==x)&&Lm s v r
def Ln(k:Int)(s:Ba)(r:Int)(vs:List Ag):Int:=Oi (bH k s r vs) 0 0
end Go.Proofs.Ytfkokgjfpojeoaa
